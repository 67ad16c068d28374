/- Rows of plain elements of the law's own, as objects: any kind whose elements hold no rows. -/
import Derived.Test.YtkhcdichdnbcmaaRBase
import Derived.Test.YtkhcdichdnbcmaaRSep
import Derived.Test.YtkhcdichdnbcmaaRSepB
import Derived.Test.YtkhcdichdnbcmaaRWWords
import Derived.Test.YtkhcdichdnbcmaaRWLast
import Derived.Test.YtkhcdichdnbcmaaRWMore
namespace Go.Proofs.YtkhcdichdnbcmaaR
open Go.RowKit Go.Proofs.YtkhcdichdnbcmaaRW.PrintWords Go.Proofs.YtkhcdichdnbcmaaRW.PrintLast Go.Proofs.YtkhcdichdnbcmaaRW.PrintMore
set_option linter.unusedSimpArgs false
set_option linter.unusedVariables false

def Flat {α : Type} (d : Kd α) : Prop := ∀ (w w' : World) (base base' : Nat) (ok ok' : Nat → Prop) (x : α) (cs : List Value), d.M w base ok x cs → d.M w' base' ok' x cs
theorem flat_scalar {α : Type} (enc : α → Value) (h1 : ∀ x, (enc x).oneCell' = true) : Flat (Kd.scalar enc h1) := fun _ _ _ _ _ _ _ _ h => h
theorem flat_int (k : IntKind) : Flat (Kd.int k) := flat_scalar _ _
theorem flat_bool : Flat Kd.bool := flat_scalar _ _
theorem flat_pair {α β : Type} {a : Kd α} {b : Kd β} (ha : Flat a) (hb : Flat b) : Flat (Kd.pair a b) := by
  rintro w w' base base' ok ok' x cs ⟨c0, c1, rfl, h0, h1⟩
  exact ⟨c0, c1, rfl, ha _ _ _ _ _ _ _ _ h0, hb _ _ _ _ _ _ _ _ h1⟩
theorem flat_iso {α β : Type} {d : Kd α} (hd : Flat d) (f : β → α) : Flat (Kd.iso d f) := fun _ _ _ _ _ _ _ _ h => hd _ _ _ _ _ _ _ _ h
section
variable {α : Type} {d : Kd α} {e : Nat}
def rowK (d : Kd α) (e : Nat) (v : Value) (xs : List α) : HP := fun w S => d.R e w 0 (fun _ => True) v xs ∧ S = fun k => v.ownBlock = some k
theorem rowK_keep (hd : Flat d) {w w' : World} {v : Value} {xs : List α} (h : d.R e w 0 (fun _ => True) v xs) (k : ∀ g, v.ownBlock = some g → w'.heap[g]? = w.heap[g]?) : d.R e w' 0 (fun _ => True) v xs := by
  obtain ⟨h0, inner, ho, hr⟩ := h
  exact ⟨h0, inner, own_move ho k, hr.imp_ (fun _ _ hp => hd _ _ _ _ _ _ _ _ hp)⟩
theorem rowK_lt {w : World} {v : Value} {xs : List α} (h : d.R e w 0 (fun _ => True) v xs) {g : Nat} (hg : v.ownBlock = some g) : g < w.heap.size := ((Kd.R_bound h).1 g hg).2.2.1
theorem rowK_loc (hd : Flat d) (v : Value) (xs : List α) : Loc (rowK d e v xs) where
  keep := fun ⟨h, e⟩ k => ⟨rowK_keep hd h (fun g hg => k g (by rw [e]; exact hg)), e⟩
  lt := fun ⟨h, e⟩ k => by subst e; exact rowK_lt h k
theorem St.rowKNew (hd : Flat d) {w0 w w' : World} {L : List HP} {v : Value} {xs : List α} (h : St w0 w L) (k : Below w.heap.size w w') (r : d.R e w' w.heap.size (fun _ => True) v xs) : St w0 w' (rowK d e v xs :: L) :=
  h.new k (rowK_loc hd v xs) ⟨Kd.R_lower r (Nat.zero_le _), rfl⟩ (fun i hi => ((Kd.R_bound r).1 i hi).2.1)
theorem St.rowKNil (hd : Flat d) {w0 w : World} {L : List HP} (h : St w0 w L) : St w0 w (rowK d e (.slice none 0 0) [] :: L) :=
  h.new (Below.refl _ _) (rowK_loc hd _ _) ⟨Kd.R_nil _ _ _ _ _, rfl⟩ (fun i hi => by simp [Value.ownBlock] at hi)
theorem St.rowKR {w0 w : World} {L : List HP} {v : Value} {xs : List α} (h : St w0 w (rowK d e v xs :: L)) : d.R e w 0 (fun _ => True) v xs := by
  obtain ⟨S, hR, -⟩ := h.hd; exact hR
theorem own_up {w : World} {base s n : Nat} {v : Value} {inner : List Value} (ho : w.ownsRow 0 e s v n inner) (hb : ∀ g, v.ownBlock = some g → base ≤ g) : w.ownsRow base e s v n inner := by
  obtain ⟨h1, h2⟩ := ho
  refine ⟨h1, ?_⟩
  rcases h2 with h2 | ⟨g, cap, cur, rfl, hg, r⟩
  · exact .inl h2
  · exact .inr ⟨g, cap, cur, rfl, hb g (by simp [Value.ownBlock]), r⟩
/-- A row that the law owns lies above its base. -/
theorem St.rowKA (hd : Flat d) {w0 w : World} {L : List HP} {v : Value} {xs : List α} (h : St w0 w (rowK d e v xs :: L)) : d.R e w w0.heap.size (fun _ => True) v xs := by
  obtain ⟨⟨S, l, ⟨hR, hS⟩, dd, r⟩, b⟩ := h
  obtain ⟨h0, inner, ho, hr⟩ := hR
  subst hS
  exact ⟨h0, inner, own_up ho (fun g hg => (dd g hg).1), hr.imp_ (fun _ _ hp => hd _ _ _ _ _ _ _ _ hp)⟩
end
section
variable {α : Type} {d : Kd α} {e : Nat} {P : Program} {ops : Array Oper} {rest : List Oper} {o : Oper} {a : Act} {Q : Exit → Act → World → Prop}
/-- What an append to a row of the law's leaves. -/
theorem St.rowKapp (hd : Flat d) {w0 W w1 : World} {L : List HP} {v v1 : Value} {xs ys : List α} (h : St w0 W (rowK d e v xs :: L)) (hR : d.R e w1 0 (fun _ => True) v1 ys) (hg : W.grownBy w1 v.ownBlock) (hat : v1.ownBlock = v.ownBlock ∨ ∃ b, v1.ownBlock = some b ∧ W.heap.size ≤ b) : St w0 w1 (rowK d e v1 ys :: L) := by
  obtain ⟨S, ⟨-, rfl⟩, hh⟩ := h.one
  refine hh (Chg.of_grown hg (fun k hk => hk)) (rowK_loc hd _ _) ⟨hR, rfl⟩ (fun k hk he => ?_)
  rcases hat with q | ⟨b, q, hb⟩
  · rw [← q]; exact he
  · rw [q] at he; injection he with he; omega
theorem row_append (hd : Flat d) {w0 W : World} {L : List HP} (s x : Operand) (t : TypeId) (z : Value) (bytes : Nat) (v : Value) (xs ys : List α) (A : Option Addr) (m c : Nat) {Rr : α → List Value → Prop} (h : St w0 W (rowK d e v xs :: L)) (hgd : o.guard = none) (ho : o.op = .call { callee := .builtin .append, args := #[s, x], argTypes := #[t, t] })
    (ht : P.underlying t = some (.slice e)) (hinfo : (P.info? e).map (fun i => (i.zero, i.size, i.bytes)) = some (some z, d.sz, bytes)) (hz : z.cells.size = d.sz) (hs0 : 0 < d.sz) (hb0 : 0 < bytes) (hs : a.eval s = v) (hx : a.eval x = .slice A m c)
    (HR : ReadsRow Rr d.sz W A m ys) (hKM : ∀ x cs, Rr x cs → d.M W 0 (fun _ => False) x cs) (hl : (xs.length + m) * bytes ≤ 140737488355328)
    (k : ∀ v1 w1, St w0 w1 (rowK d e v1 (xs ++ ys) :: L) → wpList P ops Q rest (a.put o.dst v1) w1) : wpList P ops Q (o :: rest) a W :=
  Kd.R_append_rows d (w0 := W) 0 hgd s x t e z bytes ho ht hinfo hz hs0 hb0 v xs ys A m c (fun _ => True) (fun _ => False) hs hx h.rowKR HR hKM (fun _ hk => hk.elim) (fun _ _ => trivial) (Below.refl _ _) (Nat.zero_le _) hl (fun v1 w1 hR _ hg hat => k v1 w1 (h.rowKapp hd hR hg hat))
end
section
variable {α : Type} {d : Kd α} {e : Nat} {P : Program} {ops : Array Oper} {rest : List Oper} {o : Oper} {a : Act} {Q : Exit → Act → World → Prop} {K : Act → World → Prop} {E : Prop}
/-- The same as one step of a region that draws its order. -/
theorem row_append_step (hd : Flat d) {w0 W : World} {L : List HP} (s x : Operand) (t : TypeId) (z : Value) (bytes : Nat) (v : Value) (xs ys : List α) (A : Option Addr) (m c : Nat) {Rr : α → List Value → Prop} (h : St w0 W (rowK d e v xs :: L)) (hgd : o.guard = none) (ho : o.op = .call { callee := .builtin .append, args := #[s, x], argTypes := #[t, t] })
    (ht : P.underlying t = some (.slice e)) (hinfo : (P.info? e).map (fun i => (i.zero, i.size, i.bytes)) = some (some z, d.sz, bytes)) (hz : z.cells.size = d.sz) (hs0 : 0 < d.sz) (hb0 : 0 < bytes) (hs : a.eval s = v) (hx : a.eval x = .slice A m c)
    (HR : ReadsRow Rr d.sz W A m ys) (hKM : ∀ x cs, Rr x cs → d.M W 0 (fun _ => False) x cs) (hl : (xs.length + m) * bytes ≤ 140737488355328)
    (k : ∀ v1 w1, St w0 w1 (rowK d e v1 (xs ++ ys) :: L) → K (a.put o.dst v1) w1) : if Region.wanted o (yielded ops a.tmps) = true then Oper.wp P o a W K Q else E := by
  have hw : Region.wanted o (yielded ops a.tmps) = true := by simp [Region.wanted, hgd]
  have q := Kd.R_append_rows_step (Kc := K) (Q := Q) d (w0 := W) 0 hw s x t e z bytes ho ht hinfo hz hs0 hb0 v xs ys A m c (fun _ => True) (fun _ => False) hs hx h.rowKR HR hKM (fun _ hk => hk.elim) (fun _ _ => trivial) (Below.refl _ _) (Nat.zero_le _) hl (fun v1 w1 hR _ hg hat => k v1 w1 (h.rowKapp hd hR hg hat))
  rw [if_pos hw] at q ⊢
  exact q
/-- One element laid out, as a row that is read. -/
theorem reads_lit1 {Rr : α → List Value → Prop} {W : World} {B sz : Nat} {t : TypeId} {x : α} {cs : List Value} (h : W.heap[B]? = some (Obj.cells cs.toArray t (0, 0))) (hl : cs.length = sz) (hr : Rr x cs) : ReadsRow Rr sz W (some ⟨B, 0, none⟩) 1 [x] := by
  refine ⟨rfl, by decide, fun _ => ⟨_, rfl, fun j p hj => ?_⟩⟩
  cases j with
  | succ j => simp at hj
  | zero =>
    simp only [List.getElem?_cons_zero, Option.some.injEq] at hj
    subst hj
    refine ⟨cs, hl, hr, fun i u hi => ?_⟩
    have ha : (Addr.mk B 0 none).add (0 * sz + i) = ⟨B, i, none⟩ := by unfold Addr.add; split <;> simp_all
    rw [ha, vcell h i]
    simpa using hi
end
section
variable {α β : Type} {d1 : Kd α} {d2 : Kd β} {e1 e2 : Nat}
/-- Two new rows, of different types. -/
theorem St.rows2 (f1 : Flat d1) (f2 : Flat d2) (hne : e1 ≠ e2) {w0 w w' : World} {L : List HP} {v1 v2 : Value} {xs : List α} {ys : List β} {ok1 ok2 : Nat → Prop} (h : St w0 w L) (k : Below w.heap.size w w') (r1 : d1.R e1 w' w.heap.size ok1 v1 xs) (r2 : d2.R e2 w' w.heap.size ok2 v2 ys) : St w0 w' (rowK d1 e1 v1 xs :: rowK d2 e2 v2 ys :: L) := by
  have a1 : ∀ g, v1.ownBlock = some g → w.heap.size ≤ g ∧ ∃ cells, w'.heap[g]? = some (.cells cells e1 (0, 0)) := fun g hg => by
    obtain ⟨inner, ho⟩ := Kd.R_own r1
    exact ⟨own_base ho g hg, own_typed ho g hg⟩
  have a2 : ∀ g, v2.ownBlock = some g → w.heap.size ≤ g ∧ ∃ cells, w'.heap[g]? = some (.cells cells e2 (0, 0)) := fun g hg => by
    obtain ⟨inner, ho⟩ := Kd.R_own r2
    exact ⟨own_base ho g hg, own_typed ho g hg⟩
  refine ⟨⟨_, rowK_loc f1 v1 xs, ⟨Kd.R_mono (Kd.R_lower r1 (Nat.zero_le _)) (fun _ _ => trivial), rfl⟩, fun g hg => ⟨Nat.le_trans h.bel.size (a1 g hg).1, fun q => q⟩, _, rowK_loc f2 v2 ys, ⟨Kd.R_mono (Kd.R_lower r2 (Nat.zero_le _)) (fun _ _ => trivial), rfl⟩, fun g hg => ⟨Nat.le_trans h.bel.size (a2 g hg).1, ?_⟩, ?_⟩, (h.more k).bel⟩
  · rintro (q | q)
    · exact q
    · obtain ⟨_, c1, h1⟩ := a1 g q
      obtain ⟨_, c2, h2⟩ := a2 g hg
      rw [h1] at h2
      injection h2 with h2
      injection h2 with _ h2
      exact hne h2
  · refine h.sep.frame (fun i hi _ => k.block i hi) (fun i hi q => ?_)
    rcases q with (q | q) | q
    · exact q
    · have := (a1 i q).1; omega
    · have := (a2 i q).1; omega
end
theorem St.rowKC {α : Type} {d : Kd α} {e : Nat} {w0 w : World} {L : List HP} {A : Option Addr} {n c : Nat} {xs : List α} (h : St w0 w (rowK d e (.slice A n c) xs :: L)) : d.C w A xs.length xs ∧ n = xs.length ∧ n ≤ c := by
  obtain ⟨A', c', he, h1, h2⟩ := Kd.R_reads h.rowKR
  injection he with e1 e2 e3
  subst e1; subst e3
  exact ⟨h2, e2, by omega⟩
theorem St.drewN {w0 w : World} {L : List HP} (h : St w0 w L) (n : Nat) : St w0 (w.drewN n) L := h.more (pw_below_drewN (Below.refl _ _) n)
end Go.Proofs.YtkhcdichdnbcmaaR
