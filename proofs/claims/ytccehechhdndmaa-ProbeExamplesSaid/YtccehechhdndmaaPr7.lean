/- Rows of counts and of tokens as objects; CopyTokens, EqualTokens, ref14.Check. Printed by gen/probe7.py. -/
import Derived.Test.YtccehechhdndmaaBase
import Derived.Test.YtccehechhdndmaaSep
import Derived.Test.YtccehechhdndmaaSepB
import Derived.Test.YtccehechhdndmaaOpen
import Derived.Test.YtccehechhdndmaaProg
import Derived.Lib.Hide
import Derived.Test.YtccehechhdndmaaWWords
import Derived.Test.YtccehechhdndmaaPr0
import Derived.Test.YtccehechhdndmaaPr1
import Derived.Test.YtccehechhdndmaaPr2
import Derived.Test.YtccehechhdndmaaPr3
import Derived.Test.YtccehechhdndmaaPr4
import Derived.Test.YtccehechhdndmaaPr5
namespace Go.Proofs.Ytccehechhdndmaa
open Go.RowKit Go.Proofs.YtccehechhdndmaaW.PrintWords
set_option linter.unusedSimpArgs false
set_option linter.unusedVariables false

structure Cn where
  (t : Tok) (n : Int)

theorem infoC : (Try.prog.info? 87).map (fun i => (i.zero, i.size, i.bytes)) = some (some (.agg #[.int .i64 0, .int .i64 0, .int .i64 0, .int .i64 0]), 4, 32) := by kernel_rfl
def kC : Kd Cn := Kd.iso (Kd.pair (Kd.int .i64) (Kd.pair (Kd.int .i64) (Kd.pair (Kd.int .i64) (Kd.int .i64)))) (fun x : Cn => (x.t.a, x.t.b, x.t.c, x.n))
theorem kC_open {w : World} {x : Cn} {cs : List Value} (h : kC.K w x cs) : cs = [.int .i64 x.t.a, .int .i64 x.t.b, .int .i64 x.t.c, .int .i64 x.n] := by
  obtain ⟨_, _, rfl, rfl, _, _, rfl, rfl, _, _, rfl, rfl, rfl⟩ := h; rfl
theorem kC_mkM (w : World) (base : Nat) (ok : Nat → Prop) (x : Cn) : kC.M w base ok x [.int .i64 x.t.a, .int .i64 x.t.b, .int .i64 x.t.c, .int .i64 x.n] := ⟨[.int .i64 x.t.a], _, rfl, rfl, ⟨[.int .i64 x.t.b], _, rfl, rfl, ⟨[.int .i64 x.t.c], _, rfl, rfl, rfl⟩⟩⟩
def rowC (v : Value) (xs : List Cn) : HP := fun w S => kC.R 87 w 0 (fun _ => True) v xs ∧ S = fun k => v.ownBlock = some k
theorem keep1C {w w' : World} {v : Value} {xs : List Cn} (h : kC.R 87 w 0 (fun _ => True) v xs) (k : ∀ g, v.ownBlock = some g → w'.heap[g]? = w.heap[g]?) : kC.R 87 w' 0 (fun _ => True) v xs := by
  obtain ⟨_, inner, hi, hr⟩ := h
  exact Kd.R_mono (Kd.R_move (ok := fun g => v.ownBlock = some g) ⟨fun g hg => hg, inner, hi, hr⟩ (fun g hg => k g hg)) (fun _ _ => trivial)
theorem lt1C {w : World} {v : Value} {xs : List Cn} (h : kC.R 87 w 0 (fun _ => True) v xs) {g : Nat} (hg : v.ownBlock = some g) : g < w.heap.size := ((Kd.R_bound h).1 g hg).2.2.1
theorem rowC_loc (v : Value) (xs : List Cn) : Loc (rowC v xs) where
  keep := fun ⟨h, e⟩ k => ⟨keep1C h (fun g hg => k g (by rw [e]; exact hg)), e⟩
  lt := fun ⟨h, e⟩ k => by subst e; exact lt1C h k
theorem rowC_nil {w0 w : World} {L : List HP} (h : St w0 w L) : St w0 w (rowC (.slice none 0 0) [] :: L) :=
  h.new (Below.refl _ _) (rowC_loc _ _) ⟨Kd.R_nil _ _ _ _ _, rfl⟩ (fun i hi => by cases hi)
theorem rowC_get {w : World} {base : Nat} {ok : Nat → Prop} {v : Value} {xs : List Cn} (h : kC.R 87 w base ok v xs) :
    (xs = [] ∧ v = .slice none 0 0) ∨ ∃ b c, v = .slice (some ⟨b, 0, none⟩) xs.length c ∧ xs.length ≤ c ∧ c ≤ maxLen ∧ v.ownBlock = some b ∧ b < w.heap.size ∧ (∃ cur, w.heap[b]? = some (.cells cur 87 (0, 0))) ∧ ∀ i (hi : i < xs.length), w.cell? ⟨b, i * 4, none⟩ = some (.int .i64 xs[i].t.a) ∧ w.cell? ⟨b, i * 4 + 1, none⟩ = some (.int .i64 xs[i].t.b) ∧ w.cell? ⟨b, i * 4 + 2, none⟩ = some (.int .i64 xs[i].t.c) ∧ w.cell? ⟨b, i * 4 + 3, none⟩ = some (.int .i64 xs[i].n) := by
  obtain ⟨A, c, e, hc, hC⟩ := Kd.R_reads h
  obtain ⟨inner, ho⟩ := Kd.R_own h
  rcases ho.2 with ⟨e2, e3⟩ | ⟨b, cap, cur, e2, hb, hh, r⟩
  · rw [e2] at e
    injection e with e4 e5 e6
    exact Or.inl ⟨List.eq_nil_of_length_eq_zero e5.symm, e2⟩
  · have e1 := e
    rw [e2] at e
    injection e with e4 e5 e6
    subst e4; subst e6
    refine Or.inr ⟨b, cap, e2, hc, ?_, by rw [e2]; rfl, vlt hh, ⟨cur, hh⟩, fun i hi => ?_⟩
    · exact r.2.1
    · obtain ⟨ad, cs, ha, hl, hK, hcell⟩ := Kd.C_get hC xs[i] (i : Int) (by omega) (by omega)
      cases ha
      rw [show xs.getD (i : Int).toNat xs[i] = xs[i] by simp [hi]] at hK
      obtain rfl := kC_open hK
      have hz : ∀ j, (Addr.mk b 0 none).add ((i : Int).toNat * kC.sz + j) = ⟨b, i * 4 + j, none⟩ := fun j => by simp [Addr.add, show kC.sz = 4 from rfl]; try (intros; omega)
      exact ⟨(by have q := hcell 0 _ rfl; rw [hz 0] at q; simpa using q), (by have q := hcell 1 _ rfl; rw [hz 1] at q; simpa using q), (by have q := hcell 2 _ rfl; rw [hz 2] at q; simpa using q), (by have q := hcell 3 _ rfl; rw [hz 3] at q; simpa using q)⟩
section
variable {ops : Array Oper} {rest : List Oper} {o : Oper} {a : Act} {Q : Exit → Act → World → Prop}
theorem rowC_append {w0 W : World} {L : List HP} (s x : Operand) (v : Value) (xs : List Cn) (p : Cn) (h : St w0 W (rowC v xs :: L)) (hgd : o.guard = none) (ho : o.op = .call { callee := .builtin .append, args := #[s, x], argTypes := #[81, 81] })
    (hs : a.eval s = v) (hx : a.eval x = .slice (some ⟨W.heap.size, 0, none⟩) 1 1) (hl : xs.length ≤ 100000)
    (k : ∀ v1 w1, St w0 w1 (rowC v1 (xs ++ [p]) :: L) → wpList Try.prog ops Q rest (a.put o.dst v1) w1) :
    wpList Try.prog ops Q (o :: rest) a (W.alloc (.cells #[.int .i64 p.t.a, .int .i64 p.t.b, .int .i64 p.t.c, .int .i64 p.n] 87)) := by
  obtain ⟨S, ⟨hR, rfl⟩, hh⟩ := h.one
  refine Kd.R_append kC 0 hgd s x 81 87 (.agg #[.int .i64 0, .int .i64 0, .int .i64 0, .int .i64 0]) 32 ho Try.underlying81 infoC rfl (by decide) (by decide) v xs p [.int .i64 p.t.a, .int .i64 p.t.b, .int .i64 p.t.c, .int .i64 p.n] (fun _ => True) (fun k => False) hs hx (kC_mkM _ _ _ _) (fun k hk => hk.elim) (fun _ _ => trivial) hR (Below.refl _ _) (by omega) (by omega) ?_
  intro v2 w2 hR2 hB2 hg2 hat2
  have q := hh (w' := w2) (Chg.of_grown hg2 (fun k hk => hk)) (rowC_loc _ _) ⟨hR2, rfl⟩ (fun k hk hq => by
    rcases hat2 with e | ⟨g, e, hg⟩
    · exact e ▸ hq
    · rw [e] at hq; injection hq with hq; omega)
  exact k v2 w2 q
end

theorem infoT : (Try.prog.info? 32).map (fun i => (i.zero, i.size, i.bytes)) = some (some (.agg #[.int .i64 0, .int .i64 0, .int .i64 0]), 3, 24) := by kernel_rfl
def kT : Kd Tok := Kd.iso (Kd.pair (Kd.int .i64) (Kd.pair (Kd.int .i64) (Kd.int .i64))) (fun x : Tok => (x.a, x.b, x.c))
theorem kT_open {w : World} {x : Tok} {cs : List Value} (h : kT.K w x cs) : cs = [.int .i64 x.a, .int .i64 x.b, .int .i64 x.c] := by
  obtain ⟨_, _, rfl, rfl, _, _, rfl, rfl, rfl⟩ := h; rfl
theorem kT_mkM (w : World) (base : Nat) (ok : Nat → Prop) (x : Tok) : kT.M w base ok x [.int .i64 x.a, .int .i64 x.b, .int .i64 x.c] := ⟨[.int .i64 x.a], _, rfl, rfl, ⟨[.int .i64 x.b], _, rfl, rfl, rfl⟩⟩
def rowT (v : Value) (xs : List Tok) : HP := fun w S => kT.R 32 w 0 (fun _ => True) v xs ∧ S = fun k => v.ownBlock = some k
theorem keep1T {w w' : World} {v : Value} {xs : List Tok} (h : kT.R 32 w 0 (fun _ => True) v xs) (k : ∀ g, v.ownBlock = some g → w'.heap[g]? = w.heap[g]?) : kT.R 32 w' 0 (fun _ => True) v xs := by
  obtain ⟨_, inner, hi, hr⟩ := h
  exact Kd.R_mono (Kd.R_move (ok := fun g => v.ownBlock = some g) ⟨fun g hg => hg, inner, hi, hr⟩ (fun g hg => k g hg)) (fun _ _ => trivial)
theorem lt1T {w : World} {v : Value} {xs : List Tok} (h : kT.R 32 w 0 (fun _ => True) v xs) {g : Nat} (hg : v.ownBlock = some g) : g < w.heap.size := ((Kd.R_bound h).1 g hg).2.2.1
theorem rowT_loc (v : Value) (xs : List Tok) : Loc (rowT v xs) where
  keep := fun ⟨h, e⟩ k => ⟨keep1T h (fun g hg => k g (by rw [e]; exact hg)), e⟩
  lt := fun ⟨h, e⟩ k => by subst e; exact lt1T h k
theorem rowT_nil {w0 w : World} {L : List HP} (h : St w0 w L) : St w0 w (rowT (.slice none 0 0) [] :: L) :=
  h.new (Below.refl _ _) (rowT_loc _ _) ⟨Kd.R_nil _ _ _ _ _, rfl⟩ (fun i hi => by cases hi)
theorem rowT_get {w : World} {base : Nat} {ok : Nat → Prop} {v : Value} {xs : List Tok} (h : kT.R 32 w base ok v xs) :
    (xs = [] ∧ v = .slice none 0 0) ∨ ∃ b c, v = .slice (some ⟨b, 0, none⟩) xs.length c ∧ xs.length ≤ c ∧ c ≤ maxLen ∧ v.ownBlock = some b ∧ b < w.heap.size ∧ (∃ cur, w.heap[b]? = some (.cells cur 32 (0, 0))) ∧ ∀ i (hi : i < xs.length), w.cell? ⟨b, i * 3, none⟩ = some (.int .i64 xs[i].a) ∧ w.cell? ⟨b, i * 3 + 1, none⟩ = some (.int .i64 xs[i].b) ∧ w.cell? ⟨b, i * 3 + 2, none⟩ = some (.int .i64 xs[i].c) := by
  obtain ⟨A, c, e, hc, hC⟩ := Kd.R_reads h
  obtain ⟨inner, ho⟩ := Kd.R_own h
  rcases ho.2 with ⟨e2, e3⟩ | ⟨b, cap, cur, e2, hb, hh, r⟩
  · rw [e2] at e
    injection e with e4 e5 e6
    exact Or.inl ⟨List.eq_nil_of_length_eq_zero e5.symm, e2⟩
  · have e1 := e
    rw [e2] at e
    injection e with e4 e5 e6
    subst e4; subst e6
    refine Or.inr ⟨b, cap, e2, hc, ?_, by rw [e2]; rfl, vlt hh, ⟨cur, hh⟩, fun i hi => ?_⟩
    · exact r.2.1
    · obtain ⟨ad, cs, ha, hl, hK, hcell⟩ := Kd.C_get hC xs[i] (i : Int) (by omega) (by omega)
      cases ha
      rw [show xs.getD (i : Int).toNat xs[i] = xs[i] by simp [hi]] at hK
      obtain rfl := kT_open hK
      have hz : ∀ j, (Addr.mk b 0 none).add ((i : Int).toNat * kT.sz + j) = ⟨b, i * 3 + j, none⟩ := fun j => by simp [Addr.add, show kT.sz = 3 from rfl]; try (intros; omega)
      exact ⟨(by have q := hcell 0 _ rfl; rw [hz 0] at q; simpa using q), (by have q := hcell 1 _ rfl; rw [hz 1] at q; simpa using q), (by have q := hcell 2 _ rfl; rw [hz 2] at q; simpa using q)⟩
section
variable {ops : Array Oper} {rest : List Oper} {o : Oper} {a : Act} {Q : Exit → Act → World → Prop}
theorem rowT_append {w0 W : World} {L : List HP} (s x : Operand) (v : Value) (xs : List Tok) (p : Tok) (h : St w0 W (rowT v xs :: L)) (hgd : o.guard = none) (ho : o.op = .call { callee := .builtin .append, args := #[s, x], argTypes := #[37, 37] })
    (hs : a.eval s = v) (hx : a.eval x = .slice (some ⟨W.heap.size, 0, none⟩) 1 1) (hl : xs.length ≤ 100000)
    (k : ∀ v1 w1, St w0 w1 (rowT v1 (xs ++ [p]) :: L) → wpList Try.prog ops Q rest (a.put o.dst v1) w1) :
    wpList Try.prog ops Q (o :: rest) a (W.alloc (.cells #[.int .i64 p.a, .int .i64 p.b, .int .i64 p.c] 32)) := by
  obtain ⟨S, ⟨hR, rfl⟩, hh⟩ := h.one
  refine Kd.R_append kT 0 hgd s x 37 32 (.agg #[.int .i64 0, .int .i64 0, .int .i64 0]) 24 ho Try.underlying37 infoT rfl (by decide) (by decide) v xs p [.int .i64 p.a, .int .i64 p.b, .int .i64 p.c] (fun _ => True) (fun k => False) hs hx (kT_mkM _ _ _ _) (fun k hk => hk.elim) (fun _ _ => trivial) hR (Below.refl _ _) (by omega) (by omega) ?_
  intro v2 w2 hR2 hB2 hg2 hat2
  have q := hh (w' := w2) (Chg.of_grown hg2 (fun k hk => hk)) (rowT_loc _ _) ⟨hR2, rfl⟩ (fun k hk hq => by
    rcases hat2 with e | ⟨g, e, hg⟩
    · exact e ▸ hq
    · rw [e] at hq; injection hq with hq; omega)
  exact k v2 w2 q
end
end Go.Proofs.Ytccehechhdndmaa
