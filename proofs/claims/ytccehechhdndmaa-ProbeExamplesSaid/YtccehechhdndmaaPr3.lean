/- The contracts of slices.ContainsFunc over tokens, and of probe.Health's Keep. -/
import Derived.Test.YtccehechhdndmaaBase
import Derived.Test.YtccehechhdndmaaSep
import Derived.Test.YtccehechhdndmaaSepB
import Derived.Test.YtccehechhdndmaaOpen
import Derived.Test.YtccehechhdndmaaProg
import Derived.Lib.Hide
import Derived.Test.YtccehechhdndmaaPr0
import Derived.Test.YtccehechhdndmaaPr1
import Derived.Test.YtccehechhdndmaaPr2
namespace Go.Proofs.Ytccehechhdndmaa
open Go.RowKit
set_option linter.unusedSimpArgs false
set_option linter.unusedVariables false

def tk (e : E32) : Tok := ⟨e.f0, e.f1, e.f2⟩
theorem rd_get (l : List E32) (k : Nat) (h : k < l.length) : rdE32 l k = l[k] := by simp [rdE32, h]
set_option maxHeartbeats 400000 in
theorem clo_c (q : Nat) (t x : Tok) (w : World) (hq : w.heap[q]? = some (.cells #[.int .i64 t.a, .int .i64 t.b, .int .i64 t.c] 32 (0, 0))) :
    Calls Try.prog 50 #[tokV x, .pointer (some ⟨q, 0, none⟩)] w fun e w' => e = .returned (.bool (decide (x = t))) ∧ Below w.heap.size w w' := by
  have hc := vcell hq
  have hlt := vlt hq
  obtain ⟨t0, t1, t2⟩ := t
  obtain ⟨x0, x1, x2⟩ := x
  simp only [tokV]
  by_cases h0 : x0 = t0
  · by_cases h1 : x1 = t1
    · by_cases h2 : x2 = t2
      · go_enter Try.func50, Try.ntmps50
        go_wp2
        go_returns
        exact ⟨by simp [h0, h1, h2], by go_grown⟩
      · go_enter Try.func50, Try.ntmps50
        go_wp2
        go_returns
        exact ⟨by simp [h0, h1, h2], by go_grown⟩
    · go_enter Try.func50, Try.ntmps50
      go_wp2
      go_returns
      exact ⟨by simp [h0, h1], by go_grown⟩
  · go_enter Try.func50, Try.ntmps50
    go_wp2
    go_returns
    exact ⟨by simp [h0], by go_grown⟩
set_option maxHeartbeats 1000000 in
theorem idx_c (q : Nat) (t : Tok) (A : Option Addr) (c : Nat) (l : List E32) (w : World) (hl : SL37 w A c l) (hq : w.heap[q]? = some (.cells #[.int .i64 t.a, .int .i64 t.b, .int .i64 t.c] 32 (0, 0))) :
    Calls Try.prog 62 #[.slice A l.length c, .func (.func 50) #[] #[.pointer (some ⟨q, 0, none⟩)]] w fun e w' => ∃ r : Int, e = .returned (.int .i64 r) ∧ (0 ≤ r ↔ t ∈ l.map tk) ∧ Below w.heap.size w w' := by
  obtain ⟨l1, l2, l3⟩ := hl
  have hmax : l.length ≤ 9223372036854775807 := by simp only [maxLen] at l2; omega
  have H3 := Lib.hid l3
  clear l3 l2
  go_enter Try.func62, Try.ntmps62
  go_wp2
  go_loopw [8] (fun i wr => ∃ n : Nat, i = .int .i64 n ∧ n ≤ l.length ∧ t ∉ (l.take n).map tk ∧ Below w.heap.size w wr) (fun i _ => l.length - (intOf i).toNat)
  case atStart => exact ⟨0, rfl, by omega, by simp, Below.refl _ _⟩
  case round =>
    obtain ⟨n, rfl, hn, hnot, hB⟩ := hrel
    by_cases m : n < l.length
    · obtain ⟨a, off, rfl, ha, hcells⟩ : ∃ b off, A = some ⟨b, off, none⟩ ∧ b < w.heap.size ∧ _ := H3.out.resolve_left (by rintro rfl; simp at m)
      obtain ⟨y0, -, y1, -, y2, -⟩ := hcells n m
      have z0 : wr.cell? ⟨a, off + n * 3, none⟩ = _ := (hB.cell ha).trans y0
      have z1 : wr.cell? ⟨a, off + n * 3 + 1, none⟩ = _ := (hB.cell ha).trans y1
      have z2 : wr.cell? ⟨a, off + n * 3 + 2, none⟩ = _ := (hB.cell ha).trans y2
      have hqr : wr.heap[q]? = some (.cells #[.int .i64 t.a, .int .i64 t.b, .int .i64 t.c] 32 (0, 0)) := (hB.block q (vlt hq)).trans hq
      rw [rd_get l n m] at z0 z1 z2
      have hx : l.take (n + 1) = l.take n ++ [l[n]] := by rw [List.take_succ_eq_append_getElem m]
      have hmem : l[n] ∈ l := List.getElem_mem m
      generalize l[n] = x at *
      clear y0 y1 y2 hcells H3
      have hk0 : (0 : Int) ≤ (n : Int) := by omega
      have hk1 : (n : Int) < (l.length : Int) := by omega
      go_wp2_with fail
      refine (clo_c q t (tk x) wr hqr).mono ?_
      rintro e_ w1 ⟨rfl, hb⟩
      have hB1 : Below w.heap.size w w1 := below_then hB hb
      by_cases e : tk x = t
      · rw [show decide (tk x = t) = true by simp [e]]
        go_wp2
        go_returns
        exact ⟨_, rfl, ⟨fun _ => e ▸ List.mem_map_of_mem hmem, fun _ => hk0⟩, hB1⟩
      · rw [show decide (tk x = t) = false by simp [e]]
        have hnot2 : t ∉ (l.take (n + 1)).map tk := by rw [hx]; simp only [List.map_append, List.mem_append, not_or]; exact ⟨hnot, by simp; exact fun q => e q.symm⟩
        clear hnot hx
        go_wp2
        all_goals go_roundw
        all_goals first | exact ⟨n + 1, by go_num, by omega, hnot2, hB1⟩ | (simp [intOf]; omega)
    · have hnl : n = l.length := by omega
      subst hnl
      rw [List.take_length] at hnot
      go_wp2
      go_returns
      exact ⟨_, rfl, ⟨fun q => by omega, fun q => absurd q hnot⟩, hB⟩
set_option maxHeartbeats 400000 in
theorem contains_c (q : Nat) (t : Tok) (A : Option Addr) (c : Nat) (l : List E32) (w : World) (hl : SL37 w A c l) (hq : w.heap[q]? = some (.cells #[.int .i64 t.a, .int .i64 t.b, .int .i64 t.c] 32 (0, 0))) :
    Calls Try.prog 49 #[.slice A l.length c, .func (.func 50) #[] #[.pointer (some ⟨q, 0, none⟩)]] w fun e w' => e = .returned (.bool (decide (t ∈ l.map tk))) ∧ Below w.heap.size w w' := by
  go_enter Try.func49, Try.ntmps49
  go_wp2_with fail
  refine (idx_c q t A c l w hl hq).mono ?_
  rintro e_ w1 ⟨r, rfl, hr, hb⟩
  have HR := Lib.hid hr
  clear hr hl hq
  go_wp2
  go_returns
  exact ⟨ret_bool (by have := HR.out; by_cases q : t ∈ l.map tk <;> simp [q] at this ⊢ <;> omega), hb⟩
theorem sl_chg {S : Nat → Prop} {w w' : World} {A : Option Addr} {c : Nat} {l : List E32} (h : SL37 w A c l) (k : Chg S w w') (hA : ∀ a, A = some a → l ≠ [] → ¬ S a.block) : SL37 w' A c l := by
  obtain ⟨h1, h2, h3⟩ := h
  by_cases hl : l = []
  · exact ⟨h1, h2, Or.inl hl⟩
  refine ⟨h1, h2, h3.imp id ?_⟩
  rintro ⟨b, off, rfl, hb, hc⟩
  have hz : ∀ x : Addr, x.block = b → w'.cell? x = w.cell? x := fun x hx => by
    unfold World.cell?
    rw [hx, k.block b (hA _ rfl hl) hb]
  refine ⟨b, off, rfl, Nat.lt_of_lt_of_le hb k.size, fun i hi => ?_⟩
  obtain ⟨y0, g0, y1, g1, y2, g2⟩ := hc i hi
  exact ⟨(hz _ rfl).trans y0, g0, (hz _ rfl).trans y1, g1, (hz _ rfl).trans y2, g2⟩
/-- What a map holds in the middle of Keep. -/
def KF (D : DataW Unit) (left : Lit → Bool) (f : Tok → Nat) (L : List Tok) : Prop := ∀ t, tokW t → D.atKey (tkl t) (.lit (.int .i64 0)) = .lit (.int .i64 ((if left (tkl t) = true ∨ t ∈ L then f t else 0 : Nat) : Int))
theorem KF.start {D : DataW Unit} {f : Tok → Nat} (h : mapF D f) (L : List Tok) : KF D (Maps.has D) f L := fun t ht => by
  rw [h t ht]
  by_cases q : Maps.has D (tkl t) = true ∨ t ∈ L
  · rw [if_pos q]
  · rw [if_neg q]
    have := h t ht
    rw [Maps.atKey_of_not_has (by simpa using fun e => q (Or.inl e))] at this
    simp at this
    rw [← this]; rfl
theorem KF.fin {D : DataW Unit} {f : Tok → Nat} {left : Lit → Bool} {L : List Tok} (h : KF D left f L) (hl : ∀ kl, left kl = false) : mapF D (keepF f L) := fun t ht => by
  rw [h t ht]; simp [hl, keepF]
theorem strike_eq {x t : Tok} (hx : tokW x) (ht : tokW t) (left : Lit → Bool) : (left (tkl t) && !(tkl t).sameKey (tkl x)) = (left (tkl t) && !decide (t = x)) := by
  by_cases e : t = x
  · subst e
    rw [WideAt.sameKey_self (tok_law.key (tok_key hx))]; simp
  · rw [Maps.sameKey_ne (fun q => e (tok_inj ht hx q))]; simp [e]
theorem KF.stays {D : DataW Unit} {f : Tok → Nat} {left : Lit → Bool} {L : List Tok} (h : KF D left f L) {x : Tok} (hx : tokW x) (hm : x ∈ L) : KF D (fun z => left z && !z.sameKey (tkl x)) f L := fun t ht => by
  rw [h t ht]; simp only [strike_eq hx ht left]
  by_cases e : t = x
  · subst e; simp [hm]
  · simp [e]
theorem KF.struck {D : DataW Unit} {f : Tok → Nat} {left : Lit → Bool} {L : List Tok} (h : KF D left f L) {x : Tok} (hx : tokW x) (hm : x ∉ L) : KF (D.del (tkl x)) (fun z => left z && !z.sameKey (tkl x)) f L := fun t ht => by
  simp only [strike_eq hx ht left]
  by_cases e : t = x
  · subst e; rw [Maps.atKey_del_same]; simp [hm]
  · rw [Maps.atKey_del_other (fun q => e (tok_inj ht hx q)), h t ht]; simp [e]
theorem tokV_inj {s t : Tok} (h : tokV s = tokV t) : s = t := by
  obtain ⟨a, b, c⟩ := s; obtain ⟨a', b', c'⟩ := t
  simp [tokV] at h
  simp [h]
/-- The step of the range, over tokens. -/
theorem wpList_next_tok (w : World) {ops : Array Oper} {rest : List Oper} {o : Oper} {a : Act} {Q : Exit → Act → World → Prop} (hg : o.guard = none) (it : Operand) (hop : o.op = Op.next it false)
    (b r n : Nat) (D : DataW Unit) (left : Lit → Bool) (cnt : Nat) (hit : a.eval it = .pointer (some ⟨r, 0, none⟩)) (h : w.ranges Try.prog 32 RE b r n D left cnt)
    (hDone : (∀ kl, left kl = false) → wpList Try.prog ops Q rest (a.put o.dst (.tuple #[.bool false])) w)
    (hMore : ∀ (x : Tok) (c : Int) (w' : World) (cnt' : Nat), tokW x → w'.ranges Try.prog 32 RE b r n D (fun z => left z && !z.sameKey (tkl x)) cnt' → cnt' < cnt →
      w.grownBy w' (some r) → (Instr.entry (.pointer (some ⟨r, 0, none⟩))).run Try.prog w' = .ok (.tuple #[.agg #[.int .i64 x.a, .int .i64 x.b, .int .i64 x.c], .int .i64 c]) w' → wpList Try.prog ops Q rest (a.put o.dst (.tuple #[.bool true, .agg #[.int .i64 x.a, .int .i64 x.b, .int .i64 x.c], .int .i64 c])) w') :
    wpList Try.prog ops Q (o :: rest) a w :=
  wpList_next_ranges w hg it hop 32 tok_law RE tokV (Value.int .i64) (fun key kl hkey => by obtain ⟨x, -, rfl, -⟩ := tok_inv hkey; exact ⟨x, rfl⟩) (fun v y hv => by obtain ⟨c, rfl, -⟩ := plainElem_int_inv Try.underlying3 hv; exact ⟨c, rfl⟩)
    b r n D left cnt hit h (fun _ => hDone) (fun x c kl y w' cnt' hkey hlk hv hat hrg hlt hgr hsz hen => by
      obtain ⟨t, ht, e, rfl⟩ := tok_inv hkey
      obtain rfl := tokV_inj e
      exact hMore x c w' cnt' ht hrg hlt hgr hen)
set_option maxRecDepth 100000 in
set_option maxHeartbeats 1000000 in
theorem keep_c (p b n : Nat) (f : Tok → Nat) (A : Option Addr) (c : Nat) (l : List E32) (w : World) (h : HZ w p b n f) (hl : SL37 w A c l) (hA : ∀ a, A = some a → l ≠ [] → a.block ≠ b) :
    Calls Try.prog 24 #[.pointer (some ⟨p, 0, none⟩), .slice A l.length c] w fun e w' => e = .returned (.tuple #[]) ∧ HZ w' p b n (keepF f (l.map tk)) ∧ Chg (fun k => k = b) w w' := by
  obtain ⟨h0, h1, D0, ho, hf, hn⟩ := h
  have hp := vlt h1
  have hbz := ho.lt
  have hc := vcell h1
  have HL := Lib.hid hl
  have H1 := Lib.hid h1
  clear hl h1
  go_enter Try.func24, Try.ntmps24
  go_wp2_with (first
    | (at_range; refine wpList_range_own _ rfl _ MT rfl 32 3 tok_law Try.underlying78 _ b n _ rfl ho ?_; intro w0 hrg0 hg0 hs0)
    | go_in)
  go_frame
  go_loopw [12] (fun _ wr => ∃ (left : Lit → Bool) (cnt : Nat) (D : DataW Unit), wr.ranges Try.prog 32 RE b w.heap.size n D left cnt ∧ KF D left f (l.map tk) ∧ Chg (fun k => k = b) w wr)
    (fun _ wr => wr.rangeLeft b w.heap.size)
  case atStart => exact ⟨_, _, _, hrg0, KF.start hf _, Chg.of_grown hg0 (fun k hk => by cases hk)⟩
  case round =>
    obtain ⟨left, cnt, D, hrg, hk, hC⟩ := hrel
    go_wp2_with (first
      | (at_next; refine wpList_next_tok _ rfl _ rfl b w.heap.size n _ _ _ rfl hrg ?_ ?_)
      | go_in)
    · intro hl0
      go_wp2
      go_returns
      have h1' : wr.heap[p]? = some (.cells #[.map (some b)] 80 (0, 0)) := (hC.block p h0 hp).trans H1.out
      exact ⟨rfl, ⟨h0, h1', D, hrg.owns, hk.fin hl0, fun t => by unfold keepF; split; exact hn t; exact Nat.zero_le _⟩, hC⟩
    · intro x cv w1 cnt1 hx hrg1 hlt hg1 hen
      have hC1 : Chg (fun k => k = b) w w1 := ((hC.mono (T := fun k => k = b ∨ k = w.heap.size) (fun i _ hi => Or.inl hi)).trans (Chg.of_grown hg1 (fun k hk => by cases hk; exact Or.inr rfl))).mono (fun i hi q => q.elim id (fun e => by omega))
      have hlk := hrg.left_eq
      clear hrg hC hg1 hrg0 hg0 hs0 ho hf
      go_wp2_with fail
      have hCa : Chg (fun k => k = b) w (w1.alloc (.cells #[.int .i64 x.a, .int .i64 x.b, .int .i64 x.c] 32)) := hC1.trans (Chg.of_below (below_alloc (Below.refl _ _) _))
      have hSa := sl_chg HL.out hCa (fun a ha hl => hA a ha hl)
      refine (contains_c w1.heap.size x A c l _ hSa vnew).mono ?_
      rintro e_ w2 ⟨rfl, hb⟩
      have hrg2 := (hrg1.alloc (.cells #[.int .i64 x.a, .int .i64 x.b, .int .i64 x.c] 32)).kept (w' := w2) (row := none) ⟨hb.os, hb.tape, hb.output, hb.size, fun i hi _ => hb.block i hi⟩ (by simp) (by simp)
      have hC2 : Chg (fun k => k = b) w w2 := hCa.trans (Chg.of_below hb)
      have hbox : w2.heap[w1.heap.size]? = some (.cells #[.int .i64 x.a, .int .i64 x.b, .int .i64 x.c] 32 (0, 0)) := vbelow vnew hb
      clear hrg1 hC1 hCa hSa hb hen
      by_cases hm : x ∈ l.map tk
      · rw [show decide (x ∈ l.map tk) = true by simp only [hm, decide_true]]
        have hk2 := hk.stays hx hm
        clear hk hm hbox
        go_wp2
        go_roundw
        case rel => exact ⟨_, cnt1, D, hrg2, hk2, hC2⟩
        case measure => rw [hrg2.left_eq, hlk]; exact hlt
      · rw [show decide (x ∈ l.map tk) = false by simp only [hm, decide_false]]
        have hk2 := hk.struck hx hm
        obtain ⟨w3, cnt3, hd, hrg3, hle, hturn⟩ := World.ranges.drop (show w2.drew.ranges Try.prog 32 RE b w.heap.size n D (fun z => left z && !z.sameKey (tkl x)) cnt1 from hrg2) tok_law Try.underlying78 (tok_key hx) 0
        rw [Maps.strike_twice] at hrg3
        have hC3 : Chg (fun k => k = b) w w3 := hC2.trans (Chg.of_turned (S := fun k => k = b) hturn rfl).of_drew
        have hcp := vcell ((hC2.block p h0 hp).trans H1.out)
        have hcb := vcell hbox
        simp only [tokV] at hd
        clear hk hm hbox hturn hrg2 hC2
        go_wp2
        go_region
        go_wp2
        all_goals go_roundw
        case rel => exact ⟨_, cnt3, _, hrg3, hk2, hC3⟩
        case measure => rw [hrg3.left_eq, hlk]; omega
end Go.Proofs.Ytccehechhdndmaa
