/- The plain law of PackRow: what is written one after another is read one after another, and a piece without its last byte is not read. -/
import Derived.Test.YtipbgeobgppagaaRk2
import Derived.Test.YtipbgeobgppagaaR2
namespace Go.Proofs.Ytipbgeobgppagaa.PureR
open Go.RowKit Go.Proofs.Ytipbgeobgppagaa.Ext Go.Proofs.Ytipbgeobgppagaa.R Go.Proofs.YtipbgeobgppagaaW.PrintWords Go.Proofs.YtipbgeobgppagaaW.PrintLast
open Go.Proofs.Ytipbgeobgppagaa.Pk
set_option linter.unusedVariables false
set_option linter.unusedSimpArgs false

theorem unvar_cut {n : Nat} (hn : n < 18446744073709551616) : unvarL ((varL n).dropLast) = none := by
  cases h : unvarL ((varL n).dropLast) with
  | none => rfl
  | some p =>
    obtain ⟨m, r⟩ := p
    obtain ⟨h1, hm⟩ := var_unvar h
    have hne : varL n ≠ [] := by intro e; have := (varL_length n hn).1; rw [e] at this; simp at this
    have h2 := List.dropLast_concat_getLast hne
    rw [← h1] at h2
    have h3 := unvar_var hn []
    rw [List.append_nil, ← h2, List.append_assoc, unvar_var hm] at h3
    simp at h3
theorem untext_cut {s : List UInt8} (hs : s.length < 18446744073709551616) : untextL ((varL s.length ++ s).dropLast) = none := by
  cases h : untextL ((varL s.length ++ s).dropLast) with
  | none => rfl
  | some p =>
    obtain ⟨x, r⟩ := p
    have h1 := text_untext h
    have hne : varL s.length ++ s ≠ [] := by intro e; have q1 := (varL_length s.length hs).1; have q2 := congrArg List.length e; rw [List.length_append, List.length_nil] at q2; omega
    have h2 := List.dropLast_concat_getLast hne
    rw [← h1] at h2
    have hx : x.length < 18446744073709551616 := by
      have h4 := congrArg List.length h1
      have h5 : (varL s.length ++ s).length < 18446744073709551616 + 10 := by have := (varL_length s.length hs).2; simp; omega
      unfold untextL at h
      split at h
      · cases h
      · rename_i n r' hu
        have hn := (var_unvar hu).2
        split at h
        · cases h
        · cases h
          rw [List.length_take]; omega
    have h3 := untext_text s [] hs
    rw [List.append_nil, ← h2, List.append_assoc, List.append_assoc, ← List.append_assoc, untext_text x _ hx] at h3
    simp at h3

/-- What is written of an item. -/
def pc (x : S59) : List UInt8 := if Int.tmod x.f0 3 = 0 then varL (zig x.f1) else if Int.tmod x.f0 3 = 1 then varL x.f2.toNat else varL x.f3.size ++ x.f3.data.toList
structure Ok (x : S59) : Prop where
  a : 0 ≤ x.f0 ∧ x.f0 < 256
  b : -9223372036854775808 ≤ x.f1 ∧ x.f1 ≤ 9223372036854775807
  c : 0 ≤ x.f2 ∧ x.f2 < 18446744073709551616
  d : x.f3.size ≤ 300
def cc (l : List S59) : List UInt8 := (l.map pc).flatten
theorem pc_len {x : S59} (h : Ok x) : 1 ≤ (pc x).length ∧ (pc x).length ≤ 309 := by
  unfold pc
  have h1 := varL_length _ (zig_lt h.b.1 h.b.2)
  have h2 := varL_length x.f2.toNat (by have := h.c; omega)
  have h3 := varL_length x.f3.size (by have := h.d; omega)
  have h4 := size_data x.f3
  have h5 := h.d
  split
  · omega
  · split
    · omega
    · rw [List.length_append, h4]; omega
theorem cc_len : ∀ {l : List S59}, (∀ x ∈ l, Ok x) → (cc l).length ≤ 309 * l.length
  | [], _ => by simp [cc]
  | x :: l, h => by
    have h1 := pc_len (h x (by simp))
    have h2 := cc_len (l := l) (fun y hy => h y (by simp [hy]))
    simp only [cc, List.map_cons, List.flatten_cons, List.length_append, List.length_cons] at h2 ⊢
    omega
theorem rd_ok {l : List S59} (h : ∀ x ∈ l, Ok x) {i : Nat} (hi : i < l.length) : Ok (rd_T59 l i) := by
  have : rd_T59 l i = l[i] := by unfold rd_T59; simp [List.getD_eq_getElem?_getD, hi]
  rw [this]; exact h _ (List.getElem_mem hi)
theorem cc_drop {l : List S59} {i : Nat} (hi : i < l.length) : cc (l.drop i) = pc (rd_T59 l i) ++ cc (l.drop (i + 1)) := by
  have : rd_T59 l i = l[i] := by unfold rd_T59; simp [List.getD_eq_getElem?_getD, hi]
  rw [this, List.drop_eq_getElem_cons hi]; rfl
theorem cc_take {l : List S59} {i : Nat} (hi : i < l.length) : cc (l.take (i + 1)) = cc (l.take i) ++ pc (rd_T59 l i) := by
  have : rd_T59 l i = l[i] := by unfold rd_T59; simp [List.getD_eq_getElem?_getD, hi]
  rw [this, List.take_succ_eq_append_getElem hi]
  unfold cc
  rw [List.map_append, List.flatten_append]
  simp
theorem w64n (i : Nat) (h : i < 1000000) : wrap64 ((i : Int) + 1) = ((i + 1 : Nat) : Int) := by unfold wrap64; omega

/-- The reading of the i-th piece, as the code's three arms read it: what is left, the error, and whether the value is the item's. -/
theorem arms {k : Nat} (hk : 10 ≤ k) {l : List S59} (x : S59) (hx : Ok x) (t : List UInt8) (ht : t.length ≤ 10000) (C : ByteArray → Int → Bool → Option Bool) :
    (if Int.tmod x.f0 3 = 0 then ((pack_Unint.f k (mkB t)).bind fun b => C b.2.1 b.2.2 (b.1 == x.f1)) else if Int.tmod x.f0 3 = 1 then ((pack_Unvar.f k (mkB t)).bind fun b => C b.2.1 b.2.2 (b.1 == x.f2)) else ((pack_Untext.f k (mkB t)).bind fun b => C b.2.1 b.2.2 (b.1.toList == x.f3.toList)))
    = (if Int.tmod x.f0 3 = 0 then C (unintR t).2.1 (unintR t).2.2 ((unintR t).1 == x.f1) else if Int.tmod x.f0 3 = 1 then C (unvarR t).2.1 (unvarR t).2.2 ((unvarR t).1 == x.f2) else C (untextR t).2.1 (untextR t).2.2 ((untextR t).1.toList == x.f3.toList)) := by
  rw [unint_eq k hk t (by omega), unvar_eq k hk t (by omega), untext_eq k hk t (by omega)]
  rfl
theorem arms_ok {k : Nat} (hk : 10 ≤ k) (x : S59) (hx : Ok x) (r : List UInt8) (hr : (pc x ++ r).length ≤ 10000) (C : ByteArray → Int → Bool → Option Bool) :
    (if Int.tmod x.f0 3 = 0 then ((pack_Unint.f k (mkB (pc x ++ r))).bind fun b => C b.2.1 b.2.2 (b.1 == x.f1)) else if Int.tmod x.f0 3 = 1 then ((pack_Unvar.f k (mkB (pc x ++ r))).bind fun b => C b.2.1 b.2.2 (b.1 == x.f2)) else ((pack_Untext.f k (mkB (pc x ++ r))).bind fun b => C b.2.1 b.2.2 (b.1.toList == x.f3.toList)))
    = C (mkB r) 0 true := by
  rw [arms (l := []) hk x hx _ hr C]
  have hz := zig_lt hx.b.1 hx.b.2
  unfold pc
  by_cases h0 : Int.tmod x.f0 3 = 0
  · rw [if_pos h0, if_pos h0]
    have u2 : unintR (varL (zig x.f1) ++ r) = (x.f1, mkB r, 0) := by unfold unintR; rw [unvar_var hz]; simp only [unzig_zig]
    rw [u2]; simp
  · rw [if_neg h0, if_neg h0]
    by_cases h1 : Int.tmod x.f0 3 = 1
    · rw [if_pos h1, if_pos h1]
      have hc := hx.c
      have u1 : unvarR (varL x.f2.toNat ++ r) = (x.f2, mkB r, 0) := by
        unfold unvarR; rw [unvar_var (by omega)]; simp only [Prod.mk.injEq, and_true]; omega
      rw [u1]; simp
    · rw [if_neg h1, if_neg h1]
      have hd := hx.d
      have u3 : untextR (varL x.f3.size ++ x.f3.data.toList ++ r) = (x.f3, mkB r, 0) := by
        have := untext_text x.f3.data.toList r (by rw [size_data]; omega)
        rw [size_data] at this
        unfold untextR; rw [this]; simp only [mkB_data]
      rw [u3]; simp
theorem arms_cut {k : Nat} (hk : 10 ≤ k) (x : S59) (hx : Ok x) (C : ByteArray → Int → Bool → Option Bool) (R : Option Bool) (hC : ∀ a b, C a 4 b = R) :
    (if Int.tmod x.f0 3 = 0 then ((pack_Unint.f k (mkB (pc x).dropLast)).bind fun b => C b.2.1 b.2.2 (b.1 == x.f1)) else if Int.tmod x.f0 3 = 1 then ((pack_Unvar.f k (mkB (pc x).dropLast)).bind fun b => C b.2.1 b.2.2 (b.1 == x.f2)) else ((pack_Untext.f k (mkB (pc x).dropLast)).bind fun b => C b.2.1 b.2.2 (b.1.toList == x.f3.toList)))
    = R := by
  rw [arms (l := []) hk x hx _ (by have := pc_len hx; simp; omega) C]
  have hz := zig_lt hx.b.1 hx.b.2
  unfold pc
  by_cases h0 : Int.tmod x.f0 3 = 0
  · rw [if_pos h0, if_pos h0]
    have u2 : unintR (varL (zig x.f1)).dropLast = (0, mkB [], 4) := by unfold unintR; rw [unvar_cut hz]
    rw [u2]; exact hC _ _
  · rw [if_neg h0, if_neg h0]
    by_cases h1 : Int.tmod x.f0 3 = 1
    · rw [if_pos h1, if_pos h1]
      have hc := hx.c
      have u1 : unvarR (varL x.f2.toNat).dropLast = (0, mkB [], 4) := by unfold unvarR; rw [unvar_cut (by omega)]
      rw [u1]; exact hC _ _
    · rw [if_neg h1, if_neg h1]
      have hd := hx.d
      have u3 : untextR (varL x.f3.size ++ x.f3.data.toList).dropLast = (mkB [], mkB [], 4) := by
        have := untext_cut (s := x.f3.data.toList) (by rw [size_data]; omega)
        rw [size_data] at this
        unfold untextR; rw [this]
      rw [u3]; exact hC _ _

theorem l2_end (l : List S59) (s : ByteArray) (i : Nat) (b : Bool) (k : Nat) (hi : i < 1000) (R : Option Bool) (h : sacristanlaw02_PackRow.l1 k l s ((i + 1 : Nat) : Int) = R) : sacristanlaw02_PackRow.l2 (k + 1) l s i b 2 = R := by
  simp only [sacristanlaw02_PackRow.l2]
  rw [if_neg (by omega), w64n i (by omega)]; exact h
theorem l1_ok (l : List S59) (hl : l.length ≤ 30) (hok : ∀ x ∈ l, Ok x) (d : Nat) : ∀ (k i : Nat), i + d = l.length → 12 * d + 20 ≤ k → ∀ s : List UInt8, (i < l.length → s = cc (l.drop i)) →
    sacristanlaw02_PackRow.l1 k l (mkB s) (i : Int) = some true := by
  induction d with
  | zero =>
    intro k i hi hk s hs
    obtain ⟨k, rfl⟩ : ∃ m, k = m + 1 := ⟨k - 1, by omega⟩
    simp only [sacristanlaw02_PackRow.l1]
    rw [if_neg (by omega), known_eq k (by omega)]; rfl
  | succ d ih =>
    intro k i hi hk s hs
    have hi1 : i < l.length := by omega
    have hs := hs hi1
    have hx := rd_ok hok hi1
    rw [cc_drop hi1] at hs
    have hlen : (cc (l.drop i)).length ≤ 309 * 30 := by
      have h1 := cc_len (l := l.drop i) (fun x hx => hok x (List.mem_of_mem_drop hx))
      rw [List.length_drop] at h1; omega
    rw [cc_drop hi1, ← hs] at hlen
    have hp := pc_len hx
    have hsl : 1 ≤ s.length := by rw [hs, List.length_append]; omega
    obtain ⟨k, rfl⟩ : ∃ m, k = m + 8 := ⟨k - 8, by omega⟩
    simp only [sacristanlaw02_PackRow.l1]
    rw [if_pos (by omega)]
    simp only [sacristanlaw02_PackRow.l2]
    rw [if_pos (by omega), if_neg (by omega)]
    simp only [sacristanlaw02_PackRow.j3]
    have e0 : wrap64 (((mkB s).size : Int) - 0) = (s.length : Int) := by rw [mkB_size]; unfold wrap64; omega
    have e1 : (mkB s).extract 0 ((s.length : Int)).toNat = mkB s := by rw [Int.toNat_natCast, mkB_extract]; simp
    rw [if_neg (by simp), e0, if_pos (by omega), if_pos (by rw [mkB_size]; omega), if_pos (by omega), if_pos (by omega), e1]
    have hA := arms_ok (k := k + 5) (by omega) (rd_T59 l i) hx (cc (l.drop (i + 1))) (by rw [← hs]; omega) (fun a b c => sacristanlaw02_PackRow.j4 (k + 5) l (mkB s) i (decide ((i : Int) < wrap64 ((l.length : Int) - 1))) 0 a b c)
    rw [← hs] at hA
    refine hA.trans ?_
    simp only [sacristanlaw02_PackRow.j4]
    rw [if_neg (by omega), if_pos (by simp), if_pos (by simp)]
    have ew : wrap64 ((l.length : Int) - 1) = (l.length : Int) - 1 := by unfold wrap64; omega
    rw [ew]
    by_cases hw : (i : Int) < (l.length : Int) - 1
    · rw [decide_eq_true hw, if_pos (by simp)]
      simp only [sacristanlaw02_PackRow.j5]
      rw [if_neg (by simp), if_pos (by simp), show wrap64 ((0 : Int) + 1) = 1 from by unfold wrap64; omega]
      simp only [sacristanlaw02_PackRow.l2]
      rw [if_pos (by omega), if_pos (by simp), if_pos (by simp)]
      simp only [sacristanlaw02_PackRow.j3]
      rw [if_pos (by simp), show wrap64 ((1 : Int) + 1) = 2 from by unfold wrap64; omega]
      refine l2_end _ _ _ _ _ (by omega) _ (ih _ _ (by omega) (by omega) _ (fun _ => rfl))
    · rw [decide_eq_false hw, if_neg (by simp)]
      have hn : i + 1 = l.length := by omega
      have hr : cc (l.drop (i + 1)) = [] := by rw [hn, List.drop_length]; rfl
      rw [hr] at hs ⊢
      rw [List.append_nil] at hs
      have e2 : ((mkB []).toList != ([] : List UInt8)) = false := by rw [mkB_toList]; rfl
      rw [e2]
      simp only [sacristanlaw02_PackRow.j5]
      rw [if_neg (by simp), if_neg (by simp), show wrap64 ((0 : Int) + 1) = 1 from by unfold wrap64; omega]
      simp only [sacristanlaw02_PackRow.l2]
      have e3 : (((mkB s).size : Int) == 0) = false := beq_eq_false_iff_ne.mpr (by rw [mkB_size]; omega)
      rw [if_pos (by omega), if_pos (by simp), if_neg (by simp), e3]
      simp only [sacristanlaw02_PackRow.j3]
      have e4 : wrap64 (((mkB s).size : Int) - 1) = ((s.length - 1 : Nat) : Int) := by rw [mkB_size]; unfold wrap64; omega
      have e5 : (mkB s).extract 0 (((s.length - 1 : Nat) : Int)).toNat = mkB (pc (rd_T59 l i)).dropLast := by rw [Int.toNat_natCast, mkB_extract, hs, List.dropLast_eq_take]; simp
      have e6 : (((s.length - 1 : Nat) : Int)) ≤ ((mkB s).size : Int) := by rw [mkB_size]; omega
      have e7 : (0 : Int) ≤ ((s.length - 1 : Nat) : Int) := by omega
      rw [if_neg (by simp), e4, if_pos e7, if_pos e6, if_pos (by omega), if_pos (by omega), e5]
      refine arms_cut (k := k + 1) (by omega) (rd_T59 l i) hx (fun a b c => sacristanlaw02_PackRow.j4 _ l (mkB s) i false 1 a b c) _ (fun a b => ?_)
      simp only [sacristanlaw02_PackRow.j4]
      rw [if_pos (by simp), if_pos (by simp), show wrap64 ((1 : Int) + 1) = 2 from by unfold wrap64; omega]
      obtain ⟨k, rfl⟩ : ∃ m, k = m + 1 := ⟨k - 1, by omega⟩
      refine l2_end _ _ _ _ _ (by omega) _ (ih _ _ (by omega) (by omega) _ (fun h => by omega))
end Go.Proofs.Ytipbgeobgppagaa.PureR
