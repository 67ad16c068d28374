/- The plain law of PackBack: what was written is read, and what is read is what would be written. -/
import Derived.Test.YtipbgeobgppagaaPk2
import Derived.Test.YtipbgeobgppagaaX8
namespace Go.Proofs.Ytipbgeobgppagaa.Pure
open Go.RowKit Go.Proofs.Ytipbgeobgppagaa.Ext Go.Proofs.Ytipbgeobgppagaa.X Go.Proofs.YtipbgeobgppagaaW.PrintWords Go.Proofs.YtipbgeobgppagaaW.PrintLast
open Go.Proofs.Ytipbgeobgppagaa.Pk
set_option linter.unusedVariables false
set_option linter.unusedSimpArgs false

theorem back_j4 (k : Nat) (hk : 20 ≤ k) (t : List UInt8) (ht : t.length ≤ 600) : sacristanlaw02_PackBack.j4 k (mkB t) false = some true := by
  obtain ⟨k, rfl⟩ : ∃ m, k = m + 1 := ⟨k - 1, by omega⟩
  simp only [sacristanlaw02_PackBack.j4]
  rw [if_neg (by simp), untext_eq k (by omega) t (by omega), Option.bind_some]
  unfold untextR
  cases h : untextL t with
  | none => simp only []; rw [if_neg (by omega), known_eq k (by omega)]; rfl
  | some p =>
    obtain ⟨s, r⟩ := p
    have hb := text_untext h
    have hl : s.length ≤ 600 := by rw [← hb] at ht; simp at ht; omega
    have hr : (varL s.length ++ s).length + r.length ≤ 600 := by rw [← hb] at ht; simp at ht ⊢; omega
    simp only []
    rw [if_pos trivial, text_eq s (by omega), Option.bind_some, mkB_size, mkB_size, if_pos (by omega), mkB_append, hb, if_pos rfl, known_eq k (by omega)]
    rfl
theorem back_j3 (k : Nat) (hk : 30 ≤ k) (t : List UInt8) (ht : t.length ≤ 600) : sacristanlaw02_PackBack.j3 k (mkB t) false = some true := by
  obtain ⟨k, rfl⟩ : ∃ m, k = m + 1 := ⟨k - 1, by omega⟩
  simp only [sacristanlaw02_PackBack.j3]
  rw [if_neg (by simp), unint_eq k (by omega) t (by omega), Option.bind_some]
  unfold unintR
  cases h : unvarL t with
  | none => simp only []; rw [if_neg (by omega)]; exact back_j4 k (by omega) t ht
  | some p =>
    obtain ⟨n, r⟩ := p
    obtain ⟨hb, hn⟩ := var_unvar h
    have hd := unzig_bd hn
    have hr : (varL n).length + r.length ≤ 600 := by rw [← hb] at ht; simpa using ht
    simp only []
    rw [if_pos trivial, int_eq _ hd.1 hd.2, zig_unzig, Option.bind_some, mkB_size, mkB_size, if_pos (by omega), mkB_append, hb]
    rw [show (((mkB t).toList != (mkB t).toList)) = false by simp]
    exact back_j4 k (by omega) t ht
theorem back_j2 (k : Nat) (hk : 40 ≤ k) (t : List UInt8) (ht : t.length ≤ 600) : sacristanlaw02_PackBack.j2 k (mkB t) false = some true := by
  obtain ⟨k, rfl⟩ : ∃ m, k = m + 1 := ⟨k - 1, by omega⟩
  simp only [sacristanlaw02_PackBack.j2]
  rw [if_neg (by simp), unvar_eq k (by omega) t (by omega), Option.bind_some]
  unfold unvarR
  cases h : unvarL t with
  | none => simp only []; rw [if_neg (by omega)]; exact back_j3 k (by omega) t ht
  | some p =>
    obtain ⟨n, r⟩ := p
    obtain ⟨hb, hn⟩ := var_unvar h
    have hr : (varL n).length + r.length ≤ 600 := by rw [← hb] at ht; simpa using ht
    simp only []
    rw [if_pos trivial, var_eq n hn, Option.bind_some, mkB_size, mkB_size, if_pos (by omega), mkB_append, hb]
    rw [show (((mkB t).toList != (mkB t).toList)) = false by simp]
    exact back_j3 k (by omega) t ht
theorem back_j1 (k : Nat) (hk : 50 ≤ k) (n : Nat) (hn : n < 18446744073709551616) (i : Int) (h1 : -9223372036854775808 ≤ i) (h2 : i ≤ 9223372036854775807) (s t : List UInt8) (hs : s.length ≤ 600) (ht : t.length ≤ 600) :
    sacristanlaw02_PackBack.j1 k n i (mkB s) (mkB t) = some true := by
  obtain ⟨k, rfl⟩ : ∃ m, k = m + 1 := ⟨k - 1, by omega⟩
  have l1 := varL_length n hn
  have hz := zig_lt h1 h2
  have l2 := varL_length (zig i) hz
  have l3 := varL_length s.length (by omega)
  simp only [sacristanlaw02_PackBack.j1]
  have u1 : unvarR (varL n ++ t) = ((n : Int), mkB t, 0) := by unfold unvarR; rw [unvar_var hn]
  have u2 : unintR (varL (zig i) ++ t) = (i, mkB t, 0) := by unfold unintR; rw [unvar_var hz]; simp only [unzig_zig]
  have u3 : untextR (varL s.length ++ s ++ t) = (mkB s, mkB t, 0) := by unfold untextR; rw [untext_text s t (by omega)]
  rw [var_eq n hn, Option.bind_some, mkB_size, mkB_size, if_pos (by omega), mkB_append, unvar_eq k (by omega) _ (by simp; omega), Option.bind_some, u1]
  rw [int_eq i h1 h2, Option.bind_some, mkB_size, if_pos (by omega), mkB_append, unint_eq k (by omega) _ (by simp; omega), Option.bind_some, u2]
  rw [text_eq s (by omega), Option.bind_some, mkB_size, if_pos (by simp; omega), mkB_append, untext_eq k (by omega) _ (by simp; omega), Option.bind_some, u3]
  simp only [if_true, show ((0 : Int) != 0) = false from rfl]
  exact back_j2 k (by omega) t ht
theorem PackBack : sacristanlaw02_PackBack.Pure := by
  intro a0 a1 a2 a3 a4 w0 w1 w2 w3 w4
  have b0 := Go.bounds_u64 w0
  have b2 := Go.bounds_i64 w2
  obtain ⟨n, rfl⟩ := Int.eq_ofNat_of_zero_le b0.1
  have hn : n < 18446744073709551616 := by omega
  obtain ⟨s, rfl⟩ : ∃ l, a3 = mkB l := ⟨_, (mkB_data a3).symm⟩
  obtain ⟨t, rfl⟩ : ∃ l, a4 = mkB l := ⟨_, (mkB_data a4).symm⟩
  refine ⟨101, ?_⟩
  unfold sacristanlaw02_PackBack.f
  rw [mkB_size, mkB_size]
  have big : sacristanlaw02_PackBack.j0 101 n a1 a2 (mkB s) (mkB t) true = some true := by
    simp only [sacristanlaw02_PackBack.j0]
    rw [if_pos trivial, known_eq 100 (by omega)]
    rfl
  by_cases hs : s.length ≤ 600
  · rw [if_neg (by omega)]
    by_cases ht : t.length ≤ 600
    · rw [show decide ((t.length : Int) > 600) = false by simp; omega]
      simp only [sacristanlaw02_PackBack.j0]
      rw [if_neg (by simp), fixed_eq 100 (by omega) n hn a1, Option.bind_some]
      have hj := back_j1 100 (by omega) n hn a2 b2.1 b2.2 s t hs ht
      by_cases h1 : a1 < 1 ∨ 8 < a1
      · rw [if_pos h1]
        simp only []
        rw [if_neg (by omega), hj]
      · rw [if_neg h1]
        by_cases h2 : (lw n : Int) > a1
        · rw [if_pos h2]
          simp only []
          rw [if_neg (by omega), hj]
        · obtain ⟨v, rfl⟩ := Int.eq_ofNat_of_zero_le (show 0 ≤ a1 by omega)
          have hv : vl (be v n) = n := vl_be_lt ((lw_le_iff n v).1 (by omega))
          rw [if_neg h2]
          simp only [Int.toNat_natCast]
          rw [if_pos trivial, unfixed_eq 100 (by omega), be_length, if_neg (by omega), Option.bind_some, hv]
          simp only [mkB_size, be_length]
          rw [if_pos trivial, if_pos trivial, if_pos trivial, hj]
    · rw [show decide ((t.length : Int) > 600) = true by simp; omega]
      exact big
  · rw [if_pos (by omega)]
    exact big
end Go.Proofs.Ytipbgeobgppagaa.Pure
