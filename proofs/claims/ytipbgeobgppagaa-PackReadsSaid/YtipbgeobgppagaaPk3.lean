/- What the printed functions of the reference of pack compute. -/
import Derived.Test.YtipbgeobgppagaaPk2
namespace Go.Proofs.Ytipbgeobgppagaa.Pure
open Go.RowKit Go.Proofs.Ytipbgeobgppagaa.Ext Go.Proofs.Ytipbgeobgppagaa.X Go.Proofs.YtipbgeobgppagaaW.PrintWords Go.Proofs.YtipbgeobgppagaaW.PrintLast
open Go.Proofs.Ytipbgeobgppagaa.Pk
set_option linter.unusedVariables false
set_option linter.unusedSimpArgs false

theorem tdiv_256 (n : Nat) (hn : n < 18446744073709551616) : IntKind.u64.wrap (Int.tdiv (n : Int) 256) = ((n / 256 : Nat) : Int) := by
  rw [Int.tdiv_eq_ediv_of_nonneg (by omega), IntWalk.u64_in _ (by omega)]
  omega
theorem width_l0 (d : Nat) : ∀ (k n c : Nat), n < 18446744073709551616 → lw n ≤ d → d < k → c + d ≤ 1000 →
    sacristanref02_Width.l0 k n c = some ((c + (lw n - 1) : Nat) : Int) := by
  induction d with
  | zero =>
    intro k n c hn hd hk hc
    obtain ⟨k, rfl⟩ : ∃ m, k = m + 1 := ⟨k - 1, by omega⟩
    have : n = 0 := by
      have := (lw_le_iff n 0).1 hd
      simpa using this
    subst this
    simp only [sacristanref02_Width.l0]
    rw [if_neg (by omega), lw_zero]
    rfl
  | succ d ih =>
    intro k n c hn hd hk hc
    obtain ⟨k, rfl⟩ : ∃ m, k = m + 1 := ⟨k - 1, by omega⟩
    simp only [sacristanref02_Width.l0]
    by_cases h : n > 255
    · have h1 : lw n = lw (n / 256) + 1 := lw_pos (by omega)
      have h2 : lw (n / 256) ≠ 0 := by rw [lw_pos (by omega)]; omega
      rw [if_pos (by omega), tdiv_256 n hn, show wrap64 ((c : Int) + 1) = ((c + 1 : Nat) : Int) from by unfold wrap64; omega]
      rw [ih k (n / 256) (c + 1) (by omega) (by omega) (by omega) (by omega)]
      congr 2
      omega
    · have h1 : lw n ≤ 1 := (lw_le_iff n 1).2 (by omega)
      rw [if_neg (by omega)]
      congr 2
      omega
theorem width_eq (k : Nat) (hk : 10 ≤ k) (n : Nat) (hn : n < 18446744073709551616) : sacristanref02_Width.f k n = some ((1 + (lw n - 1) : Nat) : Int) := by
  unfold sacristanref02_Width.f
  exact width_l0 8 k n 1 hn (lw_le_8 hn) (by omega) (by omega)
theorem refbytes_l0 (i : Nat) : ∀ (k n : Nat) (xs : List Int), n < 18446744073709551616 → i ≤ xs.length → xs.length ≤ 100 → i < k →
    sacristanref02_bytes.l0 k n xs ((i : Int) - 1) = some (strOfNums (beB i n ++ xs.drop i)) := by
  induction i with
  | zero =>
    intro k n xs hn hi hx hk
    obtain ⟨k, rfl⟩ : ∃ m, k = m + 1 := ⟨k - 1, by omega⟩
    simp only [sacristanref02_bytes.l0]
    rw [if_neg (by omega)]
    rfl
  | succ i ih =>
    intro k n xs hn hi hx hk
    obtain ⟨k, rfl⟩ : ∃ m, k = m + 1 := ⟨k - 1, by omega⟩
    simp only [sacristanref02_bytes.l0]
    have e : (((i + 1 : Nat) : Int) - 1) = (i : Int) := by omega
    rw [e, if_pos (by omega), if_pos (by omega), if_pos (by omega), tdiv_256 n hn, Int.toNat_natCast]
    rw [show wrap64 ((i : Int) - 1) = (i : Int) - 1 from by unfold wrap64; omega]
    rw [ih k (n / 256) _ (by omega) (by simp; omega) (by simpa using hx) (by omega)]
    have e2 : Int.tmod (n : Int) 256 % 256 = (n : Int) % 256 := by rw [Int.tmod_eq_emod_of_nonneg (by omega)]; omega
    rw [e2, beB]
    congr 1
    rw [List.append_assoc]
    congr 2
    rw [List.drop_eq_getElem_cons (by simp; omega)]
    simp [List.drop_set_of_lt]
theorem refbytes_eq (k : Nat) (n w : Nat) (hn : n < 18446744073709551616) (hw : w ≤ 100) (hk : w < k) : sacristanref02_bytes.f k n w = some (mkB (be w n)) := by
  unfold sacristanref02_bytes.f
  rw [if_pos (by omega), if_pos (by omega), Int.toNat_natCast]
  rw [show wrap64 ((w : Int) - 1) = (w : Int) - 1 from by unfold wrap64; omega]
  rw [refbytes_l0 w k n _ hn (by simp) (by simp; omega) hk, List.drop_of_length_le (by simp), List.append_nil, beB_eq]
theorem rvar_eq (k : Nat) (hk : 20 ≤ k) (n : Nat) (hn : n < 18446744073709551616) : sacristanref02_Var.f k n = some (mkB (varL n)) := by
  unfold sacristanref02_Var.f varL
  have h8 := lw_le_8 hn
  by_cases h : n < 248
  · rw [if_pos (by omega), if_pos h]
    have := refbytes_eq k n 1 hn (by omega) (by omega)
    rw [show ((1 : Nat) : Int) = 1 from rfl] at this
    rw [this, Option.bind_some]
    have e : be 1 n = [UInt8.ofNat n] := by simp [be, Nat.mod_eq_of_lt (show n < 256 by omega)]
    rw [e]
  · have h1 : 1 ≤ lw n := by rw [lw_pos (by omega)]; omega
    rw [if_neg (by omega), if_neg h, width_eq k (by omega) n hn, Option.bind_some]
    rw [show 1 + (lw n - 1) = lw n by omega]
    rw [show wrap64 (247 + ((lw n : Nat) : Int)) = ((247 + lw n : Nat) : Int) from by unfold wrap64; omega, IntWalk.u64_in _ (by omega)]
    have := refbytes_eq k (247 + lw n) 1 (by omega) (by omega) (by omega)
    rw [show ((1 : Nat) : Int) = 1 from rfl] at this
    have e : be 1 (247 + lw n) = [UInt8.ofNat (247 + lw n)] := by simp [be, Nat.mod_eq_of_lt (show 247 + lw n < 256 by omega)]
    rw [this, Option.bind_some, Option.bind_some, refbytes_eq k n (lw n) hn (by omega) (by omega), Option.bind_some, mkB_size, mkB_size, be_length, be_length, if_pos (by omega), mkB_append, e]
    rfl
theorem rint_eq (k : Nat) (hk : 20 ≤ k) (i : Int) (h1 : -9223372036854775808 ≤ i) (h2 : i ≤ 9223372036854775807) : sacristanref02_Int.f k i = some (mkB (varL (zig i))) := by
  have hz := zig_lt h1 h2
  unfold sacristanref02_Int.f
  by_cases h : i < 0
  · rw [if_pos h]
    have e1 : wrap64 (i + 1) = i + 1 := by unfold wrap64; omega
    have e2 : wrap64 (-(i + 1)) = -(i + 1) := by unfold wrap64; omega
    have e3 : IntKind.u64.wrap (-(i + 1)) = -(i + 1) := IntWalk.u64_in _ (by omega)
    have e4 : IntKind.u64.wrap (2 * -(i + 1)) = 2 * -(i + 1) := IntWalk.u64_in _ (by omega)
    have e5 : IntKind.u64.wrap (2 * -(i + 1) + 1) = ((zig i : Nat) : Int) := by
      have : zig i = 2 * (-(i + 1)).toNat + 1 := by unfold zig; rw [if_pos h]
      rw [IntWalk.u64_in _ (by omega), this]
      omega
    rw [e1, e2, e3, e4, e5, rvar_eq k hk _ hz]
    rfl
  · rw [if_neg h]
    have e3 : IntKind.u64.wrap i = i := IntWalk.u64_in _ (by omega)
    have e4 : IntKind.u64.wrap (2 * i) = ((zig i : Nat) : Int) := by
      have : zig i = 2 * i.toNat := by unfold zig; rw [if_neg h]
      rw [IntWalk.u64_in _ (by omega), this]
      omega
    rw [e3, e4, rvar_eq k hk _ hz]
    rfl
theorem rtext_eq (k : Nat) (hk : 20 ≤ k) (s : List UInt8) (hs : s.length ≤ 140737488351232) : sacristanref02_Text.f k (mkB s) = some (mkB (varL s.length ++ s)) := by
  unfold sacristanref02_Text.f
  have h9 := varL_length s.length (by omega)
  rw [mkB_size, if_pos hs, rvar_eq k hk _ (by omega), Option.bind_some, mkB_size, if_pos (by omega), mkB_append]
theorem rfixed_eq (k : Nat) (hk : 20 ≤ k) (n : Nat) (hn : n < 18446744073709551616) (w : Int) : sacristanref02_Fixed.f k n w =
    some (if w < 1 ∨ 8 < w then (mkB [], 2) else if (lw n : Int) > w then (mkB [], 3) else (mkB (be w.toNat n), 0)) := by
  obtain ⟨k, rfl⟩ : ∃ m, k = m + 1 := ⟨k - 1, by omega⟩
  unfold sacristanref02_Fixed.f
  by_cases h1 : w < 1
  · rw [if_pos h1, if_pos (.inl h1)]; simp only [sacristanref02_Fixed.j0]; rfl
  · rw [if_neg h1]
    by_cases h2 : 8 < w
    · rw [if_pos (.inr h2)]
      simp only [sacristanref02_Fixed.j0]
      rw [if_pos (by simpa using h2)]; rfl
    · rw [if_neg (by omega)]
      simp only [sacristanref02_Fixed.j0]
      rw [if_neg (by simpa using h2), width_eq k (by omega) n hn, Option.bind_some]
      by_cases h3 : (lw n : Int) > w
      · rw [if_pos h3, if_pos (by omega)]; rfl
      · obtain ⟨v, rfl⟩ := Int.eq_ofNat_of_zero_le (show 0 ≤ w by omega)
        rw [if_neg h3, if_neg (by omega), refbytes_eq k n v hn (by omega) (by omega), Option.bind_some, Int.toNat_natCast]
end Go.Proofs.Ytipbgeobgppagaa.Pure
