/- What more printed functions of pack compute: Int, Unint, Text, Untext, Fixed, Unfixed; the examples of known. -/
import Derived.Test.YtipbgeobgppagaaRk1
namespace Go.Proofs.Ytipbgeobgppagaa.PureR
open Go.RowKit Go.Proofs.Ytipbgeobgppagaa.Ext Go.Proofs.Ytipbgeobgppagaa.R Go.Proofs.YtipbgeobgppagaaW.PrintWords Go.Proofs.YtipbgeobgppagaaW.PrintLast
open Go.Proofs.Ytipbgeobgppagaa.Pk
set_option linter.unusedVariables false
set_option linter.unusedSimpArgs false

theorem or_one (m : Nat) (h : m < 9223372036854775808) : Go.bits .or .u64 ((m : Int) * 2) 1 = ((2 * m + 1 : Nat) : Int) := by
  have h2 := u64_or_nat (m * 2) 1 (by omega) (by omega)
  rw [show ((m * 2 : Nat) : Int) = (m : Int) * 2 by omega] at h2
  rw [show (1 : Int) = ((1 : Nat) : Int) from rfl, h2]
  congr 1
  rw [Nat.mul_comm m 2]
  exact (Nat.two_pow_add_eq_or_of_lt (i := 1) (by omega) m).symm
theorem and_one (m : Nat) (h : m < 18446744073709551616) : Go.bits .and .u64 (m : Int) 1 = ((m % 2 : Nat) : Int) := by
  have h2 := u64_and_nat m 1 h (by omega)
  rw [show (1 : Int) = ((1 : Nat) : Int) from rfl, h2, Nat.and_one_is_mod]
theorem int_eq (i : Int) (h1 : -9223372036854775808 ≤ i) (h2 : i ≤ 9223372036854775807) : pack_Int.f i = some (mkB (varL (zig i))) := by
  have hz := zig_lt h1 h2
  unfold pack_Int.f
  by_cases h : i < 0
  · rw [if_pos h]
    have e1 : wrap64 (i + 1) = i + 1 := by unfold wrap64; omega
    have e2 : wrap64 (-(i + 1)) = -(i + 1) := by unfold wrap64; omega
    have e3 : IntKind.u64.wrap (-(i + 1)) = (((-(i + 1)).toNat : Nat) : Int) := by rw [IntWalk.u64_in _ (by omega)]; omega
    have e4 : IntKind.u64.wrap ((((-(i + 1)).toNat : Nat) : Int) * 2) = (((-(i + 1)).toNat : Nat) : Int) * 2 := by rw [IntWalk.u64_in _ (by omega)]
    have e5 : zig i = 2 * (-(i + 1)).toNat + 1 := by unfold zig; rw [if_pos h]
    rw [e1, e2, e3, e4, or_one _ (by omega), ← e5, var_eq _ hz]
    rfl
  · rw [if_neg h]
    have e3 : IntKind.u64.wrap i = i := by rw [IntWalk.u64_in _ (by omega)]
    have e4 : IntKind.u64.wrap (i * 2) = ((zig i : Nat) : Int) := by
      have : zig i = 2 * i.toNat := by unfold zig; rw [if_neg h]
      rw [IntWalk.u64_in _ (by omega), this]
      omega
    rw [e3, e4, var_eq _ hz]
    rfl
theorem unvar_lt {l r : List UInt8} {n : Nat} (h : unvarL l = some (n, r)) : n < 18446744073709551616 := (var_unvar h).2
/-- What Unint answers. -/
def unintR (l : List UInt8) : Int × ByteArray × Int := match unvarL l with | none => (0, mkB [], 4) | some (n, r) => (unzig n, mkB r, 0)
theorem unint_eq (k : Nat) (hk : 10 ≤ k) (l : List UInt8) (hl : l.length ≤ 140737488351232) : pack_Unint.f k (mkB l) = some (unintR l) := by
  unfold pack_Unint.f
  rw [unvar_eq k hk l hl, Option.bind_some]
  unfold unvarR unintR
  cases h : unvarL l with
  | none =>
    have := and_one 0 (by omega)
    simp only [show ((0 : Nat) : Int) = 0 from rfl] at this
    simp only [this]
    simp [wrap64]
  | some p =>
    obtain ⟨n, r⟩ := p
    have hn := unvar_lt h
    simp only [and_one n hn]
    have e1 : wrap64 ((n : Int) / 2) = (n : Int) / 2 := by unfold wrap64; omega
    have e2 : wrap64 (-((n : Int) / 2)) = -((n : Int) / 2) := by unfold wrap64; omega
    have e3 : wrap64 (-((n : Int) / 2) - 1) = -((n : Int) / 2) - 1 := by unfold wrap64; omega
    rw [e1, e2, e3]
    unfold unzig
    by_cases h2 : n % 2 = 1
    · rw [if_pos (by omega), if_pos h2]
      congr 2
    · rw [if_neg (by omega), if_neg h2]
      congr 2
theorem text_eq (s : List UInt8) (hs : s.length ≤ 140737488351232) : pack_Text.f (mkB s) = some (mkB (varL s.length ++ s)) := by
  unfold pack_Text.f
  have h9 := varL_length s.length (by omega)
  rw [mkB_size, if_pos hs, var_eq _ (by omega), Option.bind_some, mkB_size, if_pos (by omega), mkB_append]
/-- What Untext answers. -/
def untextR (l : List UInt8) : ByteArray × ByteArray × Int := match untextL l with | none => (mkB [], mkB [], 4) | some (s, r) => (mkB s, mkB r, 0)
theorem untext_eq (k : Nat) (hk : 10 ≤ k) (l : List UInt8) (hl : l.length ≤ 140737488351232) : pack_Untext.f k (mkB l) = some (untextR l) := by
  unfold pack_Untext.f
  rw [unvar_eq k hk l hl, Option.bind_some]
  unfold unvarR untextR untextL
  cases h : unvarL l with
  | none => rfl
  | some p =>
    obtain ⟨n, r⟩ := p
    have hr := unvar_length h
    simp only [mkB_size]
    rw [if_pos trivial, IntWalk.u64_in _ (by omega)]
    by_cases h2 : n > r.length
    · rw [if_pos (by omega), if_pos h2]; rfl
    · rw [if_neg (by omega), if_neg h2, if_pos (by omega), if_pos (by omega), Int.toNat_natCast, mkB_extract, mkB_extract, List.take_of_length_le (Nat.le_refl _)]
      rfl
theorem fixed_eq (k : Nat) (hk : 10 ≤ k) (n : Nat) (hn : n < 18446744073709551616) (w : Int) : pack_Fixed.f k n w =
    some (if w < 1 ∨ 8 < w then (mkB [], 2) else if (lw n : Int) > w then (mkB [], 3) else (mkB (be w.toNat n), 0)) := by
  obtain ⟨k, rfl⟩ : ∃ m, k = m + 1 := ⟨k - 1, by omega⟩
  unfold pack_Fixed.f
  by_cases h1 : w < 1
  · rw [if_pos h1, if_pos (.inl h1)]; simp only [pack_Fixed.j0]; rfl
  · rw [if_neg h1]
    by_cases h2 : 8 < w
    · rw [if_pos (.inr h2)]
      simp only [pack_Fixed.j0]
      rw [if_pos (by simpa using h2)]; rfl
    · rw [if_neg (by omega)]
      simp only [pack_Fixed.j0]
      rw [if_neg (by simpa using h2), least_eq n hn, Option.bind_some]
      by_cases h3 : (lw n : Int) > w
      · rw [if_pos h3, if_pos h3]; rfl
      · obtain ⟨v, rfl⟩ := Int.eq_ofNat_of_zero_le (show 0 ≤ w by omega)
        rw [if_neg h3, if_neg h3, bytes_eq n v hn (by omega), Option.bind_some, Int.toNat_natCast]
theorem known_eq (k : Nat) (hk : 10 ≤ k) : sacristanlaw02_known.f k = some true := by
  unfold sacristanlaw02_known.f
  have h1 : varL (zig (-300)) = [249, 2, 87] := by
    have : zig (-300) = 599 := by decide
    rw [this]
    have : lw 599 = 2 := lw_eq_of (by decide) (by decide)
    simp [varL, this, be]
  rw [int_eq (-300) (by omega) (by omega), Option.bind_some, h1, mkB_size, if_pos (by simp)]
  rw [show mkB [249, 2, 87] ++ (⟨#[120]⟩ : ByteArray) = mkB ([249, 2, 87] ++ [120]) from mkB_append [249, 2, 87] [120]]
  rw [unint_eq k hk _ (by simp), Option.bind_some]
  have h2 : unintR ([249, 2, 87] ++ [120]) = (-300, mkB [120], 0) := by
    unfold unintR
    rw [← h1, unvar_var (by decide)]
    simp only [unzig_zig]
  have hf := fixed_eq k hk 258 (by omega) 3
  rw [show ((258 : Nat) : Int) = 258 from rfl] at hf
  have h3 : lw 258 = 2 := lw_eq_of (by decide) (by decide)
  rw [h3] at hf
  have hf2 : pack_Fixed.f k 258 3 = some (mkB (be 3 258), 0) := by rw [hf]; rfl
  rw [h2, hf2, Option.bind_some, if_pos rfl, if_pos (mkB_toList _), if_pos rfl]
  unfold sacristanlaw02_of.f
  rw [Option.bind_some, if_pos (congrArg ByteArray.toList (show mkB (be 3 258) = strOfNums [0, 1, 2] from rfl))]
  rfl
end Go.Proofs.Ytipbgeobgppagaa.PureR
