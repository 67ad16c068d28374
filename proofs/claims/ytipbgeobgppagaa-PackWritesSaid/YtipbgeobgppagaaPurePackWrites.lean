/- The plain law of PackWrites: Fixed, Var, Int and Text write what the reference writes. -/
import Derived.Test.YtipbgeobgppagaaPk3
namespace Go.Proofs.Ytipbgeobgppagaa.Pure
open Go.RowKit Go.Proofs.Ytipbgeobgppagaa.Ext Go.Proofs.Ytipbgeobgppagaa.X Go.Proofs.YtipbgeobgppagaaW.PrintWords Go.Proofs.YtipbgeobgppagaaW.PrintLast
open Go.Proofs.Ytipbgeobgppagaa.Pk

theorem PackWrites : sacristanlaw02_PackWrites.Pure := by
  intro a0 a1 a2 a3 w0 w1 w2 w3
  have b0 := Go.bounds_u64 w0
  have b2 := Go.bounds_i64 w2
  obtain ⟨n, rfl⟩ := Int.eq_ofNat_of_zero_le b0.1
  have hn : n < 18446744073709551616 := by omega
  obtain ⟨s, rfl⟩ : ∃ l, a3 = mkB l := ⟨_, (mkB_data a3).symm⟩
  rw [mkB_size] at w3
  refine ⟨100, ?_⟩
  unfold sacristanlaw02_PackWrites.f
  rw [mkB_size]
  by_cases hs : (s.length : Int) > 2000
  · rw [if_pos hs, known_eq 100 (by omega)]; rfl
  · rw [if_neg hs, fixed_eq 100 (by omega) n hn a1, Option.bind_some, rfixed_eq 100 (by omega) n hn a1, Option.bind_some, if_pos rfl, if_pos rfl]
    rw [var_eq n hn, Option.bind_some, rvar_eq 100 (by omega) n hn, Option.bind_some, if_pos rfl]
    rw [int_eq a2 b2.1 b2.2, Option.bind_some, rint_eq 100 (by omega) a2 b2.1 b2.2, Option.bind_some, if_pos rfl]
    rw [text_eq s (by omega), Option.bind_some, rtext_eq 100 (by omega) s (by omega), Option.bind_some, if_pos rfl, known_eq 100 (by omega)]
    rfl
end Go.Proofs.Ytipbgeobgppagaa.Pure
