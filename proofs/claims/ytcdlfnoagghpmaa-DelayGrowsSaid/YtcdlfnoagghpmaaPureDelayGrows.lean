/- The plain law of DelayGrows. -/
import Derived.Test.YtcdlfnoagghpmaaDelP
import Derived.Test.YtcdlfnoagghpmaaD4
namespace Go.Proofs.Ytcdlfnoagghpmaa.Pure
open Go.RowKit Go.Proofs.Ytcdlfnoagghpmaa Go.Proofs.Ytcdlfnoagghpmaa.Ext Go.Proofs.Ytcdlfnoagghpmaa.D Go.Proofs.YtcdlfnoagghpmaaW.PrintWords Go.Proofs.YtcdlfnoagghpmaaW.PrintLast Go.Proofs.YtcdlfnoagghpmaaW.PrintMore
set_option linter.unusedVariables false
set_option linter.unusedSimpArgs false

theorem j0_false (k : Nat) (n x y : Int) (b1 : Bool) (l wd b m : Int) (hk : 50 ≤ k) (h1 : n = 0 → x = b ∧ y = b) (h2 : 0 < n → y < m → y = wrap64 (2 * x)) (h3 : 0 < n → wrap64 (2 * x) ≤ m → y = wrap64 (2 * x)) (h4 : 42 ≤ n → y = m) :
    sacristanlaw11_DelayGrows.j0 k n x y false b1 l wd b m = some true := by
  obtain ⟨k, rfl⟩ : ∃ q, k = q + 1 := ⟨k - 1, by omega⟩
  simp only [sacristanlaw11_DelayGrows.j0]
  rw [if_neg (by decide), awake_eq k (by omega)]
  simp only [Option.bind_some]
  generalize wrap64 (2 * x) = z at *
  (repeat' split) <;> first | rfl | (exfalso; omega)
theorem DelayGrows : sacristanlaw11_DelayGrows.Pure := by
  intro a b n _ _ _
  obtain ⟨bs, m, h1, h2, h3, hv⟩ := valid_eq a b
  obtain ⟨l, wd, hv, hok⟩ := hv 0 0
  have hn := red64 n
  refine ⟨60, ?_⟩
  unfold sacristanlaw11_DelayGrows.f
  rw [hv, Option.bind_some]
  generalize Int.tmod (wrap64 ((Int.tmod n 64) + 64)) 64 = n at *
  rw [show wrap64 (n + 1) = n + 1 by unfold wrap64; omega]
  rw [after_f _ _ _ _ _ _ (by omega), after_f _ _ _ _ _ _ (by omega), aftF_ok hok (by omega), aftF_ok hok (by omega)]
  simp only [Option.bind_some]
  have hx := dly_bd h1 h2 (max n 1 - 1).toNat
  have hy := dly_bd h1 h2 (max (n + 1) 1 - 1).toNat
  have hxy : (n = 0 ∧ aftV bs m n = bs ∧ aftV bs m (n + 1) = bs) ∨ (0 < n ∧ aftV bs m (n + 1) = min (2 * aftV bs m n) m) := by
    by_cases h0 : n = 0
    · subst h0; exact .inl ⟨rfl, rfl, rfl⟩
    · refine .inr ⟨by omega, ?_⟩
      unfold aftV
      rw [show (max (n + 1) 1 - 1).toNat = (max n 1 - 1).toNat + 1 by omega]; rfl
  have hf : 42 ≤ n → aftV bs m (n + 1) = m := fun h => dly_far h1 h2 h3 _ (by omega)
  have hb : 0 < n → bs ≤ aftV bs m n := fun _ => by
    have : ∀ k, bs ≤ dly bs m k := fun k => by
      induction k with
      | zero => exact Int.le_refl _
      | succ k ih => have := dly_bd h1 h2 k; simp only [dly]; omega
    exact this _
  change 1 ≤ aftV bs m n ∧ aftV bs m n ≤ m at hx
  change 1 ≤ aftV bs m (n + 1) ∧ aftV bs m (n + 1) ≤ m at hy
  generalize aftV bs m n = x at *
  generalize aftV bs m (n + 1) = y at *
  have hw : wrap64 (2 * x) = 2 * x := by unfold wrap64; omega
  rw [if_pos trivial, if_pos trivial, if_neg (by omega), if_neg (by omega), if_neg (by omega), if_neg (by omega)]
  rw [show decide (y > m) = false by simp; omega]
  exact j0_false 60 n x y false l wd bs m (by omega) (by omega) (by omega) (by omega) (by omega)
end Go.Proofs.Ytcdlfnoagghpmaa.Pure
