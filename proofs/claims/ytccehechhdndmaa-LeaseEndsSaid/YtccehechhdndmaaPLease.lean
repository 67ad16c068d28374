/- Plain laws of leases: what the reference's printed functions are. -/
import Derived.Test.YtccehechhdndmaaL2
namespace Go.Proofs.Ytccehechhdndmaa.Pure
open Go.RowKit Go.Proofs.Ytccehechhdndmaa Go.Proofs.Ytccehechhdndmaa.Ext Go.Proofs.Ytccehechhdndmaa.L Go.Proofs.YtccehechhdndmaaW.PrintWords Go.Proofs.YtccehechhdndmaaW.PrintLast Go.Proofs.YtccehechhdndmaaW.PrintMore
set_option linter.unusedVariables false
set_option linter.unusedSimpArgs false

theorem tickB_iff (a n : Int) : tickB a n = true ↔ (-1 ≤ a ∧ a ≤ 1099511627776) ∧ (0 ≤ n ∧ n ≤ 1099511627776) := by simp [tickB, inB_iff]
theorem ref_check (c0 c1 c2 c3 c4 c5 c6 c7 c8 c9 c10 a n : Int) : sacristanref15_check.f c0 c1 c2 c3 c4 c5 c6 c7 c8 c9 c10 a n = some (if cfgB c0 c1 c2 c3 c4 c5 c6 c7 c8 c9 c10 = true ∧ tickB a n = true then 0 else 3) := by
  unfold sacristanref15_check.f
  simp only [sacristanref13_Config.f, Option.bind_some]
  by_cases h : cfgB c0 c1 c2 c3 c4 c5 c6 c7 c8 c9 c10 = true
  · rw [h, if_pos (show errI true = 0 from rfl)]
    by_cases h2 : tickB a n = true
    · have := (tickB_iff _ _).1 h2
      rw [if_neg (by omega), if_neg (by omega), if_neg (by omega), if_neg (by omega), if_pos ⟨rfl, h2⟩]
    · have : ¬ ((-1 ≤ a ∧ a ≤ 1099511627776) ∧ (0 ≤ n ∧ n ≤ 1099511627776)) := fun q => h2 ((tickB_iff _ _).2 q)
      rw [if_neg (c := true = true ∧ tickB a n = true) (fun q => h2 q.2)]
      (repeat' split) <;> first | rfl | omega
  · have h' : cfgB c0 c1 c2 c3 c4 c5 c6 c7 c8 c9 c10 = false := by simpa using h
    rw [h', if_neg (by decide), if_neg (by simp)]; rfl
theorem ref_over (c0 c1 c2 c3 c4 c5 c6 c7 c8 c9 c10 a n : Int) : sacristanref15_Over.f c0 c1 c2 c3 c4 c5 c6 c7 c8 c9 c10 a n = some (overF c0 c1 c2 c3 c4 c5 c6 c7 c8 c9 c10 a n) := by
  unfold sacristanref15_Over.f overF
  rw [ref_check, Option.bind_some]
  by_cases h : cfgB c0 c1 c2 c3 c4 c5 c6 c7 c8 c9 c10 = true ∧ tickB a n = true
  · rw [if_pos h, if_pos rfl, if_pos h]
    have h1 := cfgB_bd h.1
    have h2 := (tickB_iff _ _).1 h.2
    by_cases h3 : a = -1
    · rw [if_pos h3, overB, show decide (a < 0) = true by simp; omega]; rfl
    · rw [if_neg h3, overB, show decide (a < 0) = false by simp; omega, show wrap64 (a + c8) = a + c8 by unfold wrap64; omega]; rfl
  · rw [if_neg h, if_neg (by decide), if_neg h]
theorem ref_fenced (c0 c1 c2 c3 c4 c5 c6 c7 c8 c9 c10 a n : Int) : sacristanref15_Fenced.f c0 c1 c2 c3 c4 c5 c6 c7 c8 c9 c10 a n = some (fencedF c0 c1 c2 c3 c4 c5 c6 c7 c8 c9 c10 a n) := by
  unfold sacristanref15_Fenced.f fencedF
  rw [ref_check, Option.bind_some]
  by_cases h : cfgB c0 c1 c2 c3 c4 c5 c6 c7 c8 c9 c10 = true ∧ tickB a n = true
  · rw [if_pos h, if_pos rfl, if_pos h]
    have h1 := cfgB_bd h.1
    have h2 := (tickB_iff _ _).1 h.2
    by_cases h3 : a = -1
    · rw [if_pos h3, fencedB, show decide (a < 0) = true by simp; omega]; rfl
    · rw [if_neg h3, fencedB, show decide (a < 0) = false by simp; omega, show wrap64 (a + c8) = a + c8 by unfold wrap64; omega, show wrap64 (a + c8 + c9) = a + c8 + c9 by unfold wrap64; omega]; rfl
  · rw [if_neg h, if_neg (by decide), if_neg h]
theorem ref_due (c0 c1 c2 c3 c4 c5 c6 c7 c8 c9 c10 a n : Int) : sacristanref15_Due.f c0 c1 c2 c3 c4 c5 c6 c7 c8 c9 c10 a n = some (dueF c0 c1 c2 c3 c4 c5 c6 c7 c8 c9 c10 a n) := by
  unfold sacristanref15_Due.f dueF
  rw [ref_check, Option.bind_some]
  by_cases h : cfgB c0 c1 c2 c3 c4 c5 c6 c7 c8 c9 c10 = true ∧ tickB a n = true
  · rw [if_pos h, if_pos rfl, if_pos h]
    have h1 := cfgB_bd h.1
    have h2 := (tickB_iff _ _).1 h.2
    by_cases h3 : a = -1
    · rw [if_pos h3, dueB, show decide (a < 0) = true by simp; omega]; rfl
    · rw [if_neg h3, dueB, show decide (a < 0) = false by simp; omega, show wrap64 (a + c7) = a + c7 by unfold wrap64; omega]; rfl
  · rw [if_neg h, if_neg (by decide), if_neg h]
theorem awake_eq : sacristanlaw15_awake.f = some true := by decide +kernel
theorem says_eq (c0 c1 c2 c3 c4 c5 c6 c7 c8 c9 c10 a n : Int) (h : cfgB c0 c1 c2 c3 c4 c5 c6 c7 c8 c9 c10 = true) (h2 : tickB a n = true) : sacristanlaw15_says.f c0 c1 c2 c3 c4 c5 c6 c7 c8 c9 c10 a n = some (overB c8 a n, fencedB c8 c9 a n, dueB c7 a n, true) := by
  have e1 : overF c0 c1 c2 c3 c4 c5 c6 c7 c8 c9 c10 a n = (overB c8 a n, 0) := if_pos ⟨h, h2⟩
  have e2 : fencedF c0 c1 c2 c3 c4 c5 c6 c7 c8 c9 c10 a n = (fencedB c8 c9 a n, 0) := if_pos ⟨h, h2⟩
  have e3 : dueF c0 c1 c2 c3 c4 c5 c6 c7 c8 c9 c10 a n = (dueB c7 a n, 0) := if_pos ⟨h, h2⟩
  unfold sacristanlaw15_says.f
  simp only [lease_Over.f, lease_Fenced.f, lease_Due.f, e1, e2, e3, Option.bind_some]
  rfl
theorem matches_eq (k : Nat) (hk : 5 ≤ k) (c0 c1 c2 c3 c4 c5 c6 c7 c8 c9 c10 a n : Int) : sacristanlaw15_LeaseMatches.f k c0 c1 c2 c3 c4 c5 c6 c7 c8 c9 c10 a n = some true := by
  obtain ⟨k, rfl⟩ : ∃ m, k = m + 5 := ⟨k - 5, by omega⟩
  unfold sacristanlaw15_LeaseMatches.f
  simp only [lease_Over.f, ref_over, Option.bind_some, bne_self_eq_false, sacristanlaw15_LeaseMatches.j0, lease_Fenced.f, ref_fenced, sacristanlaw15_LeaseMatches.j1, lease_Due.f, ref_due, beq_self_eq_true, awake_eq]
  simp
theorem red (a M : Int) (h0 : 0 < M) (h1 : M ≤ 2199023255552) : 0 ≤ Int.tmod (wrap64 ((Int.tmod a M) + M)) M ∧ Int.tmod (wrap64 ((Int.tmod a M) + M)) M < M := by
  have h2 := Int.tmod_lt_of_pos a h0
  have h3 := Int.lt_tmod_of_pos a h0
  rw [show wrap64 (Int.tmod a M + M) = Int.tmod a M + M by unfold wrap64; omega]
  exact ⟨Int.tmod_nonneg _ (by omega), Int.tmod_lt_of_pos _ h0⟩
/-- The configuration of the examples with other numbers is valid. -/
theorem plain_ok {b l g : Int} (h : 1 ≤ b ∧ b ≤ 1099511627776) (h2 : 1 ≤ l ∧ l ≤ 1099511627776) (h3 : 0 ≤ g ∧ g ≤ 1099511627776) : cfgB 10 10 10 2 48 2 2 b l g 3 = true := by
  unfold cfgB
  rw [(inB_iff b _ _).2 h, (inB_iff l _ _).2 h2, (inB_iff g _ _).2 h3]
  decide
theorem overB_iff (l a n : Int) : overB l a n = true ↔ a < 0 ∨ a + l < n := by simp [overB]
theorem fencedB_iff (l g a n : Int) : fencedB l g a n = true ↔ a < 0 ∨ a + l + g < n := by simp [fencedB]
theorem dueB_iff (b a n : Int) : dueB b a n = true ↔ a < 0 ∨ a + b ≤ n := by simp [dueB]
end Go.Proofs.Ytccehechhdndmaa.Pure
