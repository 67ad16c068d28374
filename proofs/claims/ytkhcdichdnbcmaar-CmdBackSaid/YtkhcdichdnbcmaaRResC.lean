/- The contract of res.Check. -/
import Derived.Test.YtkhcdichdnbcmaaRBase
import Derived.Test.YtkhcdichdnbcmaaRProg
import Derived.Lib.Hide
namespace Go.Proofs.YtkhcdichdnbcmaaR
open Go.RowKit
set_option linter.unusedSimpArgs false
set_option linter.unusedVariables false

def okI (a : Int) : Bool := decide (0 ≤ a) && decide (a ≤ 1099511627776)
def okR (a b c : Int) : Bool := okI a && okI b && okI c
def errI (b : Bool) : Int := if b then 0 else 3

theorem okR_iff (a b c : Int) : okR a b c = true ↔ (0 ≤ a ∧ a ≤ 1099511627776) ∧ (0 ≤ b ∧ b ≤ 1099511627776) ∧ (0 ≤ c ∧ c ≤ 1099511627776) := by
  simp [okR, okI, and_assoc]
theorem errI_ok {a b c : Int} (h : (0 ≤ a ∧ a ≤ 1099511627776) ∧ (0 ≤ b ∧ b ≤ 1099511627776) ∧ (0 ≤ c ∧ c ≤ 1099511627776)) : errI (okR a b c) = 0 := by
  rw [(okR_iff a b c).2 h]; rfl
theorem errI_no {a b c : Int} (h : ¬ ((0 ≤ a ∧ a ≤ 1099511627776) ∧ (0 ≤ b ∧ b ≤ 1099511627776) ∧ (0 ≤ c ∧ c ≤ 1099511627776))) : errI (okR a b c) = 3 := by
  have : okR a b c = false := by rw [← Bool.not_eq_true, okR_iff]; exact h
  rw [this]; rfl

set_option maxHeartbeats 400000 in
theorem amounts_c (a b c : Int) (w : World) : Calls Try.prog 92 #[.agg #[.int .i64 a, .int .i64 b, .int .i64 c]] w fun e w' =>
    e = .returned (.agg #[.int .i64 a, .int .i64 b, .int .i64 c]) ∧ Below w.heap.size w w' := by
  go_enter Try.func92, Try.ntmps92
  go_wp2
  go_returns
  exact ⟨rfl, by go_grown⟩

theorem index_a3 (a b c : Int) : (∀ w, (Instr.index 125 (.agg #[.int .i64 a, .int .i64 b, .int .i64 c]) (.int .i64 0)).run Try.prog w = .ok (.int .i64 a) w) ∧
  (∀ w, (Instr.index 125 (.agg #[.int .i64 a, .int .i64 b, .int .i64 c]) (.int .i64 1)).run Try.prog w = .ok (.int .i64 b) w) ∧
  (∀ w, (Instr.index 125 (.agg #[.int .i64 a, .int .i64 b, .int .i64 c]) (.int .i64 2)).run Try.prog w = .ok (.int .i64 c) w) :=
  ⟨fun _ => by kernel_rfl, fun _ => by kernel_rfl, fun _ => by kernel_rfl⟩

set_option maxHeartbeats 400000 in
theorem check_c (a b c : Int) (w : World) : Calls Try.prog 81 #[.agg #[.int .i64 a, .int .i64 b, .int .i64 c]] w fun e w' =>
    e = .returned (.int .i64 (errI (okR a b c))) ∧ Below w.heap.size w w' := by
  obtain ⟨i0, i1, i2⟩ := index_a3 a b c
  go_enter Try.func81, Try.ntmps81
  go_wp2_with (go_at_call 92; refine (amounts_c _ _ _ _).mono ?_; rintro e w1 ⟨rfl, hb⟩)
  go_rounds 4
  all_goals go_returns
  all_goals refine ⟨ret_int ?_, below_then (below_alloc (Below.refl _ _) _) hb⟩
  all_goals first | (rw [errI_ok (by omega)]; done) | (rw [errI_no (by omega)]; done)

end Go.Proofs.YtkhcdichdnbcmaaR
