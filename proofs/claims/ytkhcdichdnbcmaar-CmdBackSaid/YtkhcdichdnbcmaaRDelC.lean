/- The contract of delay.Check. -/
import Derived.Test.YtkhcdichdnbcmaaRBase
import Derived.Test.YtkhcdichdnbcmaaRProg
import Derived.Lib.Hide
import Derived.ScopeJumps
import Derived.WalkMore
import Derived.RangeFuncNested
import Derived.RangeFuncBound
import Derived.RangeFuncCalls
import Derived.RangeFuncLeaves
import Derived.Shelf.Abstract
import Derived.Shelf.RegionOpen
import Derived.WalkKit
import Derived.OwnWalkIn
import Derived.TacticsInMore
import Derived.LoopNIn
import Derived.LoopIn
namespace Go.Proofs.YtkhcdichdnbcmaaR
open Go.RowKit Go.Shelf
attribute [local go_sem] Oper.semAt_some
set_option linter.unusedSimpArgs false
set_option linter.unusedVariables false

/-- A scope that is left forwards, to one label alone. -/
theorem wp_scope_fwd {P : Program} {a : Act} {w : World} {Q : Exit → Act → World → Prop} {c rest : Code} (l : Nat) (hf : findLabel c l = some rest)
    (first : c.wp P (Exit.jump l (fun a w => rest.wp P (Exit.jump l (fun _ _ => False) Q) a w) Q) a w) : (Code.scope c).wp P Q a w := by
  refine wp_scope_jumps l (fun a w => rest.wp P (Exit.jump l (fun _ _ => False) Q) a w) (fun _ _ => 0) hf first (fun a w h => wp_mono h ?_)
  intro e a' w' hq
  cases e <;> first | exact hq | exact hq.2.elim

def okP (l wd b m : Int) : Bool := (decide (1 ≤ l) && decide (l ≤ 8)) && (decide (1 ≤ wd) && decide (wd ≤ 1099511627776)) && (decide (1 ≤ m) && decide (m ≤ 1099511627776) && decide (1 ≤ b) && decide (b ≤ m))
def errP (b : Bool) : Int := if b then 0 else 3
theorem okP_iff (l wd b m : Int) : okP l wd b m = true ↔ (1 ≤ l ∧ l ≤ 8) ∧ (1 ≤ wd ∧ wd ≤ 1099511627776) ∧ (1 ≤ m ∧ m ≤ 1099511627776 ∧ 1 ≤ b ∧ b ≤ m) := by
  simp [okP, and_assoc]
theorem errP_ok {l wd b m : Int} (h : (1 ≤ l ∧ l ≤ 8) ∧ (1 ≤ wd ∧ wd ≤ 1099511627776) ∧ (1 ≤ m ∧ m ≤ 1099511627776 ∧ 1 ≤ b ∧ b ≤ m)) : errP (okP l wd b m) = 0 := by
  rw [(okP_iff l wd b m).2 h]; rfl
theorem errP_no {l wd b m : Int} (h : ¬ ((1 ≤ l ∧ l ≤ 8) ∧ (1 ≤ wd ∧ wd ≤ 1099511627776) ∧ (1 ≤ m ∧ m ≤ 1099511627776 ∧ 1 ≤ b ∧ b ≤ m))) : errP (okP l wd b m) = 3 := by
  have : okP l wd b m = false := by rw [← Bool.not_eq_true, okP_iff]; exact h
  rw [this]; rfl

set_option maxHeartbeats 1000000 in
theorem dcheck_c (al : Bool) (l wd b m : Int) (w : World) : Calls Try.prog 86 #[.agg #[.bool al, .int .i64 l, .int .i64 wd, .int .i64 b, .int .i64 m]] w fun e w' =>
    e = .returned (.int .i64 (errP (okP l wd b m))) ∧ Below w.heap.size w w' := by
  go_enter Try.func86, Try.ntmps86
  go_wp2
  refine wp_scope_fwd 0 rfl ?_
  go_wp2
  all_goals (try (go_step3; refine ⟨rfl, ?_⟩; go_wp2; try go_step3; go_wp2))
  all_goals simp only [Exit.jump]
  all_goals go_returns
  all_goals refine ⟨ret_int ?_, by go_grown⟩
  all_goals first | (rw [errP_ok (by omega)]; done) | (rw [errP_no (by omega)]; done)

end Go.Proofs.YtkhcdichdnbcmaaR
