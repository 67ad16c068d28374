/- The plain law of ResPairs, and its walk. -/
import Derived.Test.YtcdlfnoagghpmaaResP
import Derived.Test.YtcdlfnoagghpmaaX3
namespace Go.Proofs.Ytcdlfnoagghpmaa.Pure
open Go.RowKit Go.Proofs.Ytcdlfnoagghpmaa Go.Proofs.Ytcdlfnoagghpmaa.Ext Go.Proofs.Ytcdlfnoagghpmaa.X Go.Proofs.YtcdlfnoagghpmaaW.PrintWords Go.Proofs.YtcdlfnoagghpmaaW.PrintLast
set_option linter.unusedVariables false
set_option linter.unusedSimpArgs false

theorem resPairs_eq (a b c x y z : Int) : sacristanlaw09_ResPairs.f 10 a b c x y z = some true := by
  unfold sacristanlaw09_ResPairs.f
  simp only [res_Add.f, Option.bind_some]
  rw [radd_eq 10 (by omega), Option.bind_some]
  simp only [beq_self_eq_true, Bool.not_true, Bool.or_self, bne_self_eq_false]
  rw [if_neg (by simp), if_neg (by simp)]
  simp only [res_Check.f, Option.bind_some]
  rw [rcheck_eq 10 (by omega), Option.bind_some, if_pos rfl]
  simp only [res_Fits.f, Option.bind_some]
  rw [rfits_eq, Option.bind_some, bne_self_eq_false]
  simp only [sacristanlaw09_ResPairs.j0]
  rw [if_neg (by simp)]
  simp only [res_Sub.f, Option.bind_some]
  rw [rsub_eq 9 (by omega), Option.bind_some]
  simp only [beq_self_eq_true, Bool.and_self]
  rw [if_pos trivial, if_pos trivial]
  rfl
end Go.Proofs.Ytcdlfnoagghpmaa.Pure
namespace Go.Proofs.Ytcdlfnoagghpmaa
open Go.RowKit Go.Proofs.Ytcdlfnoagghpmaa.X
theorem walk_ResPairs (w : World) (a b c : Int) (_ : (Lit.int .i64 a).wf = true) (_ : (Lit.int .i64 b).wf = true) (_ : (Lit.int .i64 c).wf = true) (x y z : Int) (_ : (Lit.int .i64 x).wf = true) (_ : (Lit.int .i64 y).wf = true) (_ : (Lit.int .i64 z).wf = true) : Calls Try.prog 8 #[.agg #[.int .i64 a, .int .i64 b, .int .i64 c], .agg #[.int .i64 x, .int .i64 y, .int .i64 z]] w fun e w' => e = .returned (.bool true) ∧ Below w.heap.size w w' :=
  sacristanlaw09_ResPairs.calls 10 a b c x y z true w (Pure.resPairs_eq a b c x y z) rfl
end Go.Proofs.Ytcdlfnoagghpmaa
