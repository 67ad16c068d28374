/- The plain law of DelayMatches, and its walk. -/
import Derived.Test.YtcdlfnoagghpmaaDelP
import Derived.Test.YtcdlfnoagghpmaaD1
namespace Go.Proofs.Ytcdlfnoagghpmaa.Pure
open Go.RowKit Go.Proofs.Ytcdlfnoagghpmaa Go.Proofs.Ytcdlfnoagghpmaa.Ext Go.Proofs.Ytcdlfnoagghpmaa.D Go.Proofs.YtcdlfnoagghpmaaW.PrintWords Go.Proofs.YtcdlfnoagghpmaaW.PrintLast Go.Proofs.YtcdlfnoagghpmaaW.PrintMore
set_option linter.unusedVariables false
set_option linter.unusedSimpArgs false

theorem matches_eq (k : Nat) (hk : 50 ≤ k) (al : Bool) (l wd b m n : Int) (hn : n ≤ 9223372036854775807) : sacristanlaw11_DelayMatches.f k al l wd b m n = some true := by
  unfold sacristanlaw11_DelayMatches.f
  rw [after_f _ _ _ _ _ _ hn, after_eq k hk _ _ _ _ _ _ hn]
  simp only [Option.bind_some, delay_Check.f]
  rw [dcheck_eq, awake_eq k (by omega)]
  simp
end Go.Proofs.Ytcdlfnoagghpmaa.Pure
namespace Go.Proofs.Ytcdlfnoagghpmaa
open Go.RowKit Go.Proofs.Ytcdlfnoagghpmaa.D
theorem wf_le {n : Int} (h : (Lit.int .i64 n).wf = true) : -9223372036854775808 ≤ n ∧ n ≤ 9223372036854775807 := by
  simp only [Lit.wf, Bool.and_eq_true, decide_eq_true_eq] at h
  exact h
theorem walk_DelayMatches (w : World) (a : Bool) (b c d e : Int) (_ : (Lit.int .i64 b).wf = true) (_ : (Lit.int .i64 c).wf = true) (_ : (Lit.int .i64 d).wf = true) (_ : (Lit.int .i64 e).wf = true) (n : Int) (hn : (Lit.int .i64 n).wf = true) : Calls Try.prog 3 #[.agg #[.bool a, .int .i64 b, .int .i64 c, .int .i64 d, .int .i64 e], .int .i64 n] w fun e w' => e = .returned (.bool true) ∧ Below w.heap.size w w' :=
  sacristanlaw11_DelayMatches.calls 50 a b c d e n true w (Pure.matches_eq 50 (by omega) a b c d e n (wf_le hn).2) rfl
end Go.Proofs.Ytcdlfnoagghpmaa
