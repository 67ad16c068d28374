/- The walk of LeaseMatches. -/
import Derived.Test.YtccehechhdndmaaPLease
namespace Go.Proofs.Ytccehechhdndmaa
open Go.RowKit Go.Proofs.Ytccehechhdndmaa.L
theorem walk_LeaseMatches (w : World) (c0 c1 c2 c3 c4 c5 c6 c7 c8 c9 c10 : Int) (_ : (Lit.int .i64 c0).wf = true) (_ : (Lit.int .i64 c1).wf = true) (_ : (Lit.int .i64 c2).wf = true) (_ : (Lit.int .i64 c3).wf = true) (_ : (Lit.int .i64 c4).wf = true) (_ : (Lit.int .i64 c5).wf = true) (_ : (Lit.int .i64 c6).wf = true) (_ : (Lit.int .i64 c7).wf = true) (_ : (Lit.int .i64 c8).wf = true) (_ : (Lit.int .i64 c9).wf = true) (_ : (Lit.int .i64 c10).wf = true) (a : Int) (_ : (Lit.int .i64 a).wf = true) (n : Int) (_ : (Lit.int .i64 n).wf = true) :
    Calls Try.prog 8 #[.agg #[.int .i64 c0, .int .i64 c1, .int .i64 c2, .int .i64 c3, .int .i64 c4, .int .i64 c5, .int .i64 c6, .int .i64 c7, .int .i64 c8, .int .i64 c9, .int .i64 c10], .int .i64 a, .int .i64 n] w fun e w' => e = .returned (.bool true) ∧ Below w.heap.size w w' :=
  sacristanlaw15_LeaseMatches.calls 5 c0 c1 c2 c3 c4 c5 c6 c7 c8 c9 c10 a n true w (Pure.matches_eq 5 (by omega) c0 c1 c2 c3 c4 c5 c6 c7 c8 c9 c10 a n) rfl
end Go.Proofs.Ytccehechhdndmaa
