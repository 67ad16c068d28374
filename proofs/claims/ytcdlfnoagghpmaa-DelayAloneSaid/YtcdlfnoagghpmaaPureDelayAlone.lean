/- The plain law of DelayAlone, and its walk. -/
import Derived.Test.YtcdlfnoagghpmaaPureDelayMatches
import Derived.Test.YtcdlfnoagghpmaaD5
namespace Go.Proofs.Ytcdlfnoagghpmaa.Pure
open Go.RowKit Go.Proofs.Ytcdlfnoagghpmaa Go.Proofs.Ytcdlfnoagghpmaa.Ext Go.Proofs.Ytcdlfnoagghpmaa.D Go.Proofs.YtcdlfnoagghpmaaW.PrintWords Go.Proofs.YtcdlfnoagghpmaaW.PrintLast Go.Proofs.YtcdlfnoagghpmaaW.PrintMore
set_option linter.unusedVariables false
set_option linter.unusedSimpArgs false

theorem alone_eq (a b x0 x1 y0 y1 n : Int) (hn : n ≤ 9223372036854775807) : sacristanlaw11_DelayAlone.f 50 a b x0 x1 y0 y1 n = some true := by
  obtain ⟨bs, m, h1, h2, h3, hv⟩ := valid_eq a b
  obtain ⟨l, wd, hv1, hok1⟩ := hv x0 x1
  obtain ⟨l', wd', hv2, hok2⟩ := hv y0 y1
  unfold sacristanlaw11_DelayAlone.f
  rw [hv1, Option.bind_some, hv2, Option.bind_some]
  have hm : 0 ≤ mx n 0 ∧ mx n 0 ≤ 9223372036854775807 := by unfold mx; split <;> omega
  generalize mx n 0 = n at *
  simp only [after_f _ _ _ _ _ _ hm.2, aftF_ok hok1 hm.1, aftF_ok hok2 hm.1, Option.bind_some]
  rw [awake_eq 50 (by omega)]
  simp
end Go.Proofs.Ytcdlfnoagghpmaa.Pure
namespace Go.Proofs.Ytcdlfnoagghpmaa
open Go.RowKit Go.Proofs.Ytcdlfnoagghpmaa.D
theorem walk_DelayAlone (w : World) (a : Int) (_ : (Lit.int .i64 a).wf = true) (b : Int) (_ : (Lit.int .i64 b).wf = true) (x0 x1 : Int) (_ : (Lit.int .i64 x0).wf = true) (_ : (Lit.int .i64 x1).wf = true) (y0 y1 : Int) (_ : (Lit.int .i64 y0).wf = true) (_ : (Lit.int .i64 y1).wf = true) (n : Int) (hn : (Lit.int .i64 n).wf = true) :
    Calls Try.prog 6 #[.int .i64 a, .int .i64 b, .agg #[.int .i64 x0, .int .i64 x1], .agg #[.int .i64 y0, .int .i64 y1], .int .i64 n] w fun e w' => e = .returned (.bool true) ∧ Below w.heap.size w w' :=
  sacristanlaw11_DelayAlone.calls 50 a b x0 x1 y0 y1 n true w (Pure.alone_eq a b x0 x1 y0 y1 n (wf_le hn).2) rfl
end Go.Proofs.Ytcdlfnoagghpmaa
