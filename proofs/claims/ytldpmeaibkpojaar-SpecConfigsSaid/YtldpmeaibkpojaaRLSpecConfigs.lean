/- SpecConfigs: its plain law and its walk. -/
import Derived.Test.YtldpmeaibkpojaaRB4
import Derived.Test.YtldpmeaibkpojaaROpen
namespace Go.Proofs.YtldpmeaibkpojaaR
open Go.RowKit Go.Proofs.YtldpmeaibkpojaaR Go.Proofs.YtldpmeaibkpojaaR.Ext Go.Proofs.YtldpmeaibkpojaaR.B Go.Proofs.YtldpmeaibkpojaaRW.PrintWords Go.Proofs.YtldpmeaibkpojaaRW.PrintLast
set_option linter.unusedVariables false
set_option linter.unusedSimpArgs false

theorem need_same (a : Int) : ∃ n, spec_Need.f a = some n ∧ sacristanref13_Need.f a = some n := by
  unfold spec_Need.f sacristanref13_Need.f sacristanref13_from.f
  by_cases h1 : a < 1
  · exact ⟨0, by rw [if_pos h1], by rw [if_neg (by omega)]; rfl⟩
  · by_cases h2 : a > 8
    · exact ⟨0, by rw [if_neg h1, if_pos h2], by rw [if_pos (by omega)]; simp; omega⟩
    · exact ⟨_, by rw [if_neg h1, if_neg h2], by rw [if_pos (by omega)]; simp; omega⟩
theorem specConfigs_law (a0 a1 a2 a3 a4 a5 a6 a7 a8 a9 a10 b : Int) : sacristanlaw13_SpecConfigs.f a0 a1 a2 a3 a4 a5 a6 a7 a8 a9 a10 b = some true := by
  obtain ⟨n, h1, h2⟩ := need_same b
  unfold sacristanlaw13_SpecConfigs.f spec_Config.f sacristanref13_Config.f
  simp only [Option.bind_some]
  rw [if_pos trivial, h1, h2]
  simp only [Option.bind_some]
  rw [if_pos trivial]
  rfl
theorem walk_SpecConfigs (W : World) (a0 a1 a2 a3 a4 a5 a6 a7 a8 a9 a10 : Int) (h0 : (Lit.int .i64 a0).wf = true) (h1 : (Lit.int .i64 a1).wf = true) (h2 : (Lit.int .i64 a2).wf = true) (h3 : (Lit.int .i64 a3).wf = true) (h4 : (Lit.int .i64 a4).wf = true) (h5 : (Lit.int .i64 a5).wf = true) (h6 : (Lit.int .i64 a6).wf = true) (h7 : (Lit.int .i64 a7).wf = true) (h8 : (Lit.int .i64 a8).wf = true) (h9 : (Lit.int .i64 a9).wf = true) (h10 : (Lit.int .i64 a10).wf = true) (b : Int) (hb : (Lit.int .i64 b).wf = true) :
    Calls Try.prog 4 #[.agg #[.int .i64 a0, .int .i64 a1, .int .i64 a2, .int .i64 a3, .int .i64 a4, .int .i64 a5, .int .i64 a6, .int .i64 a7, .int .i64 a8, .int .i64 a9, .int .i64 a10], .int .i64 b] W fun e w' => e = .returned (.bool true) ∧ Below W.heap.size W w' :=
  sacristanlaw13_SpecConfigs.calls a0 a1 a2 a3 a4 a5 a6 a7 a8 a9 a10 b true W (specConfigs_law _ _ _ _ _ _ _ _ _ _ _ _) rfl
end Go.Proofs.YtldpmeaibkpojaaR
