/- The row of the law RecMatches, out of its walk. By a program of this session (wip/rows.py). -/
import Derived.Test.YtkhcdichdnbcmaaRRows
import Derived.Test.YtkhcdichdnbcmaaROpen
import Derived.Test.YtkhcdichdnbcmaaRRm20
import Derived.WalkKit
import Derived.ProofKit
import Derived.OpenShut
import Derived.ShutString
import Derived.ChangeOld
import Derived.Below
import Derived.SizedLaws
namespace Go.Proofs.YtkhcdichdnbcmaaR.recMatches
open Go.ChangeShapes Go.WideShapes Go.ChangeAt Go.RowKit
open Go.ChangeMaps (open_string shut_string)
set_option linter.unusedVariables false
theorem own : ownKnob Try.prog.godebug = none := by kernel_rfl
theorem laidOut : laidOutB Try.prog = true := by kernel_rfl
set_option maxRecDepth 100000 in
theorem lifted (os : Os) (started : os.Started) (H : Type) (enc : TypeId × Value → H) :
    ReturnsInHanded {} Try.checked os 11 .any (Rows.recMatchesSpec.pre6 enc Try.prog Try.f11 Rows.recMatchesRow.domain false) (Rows.recMatchesSpec.post enc Try.prog Try.f11 false true false false) := by
  refine returnsInHanded_of_change_sized (C := Try.checked) own started (by kernel_rfl) Try.func11
    (ChangeSpec.witness6 (enc := enc) (C := Try.checked) false ⟨#[], #[.agg #[.int .u8 0, .int .i64 0, .int .i64 0, .int .i64 0, .int .i64 0, .int .i64 0, .slice none 0 0, .slice none 0 0, .int .i64 0, .int .i64 0, .int .i64 0, .int .i64 0, .int .i64 0, .int .i64 0, .int .i64 0], .agg #[.int .u8 0, .int .i64 0, .int .i64 0, .int .i64 0, .int .i64 0, .int .i64 0, .slice none 0 0, .slice none 0 0, .int .i64 0, .int .i64 0, .int .i64 0, .int .i64 0, .int .i64 0, .int .i64 0, .int .i64 0]], []⟩ 8 (by kernel_rfl) (by kernel_rfl) (by kernel_rfl) (by kernel_rfl)) ?_
  intro W base args ds gs before hval0 hW hcnd hsz0 _
  have hsz : (DataW.weightsEach Try.prog (Try.f11.params.toList ++ Rows.recMatchesSpec.plain.varTypes Try.prog) (ds ++ gs)).all (· ≤ reachBytes) = true := hsz0
  have hval : ∀ (j : Nat) t v, Try.f11.params[j]? = some t → args[j]? = some v → Value.okWide Try.prog W .any base t v := hval0
  have hW' := hW
  obtain ⟨p, q, hA0, hV, rfl, hfz, hnd⟩ := hW
  have hA : DataW.TrodAll enc Try.prog W 0 (fun _ => true) true Try.f11.params.toList args.toList ds p := hA0
  rw [Try.params11] at hA hval hsz
  obtain ⟨v0, vs0, d0, ds0, p0, q0, hargs, rfl, rfl, h0, r0⟩ := trodAll_cons hA
  obtain ⟨v1, vs1, d1, ds1, p1, q1, rfl, rfl, rfl, h1, r1⟩ := trodAll_cons r0
  obtain ⟨rfl, rfl, rfl⟩ := trodAll_nil r1
  obtain rfl : args = #[v0, v1] := by cases args; simp_all
  obtain ⟨rfl, rfl⟩ := trodVars_none hV
  have k0 := h0
  have lt0 : ∀ x ∈ p0, x.block < W.heap.size := by obtain ⟨m, hm⟩ := k0; exact DataW.trod_lt m _ _ _ hm
  obtain ⟨fu0, hf0⟩ := h0
  obtain ⟨a0_0, a0_1, a0_2, a0_3, a0_4, a0_5, a0_6_A, a0_6_c, a0_6_l, a0_7_A, a0_7_c, a0_7_l, a0_8, a0_9, a0_10, a0_11, a0_12, a0_13, a0_14, e0, a0_0_h, a0_1_h, a0_2_h, a0_3_h, a0_4_h, a0_5_h, a0_6_h, a0_7_h, a0_8_h, a0_9_h, a0_10_h, a0_11_h, a0_12_h, a0_13_h, a0_14_h⟩ := op_35 hf0
  obtain rfl := agg_of e0 (by simp)
  have k1 := h1
  have lt1 : ∀ x ∈ p1, x.block < W.heap.size := by obtain ⟨m, hm⟩ := k1; exact DataW.trod_lt m _ _ _ hm
  obtain ⟨fu1, hf1⟩ := h1
  obtain ⟨a1_0, a1_1, a1_2, a1_3, a1_4, a1_5, a1_6_A, a1_6_c, a1_6_l, a1_7_A, a1_7_c, a1_7_l, a1_8, a1_9, a1_10, a1_11, a1_12, a1_13, a1_14, e1, a1_0_h, a1_1_h, a1_2_h, a1_3_h, a1_4_h, a1_5_h, a1_6_h, a1_7_h, a1_8_h, a1_9_h, a1_10_h, a1_11_h, a1_12_h, a1_13_h, a1_14_h⟩ := op_35 hf1
  obtain rfl := agg_of e1 (by simp)
  refine (walk_RecMatches W a0_0 a0_1 a0_2 a0_3 a0_4 a0_5 a0_6_A a0_6_c a0_6_l a0_7_A a0_7_c a0_7_l a0_8 a0_9 a0_10 a0_11 a0_12 a0_13 a0_14 a0_0_h a0_1_h a0_2_h a0_3_h a0_4_h a0_5_h a0_6_h a0_7_h a0_8_h a0_9_h a0_10_h a0_11_h a0_12_h a0_13_h a0_14_h a1_0 a1_1 a1_2 a1_3 a1_4 a1_5 a1_6_A a1_6_c a1_6_l a1_7_A a1_7_c a1_7_l a1_8 a1_9 a1_10 a1_11 a1_12 a1_13 a1_14 a1_0_h a1_1_h a1_2_h a1_3_h a1_4_h a1_5_h a1_6_h a1_7_h a1_8_h a1_9_h a1_10_h a1_11_h a1_12_h a1_13_h a1_14_h).mono fun e W' ⟨he, bel⟩ => ?_
  subst he
  exact ⟨_, rfl, _, _, _, [], _, [], hW', trodAll_mk1 (shut_bool Try.underlying4 _), (trodAll_cons_mk (Below.trod laidOut (by kernel_rfl) (of_decide_eq_true (by kernel_rfl)) k0 bel lt0) (trodAll_cons_mk (Below.trod laidOut (by kernel_rfl) (of_decide_eq_true (by kernel_rfl)) k1 bel lt1) trodAll_mk0)), rfl, bel.frame _, fun h => by cases h⟩
theorem over : Rows.recMatchesRow.holds Try.pinned (OpenSpec.ofChange Rows.recMatchesSpec) :=
  OpenClaim.holds_of_wide 11 Try.f11 rfl rfl rfl rfl rfl rfl rfl ⟨rfl, rfl, rfl, rfl, rfl⟩ rfl rfl rfl rfl rfl (by kernel_rfl) Try.func11 (by kernel_rfl)
    (of_decide_eq_true (by kernel_rfl)) (by unfold Func.isWrapper; first | (rw [if_pos (by decide +kernel)]; kernel_rfl) | (rw [if_neg (by decide +kernel)]; exact ⟨rfl, rfl⟩))
    (fun os started H enc _ => lifted os started H enc)
#print axioms over
end Go.Proofs.YtkhcdichdnbcmaaR.recMatches
namespace Go.Proofs.YtkhcdichdnbcmaaR
/-- The row, under a short name, for the claim. -/
theorem recMatches_holds : Rows.RecMatchesSaid := recMatches.over
end Go.Proofs.YtkhcdichdnbcmaaR
