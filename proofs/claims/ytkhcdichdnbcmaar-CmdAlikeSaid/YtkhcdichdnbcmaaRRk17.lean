/- Texts of this session, merged (wip/gen/shake.py). -/
import Derived.Test.YtkhcdichdnbcmaaRRk15
import Derived.Test.YtkhcdichdnbcmaaRRk16
section
namespace Go.Proofs.YtkhcdichdnbcmaaR
open Go.RowKit Go.Proofs.YtkhcdichdnbcmaaR Go.Proofs.YtkhcdichdnbcmaaR.Ext Go.Proofs.YtkhcdichdnbcmaaR.C Go.Proofs.YtkhcdichdnbcmaaR.Sp Go.Proofs.YtkhcdichdnbcmaaRW.PrintWords Go.Proofs.YtkhcdichdnbcmaaRW.PrintLast
set_option linter.unusedVariables false
set_option linter.unusedSimpArgs false
theorem tmod_small (t x : Int) (h : (wrap64 (t.tmod 1000 + 1000)).tmod 1000 = x) : 0 ≤ x ∧ x ≤ 999 := by
 have h1 := Int.lt_tmod_of_pos t (b := 1000) (by omega)
 have h1' := Int.tmod_lt_of_pos t (b := 1000) (by omega)
 have h2 : wrap64 (t.tmod 1000 + 1000) = t.tmod 1000 + 1000 := by unfold wrap64; omega
 rw [h2] at h
 have h3 := Int.tmod_lt_of_pos (t.tmod 1000 + 1000) (b := 1000) (by omega)
 have h4 := Int.tmod_nonneg 1000 (show 0 ≤ t.tmod 1000 + 1000 by omega)
 omega
theorem encCR_non {c : CM} (h : ¬ cmdE c = 0) : encCR c = [] := by unfold encCR; rw [if_neg h]
theorem encCR_is {c : CM} (h : cmdE c = 0) : encCR c = encC c := by unfold encCR; rw [if_pos h]
theorem encRR_is {c : RE} (h : recE c = 0) : encRR c = encRe c := by unfold encRR; rw [if_pos h]
theorem like_1 (e id : Int) (s : SP) (h : cmdE ⟨1, e, s, id⟩ = 0) : recE ⟨1, e, s, id, 0, 0, 0, 0, 0, 0⟩ = 0 ∧ encRe ⟨1, e, s, id, 0, 0, 0, 0, 0, 0⟩ = encC ⟨1, e, s, id⟩ := by
 unfold cmdE shapeC at h
 simp only at h
 split at h
 case isFalse => cases h
 rename_i hs
 have hid : id = 0 := by omega
 subst hid
 split at h
 ·cases h
 rename_i he
 have h : specE s = 0 := by simpa using h
 refine ⟨?_, ?_⟩
 ·have h1 : ¬ e < 0 := by omega
  have h2 : ¬ 1099511627776 < e := by omega
  simp [recE, shapeR, fldK, usesB, mostsR, valsR, badA, badB, h, h1, h2]
 ·simp [encRe, encC, fldK, usesB, mostsR, valsR, encF, tailRW]
theorem like_2 (e id tk wt : Int) (s : SP) (h : cmdE ⟨2, e, s, id⟩ = 0) (h1 : 0 ≤ tk ∧ tk ≤ 999) (h2 : 0 ≤ wt ∧ wt ≤ 999) : recE ⟨2, e, zSP, id, 0, tk, wt, 0, 0, 0⟩ = 0 ∧ encRe ⟨2, e, zSP, id, 0, tk, wt, 0, 0, 0⟩ = encC ⟨2, e, s, id⟩ ++ (encN tk ++ encN wt) := by
 unfold cmdE shapeC at h
 simp only at h
 split at h
 case isFalse => cases h
 rename_i hs
 split at h
 ·cases h
 rename_i he
 rw [if_neg (by omega)] at h
 split at h
 ·cases h
 rename_i hi
 refine ⟨?_, ?_⟩
 ·have g1 : ¬ e < 0 := by omega
  have g2 : ¬ 1099511627776 < e := by omega
  have g3 : ¬ id < 0 := by omega
  have g4 : ¬ 2147483648 < id := by omega
  have g5 : ¬ tk < 0 := by omega
  have g6 : ¬ 1099511627776 < tk := by omega
  have g7 : ¬ wt < 0 := by omega
  have g8 : ¬ 1099511627776 < wt := by omega
  simp [recE, shapeR, fldK, usesB, mostsR, valsR, badA, badB, g1, g2, g3, g4, g5, g6, g7, g8]
 ·simp [encRe, encC, fldK, usesB, mostsR, valsR, encF, tailRW]
theorem like_3 (e id : Int) (s : SP) (h : cmdE ⟨3, e, s, id⟩ = 0) : recE ⟨3, e, zSP, id, 0, 0, 0, 0, 0, 0⟩ = 0 ∧ encRe ⟨3, e, zSP, id, 0, 0, 0, 0, 0, 0⟩ = encC ⟨3, e, s, id⟩ := by
 unfold cmdE shapeC at h
 simp only at h
 split at h
 case isFalse => cases h
 rename_i hs
 split at h
 ·cases h
 rename_i he
 rw [if_neg (by omega)] at h
 split at h
 ·cases h
 rename_i hi
 refine ⟨?_, ?_⟩
 ·have g1 : ¬ e < 0 := by omega
  have g2 : ¬ 1099511627776 < e := by omega
  have g3 : ¬ id < 0 := by omega
  have g4 : ¬ 2147483648 < id := by omega
  simp [recE, shapeR, fldK, usesB, mostsR, valsR, badA, badB, g1, g2, g3, g4]
 ·simp [encRe, encC, fldK, usesB, mostsR, valsR, encF, tailRW]
theorem like_0 (k e id : Int) (s : SP) (hk : k ≠ 1 ∧ k ≠ 2 ∧ k ≠ 3) : ¬ cmdE ⟨k, e, s, id⟩ = 0 := by
 intro h
 unfold cmdE shapeC at h
 simp only at h
 split at h
 case isFalse => cases h
 rename_i hs
 omega
set_option maxHeartbeats 1000000 in
theorem alike_all (k e a b c d id : Int) (A B : Option Addr) (n m p q : Nat) (ps : List Int) (ts : List TX) (tk wt : Int) (w : World) (hF1 : ∀ L, FewOf w L a b c d A B n m p q ps ts) :
  Calls Try.prog 3 #[.agg #[.int .u8 k, .int .i64 e, .int .i64 a, .int .i64 b, .int .i64 c, .int .i64 d, .slice A n p, .slice B m q, .int .i64 id], .int .i64 tk, .int .i64 wt] w fun ee w' => ee = .returned (.bool true) ∧ Below w.heap.size w w' := by
 by_cases k1 : k = 1
 ·subst k1
  refine calike_1 e a b c d id A B n m p q ps ts tk wt _ _ _ _ w hF1 rfl rfl rfl rfl (fun h => ?_) (fun h => encCR_non h)
  obtain ⟨h1, h2⟩ := like_1 _ _ _ h
  rw [encCR_is h, encRR_is h1, h2]
  exact ⟨h1, Nat.le_refl _, List.take_length, rfl⟩
 by_cases k2 : k = 2
 ·subst k2
  obtain ⟨TK, hTK⟩ : ∃ x, (wrap64 (tk.tmod 1000 + 1000)).tmod 1000 = x := ⟨_, rfl⟩
  obtain ⟨WT, hWT⟩ : ∃ x, (wrap64 (wt.tmod 1000 + 1000)).tmod 1000 = x := ⟨_, rfl⟩
  refine calike_2 e a b c d id A B n m p q ps ts tk wt TK WT _ _ _ _ w hF1 hTK hWT rfl rfl rfl rfl (fun h => ?_) (fun h => encCR_non h)
  obtain ⟨h1, h2⟩ := like_2 _ _ TK WT _ h (tmod_small _ _ hTK) (tmod_small _ _ hWT)
  rw [encCR_is h, encRR_is h1, h2]
  exact ⟨h1, by rw [List.length_append]; omega, List.take_left, trivial⟩
 by_cases k3 : k = 3
 ·subst k3
  refine calike_3 e a b c d id A B n m p q ps ts tk wt _ _ _ _ w hF1 rfl rfl rfl rfl (fun h => ?_) (fun h => encCR_non h)
  obtain ⟨h1, h2⟩ := like_3 _ _ _ h
  rw [encCR_is h, encRR_is h1, h2]
  exact ⟨h1, Nat.le_refl _, List.take_length, rfl⟩
 ·exact calike_0 k e a b c d id A B n m p q ps ts tk wt _ _ _ _ w hF1 ⟨k1, k2, k3⟩ rfl rfl rfl rfl (fun h => like_0 k e id _ ⟨k1, k2, k3⟩ h) (fun h => encCR_non h)
theorem walk_CmdAlike (W : World) (k e a b c d : Int) (A4 : Option Addr) (c4 : Nat) (l4 : List Int) (A5 : Option Addr) (c5 : Nat) (l5 : List E90) (id : Int) (h0 : (Lit.int .u8 k).wf = true) (h1 : (Lit.int .i64 e).wf = true) (h2 : (Lit.int .i64 a).wf = true) (h3 : (Lit.int .i64 b).wf = true) (h4 : (Lit.int .i64 c).wf = true) (h5 : (Lit.int .i64 d).wf = true) (h6 : SL24 W A4 c4 l4) (h7 : SL25 W A5 c5 l5) (h8 : (Lit.int .i64 id).wf = true)
  (tk : Int) (h9 : (Lit.int .i64 tk).wf = true) (wt : Int) (h10 : (Lit.int .i64 wt).wf = true) :
  Calls Try.prog 3 #[.agg #[.int .u8 k, .int .i64 e, .int .i64 a, .int .i64 b, .int .i64 c, .int .i64 d, .slice A4 l4.length c4, .slice A5 l5.length c5, .int .i64 id], .int .i64 tk, .int .i64 wt] W fun e w' => e = .returned (.bool true) ∧ Below W.heap.size W w' := by
 have q1 := readsT h7
 exact alike_all k e a b c d id A4 A5 _ _ _ _ _ _ tk wt W
  (fun L => few_a (w0 := W) (w := W) a b c d l4 (l5.map toE) (readsI h6).1 rfl (readsI h6).2 q1.1 (by rw [List.length_map]) (by have := q1.2; rw [List.length_map] at this; exact this))
end Go.Proofs.YtkhcdichdnbcmaaR
end
section

end
