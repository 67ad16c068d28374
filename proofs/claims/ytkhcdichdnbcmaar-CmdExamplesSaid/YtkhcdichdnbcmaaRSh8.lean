/- Texts of this session, merged (wip/gen/shake.py). -/
import Derived.Test.YtkhcdichdnbcmaaROpen
import Derived.Deep.Cut
import Derived.Deep.CutRange
import Derived.Deep.RegionWith
import Derived.Test.YtkhcdichdnbcmaaRSh3
import Derived.Test.YtkhcdichdnbcmaaRSh4
import Derived.Test.YtkhcdichdnbcmaaRSh5
import Derived.Test.YtkhcdichdnbcmaaRSh7
section
namespace Go.Proofs.YtkhcdichdnbcmaaR
open Go.RowKit Go.Proofs.YtkhcdichdnbcmaaR Go.Proofs.YtkhcdichdnbcmaaR.Ext Go.Proofs.YtkhcdichdnbcmaaR.C Go.Proofs.YtkhcdichdnbcmaaR.Sp Go.Proofs.YtkhcdichdnbcmaaRW.PrintWords Go.Proofs.YtkhcdichdnbcmaaRW.PrintLast
set_option linter.unusedVariables false
set_option linter.unusedSimpArgs false
set_option maxRecDepth 100000 in
set_option maxHeartbeats 1000000 in
theorem rck_id (e a b c d : Int) (A4 A5 : Option Addr) (n4 c4 n5 c5 : Nat) (id : Int) (w : World) (h : id ≠ 0) :
  Calls Try.prog 18 #[.agg #[.int .u8 1, .int .i64 e, .int .i64 a, .int .i64 b, .int .i64 c, .int .i64 d, .slice A4 n4 c4, .slice A5 n5 c5, .int .i64 id]] w fun ee w' => ee = .returned (.int .i64 2) ∧ Below w.heap.size w w' := by
 have h1 : (id != 0) = true := bne_iff_ne.mpr h
 clear h
 go_enter Try.func18, Try.ntmps18
 go_wp2
 go_returns
 exact ⟨rfl, by go_grown⟩
set_option maxRecDepth 100000 in
set_option maxHeartbeats 1000000 in
theorem rck_ep (e a b c d : Int) (A4 A5 : Option Addr) (n4 c4 n5 c5 : Nat) (w : World) (h : e < 0 ∨ 1099511627776 < e) :
  Calls Try.prog 18 #[.agg #[.int .u8 1, .int .i64 e, .int .i64 a, .int .i64 b, .int .i64 c, .int .i64 d, .slice A4 n4 c4, .slice A5 n5 c5, .int .i64 0]] w fun ee w' => ee = .returned (.int .i64 3) ∧ Below w.heap.size w w' := by
 go_enter Try.func18, Try.ntmps18
 go_wp2
 all_goals go_returns
 all_goals first | (exfalso; omega) | exact ⟨rfl, by go_grown⟩
set_option maxRecDepth 100000 in
set_option maxHeartbeats 1000000 in
theorem rck_pl (e a b c d : Int) (A4 A5 : Option Addr) (n4 c4 n5 c5 : Nat) (E : Int) (w : World) (h1 : 0 ≤ e) (h2 : e ≤ 1099511627776) (HS : Go.RowKit.Hid (∀ W, Below w.heap.size w W → Calls Try.prog 42 #[.agg #[.int .i64 a, .int .i64 b, .int .i64 c, .int .i64 d, .slice A4 n4 c4, .slice A5 n5 c5]] W fun ee w' => ee = .returned (.int .i64 E) ∧ Below W.heap.size W w')) :
  Calls Try.prog 18 #[.agg #[.int .u8 1, .int .i64 e, .int .i64 a, .int .i64 b, .int .i64 c, .int .i64 d, .slice A4 n4 c4, .slice A5 n5 c5, .int .i64 0]] w fun ee w' => ee = .returned (.int .i64 E) ∧ Below w.heap.size w w' := by
 go_enter Try.func18, Try.ntmps18
 go_wp2_with fail
 refine (HS.out _ (by go_grown)).mono ?_
 rintro e_w1 w1 ⟨rfl, hbw1⟩
 have hBw1 : Below w.heap.size w w1 := below_then (by go_grown) hbw1
 have c_w1 : w1.heap[w.heap.size]? = some (.cells #[.int .u8 1, .int .i64 e, .int .i64 a, .int .i64 b, .int .i64 c, .int .i64 d, .slice A4 n4 c4, .slice A5 n5 c5, .int .i64 0] 29 (0, 0)) := vbelow (by (repeat' (first | assumption | (refine vnewAt ?_; first | omega | (simp; done) | (simp; omega)) | refine valloc ?_ | refine vdrew ?_ | apply vput | (refine vfarr ?_ ?_; focus (first | omega | (simp; done) | (simp; omega))) | rfl))) hbw1
 have hcc_w1 := vcell c_w1
 have hfc_w1 := vfree c_w1
 have hsc_w1 := vlt c_w1
 have hlc_w1 := Nat.le_of_lt hsc_w1
 have hmc_w1 := Nat.le_succ_of_le hlc_w1
 clear HS
 go_wp2
 go_returns
 exact ⟨rfl, by go_grown⟩
set_option maxRecDepth 100000 in
set_option maxHeartbeats 1000000 in
theorem rck_no (e a b c d : Int) (A4 A5 : Option Addr) (n4 c4 n5 c5 : Nat) (kind id : Int) (w : World) (h : kind < 1 ∨ 3 < kind) :
  Calls Try.prog 18 #[.agg #[.int .u8 kind, .int .i64 e, .int .i64 a, .int .i64 b, .int .i64 c, .int .i64 d, .slice A4 n4 c4, .slice A5 n5 c5, .int .i64 id]] w fun ee w' => ee = .returned (.int .i64 2) ∧ Below w.heap.size w w' := by
 go_enter Try.func18, Try.ntmps18
 go_wp2
 all_goals go_returns
 all_goals first | (exfalso; omega) | exact ⟨rfl, by go_grown⟩
set_option maxRecDepth 100000 in
set_option maxHeartbeats 1000000 in
theorem rck_2 (e a b c d : Int) (A4 A5 : Option Addr) (n4 c4 n5 c5 : Nat) (id : Int) (bare : Bool) (w : World) (HQ : Go.RowKit.Hid (∀ W, Below w.heap.size w W → Calls Try.prog 41 #[.agg #[.int .i64 a, .int .i64 b, .int .i64 c, .int .i64 d, .slice A4 n4 c4, .slice A5 n5 c5], .agg #[.int .i64 0, .int .i64 0, .int .i64 0, .int .i64 0, .slice none 0 0, .slice none 0 0]] W fun ee w' => ee = .returned (.bool bare) ∧ Below W.heap.size W w')) :
  Calls Try.prog 18 #[.agg #[.int .u8 2, .int .i64 e, .int .i64 a, .int .i64 b, .int .i64 c, .int .i64 d, .slice A4 n4 c4, .slice A5 n5 c5, .int .i64 id]] w fun ee w' => ee = .returned (.int .i64 (if bare = false then 2 else if e < 0 ∨ 1099511627776 < e then 3 else knownE id)) ∧ Below w.heap.size w w' := by
 go_enter Try.func18, Try.ntmps18
 go_wp2_with fail
 refine (HQ.out _ (by go_grown)).mono ?_
 rintro e_w1 w1 ⟨rfl, hbw1⟩
 have hBw1 : Below w.heap.size w w1 := below_then (by go_grown) hbw1
 have c_w1 : w1.heap[w.heap.size]? = some (.cells #[.int .u8 2, .int .i64 e, .int .i64 a, .int .i64 b, .int .i64 c, .int .i64 d, .slice A4 n4 c4, .slice A5 n5 c5, .int .i64 id] 29 (0, 0)) := vbelow (by (repeat' (first | assumption | (refine vnewAt ?_; first | omega | (simp; done) | (simp; omega)) | refine valloc ?_ | refine vdrew ?_ | apply vput | (refine vfarr ?_ ?_; focus (first | omega | (simp; done) | (simp; omega))) | rfl))) hbw1
 have hcc_w1 := vcell c_w1
 have hfc_w1 := vfree c_w1
 have hsc_w1 := vlt c_w1
 have hlc_w1 := Nat.le_of_lt hsc_w1
 have hmc_w1 := Nat.le_succ_of_le hlc_w1
 clear HQ
 cases bare
 ·go_wp2
  go_returns
  exact ⟨rfl, by go_grown⟩
 ·go_wp2
  all_goals go_returns
  all_goals refine ⟨ret_int ?_, by go_grown⟩
  all_goals first | rfl | (unfold knownE; (repeat' split) <;> first | rfl | (exfalso; omega)) | ((repeat' split) <;> first | rfl | (exfalso; omega))
set_option maxRecDepth 100000 in
set_option maxHeartbeats 1000000 in
theorem rck_3 (e a b c d : Int) (A4 A5 : Option Addr) (n4 c4 n5 c5 : Nat) (id : Int) (bare : Bool) (w : World) (HQ : Go.RowKit.Hid (∀ W, Below w.heap.size w W → Calls Try.prog 41 #[.agg #[.int .i64 a, .int .i64 b, .int .i64 c, .int .i64 d, .slice A4 n4 c4, .slice A5 n5 c5], .agg #[.int .i64 0, .int .i64 0, .int .i64 0, .int .i64 0, .slice none 0 0, .slice none 0 0]] W fun ee w' => ee = .returned (.bool bare) ∧ Below W.heap.size W w')) :
  Calls Try.prog 18 #[.agg #[.int .u8 3, .int .i64 e, .int .i64 a, .int .i64 b, .int .i64 c, .int .i64 d, .slice A4 n4 c4, .slice A5 n5 c5, .int .i64 id]] w fun ee w' => ee = .returned (.int .i64 (if bare = false then 2 else if e < 0 ∨ 1099511627776 < e then 3 else knownE id)) ∧ Below w.heap.size w w' := by
 go_enter Try.func18, Try.ntmps18
 go_wp2_with fail
 refine (HQ.out _ (by go_grown)).mono ?_
 rintro e_w1 w1 ⟨rfl, hbw1⟩
 have hBw1 : Below w.heap.size w w1 := below_then (by go_grown) hbw1
 have c_w1 : w1.heap[w.heap.size]? = some (.cells #[.int .u8 3, .int .i64 e, .int .i64 a, .int .i64 b, .int .i64 c, .int .i64 d, .slice A4 n4 c4, .slice A5 n5 c5, .int .i64 id] 29 (0, 0)) := vbelow (by (repeat' (first | assumption | (refine vnewAt ?_; first | omega | (simp; done) | (simp; omega)) | refine valloc ?_ | refine vdrew ?_ | apply vput | (refine vfarr ?_ ?_; focus (first | omega | (simp; done) | (simp; omega))) | rfl))) hbw1
 have hcc_w1 := vcell c_w1
 have hfc_w1 := vfree c_w1
 have hsc_w1 := vlt c_w1
 have hlc_w1 := Nat.le_of_lt hsc_w1
 have hmc_w1 := Nat.le_succ_of_le hlc_w1
 clear HQ
 cases bare
 ·go_wp2
  go_returns
  exact ⟨rfl, by go_grown⟩
 ·go_wp2
  all_goals go_returns
  all_goals refine ⟨ret_int ?_, by go_grown⟩
  all_goals first | rfl | (unfold knownE; (repeat' split) <;> first | rfl | (exfalso; omega)) | ((repeat' split) <;> first | rfl | (exfalso; omega))
end Go.Proofs.YtkhcdichdnbcmaaR
end
section
namespace Go.Proofs.YtkhcdichdnbcmaaR
open Go.RowKit Go.Proofs.YtkhcdichdnbcmaaR Go.Proofs.YtkhcdichdnbcmaaR.Ext Go.Proofs.YtkhcdichdnbcmaaR.C Go.Proofs.YtkhcdichdnbcmaaR.Sp Go.Proofs.YtkhcdichdnbcmaaRW.PrintWords Go.Proofs.YtkhcdichdnbcmaaRW.PrintLast
set_option linter.unusedVariables false
set_option linter.unusedSimpArgs false
theorem rck_C (kind e a b c d : Int) (A : Option Addr) (p : Nat) (ps : List Int) (B : Option Addr) (q : Nat) (ts : List TX) (id : Int) (w : World) (r : Int) (hr : Sp.cmdE ⟨kind, e, spOf a b c d ps ts, id⟩ = r) (hp : ps.length ≤ 1000) (ht : ts.length ≤ 1000)
    (c1 : Kd.C (Kd.int .i64) w A ps.length ps) (l1 : ps.length ≤ p) (c2 : Kd.C k90 w B ts.length ts) (l2 : ts.length ≤ q) :
    Calls Try.prog 18 #[.agg #[.int .u8 kind, .int .i64 e, .int .i64 a, .int .i64 b, .int .i64 c, .int .i64 d, .slice A ps.length p, .slice B ts.length q, .int .i64 id]] w fun ee w' => ee = .returned (.int .i64 r) ∧ Below w.heap.size w w' := by
  subst hr
  obtain ⟨bare, hb⟩ : ∃ x, decide (spOf a b c d ps ts = zSP) = x := ⟨_, rfl⟩
  have hq := PureC.eqSpec 1001 a b c d 0 0 0 0 ps [] ts [] hp ht (by omega) (by omega)
  have hz : decide (spOf a b c d ps ts = spOf 0 0 0 0 [] []) = bare := hb
  rw [hz] at hq
  have HQ := fun W (hB : Below w.heap.size w W) => sacristankit_EqualSpec.calls 1001 a b c d A p ps B q ts 0 0 0 0 none 0 [] none 0 [] bare W (Kd.C_below c1 hB) l1 (Kd.C_below c2 hB) l2 (Kd.C_nil _ _) (Nat.le_refl _) (Kd.C_nil _ _) (Nat.le_refl _) hq
  have HS := fun W (hB : Below w.heap.size w W) => sacristanref13_Check.calls 30 a b c d A p ps B q ts _ W (Kd.C_below c1 hB) l1 (Kd.C_below c2 hB) l2 (PureR.check_eq 0 a b c d ps ts)
  have hbt : bare = true ↔ spOf a b c d ps ts = zSP := by rw [← hb]; exact decide_eq_true_iff
  by_cases k1 : kind = 1
  · subst k1
    by_cases i0 : id = 0
    · subst i0
      by_cases he : e < 0 ∨ 1099511627776 < e
      · have : Sp.cmdE ⟨1, e, spOf a b c d ps ts, 0⟩ = 3 := by unfold Sp.cmdE; rw [if_pos (.inl ⟨rfl, rfl⟩), if_pos he]
        rw [this]
        exact rck_ep _ _ _ _ _ _ _ _ _ _ _ w he
      · have : Sp.cmdE ⟨1, e, spOf a b c d ps ts, 0⟩ = Sp.specE (spOf a b c d ps ts) := by unfold Sp.cmdE; rw [if_pos (.inl ⟨rfl, rfl⟩), if_neg he, if_pos rfl]
        rw [this]
        exact rck_pl _ _ _ _ _ _ _ _ _ _ _ _ w (by omega) (by omega) (Lib.hid HS)
    · have : Sp.cmdE ⟨1, e, spOf a b c d ps ts, id⟩ = 2 := by
        unfold Sp.cmdE
        rw [if_neg]
        rintro (h | h)
        · exact i0 h.2
        · have := h.1; simp at this
      rw [this]
      exact rck_id _ _ _ _ _ _ _ _ _ _ _ _ w i0
  · by_cases k23 : kind = 2 ∨ kind = 3
    · have hE : Sp.cmdE ⟨kind, e, spOf a b c d ps ts, id⟩ = (if bare = false then 2 else if e < 0 ∨ 1099511627776 < e then 3 else knownE id) := by
        unfold Sp.cmdE knownE
        cases bare with
        | true => rw [if_pos (.inr ⟨k23, hbt.1 rfl⟩), if_neg (c := true = false) (by simp), if_neg (c := kind = 1) k1]
        | false =>
          rw [if_neg, if_pos rfl]
          rintro (h | h)
          · exact k1 h.1
          · have := hbt.2 h.2; cases this
      rw [hE]
      rcases k23 with rfl | rfl
      · exact rck_2 _ _ _ _ _ _ _ _ _ _ _ _ bare w (Lib.hid HQ)
      · exact rck_3 _ _ _ _ _ _ _ _ _ _ _ _ bare w (Lib.hid HQ)
    · have : Sp.cmdE ⟨kind, e, spOf a b c d ps ts, id⟩ = 2 := by
        unfold Sp.cmdE
        rw [if_neg]
        rintro (h | h)
        · exact k1 h.1
        · exact k23 h.1
      rw [this]
      exact rck_no _ _ _ _ _ _ _ _ _ _ _ _ _ w (by omega)
theorem rchk9_s {w0 w : World} {L : List HP} (k e a b c d : Int) {A B : Option Addr} {n m p q : Nat} (id : Int) (ps : List Int) (ts : List TX) (hp : ps.length ≤ 1000) (ht : ts.length ≤ 1000) (h : St w0 w (RI (.slice A n p) ps :: RT (.slice B m q) ts :: L)) (r : Int) (hr : Sp.cmdE ⟨k, e, spOf a b c d ps ts, id⟩ = r) :
    Calls Try.prog 18 #[.agg #[.int .u8 k, .int .i64 e, .int .i64 a, .int .i64 b, .int .i64 c, .int .i64 d, .slice A n p, .slice B m q, .int .i64 id]] w fun e w' => e = .returned (.int .i64 r) ∧ St w0 w' (RI (.slice A n p) ps :: RT (.slice B m q) ts :: L) := by
  obtain ⟨c1, e1, l1⟩ := h.rowKC
  obtain ⟨c2, e2, l2⟩ := (h.pick 1).rowKC
  subst e1; subst e2
  refine (rck_C k e a b c d A p ps B q ts id w r hr hp ht c1 l1 c2 l2).mono ?_
  rintro e w' ⟨rfl, hb⟩
  exact ⟨rfl, h.more hb⟩
theorem rvar_c (n : Nat) (hn : n < 18446744073709551616) (w : World) : Calls Try.prog 39 #[.int .u64 n] w fun e w' => e = .returned (.string (YtkhcdichdnbcmaaR.Ext.mkB (Pk.varL n))) ∧ Below w.heap.size w w' :=
  sacristanref02_Var.calls 20 n _ w (PureR.rvar_eq 20 (Nat.le_refl _) n hn)
set_option maxHeartbeats 1000000 in
theorem renc_no (kind e a b c d : Int) (A4 A5 : Option Addr) (n4 c4 n5 c5 : Nat) (id : Int) (w : World) (E : Int) (h0 : E ≠ 0)
    (HC : Go.RowKit.Hid (∀ W, Below w.heap.size w W → Calls Try.prog 18 #[.agg #[.int .u8 kind, .int .i64 e, .int .i64 a, .int .i64 b, .int .i64 c, .int .i64 d, .slice A4 n4 c4, .slice A5 n5 c5, .int .i64 id]] W fun ee w' => ee = .returned (.int .i64 E) ∧ Below W.heap.size W w')) :
    Calls Try.prog 16 #[.agg #[.int .u8 kind, .int .i64 e, .int .i64 a, .int .i64 b, .int .i64 c, .int .i64 d, .slice A4 n4 c4, .slice A5 n5 c5, .int .i64 id]] w fun ee w' => ee = .returned (.tuple #[.string (YtkhcdichdnbcmaaR.Ext.mkB []), .int .i64 E]) ∧ Below w.heap.size w w' := by
  have h0b : (E != 0) = true := bne_iff_ne.mpr h0
  clear h0
  go_enter Try.func16, Try.ntmps16
  go_wp2_with fail
  refine (HC.out _ (by go_grown)).mono ?_
  rintro e w1 ⟨rfl, hb1⟩
  have hB1 : Below w.heap.size w w1 := below_then (by go_grown) hb1
  clear hb1 HC
  go_wp2
  go_returns
  exact ⟨rfl, hB1⟩
set_option maxRecDepth 100000 in
set_option maxHeartbeats 2000000 in
theorem renc_1 (e a b c d : Int) (A4 A5 : Option Addr) (n4 c4 n5 c5 : Nat) (w : World) (o1 o2 o3 : List UInt8) (he : 0 ≤ e) (he2 : e ≤ 1099511627776) (hl3 : o3.length ≤ 1000)
    (h1 : o1 = Sp.encN 1) (h2 : o2 = Sp.encN e)
    (HC : Go.RowKit.Hid (∀ W, Below w.heap.size w W → Calls Try.prog 18 #[.agg #[.int .u8 1, .int .i64 e, .int .i64 a, .int .i64 b, .int .i64 c, .int .i64 d, .slice A4 n4 c4, .slice A5 n5 c5, .int .i64 0]] W fun ee w' => ee = .returned (.int .i64 0) ∧ Below W.heap.size W w'))
    (HE : Go.RowKit.Hid (∀ W, Below w.heap.size w W → Calls Try.prog 40 #[.agg #[.int .i64 a, .int .i64 b, .int .i64 c, .int .i64 d, .slice A4 n4 c4, .slice A5 n5 c5]] W fun ee w' => ee = .returned (.tuple #[.string (YtkhcdichdnbcmaaR.Ext.mkB o3), .int .i64 0]) ∧ Below W.heap.size W w')) :
    Calls Try.prog 16 #[.agg #[.int .u8 1, .int .i64 e, .int .i64 a, .int .i64 b, .int .i64 c, .int .i64 d, .slice A4 n4 c4, .slice A5 n5 c5, .int .i64 0]] w fun ee w' => ee = .returned (.tuple #[.string (YtkhcdichdnbcmaaR.Ext.mkB (o1 ++ (o2 ++ o3))), .int .i64 0]) ∧ Below w.heap.size w w' := by
  obtain ⟨m, rfl⟩ := Int.eq_ofNat_of_zero_le he
  have q2 : o2 = Pk.varL m := by rw [h2]; simp [Sp.encN]
  have q1 : o1 = Pk.varL 1 := h1
  clear h1 h2
  have hv1 := (Pk.varL_length 1 (by omega)).2
  have hv2 := (Pk.varL_length m (by omega)).2
  rw [← q1] at hv1
  rw [← q2] at hv2
  have HV1 : Go.RowKit.Hid (∀ W, Calls Try.prog 39 #[.int .u64 1] W fun e w' => e = .returned (.string (YtkhcdichdnbcmaaR.Ext.mkB (Pk.varL 1))) ∧ Below W.heap.size W w') := Lib.hid (fun W => rvar_c 1 (by omega) W)
  have HV2 := Lib.hid (fun W => rvar_c m (by omega) W)
  rw [← q1] at HV1
  rw [← q2] at HV2
  clear q1 q2
  have hcv : IntKind.u64.wrap (m : Int) = (m : Int) := IntWalk.u64_in _ (by omega)
  have hs1 : (YtkhcdichdnbcmaaR.Ext.mkB o1).size + (YtkhcdichdnbcmaaR.Ext.mkB o2).size ≤ 9223372036854775807 := by rw [mkB_size, mkB_size]; omega
  have hs2 : (YtkhcdichdnbcmaaR.Ext.mkB (o1 ++ o2)).size + (YtkhcdichdnbcmaaR.Ext.mkB o3).size ≤ 9223372036854775807 := by rw [mkB_size, mkB_size, List.length_append]; omega
  have z1 := eq_true hs1
  have z2 := eq_false (Nat.not_lt.2 hs1)
  have z3 := decide_eq_true hs1
  have z4 := eq_true hs2
  have z5 := eq_false (Nat.not_lt.2 hs2)
  have z6 := decide_eq_true hs2
  have t1 := mkB_append o1 o2
  have t2 := mkB_append (o1 ++ o2) o3
  clear hs1 hs2 hv1 hv2 hl3 he he2
  go_enter Try.func16, Try.ntmps16
  go_wp2_with fail
  refine (HC.out _ (by go_grown)).mono ?_
  rintro e_w1 w1 ⟨rfl, hbw1⟩
  have hBw1 : Below w.heap.size w w1 := below_then (by go_grown) hbw1
  have c_w1 : w1.heap[w.heap.size]? = some (.cells #[.int .u8 1, .int .i64 m, .int .i64 a, .int .i64 b, .int .i64 c, .int .i64 d, .slice A4 n4 c4, .slice A5 n5 c5, .int .i64 0] 29 (0, 0)) := vbelow (by (repeat' (first | assumption | (refine vnewAt ?_; first | omega | (simp; done) | (simp; omega)) | refine valloc ?_ | refine vdrew ?_ | apply vput | (refine vfarr ?_ ?_; focus (first | omega | (simp; done) | (simp; omega))) | rfl))) hbw1
  have hcc_w1 := vcell c_w1
  have hfc_w1 := vfree c_w1
  have hsc_w1 := vlt c_w1
  have hlc_w1 := Nat.le_of_lt hsc_w1
  have hmc_w1 := Nat.le_succ_of_le hlc_w1
  clear HC
  go_upto_region 4 with fail
  have yu : ∀ v j, (w1.up v).cell? ⟨w.heap.size, j, none⟩ = (#[.int .u8 1, .int .i64 m, .int .i64 a, .int .i64 b, .int .i64 c, .int .i64 d, .slice A4 n4 c4, .slice A5 n5 c5, .int .i64 0] : Array Value)[j]? := fun v j => (up_cell w1 v _ hsc_w1).trans (hcc_w1 j)
  have zf1 := fun v => calls_up (HV1.out (w1.up v))
  have zf2 := fun v => calls_up (HV2.out (w1.up v))
  refine wp_region_up_lit (by kernel_rfl) (by kernel_rfl) ?_
  repeat (go_big_quiet_step ((first | (with_reducible exact zf1 _) | (with_reducible exact zf2 _))))
  refine wpQuiet_nil ?_
  intro w2 hWw2
  have hbw2 := up_ex hWw2
  clear hWw2
  have hBw2 : Below w.heap.size w w2 := below_then (by go_grown) hbw2
  have c_w2 : w2.heap[w.heap.size]? = some (.cells #[.int .u8 1, .int .i64 m, .int .i64 a, .int .i64 b, .int .i64 c, .int .i64 d, .slice A4 n4 c4, .slice A5 n5 c5, .int .i64 0] 29 (0, 0)) := vbelow (by (repeat' (first | assumption | (refine vnewAt ?_; first | omega | (simp; done) | (simp; omega)) | refine valloc ?_ | refine vdrew ?_ | apply vput | (refine vfarr ?_ ?_; focus (first | omega | (simp; done) | (simp; omega))) | rfl))) hbw2
  have hcc_w2 := vcell c_w2
  have hfc_w2 := vfree c_w2
  have hsc_w2 := vlt c_w2
  have hlc_w2 := Nat.le_of_lt hsc_w2
  have hmc_w2 := Nat.le_succ_of_le hlc_w2
  try clear c_w1 hcc_w1 hfc_w1 hsc_w1 hlc_w1 hmc_w1
  clear yu zf1 zf2 HV1 HV2
  go_wp2_with fail
  refine (HE.out _ (by go_grown)).mono ?_
  rintro e_w4 w4 ⟨rfl, hbw4⟩
  have hBw4 : Below w.heap.size w w4 := below_then (by go_grown) hbw4
  have c_w4 : w4.heap[w.heap.size]? = some (.cells #[.int .u8 1, .int .i64 m, .int .i64 a, .int .i64 b, .int .i64 c, .int .i64 d, .slice A4 n4 c4, .slice A5 n5 c5, .int .i64 0] 29 (0, 0)) := vbelow (by (repeat' (first | assumption | (refine vnewAt ?_; first | omega | (simp; done) | (simp; omega)) | refine valloc ?_ | refine vdrew ?_ | apply vput | (refine vfarr ?_ ?_; focus (first | omega | (simp; done) | (simp; omega))) | rfl))) hbw4
  have hcc_w4 := vcell c_w4
  have hfc_w4 := vfree c_w4
  have hsc_w4 := vlt c_w4
  have hlc_w4 := Nat.le_of_lt hsc_w4
  have hmc_w4 := Nat.le_succ_of_le hlc_w4
  try clear c_w2 hcc_w2 hfc_w2 hsc_w2 hlc_w2 hmc_w2
  clear HE
  go_wp2
  go_returns
  exact ⟨rfl, by go_grown⟩
set_option maxRecDepth 100000 in
set_option maxHeartbeats 2000000 in
theorem renc_2 (e a b c d : Int) (A4 A5 : Option Addr) (n4 c4 n5 c5 : Nat) (x : Int) (w : World) (o1 o2 o3 : List UInt8) (he : 0 ≤ e) (he2 : e ≤ 1099511627776) (hx : 0 ≤ x) (hx2 : x ≤ 2147483648) (h3 : o3 = Sp.encN x)
    (h1 : o1 = Sp.encN 2) (h2 : o2 = Sp.encN e)
    (HC : Go.RowKit.Hid (∀ W, Below w.heap.size w W → Calls Try.prog 18 #[.agg #[.int .u8 2, .int .i64 e, .int .i64 a, .int .i64 b, .int .i64 c, .int .i64 d, .slice A4 n4 c4, .slice A5 n5 c5, .int .i64 x]] W fun ee w' => ee = .returned (.int .i64 0) ∧ Below W.heap.size W w'))
 :
    Calls Try.prog 16 #[.agg #[.int .u8 2, .int .i64 e, .int .i64 a, .int .i64 b, .int .i64 c, .int .i64 d, .slice A4 n4 c4, .slice A5 n5 c5, .int .i64 x]] w fun ee w' => ee = .returned (.tuple #[.string (YtkhcdichdnbcmaaR.Ext.mkB (o1 ++ (o2 ++ o3))), .int .i64 0]) ∧ Below w.heap.size w w' := by
  obtain ⟨m, rfl⟩ := Int.eq_ofNat_of_zero_le he
  obtain ⟨n, rfl⟩ := Int.eq_ofNat_of_zero_le hx
  have q2 : o2 = Pk.varL m := by rw [h2]; simp [Sp.encN]
  have q1 : o1 = Pk.varL 2 := h1
  have q3 : o3 = Pk.varL n := by rw [h3]; simp [Sp.encN]
  clear h3
  clear h1 h2
  have hv1 := (Pk.varL_length 2 (by omega)).2
  have hv2 := (Pk.varL_length m (by omega)).2
  rw [← q1] at hv1
  rw [← q2] at hv2
  have HV1 : Go.RowKit.Hid (∀ W, Calls Try.prog 39 #[.int .u64 2] W fun e w' => e = .returned (.string (YtkhcdichdnbcmaaR.Ext.mkB (Pk.varL 2))) ∧ Below W.heap.size W w') := Lib.hid (fun W => rvar_c 2 (by omega) W)
  have HV2 := Lib.hid (fun W => rvar_c m (by omega) W)
  rw [← q1] at HV1
  rw [← q2] at HV2
  clear q1 q2
  have hl3 := (Pk.varL_length n (by omega)).2
  rw [← q3] at hl3
  have HV3 := Lib.hid (fun W => rvar_c n (by omega) W)
  rw [← q3] at HV3
  clear q3
  have hcn : IntKind.u64.wrap (n : Int) = (n : Int) := IntWalk.u64_in _ (by omega)
  have hcv : IntKind.u64.wrap (m : Int) = (m : Int) := IntWalk.u64_in _ (by omega)
  have hs1 : (YtkhcdichdnbcmaaR.Ext.mkB o1).size + (YtkhcdichdnbcmaaR.Ext.mkB o2).size ≤ 9223372036854775807 := by rw [mkB_size, mkB_size]; omega
  have hs2 : (YtkhcdichdnbcmaaR.Ext.mkB (o1 ++ o2)).size + (YtkhcdichdnbcmaaR.Ext.mkB o3).size ≤ 9223372036854775807 := by rw [mkB_size, mkB_size, List.length_append]; omega
  have z1 := eq_true hs1
  have z2 := eq_false (Nat.not_lt.2 hs1)
  have z3 := decide_eq_true hs1
  have z4 := eq_true hs2
  have z5 := eq_false (Nat.not_lt.2 hs2)
  have z6 := decide_eq_true hs2
  have t1 := mkB_append o1 o2
  have t2 := mkB_append (o1 ++ o2) o3
  clear hs1 hs2 hv1 hv2 hl3 he he2 hx hx2
  go_enter Try.func16, Try.ntmps16
  go_wp2_with fail
  refine (HC.out _ (by go_grown)).mono ?_
  rintro e_w1 w1 ⟨rfl, hbw1⟩
  have hBw1 : Below w.heap.size w w1 := below_then (by go_grown) hbw1
  have c_w1 : w1.heap[w.heap.size]? = some (.cells #[.int .u8 2, .int .i64 m, .int .i64 a, .int .i64 b, .int .i64 c, .int .i64 d, .slice A4 n4 c4, .slice A5 n5 c5, .int .i64 n] 29 (0, 0)) := vbelow (by (repeat' (first | assumption | (refine vnewAt ?_; first | omega | (simp; done) | (simp; omega)) | refine valloc ?_ | refine vdrew ?_ | apply vput | (refine vfarr ?_ ?_; focus (first | omega | (simp; done) | (simp; omega))) | rfl))) hbw1
  have hcc_w1 := vcell c_w1
  have hfc_w1 := vfree c_w1
  have hsc_w1 := vlt c_w1
  have hlc_w1 := Nat.le_of_lt hsc_w1
  have hmc_w1 := Nat.le_succ_of_le hlc_w1
  clear HC
  go_upto_region 4 with fail
  have yu : ∀ v j, (w1.up v).cell? ⟨w.heap.size, j, none⟩ = (#[.int .u8 2, .int .i64 m, .int .i64 a, .int .i64 b, .int .i64 c, .int .i64 d, .slice A4 n4 c4, .slice A5 n5 c5, .int .i64 n] : Array Value)[j]? := fun v j => (up_cell w1 v _ hsc_w1).trans (hcc_w1 j)
  have zf1 := fun v => calls_up (HV1.out (w1.up v))
  have zf2 := fun v => calls_up (HV2.out (w1.up v))
  refine wp_region_up_lit (by kernel_rfl) (by kernel_rfl) ?_
  repeat (go_big_quiet_step ((first | (with_reducible exact zf1 _) | (with_reducible exact zf2 _))))
  refine wpQuiet_nil ?_
  intro w2 hWw2
  have hbw2 := up_ex hWw2
  clear hWw2
  have hBw2 : Below w.heap.size w w2 := below_then (by go_grown) hbw2
  have c_w2 : w2.heap[w.heap.size]? = some (.cells #[.int .u8 2, .int .i64 m, .int .i64 a, .int .i64 b, .int .i64 c, .int .i64 d, .slice A4 n4 c4, .slice A5 n5 c5, .int .i64 n] 29 (0, 0)) := vbelow (by (repeat' (first | assumption | (refine vnewAt ?_; first | omega | (simp; done) | (simp; omega)) | refine valloc ?_ | refine vdrew ?_ | apply vput | (refine vfarr ?_ ?_; focus (first | omega | (simp; done) | (simp; omega))) | rfl))) hbw2
  have hcc_w2 := vcell c_w2
  have hfc_w2 := vfree c_w2
  have hsc_w2 := vlt c_w2
  have hlc_w2 := Nat.le_of_lt hsc_w2
  have hmc_w2 := Nat.le_succ_of_le hlc_w2
  try clear c_w1 hcc_w1 hfc_w1 hsc_w1 hlc_w1 hmc_w1
  clear yu zf1 zf2 HV1 HV2
  go_wp2_with fail
  refine (HV3.out _).mono ?_
  rintro e_w4 w4 ⟨rfl, hbw4⟩
  have hBw4 : Below w.heap.size w w4 := below_then (by go_grown) hbw4
  have c_w4 : w4.heap[w.heap.size]? = some (.cells #[.int .u8 2, .int .i64 m, .int .i64 a, .int .i64 b, .int .i64 c, .int .i64 d, .slice A4 n4 c4, .slice A5 n5 c5, .int .i64 n] 29 (0, 0)) := vbelow (by (repeat' (first | assumption | (refine vnewAt ?_; first | omega | (simp; done) | (simp; omega)) | refine valloc ?_ | refine vdrew ?_ | apply vput | (refine vfarr ?_ ?_; focus (first | omega | (simp; done) | (simp; omega))) | rfl))) hbw4
  have hcc_w4 := vcell c_w4
  have hfc_w4 := vfree c_w4
  have hsc_w4 := vlt c_w4
  have hlc_w4 := Nat.le_of_lt hsc_w4
  have hmc_w4 := Nat.le_succ_of_le hlc_w4
  try clear c_w2 hcc_w2 hfc_w2 hsc_w2 hlc_w2 hmc_w2
  clear HV3
  go_wp2
  go_returns
  exact ⟨rfl, by go_grown⟩
set_option maxRecDepth 100000 in
set_option maxHeartbeats 2000000 in
theorem renc_3 (e a b c d : Int) (A4 A5 : Option Addr) (n4 c4 n5 c5 : Nat) (x : Int) (w : World) (o1 o2 o3 : List UInt8) (he : 0 ≤ e) (he2 : e ≤ 1099511627776) (hx : 0 ≤ x) (hx2 : x ≤ 2147483648) (h3 : o3 = Sp.encN x)
    (h1 : o1 = Sp.encN 3) (h2 : o2 = Sp.encN e)
    (HC : Go.RowKit.Hid (∀ W, Below w.heap.size w W → Calls Try.prog 18 #[.agg #[.int .u8 3, .int .i64 e, .int .i64 a, .int .i64 b, .int .i64 c, .int .i64 d, .slice A4 n4 c4, .slice A5 n5 c5, .int .i64 x]] W fun ee w' => ee = .returned (.int .i64 0) ∧ Below W.heap.size W w'))
 :
    Calls Try.prog 16 #[.agg #[.int .u8 3, .int .i64 e, .int .i64 a, .int .i64 b, .int .i64 c, .int .i64 d, .slice A4 n4 c4, .slice A5 n5 c5, .int .i64 x]] w fun ee w' => ee = .returned (.tuple #[.string (YtkhcdichdnbcmaaR.Ext.mkB (o1 ++ (o2 ++ o3))), .int .i64 0]) ∧ Below w.heap.size w w' := by
  obtain ⟨m, rfl⟩ := Int.eq_ofNat_of_zero_le he
  obtain ⟨n, rfl⟩ := Int.eq_ofNat_of_zero_le hx
  have q2 : o2 = Pk.varL m := by rw [h2]; simp [Sp.encN]
  have q1 : o1 = Pk.varL 3 := h1
  have q3 : o3 = Pk.varL n := by rw [h3]; simp [Sp.encN]
  clear h3
  clear h1 h2
  have hv1 := (Pk.varL_length 3 (by omega)).2
  have hv2 := (Pk.varL_length m (by omega)).2
  rw [← q1] at hv1
  rw [← q2] at hv2
  have HV1 : Go.RowKit.Hid (∀ W, Calls Try.prog 39 #[.int .u64 3] W fun e w' => e = .returned (.string (YtkhcdichdnbcmaaR.Ext.mkB (Pk.varL 3))) ∧ Below W.heap.size W w') := Lib.hid (fun W => rvar_c 3 (by omega) W)
  have HV2 := Lib.hid (fun W => rvar_c m (by omega) W)
  rw [← q1] at HV1
  rw [← q2] at HV2
  clear q1 q2
  have hl3 := (Pk.varL_length n (by omega)).2
  rw [← q3] at hl3
  have HV3 := Lib.hid (fun W => rvar_c n (by omega) W)
  rw [← q3] at HV3
  clear q3
  have hcn : IntKind.u64.wrap (n : Int) = (n : Int) := IntWalk.u64_in _ (by omega)
  have hcv : IntKind.u64.wrap (m : Int) = (m : Int) := IntWalk.u64_in _ (by omega)
  have hs1 : (YtkhcdichdnbcmaaR.Ext.mkB o1).size + (YtkhcdichdnbcmaaR.Ext.mkB o2).size ≤ 9223372036854775807 := by rw [mkB_size, mkB_size]; omega
  have hs2 : (YtkhcdichdnbcmaaR.Ext.mkB (o1 ++ o2)).size + (YtkhcdichdnbcmaaR.Ext.mkB o3).size ≤ 9223372036854775807 := by rw [mkB_size, mkB_size, List.length_append]; omega
  have z1 := eq_true hs1
  have z2 := eq_false (Nat.not_lt.2 hs1)
  have z3 := decide_eq_true hs1
  have z4 := eq_true hs2
  have z5 := eq_false (Nat.not_lt.2 hs2)
  have z6 := decide_eq_true hs2
  have t1 := mkB_append o1 o2
  have t2 := mkB_append (o1 ++ o2) o3
  clear hs1 hs2 hv1 hv2 hl3 he he2 hx hx2
  go_enter Try.func16, Try.ntmps16
  go_wp2_with fail
  refine (HC.out _ (by go_grown)).mono ?_
  rintro e_w1 w1 ⟨rfl, hbw1⟩
  have hBw1 : Below w.heap.size w w1 := below_then (by go_grown) hbw1
  have c_w1 : w1.heap[w.heap.size]? = some (.cells #[.int .u8 3, .int .i64 m, .int .i64 a, .int .i64 b, .int .i64 c, .int .i64 d, .slice A4 n4 c4, .slice A5 n5 c5, .int .i64 n] 29 (0, 0)) := vbelow (by (repeat' (first | assumption | (refine vnewAt ?_; first | omega | (simp; done) | (simp; omega)) | refine valloc ?_ | refine vdrew ?_ | apply vput | (refine vfarr ?_ ?_; focus (first | omega | (simp; done) | (simp; omega))) | rfl))) hbw1
  have hcc_w1 := vcell c_w1
  have hfc_w1 := vfree c_w1
  have hsc_w1 := vlt c_w1
  have hlc_w1 := Nat.le_of_lt hsc_w1
  have hmc_w1 := Nat.le_succ_of_le hlc_w1
  clear HC
  go_upto_region 4 with fail
  have yu : ∀ v j, (w1.up v).cell? ⟨w.heap.size, j, none⟩ = (#[.int .u8 3, .int .i64 m, .int .i64 a, .int .i64 b, .int .i64 c, .int .i64 d, .slice A4 n4 c4, .slice A5 n5 c5, .int .i64 n] : Array Value)[j]? := fun v j => (up_cell w1 v _ hsc_w1).trans (hcc_w1 j)
  have zf1 := fun v => calls_up (HV1.out (w1.up v))
  have zf2 := fun v => calls_up (HV2.out (w1.up v))
  refine wp_region_up_lit (by kernel_rfl) (by kernel_rfl) ?_
  repeat (go_big_quiet_step ((first | (with_reducible exact zf1 _) | (with_reducible exact zf2 _))))
  refine wpQuiet_nil ?_
  intro w2 hWw2
  have hbw2 := up_ex hWw2
  clear hWw2
  have hBw2 : Below w.heap.size w w2 := below_then (by go_grown) hbw2
  have c_w2 : w2.heap[w.heap.size]? = some (.cells #[.int .u8 3, .int .i64 m, .int .i64 a, .int .i64 b, .int .i64 c, .int .i64 d, .slice A4 n4 c4, .slice A5 n5 c5, .int .i64 n] 29 (0, 0)) := vbelow (by (repeat' (first | assumption | (refine vnewAt ?_; first | omega | (simp; done) | (simp; omega)) | refine valloc ?_ | refine vdrew ?_ | apply vput | (refine vfarr ?_ ?_; focus (first | omega | (simp; done) | (simp; omega))) | rfl))) hbw2
  have hcc_w2 := vcell c_w2
  have hfc_w2 := vfree c_w2
  have hsc_w2 := vlt c_w2
  have hlc_w2 := Nat.le_of_lt hsc_w2
  have hmc_w2 := Nat.le_succ_of_le hlc_w2
  try clear c_w1 hcc_w1 hfc_w1 hsc_w1 hlc_w1 hmc_w1
  clear yu zf1 zf2 HV1 HV2
  go_wp2_with fail
  refine (HV3.out _).mono ?_
  rintro e_w4 w4 ⟨rfl, hbw4⟩
  have hBw4 : Below w.heap.size w w4 := below_then (by go_grown) hbw4
  have c_w4 : w4.heap[w.heap.size]? = some (.cells #[.int .u8 3, .int .i64 m, .int .i64 a, .int .i64 b, .int .i64 c, .int .i64 d, .slice A4 n4 c4, .slice A5 n5 c5, .int .i64 n] 29 (0, 0)) := vbelow (by (repeat' (first | assumption | (refine vnewAt ?_; first | omega | (simp; done) | (simp; omega)) | refine valloc ?_ | refine vdrew ?_ | apply vput | (refine vfarr ?_ ?_; focus (first | omega | (simp; done) | (simp; omega))) | rfl))) hbw4
  have hcc_w4 := vcell c_w4
  have hfc_w4 := vfree c_w4
  have hsc_w4 := vlt c_w4
  have hlc_w4 := Nat.le_of_lt hsc_w4
  have hmc_w4 := Nat.le_succ_of_le hlc_w4
  try clear c_w2 hcc_w2 hfc_w2 hsc_w2 hlc_w2 hmc_w2
  clear HV3
  go_wp2
  go_returns
  exact ⟨rfl, by go_grown⟩
theorem renc9_s {w0 w : World} {L : List HP} (k e a b c d : Int) {A B : Option Addr} {n m p q : Nat} (id : Int) (ps : List Int) (ts : List TX) (hp : ps.length ≤ 20) (ht : ts.length ≤ 10) (h : St w0 w (RI (.slice A n p) ps :: RT (.slice B m q) ts :: L)) (x : List UInt8) (r : Int) (hx : Sp.encCR ⟨k, e, spOf a b c d ps ts, id⟩ = x) (hr : Sp.cmdE ⟨k, e, spOf a b c d ps ts, id⟩ = r) :
    Calls Try.prog 16 #[.agg #[.int .u8 k, .int .i64 e, .int .i64 a, .int .i64 b, .int .i64 c, .int .i64 d, .slice A n p, .slice B m q, .int .i64 id]] w fun e w' => e = .returned (.tuple #[.string (YtkhcdichdnbcmaaR.Ext.mkB x), .int .i64 r]) ∧ St w0 w' (RI (.slice A n p) ps :: RT (.slice B m q) ts :: L) := by
  obtain ⟨c1, e1, l1⟩ := h.rowKC
  obtain ⟨c2, e2, l2⟩ := (h.pick 1).rowKC
  subst e1; subst e2
  have HC := fun W (hB : Below w.heap.size w W) => rck_C k e a b c d A p ps B q ts id W r hr (by omega) (by omega) (Kd.C_below c1 hB) l1 (Kd.C_below c2 hB) l2
  have key : Calls Try.prog 16 #[.agg #[.int .u8 k, .int .i64 e, .int .i64 a, .int .i64 b, .int .i64 c, .int .i64 d, .slice A ps.length p, .slice B ts.length q, .int .i64 id]] w fun e w' => e = .returned (.tuple #[.string (YtkhcdichdnbcmaaR.Ext.mkB x), .int .i64 r]) ∧ Below w.heap.size w w' := by
    by_cases hE : r = 0
    case neg =>
      have : x = [] := by rw [← hx]; unfold encCR; rw [hr, if_neg hE]
      subst this
      exact renc_no _ _ _ _ _ _ _ _ _ _ _ _ _ w _ hE (Lib.hid HC)
    subst hE
    have hx2 : x = encN k ++ (encN e ++ (if k = 1 then encS (spOf a b c d ps ts) else encN id)) := by rw [← hx]; unfold encCR encC; rw [hr, if_pos rfl, List.append_assoc]
    subst hx2
    have hg := Sp.okC_gC ((Sp.okC_iff _).2 hr)
    obtain ⟨⟨hk, he1, he2⟩, hta⟩ := hg
    unfold Sp.tailG at hta
    simp only at he1 he2 hta hk
    by_cases p1 : k = 1
    · subst p1
      rw [if_pos rfl] at hta ⊢
      obtain ⟨ho, rfl⟩ := hta
      have hs : Sp.specE (spOf a b c d ps ts) = 0 := by simpa [Sp.okS] using ho
      have hen : encR (spOf a b c d ps ts) = Sp.encS (spOf a b c d ps ts) := by unfold encR; rw [if_pos hs]
      have HE := fun W (hB : Below w.heap.size w W) => sacristanref13_Encode.calls 200 a b c d A p ps B q ts _ _ W (Kd.C_below c1 hB) l1 (Kd.C_below c2 hB) l2 (PureR.rencode_eq 0 a b c d ps ts hp ht)
      rw [hs, hen] at HE
      have hl := Sp.encS_length (Sp.okS_gS ho)
      exact renc_1 _ _ _ _ _ _ _ _ _ _ _ w _ _ _ he1 he2 (by omega) rfl rfl (Lib.hid HC) (Lib.hid HE)
    · rw [if_neg p1] at hta ⊢
      obtain ⟨hz, hx1, hx2⟩ := hta
      have h23 : k = 2 ∨ k = 3 := by
        unfold Sp.cmdE at hr
        split at hr
        · rename_i hsh
          rcases hsh with hsh | hsh
          · exact absurd hsh.1 p1
          · exact hsh.1
        · cases hr
      rcases h23 with rfl | rfl
      · exact renc_2 _ _ _ _ _ _ _ _ _ _ _ _ w _ _ _ he1 he2 hx1 hx2 rfl rfl rfl (Lib.hid HC)
      · exact renc_3 _ _ _ _ _ _ _ _ _ _ _ _ w _ _ _ he1 he2 hx1 hx2 rfl rfl rfl (Lib.hid HC)
  refine key.mono ?_
  rintro e w' ⟨rfl, hb⟩
  exact ⟨rfl, h.more hb⟩
end Go.Proofs.YtkhcdichdnbcmaaR
end
section
namespace Go.Proofs.YtkhcdichdnbcmaaR
open Go.RowKit Go.Proofs.YtkhcdichdnbcmaaR Go.Proofs.YtkhcdichdnbcmaaR.Ext Go.Proofs.YtkhcdichdnbcmaaR.C Go.Proofs.YtkhcdichdnbcmaaRW.PrintWords Go.Proofs.YtkhcdichdnbcmaaRW.PrintLast
set_option linter.unusedVariables false
set_option linter.unusedSimpArgs false
def toE (x : E90) : S90 := ⟨⟨x.f0, x.f1, x.f2, x.f3, x.f4⟩, x.f5⟩
theorem readsI {w : World} {A : Option Addr} {cap : Nat} {l : List Int} (h : SL24 w A cap l) : Kd.C (Kd.int .i64) w A l.length l ∧ l.length ≤ cap := by
 obtain ⟨h1, h2, h3⟩ := h
 have hm : maxLen ≤ 9223372036854775807 := by decide
 refine ⟨Kd.C_of_reads (d := (0 : Int)) ⟨rfl, by omega, fun hp => ?_⟩, h1⟩
 rcases h3 with rfl | ⟨b, off, rfl, hb, hc⟩
 ·simp at hp
 refine ⟨_, rfl, fun j hj => ?_⟩
 have ha : (Addr.mk b off none).add j = ⟨b, off + j, none⟩ := by unfold Addr.add; split <;> simp_all
 rw [ha]
 exact (hc j hj).1
theorem readsT {w : World} {A : Option Addr} {cap : Nat} {l : List E90} (h : SL25 w A cap l) : Kd.C k90 w A (l.map toE).length (l.map toE) ∧ (l.map toE).length ≤ cap := by
 obtain ⟨h1, h2, h3⟩ := h
 have hm : maxLen ≤ 9223372036854775807 := by decide
 refine ⟨⟨rfl, by rw [List.length_map]; omega, fun hp => ?_⟩, by rw [List.length_map]; exact h1⟩
 rw [List.length_map] at hp
 rcases h3 with rfl | ⟨b, off, rfl, hb, hc⟩
 ·simp at hp
 refine ⟨_, rfl, fun j p hj => ?_⟩
 obtain ⟨hl, rfl⟩ := List.getElem?_eq_some_iff.1 hj
 rw [List.length_map] at hl
 obtain ⟨c0, c1, _, c2, _, c3, _, c4, _, c5, _⟩ := hc j hl
 have hr : rdE90 l j = l[j] := by simp [rdE90, hl]
 rw [hr] at c0 c1 c2 c3 c4 c5
 have he : (l.map toE)[j] = toE l[j] := by simp
 refine ⟨[.bool (l[j]).f0, .int .i64 (l[j]).f1, .int .i64 (l[j]).f2, .int .i64 (l[j]).f3, .int .i64 (l[j]).f4, .int .i64 (l[j]).f5], rfl, ?_, fun i u hu => ?_⟩
 ·rw [he]; exact k90_mk w (toE l[j])
 ·have ha : ∀ n, (Addr.mk b off none).add n = ⟨b, off + n, none⟩ := fun n => by unfold Addr.add; split <;> simp_all
  show w.cell? ((Addr.mk b off none).add (j * 6 + i)) = _
  rw [ha, ← Nat.add_assoc]
  match i, hu with
  | 0, hu => injection hu with hu; subst hu; exact c0
  | 1, hu => injection hu with hu; subst hu; exact c1
  | 2, hu => injection hu with hu; subst hu; exact c2
  | 3, hu => injection hu with hu; subst hu; exact c3
  | 4, hu => injection hu with hu; subst hu; exact c4
  | 5, hu => injection hu with hu; subst hu; exact c5
  | i + 6, hu => simp at hu
end Go.Proofs.YtkhcdichdnbcmaaR
end
section
namespace Go.Proofs.YtkhcdichdnbcmaaR
open Go.RowKit Go.Proofs.YtkhcdichdnbcmaaR Go.Proofs.YtkhcdichdnbcmaaR.Ext Go.Proofs.YtkhcdichdnbcmaaR.C Go.Proofs.YtkhcdichdnbcmaaR.Sp Go.Proofs.YtkhcdichdnbcmaaRW.PrintWords Go.Proofs.YtkhcdichdnbcmaaRW.PrintLast
set_option linter.unusedVariables false
set_option linter.unusedSimpArgs false
set_option maxRecDepth 100000 in
set_option maxHeartbeats 16000000 in
theorem cmatch_c (k e a b c d id : Int) (A B : Option Addr) (n m p q : Nat) (ps : List Int) (ts : List TX) (X : List UInt8) (E1 : Int) (w : World) (hF1 : ∀ L, FewOf w L a b c d A B n m p q ps ts) (hps : ps.length ≤ 20) (hts : ts.length ≤ 10) (hX : Sp.encCR (⟨k, e, spOf a b c d ps ts, id⟩ : CM) = X) (hE : Sp.cmdE (⟨k, e, spOf a b c d ps ts, id⟩ : CM) = E1) :
  Calls Try.prog 4 #[.agg #[.int .u8 k, .int .i64 e, .int .i64 a, .int .i64 b, .int .i64 c, .int .i64 d, .slice A n p, .slice B m q, .int .i64 id]] w fun ee w' => ee = .returned (.bool true) ∧ Below w.heap.size w w' := by
 have HF1 := Lib.hid hF1
 have HL := Lib.hid (And.intro hps hts)
 have HX := Lib.hid (And.intro hX hE)
 clear hF1 hps hts hX hE
 have s1 := (St.start w).alloc #[.int .u8 k, .int .i64 e, .int .i64 a, .int .i64 b, .int .i64 c, .int .i64 d, .slice A n p, .slice B m q, .int .i64 id] tCm
 have hc1 := s1.cells
 have S1 := Lib.hid s1
 clear s1
 go_enter Try.func4, Try.ntmps4
 go_wp2_with fail
 skip
 refine (few9 k e a b c d A B n m p q id ps ts S1.out (HF1.out _)).mono ?_
 rintro ee w2 ⟨A1, B1, p1, q1, n1, m1, rfl, s2⟩
 clear hc1 S1 HF1
 generalize hb1 : w.heap.size = b1 at *
 have HB1 := Lib.hid hb1
 clear hb1
 have s3 := s2.pick 2
 simp only [List.getElem_cons_succ, List.getElem_cons_zero, List.eraseIdx_cons_succ, List.eraseIdx_cons_zero] at s3
 have S3 := Lib.hid s3
 clear s2 s3
 go_wp2_with (first | ((with_reducible refine wpList_storeSt S3.out rfl _ _ 29 rfl 0 #[.int .u8 k, .int .i64 e, .int .i64 a, .int .i64 b, .int .i64 c, .int .i64 d, .slice A1 n1 p1, .slice B1 m1 q1, .int .i64 id] #[.int .u8 k, .int .i64 e, .int .i64 a, .int .i64 b, .int .i64 c, .int .i64 d, .slice A1 n1 p1, .slice B1 m1 q1, .int .i64 id] size_cmd ?hn ?hx ?hv ?hf ?h1 ?he ?_); (case hn => rfl); (case hx => rfl); (case hv => rfl); (case hf => simp); (case h1 => simp [Value.oneCell']); (case he => rfl); intro w3 s4; clear S3; have hc4 := s4.cells; have S4 := Lib.hid s4; clear s4) | fail)
 have s5 := S4.out.pick 2
 simp only [List.getElem_cons_succ, List.getElem_cons_zero, List.eraseIdx_cons_succ, List.eraseIdx_cons_zero] at s5
 have s6 := s5.pick 2
 simp only [List.getElem_cons_succ, List.getElem_cons_zero, List.eraseIdx_cons_succ, List.eraseIdx_cons_zero] at s6
 clear S4 s5
 refine (few9 k e a b c d A1 B1 n1 m1 p1 q1 id ps ts s6 (few_s (w0 := w) a b c d ps ts HL.out.1 HL.out.2)).mono ?_
 rintro ee w4 ⟨A2, B2, p2, q2, n2, m2, rfl, s7⟩
 clear s6 hc4
 have s8 := s7.alloc #[.int .u8 k, .int .i64 e, .int .i64 a, .int .i64 b, .int .i64 c, .int .i64 d, .slice A2 n2 p2, .slice B2 m2 q2, .int .i64 id] tCm
 clear s7
 have s9 := s8.pick 1
 simp only [List.getElem_cons_succ, List.getElem_cons_zero, List.eraseIdx_cons_succ, List.eraseIdx_cons_zero] at s9
 have s10 := s9.pick 2
 simp only [List.getElem_cons_succ, List.getElem_cons_zero, List.eraseIdx_cons_succ, List.eraseIdx_cons_zero] at s10
 have s11 := s10.pick 1
 simp only [List.getElem_cons_succ, List.getElem_cons_zero, List.eraseIdx_cons_succ, List.eraseIdx_cons_zero] at s11
 clear s8 s9 s10
 have hc11 := (s11.pick 2).cells
 have S11 := Lib.hid s11
 clear s11
 go_wp2_with fail
 generalize w4.heap.size = b3 at *
 refine (enc9_s k e a b c d id ps ts S11.out X E1 HX.out.1 HX.out.2).mono ?_
 rintro ee w5 ⟨rfl, s12⟩
 clear S11 hc11
 have s13 := s12.pick 3
 simp only [List.getElem_cons_succ, List.getElem_cons_zero, List.eraseIdx_cons_succ, List.eraseIdx_cons_zero] at s13
 have s14 := s13.pick 4
 simp only [List.getElem_cons_succ, List.getElem_cons_zero, List.eraseIdx_cons_succ, List.eraseIdx_cons_zero] at s14
 have s15 := s14.pick 1
 simp only [List.getElem_cons_succ, List.getElem_cons_zero, List.eraseIdx_cons_succ, List.eraseIdx_cons_zero] at s15
 clear s12 s13 s14
 have hc15 := (s15.pick 5).cells
 have S15 := Lib.hid s15
 clear s15
 go_wp2_with fail
 refine (renc9_s k e a b c d id ps ts HL.out.1 HL.out.2 S15.out X E1 HX.out.1 HX.out.2).mono ?_
 rintro ee w6 ⟨rfl, s16⟩
 clear S15 hc15
 have K0 := Lib.hid (show w6.cell? ⟨b3, 0, none⟩ = some (.int .u8 k) ∧ w6.cell? ⟨b3, 1, none⟩ = some (.int .i64 e) ∧ w6.cell? ⟨b3, 2, none⟩ = some (.int .i64 a) ∧ w6.cell? ⟨b3, 3, none⟩ = some (.int .i64 b) ∧ w6.cell? ⟨b3, 4, none⟩ = some (.int .i64 c) ∧ w6.cell? ⟨b3, 5, none⟩ = some (.int .i64 d) ∧ w6.cell? ⟨b3, 6, none⟩ = some (.slice A2 n2 p2) ∧ w6.cell? ⟨b3, 7, none⟩ = some (.slice B2 m2 q2) ∧ w6.cell? ⟨b3, 8, none⟩ = some (.int .i64 id) ∧ w6.cell? ⟨b1, 0, none⟩ = some (.int .u8 k) ∧ w6.cell? ⟨b1, 1, none⟩ = some (.int .i64 e) ∧ w6.cell? ⟨b1, 2, none⟩ = some (.int .i64 a) ∧ w6.cell? ⟨b1, 3, none⟩ = some (.int .i64 b) ∧ w6.cell? ⟨b1, 4, none⟩ = some (.int .i64 c) ∧ w6.cell? ⟨b1, 5, none⟩ = some (.int .i64 d) ∧ w6.cell? ⟨b1, 6, none⟩ = some (.slice A1 n1 p1) ∧ w6.cell? ⟨b1, 7, none⟩ = some (.slice B1 m1 q1) ∧ w6.cell? ⟨b1, 8, none⟩ = some (.int .i64 id) from ⟨((s16).pick 4).cells 0, ((s16).pick 4).cells 1, ((s16).pick 4).cells 2, ((s16).pick 4).cells 3, ((s16).pick 4).cells 4, ((s16).pick 4).cells 5, ((s16).pick 4).cells 6, ((s16).pick 4).cells 7, ((s16).pick 4).cells 8, ((s16).pick 5).cells 0, ((s16).pick 5).cells 1, ((s16).pick 5).cells 2, ((s16).pick 5).cells 3, ((s16).pick 5).cells 4, ((s16).pick 5).cells 5, ((s16).pick 5).cells 6, ((s16).pick 5).cells 7, ((s16).pick 5).cells 8⟩)
 have Q0 := Lib.hid s16
 clear s16
 go_upto_region 5 with fail
 go_region_held3 (fun w' => w'.cell? ⟨b3, 0, none⟩ = some (.int .u8 k) ∧ w'.cell? ⟨b3, 1, none⟩ = some (.int .i64 e) ∧ w'.cell? ⟨b3, 2, none⟩ = some (.int .i64 a) ∧ w'.cell? ⟨b3, 3, none⟩ = some (.int .i64 b) ∧ w'.cell? ⟨b3, 4, none⟩ = some (.int .i64 c) ∧ w'.cell? ⟨b3, 5, none⟩ = some (.int .i64 d) ∧ w'.cell? ⟨b3, 6, none⟩ = some (.slice A2 n2 p2) ∧ w'.cell? ⟨b3, 7, none⟩ = some (.slice B2 m2 q2) ∧ w'.cell? ⟨b3, 8, none⟩ = some (.int .i64 id) ∧ w'.cell? ⟨b1, 0, none⟩ = some (.int .u8 k) ∧ w'.cell? ⟨b1, 1, none⟩ = some (.int .i64 e) ∧ w'.cell? ⟨b1, 2, none⟩ = some (.int .i64 a) ∧ w'.cell? ⟨b1, 3, none⟩ = some (.int .i64 b) ∧ w'.cell? ⟨b1, 4, none⟩ = some (.int .i64 c) ∧ w'.cell? ⟨b1, 5, none⟩ = some (.int .i64 d) ∧ w'.cell? ⟨b1, 6, none⟩ = some (.slice A1 n1 p1) ∧ w'.cell? ⟨b1, 7, none⟩ = some (.slice B1 m1 q1) ∧ w'.cell? ⟨b1, 8, none⟩ = some (.int .i64 id)) (first | exact K0.out | exact K1.out | exact K2.out | exact K3.out | exact K4.out) (first | (go_at_call 17; (first | (with_reducible refine (chk9_s k e a b c d id ps ts (show St w _ [RI (.slice A2 n2 p2) ps, RT (.slice B2 m2 q2) ts, RI (.slice A1 n1 p1) ps, RT (.slice B1 m1 q1) ts, Go.Proofs.YtkhcdichdnbcmaaR.blk b3 #[.int .u8 k, .int .i64 e, .int .i64 a, .int .i64 b, .int .i64 c, .int .i64 d, .slice A2 n2 p2, .slice B2 m2 q2, .int .i64 id] tCm, Go.Proofs.YtkhcdichdnbcmaaR.blk b1 #[.int .u8 k, .int .i64 e, .int .i64 a, .int .i64 b, .int .i64 c, .int .i64 d, .slice A1 n1 p1, .slice B1 m1 q1, .int .i64 id] tCm] from ((Q0.out).pick 3).pick 3) E1 HX.out.2).mono ?_) | (with_reducible refine (chk9_s k e a b c d id ps ts (show St w _ [RI (.slice A2 n2 p2) ps, RT (.slice B2 m2 q2) ts, RI (.slice A1 n1 p1) ps, RT (.slice B1 m1 q1) ts, Go.Proofs.YtkhcdichdnbcmaaR.blk b3 #[.int .u8 k, .int .i64 e, .int .i64 a, .int .i64 b, .int .i64 c, .int .i64 d, .slice A2 n2 p2, .slice B2 m2 q2, .int .i64 id] tCm, Go.Proofs.YtkhcdichdnbcmaaR.blk b1 #[.int .u8 k, .int .i64 e, .int .i64 a, .int .i64 b, .int .i64 c, .int .i64 d, .slice A1 n1 p1, .slice B1 m1 q1, .int .i64 id] tCm] from ((Q0.out.drew).pick 3).pick 3) E1 HX.out.2).mono ?_)); rintro e_ v1 ⟨rfl, z1⟩; have K1 := Lib.hid (show v1.cell? ⟨b3, 0, none⟩ = some (.int .u8 k) ∧ v1.cell? ⟨b3, 1, none⟩ = some (.int .i64 e) ∧ v1.cell? ⟨b3, 2, none⟩ = some (.int .i64 a) ∧ v1.cell? ⟨b3, 3, none⟩ = some (.int .i64 b) ∧ v1.cell? ⟨b3, 4, none⟩ = some (.int .i64 c) ∧ v1.cell? ⟨b3, 5, none⟩ = some (.int .i64 d) ∧ v1.cell? ⟨b3, 6, none⟩ = some (.slice A2 n2 p2) ∧ v1.cell? ⟨b3, 7, none⟩ = some (.slice B2 m2 q2) ∧ v1.cell? ⟨b3, 8, none⟩ = some (.int .i64 id) ∧ v1.cell? ⟨b1, 0, none⟩ = some (.int .u8 k) ∧ v1.cell? ⟨b1, 1, none⟩ = some (.int .i64 e) ∧ v1.cell? ⟨b1, 2, none⟩ = some (.int .i64 a) ∧ v1.cell? ⟨b1, 3, none⟩ = some (.int .i64 b) ∧ v1.cell? ⟨b1, 4, none⟩ = some (.int .i64 c) ∧ v1.cell? ⟨b1, 5, none⟩ = some (.int .i64 d) ∧ v1.cell? ⟨b1, 6, none⟩ = some (.slice A1 n1 p1) ∧ v1.cell? ⟨b1, 7, none⟩ = some (.slice B1 m1 q1) ∧ v1.cell? ⟨b1, 8, none⟩ = some (.int .i64 id) from ⟨((z1).pick 4).cells 0, ((z1).pick 4).cells 1, ((z1).pick 4).cells 2, ((z1).pick 4).cells 3, ((z1).pick 4).cells 4, ((z1).pick 4).cells 5, ((z1).pick 4).cells 6, ((z1).pick 4).cells 7, ((z1).pick 4).cells 8, ((z1).pick 5).cells 0, ((z1).pick 5).cells 1, ((z1).pick 5).cells 2, ((z1).pick 5).cells 3, ((z1).pick 5).cells 4, ((z1).pick 5).cells 5, ((z1).pick 5).cells 6, ((z1).pick 5).cells 7, ((z1).pick 5).cells 8⟩); have Q1 := Lib.hid z1; clear z1) | (go_at_call 18; (first | (with_reducible refine (rchk9_s k e a b c d id ps ts (by have := HL.out; omega) (by have := HL.out; omega) (show St w _ [RI (.slice A1 n1 p1) ps, RT (.slice B1 m1 q1) ts, RI (.slice A2 n2 p2) ps, RT (.slice B2 m2 q2) ts, Go.Proofs.YtkhcdichdnbcmaaR.blk b3 #[.int .u8 k, .int .i64 e, .int .i64 a, .int .i64 b, .int .i64 c, .int .i64 d, .slice A2 n2 p2, .slice B2 m2 q2, .int .i64 id] tCm, Go.Proofs.YtkhcdichdnbcmaaR.blk b1 #[.int .u8 k, .int .i64 e, .int .i64 a, .int .i64 b, .int .i64 c, .int .i64 d, .slice A1 n1 p1, .slice B1 m1 q1, .int .i64 id] tCm] from ((Q1.out).pick 3).pick 3) E1 HX.out.2).mono ?_) | (with_reducible refine (rchk9_s k e a b c d id ps ts (by have := HL.out; omega) (by have := HL.out; omega) (show St w _ [RI (.slice A1 n1 p1) ps, RT (.slice B1 m1 q1) ts, RI (.slice A2 n2 p2) ps, RT (.slice B2 m2 q2) ts, Go.Proofs.YtkhcdichdnbcmaaR.blk b3 #[.int .u8 k, .int .i64 e, .int .i64 a, .int .i64 b, .int .i64 c, .int .i64 d, .slice A2 n2 p2, .slice B2 m2 q2, .int .i64 id] tCm, Go.Proofs.YtkhcdichdnbcmaaR.blk b1 #[.int .u8 k, .int .i64 e, .int .i64 a, .int .i64 b, .int .i64 c, .int .i64 d, .slice A1 n1 p1, .slice B1 m1 q1, .int .i64 id] tCm] from ((Q1.out.drew).pick 3).pick 3) E1 HX.out.2).mono ?_)); rintro e_ v2 ⟨rfl, z2⟩; have K2 := Lib.hid (show v2.cell? ⟨b3, 0, none⟩ = some (.int .u8 k) ∧ v2.cell? ⟨b3, 1, none⟩ = some (.int .i64 e) ∧ v2.cell? ⟨b3, 2, none⟩ = some (.int .i64 a) ∧ v2.cell? ⟨b3, 3, none⟩ = some (.int .i64 b) ∧ v2.cell? ⟨b3, 4, none⟩ = some (.int .i64 c) ∧ v2.cell? ⟨b3, 5, none⟩ = some (.int .i64 d) ∧ v2.cell? ⟨b3, 6, none⟩ = some (.slice A2 n2 p2) ∧ v2.cell? ⟨b3, 7, none⟩ = some (.slice B2 m2 q2) ∧ v2.cell? ⟨b3, 8, none⟩ = some (.int .i64 id) ∧ v2.cell? ⟨b1, 0, none⟩ = some (.int .u8 k) ∧ v2.cell? ⟨b1, 1, none⟩ = some (.int .i64 e) ∧ v2.cell? ⟨b1, 2, none⟩ = some (.int .i64 a) ∧ v2.cell? ⟨b1, 3, none⟩ = some (.int .i64 b) ∧ v2.cell? ⟨b1, 4, none⟩ = some (.int .i64 c) ∧ v2.cell? ⟨b1, 5, none⟩ = some (.int .i64 d) ∧ v2.cell? ⟨b1, 6, none⟩ = some (.slice A1 n1 p1) ∧ v2.cell? ⟨b1, 7, none⟩ = some (.slice B1 m1 q1) ∧ v2.cell? ⟨b1, 8, none⟩ = some (.int .i64 id) from ⟨((z2).pick 4).cells 0, ((z2).pick 4).cells 1, ((z2).pick 4).cells 2, ((z2).pick 4).cells 3, ((z2).pick 4).cells 4, ((z2).pick 4).cells 5, ((z2).pick 4).cells 6, ((z2).pick 4).cells 7, ((z2).pick 4).cells 8, ((z2).pick 5).cells 0, ((z2).pick 5).cells 1, ((z2).pick 5).cells 2, ((z2).pick 5).cells 3, ((z2).pick 5).cells 4, ((z2).pick 5).cells 5, ((z2).pick 5).cells 6, ((z2).pick 5).cells 7, ((z2).pick 5).cells 8⟩); have Q2 := Lib.hid z2; clear z2) | (go_at_call 19; (first | (with_reducible refine (equ9_s k e a b c d id k e a b c d id ps ps ts ts (by have := HL.out; omega) (by have := HL.out; omega) true (by simp) (show St w _ [RI (.slice A2 n2 p2) ps, RT (.slice B2 m2 q2) ts, RI (.slice A1 n1 p1) ps, RT (.slice B1 m1 q1) ts, Go.Proofs.YtkhcdichdnbcmaaR.blk b3 #[.int .u8 k, .int .i64 e, .int .i64 a, .int .i64 b, .int .i64 c, .int .i64 d, .slice A2 n2 p2, .slice B2 m2 q2, .int .i64 id] tCm, Go.Proofs.YtkhcdichdnbcmaaR.blk b1 #[.int .u8 k, .int .i64 e, .int .i64 a, .int .i64 b, .int .i64 c, .int .i64 d, .slice A1 n1 p1, .slice B1 m1 q1, .int .i64 id] tCm] from ((((Q2.out).pick 1).pick 1).pick 3).pick 3)).mono ?_) | (with_reducible refine (equ9_s k e a b c d id k e a b c d id ps ps ts ts (by have := HL.out; omega) (by have := HL.out; omega) true (by simp) (show St w _ [RI (.slice A2 n2 p2) ps, RT (.slice B2 m2 q2) ts, RI (.slice A1 n1 p1) ps, RT (.slice B1 m1 q1) ts, Go.Proofs.YtkhcdichdnbcmaaR.blk b3 #[.int .u8 k, .int .i64 e, .int .i64 a, .int .i64 b, .int .i64 c, .int .i64 d, .slice A2 n2 p2, .slice B2 m2 q2, .int .i64 id] tCm, Go.Proofs.YtkhcdichdnbcmaaR.blk b1 #[.int .u8 k, .int .i64 e, .int .i64 a, .int .i64 b, .int .i64 c, .int .i64 d, .slice A1 n1 p1, .slice B1 m1 q1, .int .i64 id] tCm] from ((((Q2.out.drew).pick 1).pick 1).pick 3).pick 3)).mono ?_)); rintro e_ v3 ⟨rfl, z3⟩; have K3 := Lib.hid (show v3.cell? ⟨b3, 0, none⟩ = some (.int .u8 k) ∧ v3.cell? ⟨b3, 1, none⟩ = some (.int .i64 e) ∧ v3.cell? ⟨b3, 2, none⟩ = some (.int .i64 a) ∧ v3.cell? ⟨b3, 3, none⟩ = some (.int .i64 b) ∧ v3.cell? ⟨b3, 4, none⟩ = some (.int .i64 c) ∧ v3.cell? ⟨b3, 5, none⟩ = some (.int .i64 d) ∧ v3.cell? ⟨b3, 6, none⟩ = some (.slice A2 n2 p2) ∧ v3.cell? ⟨b3, 7, none⟩ = some (.slice B2 m2 q2) ∧ v3.cell? ⟨b3, 8, none⟩ = some (.int .i64 id) ∧ v3.cell? ⟨b1, 0, none⟩ = some (.int .u8 k) ∧ v3.cell? ⟨b1, 1, none⟩ = some (.int .i64 e) ∧ v3.cell? ⟨b1, 2, none⟩ = some (.int .i64 a) ∧ v3.cell? ⟨b1, 3, none⟩ = some (.int .i64 b) ∧ v3.cell? ⟨b1, 4, none⟩ = some (.int .i64 c) ∧ v3.cell? ⟨b1, 5, none⟩ = some (.int .i64 d) ∧ v3.cell? ⟨b1, 6, none⟩ = some (.slice A1 n1 p1) ∧ v3.cell? ⟨b1, 7, none⟩ = some (.slice B1 m1 q1) ∧ v3.cell? ⟨b1, 8, none⟩ = some (.int .i64 id) from ⟨((z3).pick 4).cells 0, ((z3).pick 4).cells 1, ((z3).pick 4).cells 2, ((z3).pick 4).cells 3, ((z3).pick 4).cells 4, ((z3).pick 4).cells 5, ((z3).pick 4).cells 6, ((z3).pick 4).cells 7, ((z3).pick 4).cells 8, ((z3).pick 5).cells 0, ((z3).pick 5).cells 1, ((z3).pick 5).cells 2, ((z3).pick 5).cells 3, ((z3).pick 5).cells 4, ((z3).pick 5).cells 5, ((z3).pick 5).cells 6, ((z3).pick 5).cells 7, ((z3).pick 5).cells 8⟩); have Q3 := Lib.hid z3; clear z3) | (go_at_call 15; (first | (with_reducible refine (awake18 (show St w _ [RI (.slice A2 n2 p2) ps, RT (.slice B2 m2 q2) ts, RI (.slice A1 n1 p1) ps, RT (.slice B1 m1 q1) ts, Go.Proofs.YtkhcdichdnbcmaaR.blk b3 #[.int .u8 k, .int .i64 e, .int .i64 a, .int .i64 b, .int .i64 c, .int .i64 d, .slice A2 n2 p2, .slice B2 m2 q2, .int .i64 id] tCm, Go.Proofs.YtkhcdichdnbcmaaR.blk b1 #[.int .u8 k, .int .i64 e, .int .i64 a, .int .i64 b, .int .i64 c, .int .i64 d, .slice A1 n1 p1, .slice B1 m1 q1, .int .i64 id] tCm] from Q3.out)).mono ?_) | (with_reducible refine (awake18 (show St w _ [RI (.slice A2 n2 p2) ps, RT (.slice B2 m2 q2) ts, RI (.slice A1 n1 p1) ps, RT (.slice B1 m1 q1) ts, Go.Proofs.YtkhcdichdnbcmaaR.blk b3 #[.int .u8 k, .int .i64 e, .int .i64 a, .int .i64 b, .int .i64 c, .int .i64 d, .slice A2 n2 p2, .slice B2 m2 q2, .int .i64 id] tCm, Go.Proofs.YtkhcdichdnbcmaaR.blk b1 #[.int .u8 k, .int .i64 e, .int .i64 a, .int .i64 b, .int .i64 c, .int .i64 d, .slice A1 n1 p1, .slice B1 m1 q1, .int .i64 id] tCm] from Q3.out.drew)).mono ?_)); rintro e_ v4 ⟨rfl, z4⟩; have K4 := Lib.hid (show v4.cell? ⟨b3, 0, none⟩ = some (.int .u8 k) ∧ v4.cell? ⟨b3, 1, none⟩ = some (.int .i64 e) ∧ v4.cell? ⟨b3, 2, none⟩ = some (.int .i64 a) ∧ v4.cell? ⟨b3, 3, none⟩ = some (.int .i64 b) ∧ v4.cell? ⟨b3, 4, none⟩ = some (.int .i64 c) ∧ v4.cell? ⟨b3, 5, none⟩ = some (.int .i64 d) ∧ v4.cell? ⟨b3, 6, none⟩ = some (.slice A2 n2 p2) ∧ v4.cell? ⟨b3, 7, none⟩ = some (.slice B2 m2 q2) ∧ v4.cell? ⟨b3, 8, none⟩ = some (.int .i64 id) ∧ v4.cell? ⟨b1, 0, none⟩ = some (.int .u8 k) ∧ v4.cell? ⟨b1, 1, none⟩ = some (.int .i64 e) ∧ v4.cell? ⟨b1, 2, none⟩ = some (.int .i64 a) ∧ v4.cell? ⟨b1, 3, none⟩ = some (.int .i64 b) ∧ v4.cell? ⟨b1, 4, none⟩ = some (.int .i64 c) ∧ v4.cell? ⟨b1, 5, none⟩ = some (.int .i64 d) ∧ v4.cell? ⟨b1, 6, none⟩ = some (.slice A1 n1 p1) ∧ v4.cell? ⟨b1, 7, none⟩ = some (.slice B1 m1 q1) ∧ v4.cell? ⟨b1, 8, none⟩ = some (.int .i64 id) from ⟨((z4).pick 4).cells 0, ((z4).pick 4).cells 1, ((z4).pick 4).cells 2, ((z4).pick 4).cells 3, ((z4).pick 4).cells 4, ((z4).pick 4).cells 5, ((z4).pick 4).cells 6, ((z4).pick 4).cells 7, ((z4).pick 4).cells 8, ((z4).pick 5).cells 0, ((z4).pick 5).cells 1, ((z4).pick 5).cells 2, ((z4).pick 5).cells 3, ((z4).pick 5).cells 4, ((z4).pick 5).cells 5, ((z4).pick 5).cells 6, ((z4).pick 5).cells 7, ((z4).pick 5).cells 8⟩); have Q4 := Lib.hid z4; clear z4))
 have HB := Lib.hid Q4.out.bel
 clear K0 Q0 K1 Q1 K2 Q2 K3 Q3 K4 Q4
 have hb1 := HB1.out
 go_wp2
 go_returns
 exact ⟨rfl, by have := HB.out; first | exact this | (rw [← hb1]; exact this) | (rw [hb1] at this; exact this)⟩
end Go.Proofs.YtkhcdichdnbcmaaR
end
section
namespace Go.Proofs.YtkhcdichdnbcmaaR
open Go.RowKit Go.Proofs.YtkhcdichdnbcmaaR Go.Proofs.YtkhcdichdnbcmaaR.Ext Go.Proofs.YtkhcdichdnbcmaaR.C Go.Proofs.YtkhcdichdnbcmaaR.Sp Go.Proofs.YtkhcdichdnbcmaaRW.PrintWords Go.Proofs.YtkhcdichdnbcmaaRW.PrintLast
set_option linter.unusedVariables false
set_option linter.unusedSimpArgs false
theorem walk_CmdMatches (W : World) (k e a b c d : Int) (A4 : Option Addr) (c4 : Nat) (l4 : List Int) (A5 : Option Addr) (c5 : Nat) (l5 : List E90) (id : Int) (h0 : (Lit.int .u8 k).wf = true) (h1 : (Lit.int .i64 e).wf = true) (h2 : (Lit.int .i64 a).wf = true) (h3 : (Lit.int .i64 b).wf = true) (h4 : (Lit.int .i64 c).wf = true) (h5 : (Lit.int .i64 d).wf = true) (h6 : SL24 W A4 c4 l4) (h7 : SL25 W A5 c5 l5) (h8 : (Lit.int .i64 id).wf = true) :
  Calls Try.prog 4 #[.agg #[.int .u8 k, .int .i64 e, .int .i64 a, .int .i64 b, .int .i64 c, .int .i64 d, .slice A4 l4.length c4, .slice A5 l5.length c5, .int .i64 id]] W fun e w' => e = .returned (.bool true) ∧ Below W.heap.size W w' := by
 have q1 := readsT h7
 exact cmatch_c k e a b c d id A4 A5 _ _ _ _ _ _ _ _ W
  (fun L => few_a (w0 := W) (w := W) a b c d l4 (l5.map toE) (readsI h6).1 rfl (readsI h6).2 q1.1 (by rw [List.length_map]) (by have := q1.2; rw [List.length_map] at this; exact this)) (by rw [List.length_take]; omega) (by rw [List.length_take]; omega) rfl rfl
end Go.Proofs.YtkhcdichdnbcmaaR
end
