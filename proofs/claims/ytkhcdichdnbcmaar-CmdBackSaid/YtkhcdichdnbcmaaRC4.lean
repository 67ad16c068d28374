-- Printed by a program of this session (wip/xprint.py) out of the translation.
import Derived.Test.YtkhcdichdnbcmaaRC0
import Derived.Test.YtkhcdichdnbcmaaRC3
namespace Go.Proofs.YtkhcdichdnbcmaaR.C
open Go.RowKit Go.Proofs.YtkhcdichdnbcmaaR.Ext Go.Proofs.YtkhcdichdnbcmaaRW.PrintWords Go.Proofs.YtkhcdichdnbcmaaRW.PrintLast Go.Proofs.YtkhcdichdnbcmaaRW.PrintMore
attribute [local go_sem] max2_int min2_int max_two min_two max_three min_three max_four min_four   -- for this text's walks alone
set_option linter.unusedVariables false
set_option linter.unusedSimpArgs false

/-! ### cmd_Check: function 17 -/
def toTS (x : S90) : Sp.TS := ⟨x.f0.f0, x.f0.f1, x.f0.f2, x.f0.f3, x.f0.f4, x.f1⟩
def ofTS (t : Sp.TS) : S90 := ⟨⟨t.always, t.limit, t.window, t.base, t.most⟩, t.probes⟩
theorem ofTS_to (x : S90) : ofTS (toTS x) = x := rfl
theorem toTS_of (t : Sp.TS) : toTS (ofTS t) = t := rfl
theorem k_iso : k90 = Kd.iso Go.Proofs.YtkhcdichdnbcmaaR.kT toTS := rfl
theorem kT_of {w : World} {A : Option Addr} {l : List (S90)} (h : Kd.C k90 w A l.length l) : Go.Proofs.YtkhcdichdnbcmaaR.kT.C w A (l.map toTS).length (l.map toTS) := by
  rw [List.length_map]
  rw [k_iso] at h
  exact C_iso.1 h
theorem map_of (ts : List Sp.TS) : (ts.map ofTS).map toTS = ts := by
  rw [List.map_map]
  exact List.map_id' ts
theorem k_of {w : World} {base : Nat} {ok : Nat → Prop} {v : Value} {ts : List Sp.TS} (h : Go.Proofs.YtkhcdichdnbcmaaR.kT.R 90 w base ok v ts) : Kd.R k90 90 w base ok v (ts.map ofTS) := by
  rw [k_iso]
  refine R_iso.2 ?_
  rw [map_of]
  exact h
def spOf (a b c d : Int) (l : List Int) (m : List (S90)) : Sp.SP := ⟨a, b, c, d, l, m.map toTS⟩
def spec_Check.f (a0_0 a0_1 a0_2 a0_3 : Int) (l0_4 : List Int) (l0_5 : List (S90)) : Option (Int) := some (Sp.specE (spOf a0_0 a0_1 a0_2 a0_3 l0_4 l0_5))
theorem spec_Check.calls (a0_0 : Int) (a0_1 : Int) (a0_2 : Int) (a0_3 : Int) (A0_4 : Option Addr) (c0_4 : Nat) (l0_4 : List Int) (A0_5 : Option Addr) (c0_5 : Nat) (l0_5 : List (S90)) (r : Int) (w : World) (hr0_4 : Kd.C (Kd.int .i64) w A0_4 l0_4.length l0_4) (hc0_4 : l0_4.length ≤ c0_4) (hr0_5 : Kd.C k90 w A0_5 l0_5.length l0_5) (hc0_5 : l0_5.length ≤ c0_5) (h : spec_Check.f a0_0 a0_1 a0_2 a0_3 l0_4 l0_5 = some r) :
    Calls Try.prog 54 #[.agg #[.int .i64 a0_0, .int .i64 a0_1, .int .i64 a0_2, .int .i64 a0_3, .slice A0_4 l0_4.length c0_4, .slice A0_5 l0_5.length c0_5]] w fun e w' => e = .returned (.int .i64 r) ∧ Below w.heap.size w w' := by
  injection h with h
  subst h
  exact scheck_c a0_0 a0_1 a0_2 a0_3 A0_4 A0_5 _ _ _ _ l0_4 (l0_5.map toTS) w rfl (RowI_of_C hr0_4) hr0_4.2.1 (by rw [List.length_map]) (RowT_of_C (kT_of hr0_5)) hr0_5.2.1 hc0_5
/-! ### Equal against nothing. -/
theorem sEqZ_ints (k : Nat) (xs : List Int) : slices_Equal_int_int.f (k + 1) xs [] = some (decide (xs = [])) := by
  unfold slices_Equal_int_int.f
  cases xs with
  | nil => simp [slices_Equal_int_int.l0]
  | cons a l => rw [if_neg (by simp; omega)]; simp
theorem sEqZ_ts (k : Nat) (xs : List (S90)) : api_TaskSpec.f (k + 1) xs [] = some (decide (xs.map toTS = [])) := by
  unfold api_TaskSpec.f
  cases xs with
  | nil => simp [api_TaskSpec.l0]
  | cons a l => rw [if_neg (by simp; omega)]; simp
theorem sEqualZ (k : Nat) (a b c d : Int) (l : List Int) (m : List (S90)) : spec_Equal.f (k + 1) a b c d l m 0 0 0 0 [] [] = some (decide (spOf a b c d l m = Sp.zSP)) := by
  unfold spec_Equal.f
  rw [sEqZ_ints, sEqZ_ts]
  simp only [Option.bind_some]
  by_cases q1 : a = 0
  · by_cases q2 : (b == 0 && (c == 0 && (d == 0))) = true
    · rw [if_pos q1, if_pos q2]
      simp only [Bool.and_eq_true, beq_iff_eq] at q2
      by_cases q3 : l = []
      · simp [spOf, q1, q2, q3]
      · simp [spOf, q1, q2, q3]
    · rw [if_pos q1, if_neg q2]
      simp only [Bool.and_eq_true, beq_iff_eq] at q2
      have : ¬ spOf a b c d l m = Sp.zSP := by
        intro e
        simp only [spOf, Sp.SP.mk.injEq] at e
        exact q2 ⟨e.2.1, e.2.2.1, e.2.2.2.1⟩
      simp [this]
  · rw [if_neg q1]
    have : ¬ spOf a b c d l m = Sp.zSP := by
      intro e
      simp only [spOf, Sp.SP.mk.injEq] at e
      exact q1 e.1
    simp [this]
/-! ### cmd.of -/
def ofV (kind a b c d : Int) (v4 v5 : Value) (id : Int) (bare : Bool) : Value :=
  if kind = 1 ∧ id = 0 then .iface 62 (.agg #[.int .i64 a, .int .i64 b, .int .i64 c, .int .i64 d, v4, v5]) else if kind = 2 ∧ bare = true then .iface 65 (.agg #[.int .i64 id]) else if kind = 3 ∧ bare = true then .iface 66 (.agg #[.int .i64 id]) else .nilIface
set_option maxHeartbeats 2000000 in
theorem of_c (kind e a b c d : Int) (A4 : Option Addr) (c4 : Nat) (l4 : List Int) (A5 : Option Addr) (c5 : Nat) (l5 : List (S90)) (id : Int) (w : World) (h4 : Kd.C (Kd.int .i64) w A4 l4.length l4) (k4 : l4.length ≤ c4) (h5 : Kd.C k90 w A5 l5.length l5) (k5 : l5.length ≤ c5) (bare : Bool) (hb : decide (spOf a b c d l4 l5 = Sp.zSP) = bare) :
    Calls Try.prog 34 #[.agg #[.int .u8 kind, .int .i64 e, .int .i64 a, .int .i64 b, .int .i64 c, .int .i64 d, .slice A4 l4.length c4, .slice A5 l5.length c5, .int .i64 id]] w fun e w' => e = .returned (ofV kind a b c d (.slice A4 l4.length c4) (.slice A5 l5.length c5) id bare) ∧ Below w.heap.size w w' := by
  have HQ := Lib.hid (fun W (hB : Below w.heap.size w W) => spec_Equal.calls 1 a b c d A4 c4 l4 A5 c5 l5 0 0 0 0 none 0 [] none 0 [] bare W (Kd.C_below h4 hB) k4 (Kd.C_below h5 hB) k5 (Kd.C_nil _ _) (Nat.le_refl _) (Kd.C_nil _ _) (Nat.le_refl _) (by rw [sEqualZ 0, hb]))
  clear h4 h5 k4 k5 hb
  generalize l4.length = n4 at HQ ⊢
  generalize l5.length = n5 at HQ ⊢
  go_enter Try.func34, Try.ntmps34
  go_wp2_with fail
  refine (HQ.out _ (by go_grown)).mono ?_
  rintro e_w1 w1 ⟨rfl, hbw1⟩
  have hBw1 : Below w.heap.size w w1 := below_then (by go_grown) hbw1
  have c_w1 : w1.heap[w.heap.size]? = some (.cells #[.int .u8 kind, .int .i64 e, .int .i64 a, .int .i64 b, .int .i64 c, .int .i64 d, .slice A4 n4 c4, .slice A5 n5 c5, .int .i64 id] 29 (0, 0)) := vbelow (by (repeat' (first | assumption | (refine vnewAt ?_; first | omega | (simp; done) | (simp; omega)) | refine valloc ?_ | refine vdrew ?_ | apply vput | (refine vfarr ?_ ?_; focus (first | omega | (simp; done) | (simp; omega))) | rfl))) hbw1
  have hcc_w1 := vcell c_w1
  have hfc_w1 := vfree c_w1
  have hsc_w1 := vlt c_w1
  have hlc_w1 := Nat.le_of_lt hsc_w1
  have hmc_w1 := Nat.le_succ_of_le hlc_w1
  clear HQ
  cases bare
  all_goals (
    go_wp2
    all_goals go_returns
    all_goals refine ⟨?_, by go_grown⟩
    all_goals refine congrArg Ending.returned ?_
    all_goals unfold ofV
    all_goals (first | (rw [if_pos (by omega)]; done) | (rw [if_neg (by omega), if_pos (by simp_all)]; done) | (rw [if_neg (by omega), if_neg (by simp_all), if_pos (by simp_all)]; done) | (rw [if_neg (by omega), if_neg (by first | omega | simp_all), if_neg (by first | omega | simp_all)]; done) | (simp_all; done)))
/-! ### cmd.Check -/
def knownE (id : Int) : Int := if id < 0 ∨ 2147483648 < id then 3 else 0
theorem known_c (id : Int) (w : World) : Calls Try.prog 110 #[.int .i64 id] w fun e w' => e = .returned (.int .i64 (knownE id)) ∧ w' = w := by
  go_enter Try.func110, Try.ntmps110
  go_wp2
  all_goals go_returns
  all_goals refine ⟨ret_int ?_, rfl⟩
  all_goals unfold knownE
  all_goals (first | (rw [if_pos (by omega)]; done) | (rw [if_neg (by omega)]; done))
theorem stopc_c (id : Int) (w : World) : Calls Try.prog 109 #[.agg #[.int .i64 id]] w fun e w' => e = .returned (.int .i64 (knownE id)) ∧ Below w.heap.size w w' := by
  go_enter Try.func109, Try.ntmps109
  go_wp2_with fail
  refine (known_c id _).mono ?_
  rintro e w1 ⟨rfl, rfl⟩
  go_wp2
  go_returns
  exact ⟨rfl, by go_grown⟩
theorem forgetc_c (id : Int) (w : World) : Calls Try.prog 111 #[.agg #[.int .i64 id]] w fun e w' => e = .returned (.int .i64 (knownE id)) ∧ Below w.heap.size w w' := by
  go_enter Try.func111, Try.ntmps111
  go_wp2_with fail
  refine (known_c id _).mono ?_
  rintro e w1 ⟨rfl, rfl⟩
  go_wp2
  go_returns
  exact ⟨rfl, by go_grown⟩
theorem placec_c (a b c d : Int) (A4 A5 : Option Addr) (n4 c4 n5 c5 : Nat) (E : Int) (w : World)
    (HC : Go.RowKit.Hid (∀ W, Below w.heap.size w W → Calls Try.prog 54 #[.agg #[.int .i64 a, .int .i64 b, .int .i64 c, .int .i64 d, .slice A4 n4 c4, .slice A5 n5 c5]] W fun e w' => e = .returned (.int .i64 E) ∧ Below W.heap.size W w')) :
    Calls Try.prog 108 #[.agg #[.int .i64 a, .int .i64 b, .int .i64 c, .int .i64 d, .slice A4 n4 c4, .slice A5 n5 c5]] w fun e w' => e = .returned (.int .i64 E) ∧ Below w.heap.size w w' := by
  go_enter Try.func108, Try.ntmps108
  go_wp2_with fail
  refine (HC.out _ (by go_grown)).mono ?_
  rintro e w1 ⟨rfl, hb1⟩
  have hB1 : Below w.heap.size w w1 := below_then (by go_grown) hb1
  clear hb1 HC
  go_wp2
  go_returns
  exact ⟨rfl, hB1⟩
set_option maxRecDepth 100000 in
set_option maxHeartbeats 1000000 in
/-- Check, the command being told by the interface value that 'of' hands back. -/
theorem check_place (kind e a b c d : Int) (A4 A5 : Option Addr) (n4 c4 n5 c5 : Nat) (id : Int) (w : World) (E : Int)
    (HO : Go.RowKit.Hid (∀ W, Below w.heap.size w W → Calls Try.prog 34 #[.agg #[.int .u8 kind, .int .i64 e, .int .i64 a, .int .i64 b, .int .i64 c, .int .i64 d, .slice A4 n4 c4, .slice A5 n5 c5, .int .i64 id]] W fun e w' => e = .returned (.iface 62 (.agg #[.int .i64 a, .int .i64 b, .int .i64 c, .int .i64 d, .slice A4 n4 c4, .slice A5 n5 c5])) ∧ Below W.heap.size W w'))
    (HC : Go.RowKit.Hid (∀ W, Below w.heap.size w W → Calls Try.prog 108 #[(.agg #[.int .i64 a, .int .i64 b, .int .i64 c, .int .i64 d, .slice A4 n4 c4, .slice A5 n5 c5])] W fun e w' => e = .returned (.int .i64 E) ∧ Below W.heap.size W w')) :
    Calls Try.prog 17 #[.agg #[.int .u8 kind, .int .i64 e, .int .i64 a, .int .i64 b, .int .i64 c, .int .i64 d, .slice A4 n4 c4, .slice A5 n5 c5, .int .i64 id]] w fun ee w' => ee = .returned (.int .i64 (if e < 0 ∨ 1099511627776 < e then 3 else E)) ∧ Below w.heap.size w w' := by
  have hq : ∀ W, (binOp .eql 59 (.iface 62 (.agg #[.int .i64 a, .int .i64 b, .int .i64 c, .int .i64 d, .slice A4 n4 c4, .slice A5 n5 c5])) .nilIface).run Try.prog W = .ok (.bool false) W := fun _ => rfl
  by_cases h : e < 0 ∨ 1099511627776 < e
  · rw [if_pos h]
    clear HC
    go_enter Try.func17, Try.ntmps17
    go_wp2_with fail
    refine (HO.out _ (by go_grown)).mono ?_
    rintro e_w1 w1 ⟨rfl, hbw1⟩
    have hBw1 : Below w.heap.size w w1 := below_then (by go_grown) hbw1
    have c_w1 : w1.heap[w.heap.size]? = some (.cells #[.int .u8 kind, .int .i64 e, .int .i64 a, .int .i64 b, .int .i64 c, .int .i64 d, .slice A4 n4 c4, .slice A5 n5 c5, .int .i64 id] 29 (0, 0)) := vbelow (by (repeat' (first | assumption | (refine vnewAt ?_; first | omega | (simp; done) | (simp; omega)) | refine valloc ?_ | refine vdrew ?_ | apply vput | (refine vfarr ?_ ?_; focus (first | omega | (simp; done) | (simp; omega))) | rfl))) hbw1
    have hcc_w1 := vcell c_w1
    have hfc_w1 := vfree c_w1
    have hsc_w1 := vlt c_w1
    have hlc_w1 := Nat.le_of_lt hsc_w1
    have hmc_w1 := Nat.le_succ_of_le hlc_w1
    clear HO
    go_wp2
    all_goals go_returns
    all_goals (exact ⟨rfl, by go_grown⟩)
  · rw [if_neg h]
    have h1 : 0 ≤ e := by omega
    have h2 : e ≤ 1099511627776 := by omega
    clear h
    have hm : ∀ W, (method 244 62 (.agg #[.int .i64 a, .int .i64 b, .int .i64 c, .int .i64 d, .slice A4 n4 c4, .slice A5 n5 c5]) "sacristan/cmd.check").run Try.prog W = .ok (108, (.agg #[.int .i64 a, .int .i64 b, .int .i64 c, .int .i64 d, .slice A4 n4 c4, .slice A5 n5 c5])) W := fun _ => by kernel_rfl
    go_enter Try.func17, Try.ntmps17
    go_wp2_with fail
    refine (HO.out _ (by go_grown)).mono ?_
    rintro e_w1 w1 ⟨rfl, hbw1⟩
    have hBw1 : Below w.heap.size w w1 := below_then (by go_grown) hbw1
    have c_w1 : w1.heap[w.heap.size]? = some (.cells #[.int .u8 kind, .int .i64 e, .int .i64 a, .int .i64 b, .int .i64 c, .int .i64 d, .slice A4 n4 c4, .slice A5 n5 c5, .int .i64 id] 29 (0, 0)) := vbelow (by (repeat' (first | assumption | (refine vnewAt ?_; first | omega | (simp; done) | (simp; omega)) | refine valloc ?_ | refine vdrew ?_ | apply vput | (refine vfarr ?_ ?_; focus (first | omega | (simp; done) | (simp; omega))) | rfl))) hbw1
    have hcc_w1 := vcell c_w1
    have hfc_w1 := vfree c_w1
    have hsc_w1 := vlt c_w1
    have hlc_w1 := Nat.le_of_lt hsc_w1
    have hmc_w1 := Nat.le_succ_of_le hlc_w1
    clear HO
    have HB := Lib.hid hBw1
    go_wp2_with fail
    refine (HC.out _ hBw1).mono ?_
    rintro e w2 ⟨rfl, hb2⟩
    have hB2 : Below w.heap.size w w2 := below_then HB.out hb2
    clear hb2 HB HC
    go_wp2
    go_returns
    exact ⟨rfl, hB2⟩
set_option maxRecDepth 100000 in
set_option maxHeartbeats 1000000 in
/-- Check, the command being told by the interface value that 'of' hands back. -/
theorem check_stop (kind e a b c d : Int) (A4 A5 : Option Addr) (n4 c4 n5 c5 : Nat) (id : Int) (w : World) (E : Int)
    (HO : Go.RowKit.Hid (∀ W, Below w.heap.size w W → Calls Try.prog 34 #[.agg #[.int .u8 kind, .int .i64 e, .int .i64 a, .int .i64 b, .int .i64 c, .int .i64 d, .slice A4 n4 c4, .slice A5 n5 c5, .int .i64 id]] W fun e w' => e = .returned (.iface 65 (.agg #[.int .i64 id])) ∧ Below W.heap.size W w'))
    (HC : Go.RowKit.Hid (∀ W, Below w.heap.size w W → Calls Try.prog 109 #[(.agg #[.int .i64 id])] W fun e w' => e = .returned (.int .i64 E) ∧ Below W.heap.size W w')) :
    Calls Try.prog 17 #[.agg #[.int .u8 kind, .int .i64 e, .int .i64 a, .int .i64 b, .int .i64 c, .int .i64 d, .slice A4 n4 c4, .slice A5 n5 c5, .int .i64 id]] w fun ee w' => ee = .returned (.int .i64 (if e < 0 ∨ 1099511627776 < e then 3 else E)) ∧ Below w.heap.size w w' := by
  have hq : ∀ W, (binOp .eql 59 (.iface 65 (.agg #[.int .i64 id])) .nilIface).run Try.prog W = .ok (.bool false) W := fun _ => rfl
  by_cases h : e < 0 ∨ 1099511627776 < e
  · rw [if_pos h]
    clear HC
    go_enter Try.func17, Try.ntmps17
    go_wp2_with fail
    refine (HO.out _ (by go_grown)).mono ?_
    rintro e_w1 w1 ⟨rfl, hbw1⟩
    have hBw1 : Below w.heap.size w w1 := below_then (by go_grown) hbw1
    have c_w1 : w1.heap[w.heap.size]? = some (.cells #[.int .u8 kind, .int .i64 e, .int .i64 a, .int .i64 b, .int .i64 c, .int .i64 d, .slice A4 n4 c4, .slice A5 n5 c5, .int .i64 id] 29 (0, 0)) := vbelow (by (repeat' (first | assumption | (refine vnewAt ?_; first | omega | (simp; done) | (simp; omega)) | refine valloc ?_ | refine vdrew ?_ | apply vput | (refine vfarr ?_ ?_; focus (first | omega | (simp; done) | (simp; omega))) | rfl))) hbw1
    have hcc_w1 := vcell c_w1
    have hfc_w1 := vfree c_w1
    have hsc_w1 := vlt c_w1
    have hlc_w1 := Nat.le_of_lt hsc_w1
    have hmc_w1 := Nat.le_succ_of_le hlc_w1
    clear HO
    go_wp2
    all_goals go_returns
    all_goals (exact ⟨rfl, by go_grown⟩)
  · rw [if_neg h]
    have h1 : 0 ≤ e := by omega
    have h2 : e ≤ 1099511627776 := by omega
    clear h
    have hm : ∀ W, (method 244 65 (.agg #[.int .i64 id]) "sacristan/cmd.check").run Try.prog W = .ok (109, (.agg #[.int .i64 id])) W := fun _ => by kernel_rfl
    go_enter Try.func17, Try.ntmps17
    go_wp2_with fail
    refine (HO.out _ (by go_grown)).mono ?_
    rintro e_w1 w1 ⟨rfl, hbw1⟩
    have hBw1 : Below w.heap.size w w1 := below_then (by go_grown) hbw1
    have c_w1 : w1.heap[w.heap.size]? = some (.cells #[.int .u8 kind, .int .i64 e, .int .i64 a, .int .i64 b, .int .i64 c, .int .i64 d, .slice A4 n4 c4, .slice A5 n5 c5, .int .i64 id] 29 (0, 0)) := vbelow (by (repeat' (first | assumption | (refine vnewAt ?_; first | omega | (simp; done) | (simp; omega)) | refine valloc ?_ | refine vdrew ?_ | apply vput | (refine vfarr ?_ ?_; focus (first | omega | (simp; done) | (simp; omega))) | rfl))) hbw1
    have hcc_w1 := vcell c_w1
    have hfc_w1 := vfree c_w1
    have hsc_w1 := vlt c_w1
    have hlc_w1 := Nat.le_of_lt hsc_w1
    have hmc_w1 := Nat.le_succ_of_le hlc_w1
    clear HO
    have HB := Lib.hid hBw1
    go_wp2_with fail
    refine (HC.out _ hBw1).mono ?_
    rintro e w2 ⟨rfl, hb2⟩
    have hB2 : Below w.heap.size w w2 := below_then HB.out hb2
    clear hb2 HB HC
    go_wp2
    go_returns
    exact ⟨rfl, hB2⟩
set_option maxRecDepth 100000 in
set_option maxHeartbeats 1000000 in
/-- Check, the command being told by the interface value that 'of' hands back. -/
theorem check_forget (kind e a b c d : Int) (A4 A5 : Option Addr) (n4 c4 n5 c5 : Nat) (id : Int) (w : World) (E : Int)
    (HO : Go.RowKit.Hid (∀ W, Below w.heap.size w W → Calls Try.prog 34 #[.agg #[.int .u8 kind, .int .i64 e, .int .i64 a, .int .i64 b, .int .i64 c, .int .i64 d, .slice A4 n4 c4, .slice A5 n5 c5, .int .i64 id]] W fun e w' => e = .returned (.iface 66 (.agg #[.int .i64 id])) ∧ Below W.heap.size W w'))
    (HC : Go.RowKit.Hid (∀ W, Below w.heap.size w W → Calls Try.prog 111 #[(.agg #[.int .i64 id])] W fun e w' => e = .returned (.int .i64 E) ∧ Below W.heap.size W w')) :
    Calls Try.prog 17 #[.agg #[.int .u8 kind, .int .i64 e, .int .i64 a, .int .i64 b, .int .i64 c, .int .i64 d, .slice A4 n4 c4, .slice A5 n5 c5, .int .i64 id]] w fun ee w' => ee = .returned (.int .i64 (if e < 0 ∨ 1099511627776 < e then 3 else E)) ∧ Below w.heap.size w w' := by
  have hq : ∀ W, (binOp .eql 59 (.iface 66 (.agg #[.int .i64 id])) .nilIface).run Try.prog W = .ok (.bool false) W := fun _ => rfl
  by_cases h : e < 0 ∨ 1099511627776 < e
  · rw [if_pos h]
    clear HC
    go_enter Try.func17, Try.ntmps17
    go_wp2_with fail
    refine (HO.out _ (by go_grown)).mono ?_
    rintro e_w1 w1 ⟨rfl, hbw1⟩
    have hBw1 : Below w.heap.size w w1 := below_then (by go_grown) hbw1
    have c_w1 : w1.heap[w.heap.size]? = some (.cells #[.int .u8 kind, .int .i64 e, .int .i64 a, .int .i64 b, .int .i64 c, .int .i64 d, .slice A4 n4 c4, .slice A5 n5 c5, .int .i64 id] 29 (0, 0)) := vbelow (by (repeat' (first | assumption | (refine vnewAt ?_; first | omega | (simp; done) | (simp; omega)) | refine valloc ?_ | refine vdrew ?_ | apply vput | (refine vfarr ?_ ?_; focus (first | omega | (simp; done) | (simp; omega))) | rfl))) hbw1
    have hcc_w1 := vcell c_w1
    have hfc_w1 := vfree c_w1
    have hsc_w1 := vlt c_w1
    have hlc_w1 := Nat.le_of_lt hsc_w1
    have hmc_w1 := Nat.le_succ_of_le hlc_w1
    clear HO
    go_wp2
    all_goals go_returns
    all_goals (exact ⟨rfl, by go_grown⟩)
  · rw [if_neg h]
    have h1 : 0 ≤ e := by omega
    have h2 : e ≤ 1099511627776 := by omega
    clear h
    have hm : ∀ W, (method 244 66 (.agg #[.int .i64 id]) "sacristan/cmd.check").run Try.prog W = .ok (111, (.agg #[.int .i64 id])) W := fun _ => by kernel_rfl
    go_enter Try.func17, Try.ntmps17
    go_wp2_with fail
    refine (HO.out _ (by go_grown)).mono ?_
    rintro e_w1 w1 ⟨rfl, hbw1⟩
    have hBw1 : Below w.heap.size w w1 := below_then (by go_grown) hbw1
    have c_w1 : w1.heap[w.heap.size]? = some (.cells #[.int .u8 kind, .int .i64 e, .int .i64 a, .int .i64 b, .int .i64 c, .int .i64 d, .slice A4 n4 c4, .slice A5 n5 c5, .int .i64 id] 29 (0, 0)) := vbelow (by (repeat' (first | assumption | (refine vnewAt ?_; first | omega | (simp; done) | (simp; omega)) | refine valloc ?_ | refine vdrew ?_ | apply vput | (refine vfarr ?_ ?_; focus (first | omega | (simp; done) | (simp; omega))) | rfl))) hbw1
    have hcc_w1 := vcell c_w1
    have hfc_w1 := vfree c_w1
    have hsc_w1 := vlt c_w1
    have hlc_w1 := Nat.le_of_lt hsc_w1
    have hmc_w1 := Nat.le_succ_of_le hlc_w1
    clear HO
    have HB := Lib.hid hBw1
    go_wp2_with fail
    refine (HC.out _ hBw1).mono ?_
    rintro e w2 ⟨rfl, hb2⟩
    have hB2 : Below w.heap.size w w2 := below_then HB.out hb2
    clear hb2 HB HC
    go_wp2
    go_returns
    exact ⟨rfl, hB2⟩
set_option maxRecDepth 100000 in
set_option maxHeartbeats 1000000 in
/-- Check, the command being told by the interface value that 'of' hands back. -/
theorem check_none (kind e a b c d : Int) (A4 A5 : Option Addr) (n4 c4 n5 c5 : Nat) (id : Int) (w : World)
    (HO : Go.RowKit.Hid (∀ W, Below w.heap.size w W → Calls Try.prog 34 #[.agg #[.int .u8 kind, .int .i64 e, .int .i64 a, .int .i64 b, .int .i64 c, .int .i64 d, .slice A4 n4 c4, .slice A5 n5 c5, .int .i64 id]] W fun e w' => e = .returned (.nilIface) ∧ Below W.heap.size W w')) :
    Calls Try.prog 17 #[.agg #[.int .u8 kind, .int .i64 e, .int .i64 a, .int .i64 b, .int .i64 c, .int .i64 d, .slice A4 n4 c4, .slice A5 n5 c5, .int .i64 id]] w fun ee w' => ee = .returned (.int .i64 2) ∧ Below w.heap.size w w' := by
  have hq : ∀ W, (binOp .eql 59 (.nilIface) .nilIface).run Try.prog W = .ok (.bool true) W := fun _ => rfl
  go_enter Try.func17, Try.ntmps17
  go_wp2_with fail
  refine (HO.out _ (by go_grown)).mono ?_
  rintro e_w1 w1 ⟨rfl, hbw1⟩
  have hBw1 : Below w.heap.size w w1 := below_then (by go_grown) hbw1
  have c_w1 : w1.heap[w.heap.size]? = some (.cells #[.int .u8 kind, .int .i64 e, .int .i64 a, .int .i64 b, .int .i64 c, .int .i64 d, .slice A4 n4 c4, .slice A5 n5 c5, .int .i64 id] 29 (0, 0)) := vbelow (by (repeat' (first | assumption | (refine vnewAt ?_; first | omega | (simp; done) | (simp; omega)) | refine valloc ?_ | refine vdrew ?_ | apply vput | (refine vfarr ?_ ?_; focus (first | omega | (simp; done) | (simp; omega))) | rfl))) hbw1
  have hcc_w1 := vcell c_w1
  have hfc_w1 := vfree c_w1
  have hsc_w1 := vlt c_w1
  have hlc_w1 := Nat.le_of_lt hsc_w1
  have hmc_w1 := Nat.le_succ_of_le hlc_w1
  clear HO
  go_wp2
  go_returns
  exact ⟨rfl, by go_grown⟩
def cmd_Check.f (a0_0 a0_1 a0_2 a0_3 a0_4 a0_5 : Int) (l0_6 : List Int) (l0_7 : List (S90)) (a0_8 : Int) : Option (Int) := some (Sp.cmdE ⟨a0_0, a0_1, spOf a0_2 a0_3 a0_4 a0_5 l0_6 l0_7, a0_8⟩)
theorem cmd_Check.calls (a0_0 : Int) (a0_1 : Int) (a0_2 : Int) (a0_3 : Int) (a0_4 : Int) (a0_5 : Int) (A0_6 : Option Addr) (c0_6 : Nat) (l0_6 : List Int) (A0_7 : Option Addr) (c0_7 : Nat) (l0_7 : List (S90)) (a0_8 : Int) (r : Int) (w : World) (hr0_6 : Kd.C (Kd.int .i64) w A0_6 l0_6.length l0_6) (hc0_6 : l0_6.length ≤ c0_6) (hr0_7 : Kd.C k90 w A0_7 l0_7.length l0_7) (hc0_7 : l0_7.length ≤ c0_7) (h : cmd_Check.f a0_0 a0_1 a0_2 a0_3 a0_4 a0_5 l0_6 l0_7 a0_8 = some r) :
    Calls Try.prog 17 #[.agg #[.int .u8 a0_0, .int .i64 a0_1, .int .i64 a0_2, .int .i64 a0_3, .int .i64 a0_4, .int .i64 a0_5, .slice A0_6 l0_6.length c0_6, .slice A0_7 l0_7.length c0_7, .int .i64 a0_8]] w fun e w' => e = .returned (.int .i64 r) ∧ Below w.heap.size w w' := by
  injection h with h
  subst h
  obtain ⟨bare, hb⟩ : ∃ b, decide (spOf a0_2 a0_3 a0_4 a0_5 l0_6 l0_7 = Sp.zSP) = b := ⟨_, rfl⟩
  have HO := fun W (hB : Below w.heap.size w W) => of_c a0_0 a0_1 a0_2 a0_3 a0_4 a0_5 A0_6 c0_6 l0_6 A0_7 c0_7 l0_7 a0_8 W (Kd.C_below hr0_6 hB) hc0_6 (Kd.C_below hr0_7 hB) hc0_7 bare hb
  have HS := fun W (hB : Below w.heap.size w W) => placec_c a0_2 a0_3 a0_4 a0_5 A0_6 A0_7 l0_6.length c0_6 l0_7.length c0_7 (Sp.specE (spOf a0_2 a0_3 a0_4 a0_5 l0_6 l0_7)) W (Lib.hid (fun W' hB' => spec_Check.calls a0_2 a0_3 a0_4 a0_5 A0_6 c0_6 l0_6 A0_7 c0_7 l0_7 _ W' (Kd.C_below (Kd.C_below hr0_6 hB) hB') hc0_6 (Kd.C_below (Kd.C_below hr0_7 hB) hB') hc0_7 rfl))
  have hbt : bare = true ↔ spOf a0_2 a0_3 a0_4 a0_5 l0_6 l0_7 = Sp.zSP := by rw [← hb]; exact decide_eq_true_iff
  unfold ofV at HO
  by_cases p1 : a0_0 = 1 ∧ a0_8 = 0
  · rw [if_pos p1] at HO
    have e1 : Sp.cmdE ⟨a0_0, a0_1, spOf a0_2 a0_3 a0_4 a0_5 l0_6 l0_7, a0_8⟩ = if a0_1 < 0 ∨ 1099511627776 < a0_1 then 3 else Sp.specE (spOf a0_2 a0_3 a0_4 a0_5 l0_6 l0_7) := by
      unfold Sp.cmdE
      rw [if_pos (.inl p1), if_pos p1.1]
    rw [e1]
    exact check_place _ _ _ _ _ _ _ _ _ _ _ _ _ w _ (Lib.hid HO) (Lib.hid HS)
  · rw [if_neg p1] at HO
    by_cases p2 : a0_0 = 2 ∧ bare = true
    · rw [if_pos p2] at HO
      have e1 : Sp.cmdE ⟨a0_0, a0_1, spOf a0_2 a0_3 a0_4 a0_5 l0_6 l0_7, a0_8⟩ = if a0_1 < 0 ∨ 1099511627776 < a0_1 then 3 else knownE a0_8 := by
        unfold Sp.cmdE knownE
        rw [if_pos (.inr ⟨.inl p2.1, hbt.1 p2.2⟩), if_neg (c := a0_0 = 1) (by omega)]
      rw [e1]
      exact check_stop _ _ _ _ _ _ _ _ _ _ _ _ _ w _ (Lib.hid HO) (Lib.hid (fun W _ => stopc_c _ W))
    · rw [if_neg p2] at HO
      by_cases p3 : a0_0 = 3 ∧ bare = true
      · rw [if_pos p3] at HO
        have e1 : Sp.cmdE ⟨a0_0, a0_1, spOf a0_2 a0_3 a0_4 a0_5 l0_6 l0_7, a0_8⟩ = if a0_1 < 0 ∨ 1099511627776 < a0_1 then 3 else knownE a0_8 := by
          unfold Sp.cmdE knownE
          rw [if_pos (.inr ⟨.inr p3.1, hbt.1 p3.2⟩), if_neg (c := a0_0 = 1) (by omega)]
        rw [e1]
        exact check_forget _ _ _ _ _ _ _ _ _ _ _ _ _ w _ (Lib.hid HO) (Lib.hid (fun W _ => forgetc_c _ W))
      · rw [if_neg p3] at HO
        have e1 : Sp.cmdE ⟨a0_0, a0_1, spOf a0_2 a0_3 a0_4 a0_5 l0_6 l0_7, a0_8⟩ = 2 := by
          unfold Sp.cmdE
          rw [if_neg]
          rintro (h | ⟨h | h, h'⟩)
          · exact p1 h
          · exact p2 ⟨h, hbt.2 h'⟩
          · exact p3 ⟨h, hbt.2 h'⟩
        rw [e1]
        exact check_none _ _ _ _ _ _ _ _ _ _ _ _ _ w (Lib.hid HO)

-- by hand: function 61 (pack_least)

-- by hand: function 62 (pack_bytes_uint64)

-- by hand: function 33 (pack_Var)

-- NOT PRINTED: function 88 (spec_ask)

/-! ### spec_Check: function 54 -/
-- spec.Check: told ahead (Xcmd_Check.src)

/-! ### spec_Encode: function 35 -/
def spec_Encode.f (a0_0 a0_1 a0_2 a0_3 : Int) (l0_4 : List Int) (l0_5 : List (S90)) : Option (ByteArray × Int) := some (Go.Proofs.YtkhcdichdnbcmaaR.Ext.mkB (Go.Proofs.YtkhcdichdnbcmaaR.encR (spOf a0_0 a0_1 a0_2 a0_3 l0_4 l0_5)), Sp.specE (spOf a0_0 a0_1 a0_2 a0_3 l0_4 l0_5))
theorem spec_Encode.calls (a0_0 : Int) (a0_1 : Int) (a0_2 : Int) (a0_3 : Int) (A0_4 : Option Addr) (c0_4 : Nat) (l0_4 : List Int) (A0_5 : Option Addr) (c0_5 : Nat) (l0_5 : List (S90)) (r1 : ByteArray) (r2 : Int) (w : World) (hr0_4 : Kd.C (Kd.int .i64) w A0_4 l0_4.length l0_4) (hc0_4 : l0_4.length ≤ c0_4) (hr0_5 : Kd.C k90 w A0_5 l0_5.length l0_5) (hc0_5 : l0_5.length ≤ c0_5) (h : spec_Encode.f a0_0 a0_1 a0_2 a0_3 l0_4 l0_5 = some (r1, r2)) :
    Calls Try.prog 35 #[.agg #[.int .i64 a0_0, .int .i64 a0_1, .int .i64 a0_2, .int .i64 a0_3, .slice A0_4 l0_4.length c0_4, .slice A0_5 l0_5.length c0_5]] w fun e w' => e = .returned (.tuple #[.string r1, .int .i64 r2]) ∧ Below w.heap.size w w' := by
  have h := Option.some.inj h
  simp only [Prod.mk.injEq] at h
  obtain ⟨rfl, rfl⟩ := h
  exact sencode_c a0_0 a0_1 a0_2 a0_3 A0_4 A0_5 _ _ _ _ l0_4 (l0_5.map toTS) w rfl (RowI_of_C hr0_4) hr0_4.2.1 (by rw [List.length_map]) (RowT_of_C (kT_of hr0_5)) hr0_5.2.1 hc0_5

/-! ### cmd_Encode: function 13 -/
/-! ### cmd.Encode -/
def encCB (c : Sp.CM) : ByteArray := Go.Proofs.YtkhcdichdnbcmaaR.Ext.mkB (Sp.encCR c)
def cmd_Encode.f (a0_0 a0_1 a0_2 a0_3 a0_4 a0_5 : Int) (l0_6 : List Int) (l0_7 : List (S90)) (a0_8 : Int) : Option (ByteArray × Int) := some (encCB ⟨a0_0, a0_1, spOf a0_2 a0_3 a0_4 a0_5 l0_6 l0_7, a0_8⟩, Sp.cmdE ⟨a0_0, a0_1, spOf a0_2 a0_3 a0_4 a0_5 l0_6 l0_7, a0_8⟩)
abbrev CArgs (kind e a b c d : Int) (A4 : Option Addr) (n4 c4 : Nat) (A5 : Option Addr) (n5 c5 : Nat) (id : Int) : Array Value := #[.int .u8 kind, .int .i64 e, .int .i64 a, .int .i64 b, .int .i64 c, .int .i64 d, .slice A4 n4 c4, .slice A5 n5 c5, .int .i64 id]
set_option maxHeartbeats 1000000 in
theorem cenc_no (kind e a b c d : Int) (A4 A5 : Option Addr) (n4 c4 n5 c5 : Nat) (id : Int) (w : World) (E : Int) (h0 : E ≠ 0)
    (HC : Go.RowKit.Hid (∀ W, Below w.heap.size w W → Calls Try.prog 17 #[.agg #[.int .u8 kind, .int .i64 e, .int .i64 a, .int .i64 b, .int .i64 c, .int .i64 d, .slice A4 n4 c4, .slice A5 n5 c5, .int .i64 id]] W fun ee w' => ee = .returned (.int .i64 E) ∧ Below W.heap.size W w')) :
    Calls Try.prog 13 #[.agg #[.int .u8 kind, .int .i64 e, .int .i64 a, .int .i64 b, .int .i64 c, .int .i64 d, .slice A4 n4 c4, .slice A5 n5 c5, .int .i64 id]] w fun ee w' => ee = .returned (.tuple #[.string (Go.Proofs.YtkhcdichdnbcmaaR.Ext.mkB []), .int .i64 E]) ∧ Below w.heap.size w w' := by
  have h0b : (E != 0) = true := bne_iff_ne.mpr h0
  clear h0
  go_enter Try.func13, Try.ntmps13
  go_wp2_with fail
  refine (HC.out _ (by go_grown)).mono ?_
  rintro e w1 ⟨rfl, hb1⟩
  have hB1 : Below w.heap.size w w1 := below_then (by go_grown) hb1
  clear hb1 HC
  go_wp2
  go_returns
  exact ⟨rfl, hB1⟩
set_option maxRecDepth 100000 in
set_option maxHeartbeats 2000000 in
/-- Encode of a well-formed command of one kind. -/
theorem cenc_place (e a b c d : Int) (A4 A5 : Option Addr) (n4 c4 n5 c5 : Nat) (w : World) (o1 o2 o3 : List UInt8) (he : 0 ≤ e) (he2 : e ≤ 1099511627776) (hl3 : o3.length ≤ 1000)
    (h1 : o1 = Sp.encN 1) (h2 : o2 = Sp.encN e)
    (HC : Go.RowKit.Hid (∀ W, Below w.heap.size w W → Calls Try.prog 17 #[.agg #[.int .u8 1, .int .i64 e, .int .i64 a, .int .i64 b, .int .i64 c, .int .i64 d, .slice A4 n4 c4, .slice A5 n5 c5, .int .i64 0]] W fun ee w' => ee = .returned (.int .i64 0) ∧ Below W.heap.size W w'))
    (HO : Go.RowKit.Hid (∀ W, Below w.heap.size w W → Calls Try.prog 34 #[.agg #[.int .u8 1, .int .i64 e, .int .i64 a, .int .i64 b, .int .i64 c, .int .i64 d, .slice A4 n4 c4, .slice A5 n5 c5, .int .i64 0]] W fun ee w' => ee = .returned (.iface 62 (.agg #[.int .i64 a, .int .i64 b, .int .i64 c, .int .i64 d, .slice A4 n4 c4, .slice A5 n5 c5])) ∧ Below W.heap.size W w'))
    (HE : Go.RowKit.Hid (∀ W, Below w.heap.size w W → Calls Try.prog 35 #[.agg #[.int .i64 a, .int .i64 b, .int .i64 c, .int .i64 d, .slice A4 n4 c4, .slice A5 n5 c5]] W fun ee w' => ee = .returned (.tuple #[.string (Go.Proofs.YtkhcdichdnbcmaaR.Ext.mkB o3), .int .i64 0]) ∧ Below W.heap.size W w')) :
    Calls Try.prog 13 #[.agg #[.int .u8 1, .int .i64 e, .int .i64 a, .int .i64 b, .int .i64 c, .int .i64 d, .slice A4 n4 c4, .slice A5 n5 c5, .int .i64 0]] w fun ee w' => ee = .returned (.tuple #[.string (Go.Proofs.YtkhcdichdnbcmaaR.Ext.mkB (o1 ++ (o2 ++ o3))), .int .i64 0]) ∧ Below w.heap.size w w' := by
  obtain ⟨m, rfl⟩ := Int.eq_ofNat_of_zero_le he
  have ha0 : ∀ W, (Instr.typeAssert (.iface 62 (.agg #[.int .i64 a, .int .i64 b, .int .i64 c, .int .i64 d, .slice A4 n4 c4, .slice A5 n5 c5])) 59 62 true).run Try.prog W = .ok (.tuple #[.agg #[.int .i64 a, .int .i64 b, .int .i64 c, .int .i64 d, .slice A4 n4 c4, .slice A5 n5 c5], .bool true]) W := fun _ => by kernel_rfl
  have q2 : o2 = Pk.varL m := by rw [h2]; simp [Sp.encN]
  have q1 : o1 = Pk.varL 1 := h1
  clear h1 h2
  have hv1 := (Pk.varL_length 1 (by omega)).2
  have hv2 := (Pk.varL_length m (by omega)).2
  rw [← q1] at hv1
  rw [← q2] at hv2
  have HV1 : Go.RowKit.Hid (∀ W, Calls Try.prog 33 #[.int .u64 1] W fun e w' => e = .returned (.string (Go.Proofs.YtkhcdichdnbcmaaR.Ext.mkB (Pk.varL 1))) ∧ Below W.heap.size W w') := Lib.hid (fun W => var_c 1 (by omega) W)
  have HV2 := Lib.hid (fun W => var_c m (by omega) W)
  rw [← q1] at HV1
  rw [← q2] at HV2
  clear q1 q2
  have hcv : IntKind.u64.wrap (m : Int) = (m : Int) := IntWalk.u64_in _ (by omega)
  have hs1 : (Go.Proofs.YtkhcdichdnbcmaaR.Ext.mkB o1).size + (Go.Proofs.YtkhcdichdnbcmaaR.Ext.mkB o2).size ≤ 9223372036854775807 := by rw [mkB_size, mkB_size]; omega
  have hs2 : (Go.Proofs.YtkhcdichdnbcmaaR.Ext.mkB (o1 ++ o2)).size + (Go.Proofs.YtkhcdichdnbcmaaR.Ext.mkB o3).size ≤ 9223372036854775807 := by rw [mkB_size, mkB_size, List.length_append]; omega
  have z1 := eq_true hs1
  have z2 := eq_false (Nat.not_lt.2 hs1)
  have z3 := decide_eq_true hs1
  have z4 := eq_true hs2
  have z5 := eq_false (Nat.not_lt.2 hs2)
  have z6 := decide_eq_true hs2
  have t1 := mkB_append o1 o2
  have t2 := mkB_append (o1 ++ o2) o3
  clear hs1 hs2 hv1 hv2 hl3 he he2
  go_enter Try.func13, Try.ntmps13
  go_wp2_with fail
  refine (HC.out _ (by go_grown)).mono ?_
  rintro e_w1 w1 ⟨rfl, hbw1⟩
  have hBw1 : Below w.heap.size w w1 := below_then (by go_grown) hbw1
  have c_w1 : w1.heap[w.heap.size]? = some (.cells #[.int .u8 1, .int .i64 m, .int .i64 a, .int .i64 b, .int .i64 c, .int .i64 d, .slice A4 n4 c4, .slice A5 n5 c5, .int .i64 0] 29 (0, 0)) := vbelow (by (repeat' (first | assumption | (refine vnewAt ?_; first | omega | (simp; done) | (simp; omega)) | refine valloc ?_ | refine vdrew ?_ | apply vput | (refine vfarr ?_ ?_; focus (first | omega | (simp; done) | (simp; omega))) | rfl))) hbw1
  have hcc_w1 := vcell c_w1
  have hfc_w1 := vfree c_w1
  have hsc_w1 := vlt c_w1
  have hlc_w1 := Nat.le_of_lt hsc_w1
  have hmc_w1 := Nat.le_succ_of_le hlc_w1
  clear HC
  go_upto_region 4 with fail
  have yu : ∀ v j, (w1.up v).cell? ⟨w.heap.size, j, none⟩ = (#[.int .u8 1, .int .i64 m, .int .i64 a, .int .i64 b, .int .i64 c, .int .i64 d, .slice A4 n4 c4, .slice A5 n5 c5, .int .i64 0] : Array Value)[j]? := fun v j => (up_cell w1 v _ hsc_w1).trans (hcc_w1 j)
  have zf1 := fun v => calls_up (HV1.out (w1.up v))
  have zf2 := fun v => calls_up (HV2.out (w1.up v))
  refine wp_region_up_lit (by kernel_rfl) (by kernel_rfl) ?_
  repeat (go_big_quiet_step ((first | (with_reducible exact zf1 _) | (with_reducible exact zf2 _))))
  refine wpQuiet_nil ?_
  intro w2 hWw2
  have hbw2 := up_ex hWw2
  clear hWw2
  have hBw2 : Below w.heap.size w w2 := below_then (by go_grown) hbw2
  have c_w2 : w2.heap[w.heap.size]? = some (.cells #[.int .u8 1, .int .i64 m, .int .i64 a, .int .i64 b, .int .i64 c, .int .i64 d, .slice A4 n4 c4, .slice A5 n5 c5, .int .i64 0] 29 (0, 0)) := vbelow (by (repeat' (first | assumption | (refine vnewAt ?_; first | omega | (simp; done) | (simp; omega)) | refine valloc ?_ | refine vdrew ?_ | apply vput | (refine vfarr ?_ ?_; focus (first | omega | (simp; done) | (simp; omega))) | rfl))) hbw2
  have hcc_w2 := vcell c_w2
  have hfc_w2 := vfree c_w2
  have hsc_w2 := vlt c_w2
  have hlc_w2 := Nat.le_of_lt hsc_w2
  have hmc_w2 := Nat.le_succ_of_le hlc_w2
  try clear c_w1 hcc_w1 hfc_w1 hsc_w1 hlc_w1 hmc_w1
  clear yu zf1 zf2 HV1 HV2
  go_wp2_with fail
  refine (HO.out _ (by go_grown)).mono ?_
  rintro e_w3 w3 ⟨rfl, hbw3⟩
  have hBw3 : Below w.heap.size w w3 := below_then (by go_grown) hbw3
  have c_w3 : w3.heap[w.heap.size]? = some (.cells #[.int .u8 1, .int .i64 m, .int .i64 a, .int .i64 b, .int .i64 c, .int .i64 d, .slice A4 n4 c4, .slice A5 n5 c5, .int .i64 0] 29 (0, 0)) := vbelow (by (repeat' (first | assumption | (refine vnewAt ?_; first | omega | (simp; done) | (simp; omega)) | refine valloc ?_ | refine vdrew ?_ | apply vput | (refine vfarr ?_ ?_; focus (first | omega | (simp; done) | (simp; omega))) | rfl))) hbw3
  have hcc_w3 := vcell c_w3
  have hfc_w3 := vfree c_w3
  have hsc_w3 := vlt c_w3
  have hlc_w3 := Nat.le_of_lt hsc_w3
  have hmc_w3 := Nat.le_succ_of_le hlc_w3
  try clear c_w2 hcc_w2 hfc_w2 hsc_w2 hlc_w2 hmc_w2
  clear HO
  go_wp2_with fail
  refine (HE.out _ (by go_grown)).mono ?_
  rintro e_w4 w4 ⟨rfl, hbw4⟩
  have hBw4 : Below w.heap.size w w4 := below_then (by go_grown) hbw4
  have c_w4 : w4.heap[w.heap.size]? = some (.cells #[.int .u8 1, .int .i64 m, .int .i64 a, .int .i64 b, .int .i64 c, .int .i64 d, .slice A4 n4 c4, .slice A5 n5 c5, .int .i64 0] 29 (0, 0)) := vbelow (by (repeat' (first | assumption | (refine vnewAt ?_; first | omega | (simp; done) | (simp; omega)) | refine valloc ?_ | refine vdrew ?_ | apply vput | (refine vfarr ?_ ?_; focus (first | omega | (simp; done) | (simp; omega))) | rfl))) hbw4
  have hcc_w4 := vcell c_w4
  have hfc_w4 := vfree c_w4
  have hsc_w4 := vlt c_w4
  have hlc_w4 := Nat.le_of_lt hsc_w4
  have hmc_w4 := Nat.le_succ_of_le hlc_w4
  try clear c_w3 hcc_w3 hfc_w3 hsc_w3 hlc_w3 hmc_w3
  clear HE
  go_wp2
  go_returns
  exact ⟨rfl, by go_grown⟩
set_option maxRecDepth 100000 in
set_option maxHeartbeats 2000000 in
/-- Encode of a well-formed command of one kind. -/
theorem cenc_stop (e a b c d : Int) (A4 A5 : Option Addr) (n4 c4 n5 c5 : Nat) (x : Int) (w : World) (o1 o2 o3 : List UInt8) (he : 0 ≤ e) (he2 : e ≤ 1099511627776) (hx : 0 ≤ x) (hx2 : x ≤ 2147483648) (h3 : o3 = Sp.encN x)
    (h1 : o1 = Sp.encN 2) (h2 : o2 = Sp.encN e)
    (HC : Go.RowKit.Hid (∀ W, Below w.heap.size w W → Calls Try.prog 17 #[.agg #[.int .u8 2, .int .i64 e, .int .i64 a, .int .i64 b, .int .i64 c, .int .i64 d, .slice A4 n4 c4, .slice A5 n5 c5, .int .i64 x]] W fun ee w' => ee = .returned (.int .i64 0) ∧ Below W.heap.size W w'))
    (HO : Go.RowKit.Hid (∀ W, Below w.heap.size w W → Calls Try.prog 34 #[.agg #[.int .u8 2, .int .i64 e, .int .i64 a, .int .i64 b, .int .i64 c, .int .i64 d, .slice A4 n4 c4, .slice A5 n5 c5, .int .i64 x]] W fun ee w' => ee = .returned (.iface 65 (.agg #[.int .i64 x])) ∧ Below W.heap.size W w'))
 :
    Calls Try.prog 13 #[.agg #[.int .u8 2, .int .i64 e, .int .i64 a, .int .i64 b, .int .i64 c, .int .i64 d, .slice A4 n4 c4, .slice A5 n5 c5, .int .i64 x]] w fun ee w' => ee = .returned (.tuple #[.string (Go.Proofs.YtkhcdichdnbcmaaR.Ext.mkB (o1 ++ (o2 ++ o3))), .int .i64 0]) ∧ Below w.heap.size w w' := by
  obtain ⟨m, rfl⟩ := Int.eq_ofNat_of_zero_le he
  obtain ⟨n, rfl⟩ := Int.eq_ofNat_of_zero_le hx
  have ha0 : ∀ W, (Instr.typeAssert (.iface 65 (.agg #[.int .i64 (n : Int)])) 59 62 true).run Try.prog W = .ok (.tuple #[.agg #[.int .i64 0, .int .i64 0, .int .i64 0, .int .i64 0, .slice none 0 0, .slice none 0 0], .bool false]) W := fun _ => by kernel_rfl
  have ha1 : ∀ W, (Instr.typeAssert (.iface 65 (.agg #[.int .i64 (n : Int)])) 59 65 true).run Try.prog W = .ok (.tuple #[.agg #[.int .i64 (n : Int)], .bool true]) W := fun _ => by kernel_rfl
  have q2 : o2 = Pk.varL m := by rw [h2]; simp [Sp.encN]
  have q1 : o1 = Pk.varL 2 := h1
  have q3 : o3 = Pk.varL n := by rw [h3]; simp [Sp.encN]
  clear h3
  clear h1 h2
  have hv1 := (Pk.varL_length 2 (by omega)).2
  have hv2 := (Pk.varL_length m (by omega)).2
  rw [← q1] at hv1
  rw [← q2] at hv2
  have HV1 : Go.RowKit.Hid (∀ W, Calls Try.prog 33 #[.int .u64 2] W fun e w' => e = .returned (.string (Go.Proofs.YtkhcdichdnbcmaaR.Ext.mkB (Pk.varL 2))) ∧ Below W.heap.size W w') := Lib.hid (fun W => var_c 2 (by omega) W)
  have HV2 := Lib.hid (fun W => var_c m (by omega) W)
  rw [← q1] at HV1
  rw [← q2] at HV2
  clear q1 q2
  have hl3 := (Pk.varL_length n (by omega)).2
  rw [← q3] at hl3
  have HV3 := Lib.hid (fun W => var_c n (by omega) W)
  rw [← q3] at HV3
  clear q3
  have hcn : IntKind.u64.wrap (n : Int) = (n : Int) := IntWalk.u64_in _ (by omega)
  have hcv : IntKind.u64.wrap (m : Int) = (m : Int) := IntWalk.u64_in _ (by omega)
  have hs1 : (Go.Proofs.YtkhcdichdnbcmaaR.Ext.mkB o1).size + (Go.Proofs.YtkhcdichdnbcmaaR.Ext.mkB o2).size ≤ 9223372036854775807 := by rw [mkB_size, mkB_size]; omega
  have hs2 : (Go.Proofs.YtkhcdichdnbcmaaR.Ext.mkB (o1 ++ o2)).size + (Go.Proofs.YtkhcdichdnbcmaaR.Ext.mkB o3).size ≤ 9223372036854775807 := by rw [mkB_size, mkB_size, List.length_append]; omega
  have z1 := eq_true hs1
  have z2 := eq_false (Nat.not_lt.2 hs1)
  have z3 := decide_eq_true hs1
  have z4 := eq_true hs2
  have z5 := eq_false (Nat.not_lt.2 hs2)
  have z6 := decide_eq_true hs2
  have t1 := mkB_append o1 o2
  have t2 := mkB_append (o1 ++ o2) o3
  clear hs1 hs2 hv1 hv2 hl3 he he2 hx hx2
  go_enter Try.func13, Try.ntmps13
  go_wp2_with fail
  refine (HC.out _ (by go_grown)).mono ?_
  rintro e_w1 w1 ⟨rfl, hbw1⟩
  have hBw1 : Below w.heap.size w w1 := below_then (by go_grown) hbw1
  have c_w1 : w1.heap[w.heap.size]? = some (.cells #[.int .u8 2, .int .i64 m, .int .i64 a, .int .i64 b, .int .i64 c, .int .i64 d, .slice A4 n4 c4, .slice A5 n5 c5, .int .i64 n] 29 (0, 0)) := vbelow (by (repeat' (first | assumption | (refine vnewAt ?_; first | omega | (simp; done) | (simp; omega)) | refine valloc ?_ | refine vdrew ?_ | apply vput | (refine vfarr ?_ ?_; focus (first | omega | (simp; done) | (simp; omega))) | rfl))) hbw1
  have hcc_w1 := vcell c_w1
  have hfc_w1 := vfree c_w1
  have hsc_w1 := vlt c_w1
  have hlc_w1 := Nat.le_of_lt hsc_w1
  have hmc_w1 := Nat.le_succ_of_le hlc_w1
  clear HC
  go_upto_region 4 with fail
  have yu : ∀ v j, (w1.up v).cell? ⟨w.heap.size, j, none⟩ = (#[.int .u8 2, .int .i64 m, .int .i64 a, .int .i64 b, .int .i64 c, .int .i64 d, .slice A4 n4 c4, .slice A5 n5 c5, .int .i64 n] : Array Value)[j]? := fun v j => (up_cell w1 v _ hsc_w1).trans (hcc_w1 j)
  have zf1 := fun v => calls_up (HV1.out (w1.up v))
  have zf2 := fun v => calls_up (HV2.out (w1.up v))
  refine wp_region_up_lit (by kernel_rfl) (by kernel_rfl) ?_
  repeat (go_big_quiet_step ((first | (with_reducible exact zf1 _) | (with_reducible exact zf2 _))))
  refine wpQuiet_nil ?_
  intro w2 hWw2
  have hbw2 := up_ex hWw2
  clear hWw2
  have hBw2 : Below w.heap.size w w2 := below_then (by go_grown) hbw2
  have c_w2 : w2.heap[w.heap.size]? = some (.cells #[.int .u8 2, .int .i64 m, .int .i64 a, .int .i64 b, .int .i64 c, .int .i64 d, .slice A4 n4 c4, .slice A5 n5 c5, .int .i64 n] 29 (0, 0)) := vbelow (by (repeat' (first | assumption | (refine vnewAt ?_; first | omega | (simp; done) | (simp; omega)) | refine valloc ?_ | refine vdrew ?_ | apply vput | (refine vfarr ?_ ?_; focus (first | omega | (simp; done) | (simp; omega))) | rfl))) hbw2
  have hcc_w2 := vcell c_w2
  have hfc_w2 := vfree c_w2
  have hsc_w2 := vlt c_w2
  have hlc_w2 := Nat.le_of_lt hsc_w2
  have hmc_w2 := Nat.le_succ_of_le hlc_w2
  try clear c_w1 hcc_w1 hfc_w1 hsc_w1 hlc_w1 hmc_w1
  clear yu zf1 zf2 HV1 HV2
  go_wp2_with fail
  refine (HO.out _ (by go_grown)).mono ?_
  rintro e_w3 w3 ⟨rfl, hbw3⟩
  have hBw3 : Below w.heap.size w w3 := below_then (by go_grown) hbw3
  have c_w3 : w3.heap[w.heap.size]? = some (.cells #[.int .u8 2, .int .i64 m, .int .i64 a, .int .i64 b, .int .i64 c, .int .i64 d, .slice A4 n4 c4, .slice A5 n5 c5, .int .i64 n] 29 (0, 0)) := vbelow (by (repeat' (first | assumption | (refine vnewAt ?_; first | omega | (simp; done) | (simp; omega)) | refine valloc ?_ | refine vdrew ?_ | apply vput | (refine vfarr ?_ ?_; focus (first | omega | (simp; done) | (simp; omega))) | rfl))) hbw3
  have hcc_w3 := vcell c_w3
  have hfc_w3 := vfree c_w3
  have hsc_w3 := vlt c_w3
  have hlc_w3 := Nat.le_of_lt hsc_w3
  have hmc_w3 := Nat.le_succ_of_le hlc_w3
  try clear c_w2 hcc_w2 hfc_w2 hsc_w2 hlc_w2 hmc_w2
  clear HO
  go_wp2_with fail
  refine (HV3.out _).mono ?_
  rintro e_w4 w4 ⟨rfl, hbw4⟩
  have hBw4 : Below w.heap.size w w4 := below_then (by go_grown) hbw4
  have c_w4 : w4.heap[w.heap.size]? = some (.cells #[.int .u8 2, .int .i64 m, .int .i64 a, .int .i64 b, .int .i64 c, .int .i64 d, .slice A4 n4 c4, .slice A5 n5 c5, .int .i64 n] 29 (0, 0)) := vbelow (by (repeat' (first | assumption | (refine vnewAt ?_; first | omega | (simp; done) | (simp; omega)) | refine valloc ?_ | refine vdrew ?_ | apply vput | (refine vfarr ?_ ?_; focus (first | omega | (simp; done) | (simp; omega))) | rfl))) hbw4
  have hcc_w4 := vcell c_w4
  have hfc_w4 := vfree c_w4
  have hsc_w4 := vlt c_w4
  have hlc_w4 := Nat.le_of_lt hsc_w4
  have hmc_w4 := Nat.le_succ_of_le hlc_w4
  try clear c_w3 hcc_w3 hfc_w3 hsc_w3 hlc_w3 hmc_w3
  clear HV3
  go_wp2
  go_returns
  exact ⟨rfl, by go_grown⟩
set_option maxRecDepth 100000 in
set_option maxHeartbeats 2000000 in
/-- Encode of a well-formed command of one kind. -/
theorem cenc_forget (e a b c d : Int) (A4 A5 : Option Addr) (n4 c4 n5 c5 : Nat) (x : Int) (w : World) (o1 o2 o3 : List UInt8) (he : 0 ≤ e) (he2 : e ≤ 1099511627776) (hx : 0 ≤ x) (hx2 : x ≤ 2147483648) (h3 : o3 = Sp.encN x)
    (h1 : o1 = Sp.encN 3) (h2 : o2 = Sp.encN e)
    (HC : Go.RowKit.Hid (∀ W, Below w.heap.size w W → Calls Try.prog 17 #[.agg #[.int .u8 3, .int .i64 e, .int .i64 a, .int .i64 b, .int .i64 c, .int .i64 d, .slice A4 n4 c4, .slice A5 n5 c5, .int .i64 x]] W fun ee w' => ee = .returned (.int .i64 0) ∧ Below W.heap.size W w'))
    (HO : Go.RowKit.Hid (∀ W, Below w.heap.size w W → Calls Try.prog 34 #[.agg #[.int .u8 3, .int .i64 e, .int .i64 a, .int .i64 b, .int .i64 c, .int .i64 d, .slice A4 n4 c4, .slice A5 n5 c5, .int .i64 x]] W fun ee w' => ee = .returned (.iface 66 (.agg #[.int .i64 x])) ∧ Below W.heap.size W w'))
 :
    Calls Try.prog 13 #[.agg #[.int .u8 3, .int .i64 e, .int .i64 a, .int .i64 b, .int .i64 c, .int .i64 d, .slice A4 n4 c4, .slice A5 n5 c5, .int .i64 x]] w fun ee w' => ee = .returned (.tuple #[.string (Go.Proofs.YtkhcdichdnbcmaaR.Ext.mkB (o1 ++ (o2 ++ o3))), .int .i64 0]) ∧ Below w.heap.size w w' := by
  obtain ⟨m, rfl⟩ := Int.eq_ofNat_of_zero_le he
  obtain ⟨n, rfl⟩ := Int.eq_ofNat_of_zero_le hx
  have ha0 : ∀ W, (Instr.typeAssert (.iface 66 (.agg #[.int .i64 (n : Int)])) 59 62 true).run Try.prog W = .ok (.tuple #[.agg #[.int .i64 0, .int .i64 0, .int .i64 0, .int .i64 0, .slice none 0 0, .slice none 0 0], .bool false]) W := fun _ => by kernel_rfl
  have ha1 : ∀ W, (Instr.typeAssert (.iface 66 (.agg #[.int .i64 (n : Int)])) 59 65 true).run Try.prog W = .ok (.tuple #[.agg #[.int .i64 0], .bool false]) W := fun _ => by kernel_rfl
  have ha2 : ∀ W, (Instr.typeAssert (.iface 66 (.agg #[.int .i64 (n : Int)])) 59 66 true).run Try.prog W = .ok (.tuple #[.agg #[.int .i64 (n : Int)], .bool true]) W := fun _ => by kernel_rfl
  have q2 : o2 = Pk.varL m := by rw [h2]; simp [Sp.encN]
  have q1 : o1 = Pk.varL 3 := h1
  have q3 : o3 = Pk.varL n := by rw [h3]; simp [Sp.encN]
  clear h3
  clear h1 h2
  have hv1 := (Pk.varL_length 3 (by omega)).2
  have hv2 := (Pk.varL_length m (by omega)).2
  rw [← q1] at hv1
  rw [← q2] at hv2
  have HV1 : Go.RowKit.Hid (∀ W, Calls Try.prog 33 #[.int .u64 3] W fun e w' => e = .returned (.string (Go.Proofs.YtkhcdichdnbcmaaR.Ext.mkB (Pk.varL 3))) ∧ Below W.heap.size W w') := Lib.hid (fun W => var_c 3 (by omega) W)
  have HV2 := Lib.hid (fun W => var_c m (by omega) W)
  rw [← q1] at HV1
  rw [← q2] at HV2
  clear q1 q2
  have hl3 := (Pk.varL_length n (by omega)).2
  rw [← q3] at hl3
  have HV3 := Lib.hid (fun W => var_c n (by omega) W)
  rw [← q3] at HV3
  clear q3
  have hcn : IntKind.u64.wrap (n : Int) = (n : Int) := IntWalk.u64_in _ (by omega)
  have hcv : IntKind.u64.wrap (m : Int) = (m : Int) := IntWalk.u64_in _ (by omega)
  have hs1 : (Go.Proofs.YtkhcdichdnbcmaaR.Ext.mkB o1).size + (Go.Proofs.YtkhcdichdnbcmaaR.Ext.mkB o2).size ≤ 9223372036854775807 := by rw [mkB_size, mkB_size]; omega
  have hs2 : (Go.Proofs.YtkhcdichdnbcmaaR.Ext.mkB (o1 ++ o2)).size + (Go.Proofs.YtkhcdichdnbcmaaR.Ext.mkB o3).size ≤ 9223372036854775807 := by rw [mkB_size, mkB_size, List.length_append]; omega
  have z1 := eq_true hs1
  have z2 := eq_false (Nat.not_lt.2 hs1)
  have z3 := decide_eq_true hs1
  have z4 := eq_true hs2
  have z5 := eq_false (Nat.not_lt.2 hs2)
  have z6 := decide_eq_true hs2
  have t1 := mkB_append o1 o2
  have t2 := mkB_append (o1 ++ o2) o3
  clear hs1 hs2 hv1 hv2 hl3 he he2 hx hx2
  go_enter Try.func13, Try.ntmps13
  go_wp2_with fail
  refine (HC.out _ (by go_grown)).mono ?_
  rintro e_w1 w1 ⟨rfl, hbw1⟩
  have hBw1 : Below w.heap.size w w1 := below_then (by go_grown) hbw1
  have c_w1 : w1.heap[w.heap.size]? = some (.cells #[.int .u8 3, .int .i64 m, .int .i64 a, .int .i64 b, .int .i64 c, .int .i64 d, .slice A4 n4 c4, .slice A5 n5 c5, .int .i64 n] 29 (0, 0)) := vbelow (by (repeat' (first | assumption | (refine vnewAt ?_; first | omega | (simp; done) | (simp; omega)) | refine valloc ?_ | refine vdrew ?_ | apply vput | (refine vfarr ?_ ?_; focus (first | omega | (simp; done) | (simp; omega))) | rfl))) hbw1
  have hcc_w1 := vcell c_w1
  have hfc_w1 := vfree c_w1
  have hsc_w1 := vlt c_w1
  have hlc_w1 := Nat.le_of_lt hsc_w1
  have hmc_w1 := Nat.le_succ_of_le hlc_w1
  clear HC
  go_upto_region 4 with fail
  have yu : ∀ v j, (w1.up v).cell? ⟨w.heap.size, j, none⟩ = (#[.int .u8 3, .int .i64 m, .int .i64 a, .int .i64 b, .int .i64 c, .int .i64 d, .slice A4 n4 c4, .slice A5 n5 c5, .int .i64 n] : Array Value)[j]? := fun v j => (up_cell w1 v _ hsc_w1).trans (hcc_w1 j)
  have zf1 := fun v => calls_up (HV1.out (w1.up v))
  have zf2 := fun v => calls_up (HV2.out (w1.up v))
  refine wp_region_up_lit (by kernel_rfl) (by kernel_rfl) ?_
  repeat (go_big_quiet_step ((first | (with_reducible exact zf1 _) | (with_reducible exact zf2 _))))
  refine wpQuiet_nil ?_
  intro w2 hWw2
  have hbw2 := up_ex hWw2
  clear hWw2
  have hBw2 : Below w.heap.size w w2 := below_then (by go_grown) hbw2
  have c_w2 : w2.heap[w.heap.size]? = some (.cells #[.int .u8 3, .int .i64 m, .int .i64 a, .int .i64 b, .int .i64 c, .int .i64 d, .slice A4 n4 c4, .slice A5 n5 c5, .int .i64 n] 29 (0, 0)) := vbelow (by (repeat' (first | assumption | (refine vnewAt ?_; first | omega | (simp; done) | (simp; omega)) | refine valloc ?_ | refine vdrew ?_ | apply vput | (refine vfarr ?_ ?_; focus (first | omega | (simp; done) | (simp; omega))) | rfl))) hbw2
  have hcc_w2 := vcell c_w2
  have hfc_w2 := vfree c_w2
  have hsc_w2 := vlt c_w2
  have hlc_w2 := Nat.le_of_lt hsc_w2
  have hmc_w2 := Nat.le_succ_of_le hlc_w2
  try clear c_w1 hcc_w1 hfc_w1 hsc_w1 hlc_w1 hmc_w1
  clear yu zf1 zf2 HV1 HV2
  go_wp2_with fail
  refine (HO.out _ (by go_grown)).mono ?_
  rintro e_w3 w3 ⟨rfl, hbw3⟩
  have hBw3 : Below w.heap.size w w3 := below_then (by go_grown) hbw3
  have c_w3 : w3.heap[w.heap.size]? = some (.cells #[.int .u8 3, .int .i64 m, .int .i64 a, .int .i64 b, .int .i64 c, .int .i64 d, .slice A4 n4 c4, .slice A5 n5 c5, .int .i64 n] 29 (0, 0)) := vbelow (by (repeat' (first | assumption | (refine vnewAt ?_; first | omega | (simp; done) | (simp; omega)) | refine valloc ?_ | refine vdrew ?_ | apply vput | (refine vfarr ?_ ?_; focus (first | omega | (simp; done) | (simp; omega))) | rfl))) hbw3
  have hcc_w3 := vcell c_w3
  have hfc_w3 := vfree c_w3
  have hsc_w3 := vlt c_w3
  have hlc_w3 := Nat.le_of_lt hsc_w3
  have hmc_w3 := Nat.le_succ_of_le hlc_w3
  try clear c_w2 hcc_w2 hfc_w2 hsc_w2 hlc_w2 hmc_w2
  clear HO
  go_wp2_with fail
  refine (HV3.out _).mono ?_
  rintro e_w4 w4 ⟨rfl, hbw4⟩
  have hBw4 : Below w.heap.size w w4 := below_then (by go_grown) hbw4
  have c_w4 : w4.heap[w.heap.size]? = some (.cells #[.int .u8 3, .int .i64 m, .int .i64 a, .int .i64 b, .int .i64 c, .int .i64 d, .slice A4 n4 c4, .slice A5 n5 c5, .int .i64 n] 29 (0, 0)) := vbelow (by (repeat' (first | assumption | (refine vnewAt ?_; first | omega | (simp; done) | (simp; omega)) | refine valloc ?_ | refine vdrew ?_ | apply vput | (refine vfarr ?_ ?_; focus (first | omega | (simp; done) | (simp; omega))) | rfl))) hbw4
  have hcc_w4 := vcell c_w4
  have hfc_w4 := vfree c_w4
  have hsc_w4 := vlt c_w4
  have hlc_w4 := Nat.le_of_lt hsc_w4
  have hmc_w4 := Nat.le_succ_of_le hlc_w4
  try clear c_w3 hcc_w3 hfc_w3 hsc_w3 hlc_w3 hmc_w3
  clear HV3
  go_wp2
  go_returns
  exact ⟨rfl, by go_grown⟩
theorem cmd_Encode.calls (a0_0 : Int) (a0_1 : Int) (a0_2 : Int) (a0_3 : Int) (a0_4 : Int) (a0_5 : Int) (A0_6 : Option Addr) (c0_6 : Nat) (l0_6 : List Int) (A0_7 : Option Addr) (c0_7 : Nat) (l0_7 : List (S90)) (a0_8 : Int) (r1 : ByteArray) (r2 : Int) (w : World) (hr0_6 : Kd.C (Kd.int .i64) w A0_6 l0_6.length l0_6) (hc0_6 : l0_6.length ≤ c0_6) (hr0_7 : Kd.C k90 w A0_7 l0_7.length l0_7) (hc0_7 : l0_7.length ≤ c0_7) (h : cmd_Encode.f a0_0 a0_1 a0_2 a0_3 a0_4 a0_5 l0_6 l0_7 a0_8 = some (r1, r2)) :
    Calls Try.prog 13 #[.agg #[.int .u8 a0_0, .int .i64 a0_1, .int .i64 a0_2, .int .i64 a0_3, .int .i64 a0_4, .int .i64 a0_5, .slice A0_6 l0_6.length c0_6, .slice A0_7 l0_7.length c0_7, .int .i64 a0_8]] w fun e w' => e = .returned (.tuple #[.string r1, .int .i64 r2]) ∧ Below w.heap.size w w' := by
  have h := Option.some.inj h
  simp only [Prod.mk.injEq] at h
  obtain ⟨rfl, rfl⟩ := h
  have HC := fun W (hB : Below w.heap.size w W) => cmd_Check.calls a0_0 a0_1 a0_2 a0_3 a0_4 a0_5 A0_6 c0_6 l0_6 A0_7 c0_7 l0_7 a0_8 _ W (Kd.C_below hr0_6 hB) hc0_6 (Kd.C_below hr0_7 hB) hc0_7 rfl
  by_cases hE : Sp.cmdE ⟨a0_0, a0_1, spOf a0_2 a0_3 a0_4 a0_5 l0_6 l0_7, a0_8⟩ = 0
  case neg =>
    have : encCB ⟨a0_0, a0_1, spOf a0_2 a0_3 a0_4 a0_5 l0_6 l0_7, a0_8⟩ = Go.Proofs.YtkhcdichdnbcmaaR.Ext.mkB [] := by unfold encCB Sp.encCR; rw [if_neg hE]
    rw [this]
    exact cenc_no _ _ _ _ _ _ _ _ _ _ _ _ _ w _ hE (Lib.hid HC)
  have he : encCB ⟨a0_0, a0_1, spOf a0_2 a0_3 a0_4 a0_5 l0_6 l0_7, a0_8⟩ = Go.Proofs.YtkhcdichdnbcmaaR.Ext.mkB (Sp.encN a0_0 ++ (Sp.encN a0_1 ++ (if a0_0 = 1 then Sp.encS (spOf a0_2 a0_3 a0_4 a0_5 l0_6 l0_7) else Sp.encN a0_8))) := by unfold encCB Sp.encCR Sp.encC; rw [if_pos hE, List.append_assoc]
  rw [he, hE]
  have hg := Sp.okC_gC ((Sp.okC_iff _).2 hE)
  obtain ⟨⟨hk, he1, he2⟩, ht⟩ := hg
  obtain ⟨bare, hb⟩ : ∃ b, decide (spOf a0_2 a0_3 a0_4 a0_5 l0_6 l0_7 = Sp.zSP) = b := ⟨_, rfl⟩
  have HO := fun W (hB : Below w.heap.size w W) => of_c a0_0 a0_1 a0_2 a0_3 a0_4 a0_5 A0_6 c0_6 l0_6 A0_7 c0_7 l0_7 a0_8 W (Kd.C_below hr0_6 hB) hc0_6 (Kd.C_below hr0_7 hB) hc0_7 bare hb
  have HE := fun W (hB : Below w.heap.size w W) => spec_Encode.calls a0_2 a0_3 a0_4 a0_5 A0_6 c0_6 l0_6 A0_7 c0_7 l0_7 _ _ W (Kd.C_below hr0_6 hB) hc0_6 (Kd.C_below hr0_7 hB) hc0_7 rfl
  have hbt : bare = true ↔ spOf a0_2 a0_3 a0_4 a0_5 l0_6 l0_7 = Sp.zSP := by rw [← hb]; exact decide_eq_true_iff
  unfold ofV at HO
  rw [hE] at HC
  unfold Sp.tailG at ht
  simp only at he1 he2 ht hk
  by_cases p1 : a0_0 = 1
  · subst p1
    rw [if_pos rfl] at ht ⊢
    obtain ⟨ho, rfl⟩ := ht
    have hs : Sp.specE (spOf a0_2 a0_3 a0_4 a0_5 l0_6 l0_7) = 0 := by simpa [Sp.okS] using ho
    have hen : Go.Proofs.YtkhcdichdnbcmaaR.encR (spOf a0_2 a0_3 a0_4 a0_5 l0_6 l0_7) = Sp.encS (spOf a0_2 a0_3 a0_4 a0_5 l0_6 l0_7) := by unfold Go.Proofs.YtkhcdichdnbcmaaR.encR; rw [if_pos hs]
    rw [hs, hen] at HE
    have hl := Sp.encS_length (Sp.okS_gS ho)
    exact cenc_place _ _ _ _ _ _ _ _ _ _ _ w _ _ _ he1 he2 (by omega) rfl rfl (Lib.hid HC) (Lib.hid HO) (Lib.hid HE)
  · rw [if_neg p1] at ht ⊢
    obtain ⟨hz, hx1, hx2⟩ := ht
    have hbb := hbt.2 hz
    subst hbb
    have h23 : a0_0 = 2 ∨ a0_0 = 3 := by
      unfold Sp.cmdE at hE
      split at hE
      · rename_i hsh
        rcases hsh with hsh | hsh
        · exact absurd hsh.1 p1
        · exact hsh.1
      · cases hE
    rcases h23 with rfl | rfl
    · exact cenc_stop _ _ _ _ _ _ _ _ _ _ _ _ w _ _ _ he1 he2 hx1 hx2 rfl rfl rfl (Lib.hid HC) (Lib.hid HO)
    · exact cenc_forget _ _ _ _ _ _ _ _ _ _ _ _ w _ _ _ he1 he2 hx1 hx2 rfl rfl rfl (Lib.hid HC) (Lib.hid HO)

/-! ### sacristankit_EqualInts: function 67 -/
def sacristankit_EqualInts.l0 : Nat → List Int → List Int → Int → Option (Bool)
  | 0, _, _, _ => none
  | k + 1, x0, x1, x5 => if x5 < (x0.length : Int) then (if 0 ≤ x5 then (if x5 < (x1.length : Int) then (if (rd x0 x5) = (rd x1 x5) then (sacristankit_EqualInts.l0 k x0 x1 (wrap64 (x5 + 1))) else (some false)) else (none)) else (none)) else (some true)
def sacristankit_EqualInts.f (k : Nat) (l0 : List Int) (l1 : List Int) : Option (Bool) := if (l0.length : Int) = (l1.length : Int) then (sacristankit_EqualInts.l0 k l0 l1 0) else (some false)
theorem sacristankit_EqualInts.mono_l : ∀ k, (∀ y0 y1 y2, LeO (sacristankit_EqualInts.l0 k y0 y1 y2) (sacristankit_EqualInts.l0 (k + 1) y0 y1 y2))
  | 0 => fun _ _ _ r h => by simp [sacristankit_EqualInts.l0] at h
  | k + 1 => by
    have ih0 := sacristankit_EqualInts.mono_l k
    · intro y0 y1 y2
      unfold sacristankit_EqualInts.l0
      repeat' first
      | (with_reducible exact ih0 _ _ _)
      | (with_reducible exact LeO.refl _)
      | (with_reducible exact LeO.none _)
      | (with_reducible refine LeO.ite ?_ ?_)
      | (with_reducible refine LeO.bind ?_ (fun _ => ?_))
      | exact ih0 _ _ _
      | exact LeO.none _
      | refine LeO.ite ?_ ?_
      | refine LeO.bind ?_ (fun _ => ?_)
theorem sacristankit_EqualInts.mono : ∀ a0 a1 k, LeO (sacristankit_EqualInts.f k a0 a1) (sacristankit_EqualInts.f (k + 1) a0 a1) := by
  intro a0 a1 k
  have ih0 := sacristankit_EqualInts.mono_l k
  unfold sacristankit_EqualInts.f
  repeat' first
      | (with_reducible exact ih0 _ _ _)
      | (with_reducible exact LeO.refl _)
      | (with_reducible exact LeO.none _)
      | (with_reducible refine LeO.ite ?_ ?_)
      | (with_reducible refine LeO.bind ?_ (fun _ => ?_))
      | exact ih0 _ _ _
      | exact LeO.none _
      | refine LeO.ite ?_ ?_
      | refine LeO.bind ?_ (fun _ => ?_)
set_option maxHeartbeats 8000000 in
set_option maxRecDepth 100000 in
theorem sacristankit_EqualInts.calls (k : Nat) (A0 : Option Addr) (c0 : Nat) (l0 : List Int) (A1 : Option Addr) (c1 : Nat) (l1 : List Int) (r : Bool) (w : World) (hr0 : Kd.C (Kd.int .i64) w A0 l0.length l0) (hc0 : l0.length ≤ c0) (hr1 : Kd.C (Kd.int .i64) w A1 l1.length l1) (hc1 : l1.length ≤ c1) (h : sacristankit_EqualInts.f k l0 l1 = some r) :
    Calls Try.prog 67 #[.slice A0 l0.length c0, .slice A1 l1.length c1] w fun e w' => e = .returned (.bool r) ∧ Drawn0 w w' := by
  have HR0 := Aside0.mk hr0
  have HC0 := Aside0.mk hc0
  clear hr0 hc0
  have HR1 := Aside0.mk hr1
  have HC1 := Aside0.mk hc1
  clear hr1 hc1
  have H : (if (l0.length : Int) = (l1.length : Int) then (sacristankit_EqualInts.l0 k l0 l1 0) else (some false)) = some r := h
  clear h
  by_cases c3 : (l0.length : Int) = (l1.length : Int)
  · rw [if_pos c3] at H
    have c3b0 : ((l0.length : Int) == (l1.length : Int)) = true := beq_iff_eq.mpr c3
    have c3b1 : ((l0.length : Int) != (l1.length : Int)) = false := bne_eq_false_iff_eq.mpr c3
    have c3b2 : (l0.length == l1.length) = true := by first | simpa using c3 | (simp at c3 ⊢; omega)
    clear c3
    have H' := Aside0.mk H
    clear H
    go_enter Try.func67, Try.ntmps67
    go_wp2
    repeat (go_quiet (fail); try go_wp2)
    go_loopg [5] k (fun kq v5 w' => ∃ (x5_1 : Int), v5 = .int .i64 x5_1 ∧ Aside0 (sacristankit_EqualInts.l0 kq l0 l1 x5_1 = some r) ∧ Aside0 (kq ≤ k) ∧ Drawn0 w w')
    case atStart => exact ⟨(0), (by first | rfl | (simp; done) | (simp [*]; done)), H', ⟨Nat.le_refl _⟩, by repeat (first | exact Drawn0.refl _ | apply Drawn0.step)⟩
    case round =>
      clear H'
      try clear c1
      try clear p2
      try clear c3
      try clear c3b0
      try clear c3b1
      try clear c3b2
      obtain ⟨x5_1, rfl, HA, HK1, ⟨m1, rfl⟩⟩ := hrel
      cases gk with
      | zero => exact absurd HA.out (by simp [sacristankit_EqualInts.l0])
      | succ k1 =>
        have H := HA.out
        clear HA
        simp only [sacristankit_EqualInts.l0] at H
        by_cases c4 : x5_1 < (l0.length : Int)
        · rw [if_pos c4] at H
          have c4b0 : decide (x5_1 < (l0.length : Int)) = true := decide_eq_true c4
          clear c4
          by_cases c5 : 0 ≤ x5_1
          · rw [if_pos c5] at H
            have c5b0 : decide (0 ≤ x5_1) = true := decide_eq_true c5
            clear c5
            by_cases c6 : x5_1 < (l1.length : Int)
            · rw [if_pos c6] at H
              have c6b0 : decide (x5_1 < (l1.length : Int)) = true := decide_eq_true c6
              clear c6
              by_cases c7 : (rd l0 x5_1) = (rd l1 x5_1)
              · rw [if_pos c7] at H
                have c7b0 : ((rd l0 x5_1) == (rd l1 x5_1)) = true := beq_iff_eq.mpr c7
                have c7b1 : ((rd l0 x5_1) != (rd l1 x5_1)) = false := bne_eq_false_iff_eq.mpr c7
                clear c7
                have H' := Aside0.mk H
                clear H
                have p125 : 0 ≤ (x5_1 : Int) := of_decide_eq_true (by first | (with_reducible assumption) | assumption)
                have q125 : x5_1 < (l0.length : Int) := of_decide_eq_true (by first | (with_reducible assumption) | assumption)
                obtain ⟨ad125, e125, hx125_0⟩ := Kd.at_int HR0.out x5_1 p125 q125
                cases e125
                replace p125 := eq_true p125
                replace q125 := eq_true q125
                have p126 : 0 ≤ (x5_1 : Int) := of_decide_eq_true (by first | (with_reducible assumption) | assumption)
                have q126 : x5_1 < (l1.length : Int) := of_decide_eq_true (by first | (with_reducible assumption) | assumption)
                obtain ⟨ad126, e126, hx126_0⟩ := Kd.at_int HR1.out x5_1 p126 q126
                cases e126
                replace p126 := eq_true p126
                replace q126 := eq_true q126
                go_wp2
                repeat (go_quiet (fail); try go_wp2)
                go_roundg k1
                case measure => have := HK1.out; omega
                case rel => exact ⟨(wrap64 (x5_1 + 1)), (by first | rfl | (simp; done) | (simp [*]; done)), H', ⟨by have := HK1.out; omega⟩, by repeat (first | exact Drawn0.refl _ | apply Drawn0.step)⟩
              · rw [if_neg c7] at H
                have c7b0 : ((rd l0 x5_1) == (rd l1 x5_1)) = false := beq_eq_false_iff_ne.mpr c7
                have c7b1 : ((rd l0 x5_1) != (rd l1 x5_1)) = true := bne_iff_ne.mpr c7
                obtain rfl := Option.some.inj H
                have p125 : 0 ≤ (x5_1 : Int) := of_decide_eq_true (by first | (with_reducible assumption) | assumption)
                have q125 : x5_1 < (l0.length : Int) := of_decide_eq_true (by first | (with_reducible assumption) | assumption)
                obtain ⟨ad125, e125, hx125_0⟩ := Kd.at_int HR0.out x5_1 p125 q125
                cases e125
                replace p125 := eq_true p125
                replace q125 := eq_true q125
                have p126 : 0 ≤ (x5_1 : Int) := of_decide_eq_true (by first | (with_reducible assumption) | assumption)
                have q126 : x5_1 < (l1.length : Int) := of_decide_eq_true (by first | (with_reducible assumption) | assumption)
                obtain ⟨ad126, e126, hx126_0⟩ := Kd.at_int HR1.out x5_1 p126 q126
                cases e126
                replace p126 := eq_true p126
                replace q126 := eq_true q126
                go_wp2
                repeat (go_quiet (fail); try go_wp2)
                go_ret
                exact ⟨by first | rfl | (simp; done) | (simp [*]; done), by repeat (first | exact Drawn0.refl _ | apply Drawn0.step)⟩
            · rw [if_neg c6] at H
              exact absurd H (by simp)
          · rw [if_neg c5] at H
            exact absurd H (by simp)
        · rw [if_neg c4] at H
          have c4b0 : decide (x5_1 < (l0.length : Int)) = false := decide_eq_false c4
          clear c4
          obtain rfl := Option.some.inj H
          go_wp2
          repeat (go_quiet (fail); try go_wp2)
          go_ret
          exact ⟨by first | rfl | (simp; done) | (simp [*]; done), by repeat (first | exact Drawn0.refl _ | apply Drawn0.step)⟩
  · rw [if_neg c3] at H
    have c3b0 : ((l0.length : Int) == (l1.length : Int)) = false := beq_eq_false_iff_ne.mpr c3
    have c3b1 : ((l0.length : Int) != (l1.length : Int)) = true := bne_iff_ne.mpr c3
    have c3b2 : (l0.length == l1.length) = false := by first | simpa using c3 | (simp at c3 ⊢; omega)
    obtain rfl := Option.some.inj H
    go_enter Try.func67, Try.ntmps67
    go_wp2
    repeat (go_quiet (fail); try go_wp2)
    go_ret
    exact ⟨by first | rfl | (simp; done) | (simp [*]; done), by repeat (first | exact Drawn0.refl _ | apply Drawn0.step)⟩

end Go.Proofs.YtkhcdichdnbcmaaR.C
