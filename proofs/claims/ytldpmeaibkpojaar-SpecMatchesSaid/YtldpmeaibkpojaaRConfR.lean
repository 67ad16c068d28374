/- The contract of sacristanref13.Config. -/
import Derived.Test.YtldpmeaibkpojaaRBase
import Derived.Test.YtldpmeaibkpojaaRResC
import Derived.Test.YtldpmeaibkpojaaRConf
import Derived.Test.YtldpmeaibkpojaaRProg
import Derived.Lib.Hide
namespace Go.Proofs.YtldpmeaibkpojaaR
open Go.RowKit
set_option linter.unusedSimpArgs false
set_option linter.unusedVariables false

set_option maxHeartbeats 400000 in
theorem ramounts_c (a b c : Int) (w : World) : Calls Try.prog 68 #[.agg #[.int .i64 a, .int .i64 b, .int .i64 c]] w fun e w' =>
    e = .returned (.slice (some ⟨w.heap.size + 1, 0, none⟩) 3 3) ∧ w' = (w.alloc (.cells #[.int .i64 a, .int .i64 b, .int .i64 c] 23)).alloc (.cells #[.int .i64 a, .int .i64 b, .int .i64 c] 3) := by
  go_enter Try.func68, Try.ntmps68
  go_wp2
  go_returns
  exact ⟨rfl, rfl⟩

set_option maxHeartbeats 400000 in
theorem rcheck_c (a b c : Int) (w : World) : Calls Try.prog 43 #[.agg #[.int .i64 a, .int .i64 b, .int .i64 c]] w fun e w' =>
    e = .returned (.int .i64 (errI (okR a b c))) ∧ Below w.heap.size w w' := by
  go_enter Try.func43, Try.ntmps43
  go_wp2_with (go_at_call 68; refine (ramounts_c _ _ _ _).mono ?_; rintro e w1 ⟨rfl, rfl⟩)
  go_rounds 4
  all_goals go_returns
  all_goals refine ⟨ret_int ?_, by go_grown⟩
  all_goals first | (rw [errI_ok (by omega)]; done) | (rw [errI_no (by omega)]; done)


set_option maxHeartbeats 400000 in
theorem from_t (n lo hi : Int) (w : World) (h : inB n lo hi = true) : Calls Try.prog 44 #[.int .i64 n, .int .i64 lo, .int .i64 hi] w fun e w' => e = .returned (.bool true) ∧ w' = w := by
  have h' := (inB_iff _ _ _).1 h
  have h1 : decide (lo ≤ n) = true := by simp; omega
  have h2 : decide (n ≤ hi) = true := by simp; omega
  clear h' h
  go_enter Try.func44, Try.ntmps44
  go_wp2
  go_ret
  exact ⟨rfl, rfl⟩
set_option maxHeartbeats 400000 in
theorem from_f (n lo hi : Int) (w : World) (h : inB n lo hi = false) : Calls Try.prog 44 #[.int .i64 n, .int .i64 lo, .int .i64 hi] w fun e w' => e = .returned (.bool false) ∧ w' = w := by
  have h' := inB_no h
  by_cases h1 : lo ≤ n
  · have h1 : decide (lo ≤ n) = true := by simpa using h1
    have h2 : decide (n ≤ hi) = false := by simp at h1 ⊢; omega
    clear h' h
    go_enter Try.func44, Try.ntmps44
    go_wp2
    go_ret
    exact ⟨rfl, rfl⟩
  · have h1 : decide (lo ≤ n) = false := by simpa using h1
    clear h' h
    go_enter Try.func44, Try.ntmps44
    go_wp2
    go_ret
    exact ⟨rfl, rfl⟩
set_option maxHeartbeats 400000 in
theorem rneed_c (a : Int) (w : World) : Calls Try.prog 16 #[.int .i64 a] w fun e w' => e = .returned (.int .i64 (needI a)) ∧ w' = w := by
  by_cases h : inB a 1 8 = true
  · have h' := (inB_iff _ _ _).1 h
    have e : needI a = 16 * (a + 1) := by unfold needI; rw [if_pos (by omega)]
    rw [e]
    go_enter Try.func16, Try.ntmps16
    go_wp2_with (go_at_call 44; (with_reducible refine (from_t _ _ _ _ h).mono ?_); rintro e_ w_ ⟨rfl, rfl⟩)
    go_ret
    exact ⟨rfl, rfl⟩
  · have h : inB a 1 8 = false := by simpa using h
    have h' := inB_no h
    have e : needI a = 0 := by unfold needI; rw [if_neg (by omega)]
    rw [e]
    clear h'
    go_enter Try.func16, Try.ntmps16
    go_wp2_with (go_at_call 44; (with_reducible refine (from_f _ _ _ _ h).mono ?_); rintro e_ w_ ⟨rfl, rfl⟩)
    go_ret
    exact ⟨rfl, rfl⟩

set_option maxHeartbeats 4000000 in
theorem rconfig_c (c0 c1 c2 c3 c4 c5 c6 c7 c8 c9 c10 : Int) (w : World) : Calls Try.prog 14 #[.agg #[.int .i64 c0, .int .i64 c1, .int .i64 c2, .int .i64 c3, .int .i64 c4, .int .i64 c5, .int .i64 c6, .int .i64 c7, .int .i64 c8, .int .i64 c9, .int .i64 c10]] w fun e w' =>
    e = .returned (.int .i64 (errI (cfgB c0 c1 c2 c3 c4 c5 c6 c7 c8 c9 c10))) ∧ Below w.heap.size w w' := by
  by_cases h0 : okR c0 c1 c2 = true
  case neg =>
    have h0 : okR c0 c1 c2 = false := by simpa using h0
    have e : errI (cfgB c0 c1 c2 c3 c4 c5 c6 c7 c8 c9 c10) = 3 := by unfold cfgB; rw [h0]; rfl
    have E := Lib.hid e
    clear e
    have he : (errI false != 0) = true := rfl
    go_enter Try.func14, Try.ntmps14
    go_wp2_with fail
    refine (rcheck_c _ _ _ _).mono ?_
    rintro e_w1 w1 ⟨rfl, hbw1⟩
    have hBw1 : Below w.heap.size w w1 := below_then (by go_grown) hbw1
    have C0_w1 : w1.heap[w.heap.size]? = some (.cells #[.int .i64 c0, .int .i64 c1, .int .i64 c2, .int .i64 c3, .int .i64 c4, .int .i64 c5, .int .i64 c6, .int .i64 c7, .int .i64 c8, .int .i64 c9, .int .i64 c10] 35 (0, 0)) := vbelow (by (repeat' (first | assumption | (refine vnewAt ?_; first | omega | (simp; done) | (simp; omega)) | refine valloc ?_ | refine vdrew ?_ | apply vput | (refine vfarr ?_ ?_; focus (first | omega | (simp; done) | (simp; omega))) | rfl))) hbw1
    have hcC0_w1 := vcell C0_w1
    have hfC0_w1 := vfree C0_w1
    have hsC0_w1 := vlt C0_w1
    have hlC0_w1 := Nat.le_of_lt hsC0_w1
    have hmC0_w1 := Nat.le_succ_of_le hlC0_w1
    rw [h0]
    clear h0
    go_wp2
    go_ret
    exact ⟨ret_int E.out.symm, hBw1⟩
  have he : (errI true != 0) = false := rfl
  by_cases h1 : inB c3 1 8 = true
  case neg =>
    have h1 : inB c3 1 8 = false := by simpa using h1
    have e : errI (cfgB c0 c1 c2 c3 c4 c5 c6 c7 c8 c9 c10) = 3 := by unfold cfgB; rw [h0, h1]; simp [errI]
    have E := Lib.hid e
    clear e
    go_enter Try.func14, Try.ntmps14
    go_wp2_with fail
    refine (rcheck_c _ _ _ _).mono ?_
    rintro e_w1 w1 ⟨rfl, hbw1⟩
    have hBw1 : Below w.heap.size w w1 := below_then (by go_grown) hbw1
    have C0_w1 : w1.heap[w.heap.size]? = some (.cells #[.int .i64 c0, .int .i64 c1, .int .i64 c2, .int .i64 c3, .int .i64 c4, .int .i64 c5, .int .i64 c6, .int .i64 c7, .int .i64 c8, .int .i64 c9, .int .i64 c10] 35 (0, 0)) := vbelow (by (repeat' (first | assumption | (refine vnewAt ?_; first | omega | (simp; done) | (simp; omega)) | refine valloc ?_ | refine vdrew ?_ | apply vput | (refine vfarr ?_ ?_; focus (first | omega | (simp; done) | (simp; omega))) | rfl))) hbw1
    have hcC0_w1 := vcell C0_w1
    have hfC0_w1 := vfree C0_w1
    have hsC0_w1 := vlt C0_w1
    have hlC0_w1 := Nat.le_of_lt hsC0_w1
    have hmC0_w1 := Nat.le_succ_of_le hlC0_w1
    rw [h0]
    go_wp2
    have hcu : ∀ x j, (w1.up x).cell? ⟨w.heap.size, j, none⟩ = (#[.int .i64 c0, .int .i64 c1, .int .i64 c2, .int .i64 c3, .int .i64 c4, .int .i64 c5, .int .i64 c6, .int .i64 c7, .int .i64 c8, .int .i64 c9, .int .i64 c10] : Array Value)[j]? := fun x j => (up_cell w1 x _ hsC0_w1).trans (hcC0_w1 j)
    refine wp_region_up_lit (by kernel_rfl) (by kernel_rfl) ?_
    repeat (go_big_quiet_step (((first | (go_at_call 16; exact calls_same (rneed_c _ _)) | (go_at_call 44; exact calls_same (from_t _ _ _ _ (by assumption))) | (go_at_call 44; exact calls_same (from_f _ _ _ _ (by assumption)))))))
    refine wpQuiet_nil ?_
    intro w2 hw2
    have hb2 := below_then hBw1 (up_ex hw2)
    clear hw2
    go_wp2
    go_ret
    exact ⟨ret_int E.out.symm, hb2⟩
  by_cases h2 : inB c4 (needI c3) 1024 = true
  case neg =>
    have h2 : inB c4 (needI c3) 1024 = false := by simpa using h2
    have e : errI (cfgB c0 c1 c2 c3 c4 c5 c6 c7 c8 c9 c10) = 3 := by unfold cfgB; rw [h0, h1, h2]; simp [errI]
    have E := Lib.hid e
    clear e
    go_enter Try.func14, Try.ntmps14
    go_wp2_with fail
    refine (rcheck_c _ _ _ _).mono ?_
    rintro e_w1 w1 ⟨rfl, hbw1⟩
    have hBw1 : Below w.heap.size w w1 := below_then (by go_grown) hbw1
    have C0_w1 : w1.heap[w.heap.size]? = some (.cells #[.int .i64 c0, .int .i64 c1, .int .i64 c2, .int .i64 c3, .int .i64 c4, .int .i64 c5, .int .i64 c6, .int .i64 c7, .int .i64 c8, .int .i64 c9, .int .i64 c10] 35 (0, 0)) := vbelow (by (repeat' (first | assumption | (refine vnewAt ?_; first | omega | (simp; done) | (simp; omega)) | refine valloc ?_ | refine vdrew ?_ | apply vput | (refine vfarr ?_ ?_; focus (first | omega | (simp; done) | (simp; omega))) | rfl))) hbw1
    have hcC0_w1 := vcell C0_w1
    have hfC0_w1 := vfree C0_w1
    have hsC0_w1 := vlt C0_w1
    have hlC0_w1 := Nat.le_of_lt hsC0_w1
    have hmC0_w1 := Nat.le_succ_of_le hlC0_w1
    rw [h0]
    go_wp2
    have hcu : ∀ x j, (w1.up x).cell? ⟨w.heap.size, j, none⟩ = (#[.int .i64 c0, .int .i64 c1, .int .i64 c2, .int .i64 c3, .int .i64 c4, .int .i64 c5, .int .i64 c6, .int .i64 c7, .int .i64 c8, .int .i64 c9, .int .i64 c10] : Array Value)[j]? := fun x j => (up_cell w1 x _ hsC0_w1).trans (hcC0_w1 j)
    refine wp_region_up_lit (by kernel_rfl) (by kernel_rfl) ?_
    repeat (go_big_quiet_step (((first | (go_at_call 16; exact calls_same (rneed_c _ _)) | (go_at_call 44; exact calls_same (from_t _ _ _ _ (by assumption))) | (go_at_call 44; exact calls_same (from_f _ _ _ _ (by assumption)))))))
    refine wpQuiet_nil ?_
    intro w2 hw2
    have hb2 := below_then hBw1 (up_ex hw2)
    clear hw2
    go_wp2
    go_ret
    exact ⟨ret_int E.out.symm, hb2⟩
  by_cases h3 : inB c5 2 16 = true
  case neg =>
    have h3 : inB c5 2 16 = false := by simpa using h3
    have e : errI (cfgB c0 c1 c2 c3 c4 c5 c6 c7 c8 c9 c10) = 3 := by unfold cfgB; rw [h0, h1, h2, h3]; simp [errI]
    have E := Lib.hid e
    clear e
    go_enter Try.func14, Try.ntmps14
    go_wp2_with fail
    refine (rcheck_c _ _ _ _).mono ?_
    rintro e_w1 w1 ⟨rfl, hbw1⟩
    have hBw1 : Below w.heap.size w w1 := below_then (by go_grown) hbw1
    have C0_w1 : w1.heap[w.heap.size]? = some (.cells #[.int .i64 c0, .int .i64 c1, .int .i64 c2, .int .i64 c3, .int .i64 c4, .int .i64 c5, .int .i64 c6, .int .i64 c7, .int .i64 c8, .int .i64 c9, .int .i64 c10] 35 (0, 0)) := vbelow (by (repeat' (first | assumption | (refine vnewAt ?_; first | omega | (simp; done) | (simp; omega)) | refine valloc ?_ | refine vdrew ?_ | apply vput | (refine vfarr ?_ ?_; focus (first | omega | (simp; done) | (simp; omega))) | rfl))) hbw1
    have hcC0_w1 := vcell C0_w1
    have hfC0_w1 := vfree C0_w1
    have hsC0_w1 := vlt C0_w1
    have hlC0_w1 := Nat.le_of_lt hsC0_w1
    have hmC0_w1 := Nat.le_succ_of_le hlC0_w1
    rw [h0]
    go_wp2
    have hcu : ∀ x j, (w1.up x).cell? ⟨w.heap.size, j, none⟩ = (#[.int .i64 c0, .int .i64 c1, .int .i64 c2, .int .i64 c3, .int .i64 c4, .int .i64 c5, .int .i64 c6, .int .i64 c7, .int .i64 c8, .int .i64 c9, .int .i64 c10] : Array Value)[j]? := fun x j => (up_cell w1 x _ hsC0_w1).trans (hcC0_w1 j)
    refine wp_region_up_lit (by kernel_rfl) (by kernel_rfl) ?_
    repeat (go_big_quiet_step (((first | (go_at_call 16; exact calls_same (rneed_c _ _)) | (go_at_call 44; exact calls_same (from_t _ _ _ _ (by assumption))) | (go_at_call 44; exact calls_same (from_f _ _ _ _ (by assumption)))))))
    refine wpQuiet_nil ?_
    intro w2 hw2
    have hb2 := below_then hBw1 (up_ex hw2)
    clear hw2
    go_wp2
    go_ret
    exact ⟨ret_int E.out.symm, hb2⟩
  by_cases h4 : inB c6 1 64 = true
  case neg =>
    have h4 : inB c6 1 64 = false := by simpa using h4
    have e : errI (cfgB c0 c1 c2 c3 c4 c5 c6 c7 c8 c9 c10) = 3 := by unfold cfgB; rw [h0, h1, h2, h3, h4]; simp [errI]
    have E := Lib.hid e
    clear e
    go_enter Try.func14, Try.ntmps14
    go_wp2_with fail
    refine (rcheck_c _ _ _ _).mono ?_
    rintro e_w1 w1 ⟨rfl, hbw1⟩
    have hBw1 : Below w.heap.size w w1 := below_then (by go_grown) hbw1
    have C0_w1 : w1.heap[w.heap.size]? = some (.cells #[.int .i64 c0, .int .i64 c1, .int .i64 c2, .int .i64 c3, .int .i64 c4, .int .i64 c5, .int .i64 c6, .int .i64 c7, .int .i64 c8, .int .i64 c9, .int .i64 c10] 35 (0, 0)) := vbelow (by (repeat' (first | assumption | (refine vnewAt ?_; first | omega | (simp; done) | (simp; omega)) | refine valloc ?_ | refine vdrew ?_ | apply vput | (refine vfarr ?_ ?_; focus (first | omega | (simp; done) | (simp; omega))) | rfl))) hbw1
    have hcC0_w1 := vcell C0_w1
    have hfC0_w1 := vfree C0_w1
    have hsC0_w1 := vlt C0_w1
    have hlC0_w1 := Nat.le_of_lt hsC0_w1
    have hmC0_w1 := Nat.le_succ_of_le hlC0_w1
    rw [h0]
    go_wp2
    have hcu : ∀ x j, (w1.up x).cell? ⟨w.heap.size, j, none⟩ = (#[.int .i64 c0, .int .i64 c1, .int .i64 c2, .int .i64 c3, .int .i64 c4, .int .i64 c5, .int .i64 c6, .int .i64 c7, .int .i64 c8, .int .i64 c9, .int .i64 c10] : Array Value)[j]? := fun x j => (up_cell w1 x _ hsC0_w1).trans (hcC0_w1 j)
    refine wp_region_up_lit (by kernel_rfl) (by kernel_rfl) ?_
    repeat (go_big_quiet_step (((first | (go_at_call 16; exact calls_same (rneed_c _ _)) | (go_at_call 44; exact calls_same (from_t _ _ _ _ (by assumption))) | (go_at_call 44; exact calls_same (from_f _ _ _ _ (by assumption)))))))
    refine wpQuiet_nil ?_
    intro w2 hw2
    have hb2 := below_then hBw1 (up_ex hw2)
    clear hw2
    go_wp2
    go_ret
    exact ⟨ret_int E.out.symm, hb2⟩
  by_cases h5 : inB c7 1 1099511627776 = true
  case neg =>
    have h5 : inB c7 1 1099511627776 = false := by simpa using h5
    have e : errI (cfgB c0 c1 c2 c3 c4 c5 c6 c7 c8 c9 c10) = 3 := by unfold cfgB; rw [h0, h1, h2, h3, h4, h5]; simp [errI]
    have E := Lib.hid e
    clear e
    go_enter Try.func14, Try.ntmps14
    go_wp2_with fail
    refine (rcheck_c _ _ _ _).mono ?_
    rintro e_w1 w1 ⟨rfl, hbw1⟩
    have hBw1 : Below w.heap.size w w1 := below_then (by go_grown) hbw1
    have C0_w1 : w1.heap[w.heap.size]? = some (.cells #[.int .i64 c0, .int .i64 c1, .int .i64 c2, .int .i64 c3, .int .i64 c4, .int .i64 c5, .int .i64 c6, .int .i64 c7, .int .i64 c8, .int .i64 c9, .int .i64 c10] 35 (0, 0)) := vbelow (by (repeat' (first | assumption | (refine vnewAt ?_; first | omega | (simp; done) | (simp; omega)) | refine valloc ?_ | refine vdrew ?_ | apply vput | (refine vfarr ?_ ?_; focus (first | omega | (simp; done) | (simp; omega))) | rfl))) hbw1
    have hcC0_w1 := vcell C0_w1
    have hfC0_w1 := vfree C0_w1
    have hsC0_w1 := vlt C0_w1
    have hlC0_w1 := Nat.le_of_lt hsC0_w1
    have hmC0_w1 := Nat.le_succ_of_le hlC0_w1
    rw [h0]
    go_wp2
    have hcu : ∀ x j, (w1.up x).cell? ⟨w.heap.size, j, none⟩ = (#[.int .i64 c0, .int .i64 c1, .int .i64 c2, .int .i64 c3, .int .i64 c4, .int .i64 c5, .int .i64 c6, .int .i64 c7, .int .i64 c8, .int .i64 c9, .int .i64 c10] : Array Value)[j]? := fun x j => (up_cell w1 x _ hsC0_w1).trans (hcC0_w1 j)
    refine wp_region_up_lit (by kernel_rfl) (by kernel_rfl) ?_
    repeat (go_big_quiet_step (((first | (go_at_call 16; exact calls_same (rneed_c _ _)) | (go_at_call 44; exact calls_same (from_t _ _ _ _ (by assumption))) | (go_at_call 44; exact calls_same (from_f _ _ _ _ (by assumption)))))))
    refine wpQuiet_nil ?_
    intro w2 hw2
    have hb2 := below_then hBw1 (up_ex hw2)
    clear hw2
    go_wp2
    go_ret
    exact ⟨ret_int E.out.symm, hb2⟩
  by_cases h6 : inB c8 1 1099511627776 = true
  case neg =>
    have h6 : inB c8 1 1099511627776 = false := by simpa using h6
    have e : errI (cfgB c0 c1 c2 c3 c4 c5 c6 c7 c8 c9 c10) = 3 := by unfold cfgB; rw [h0, h1, h2, h3, h4, h5, h6]; simp [errI]
    have E := Lib.hid e
    clear e
    go_enter Try.func14, Try.ntmps14
    go_wp2_with fail
    refine (rcheck_c _ _ _ _).mono ?_
    rintro e_w1 w1 ⟨rfl, hbw1⟩
    have hBw1 : Below w.heap.size w w1 := below_then (by go_grown) hbw1
    have C0_w1 : w1.heap[w.heap.size]? = some (.cells #[.int .i64 c0, .int .i64 c1, .int .i64 c2, .int .i64 c3, .int .i64 c4, .int .i64 c5, .int .i64 c6, .int .i64 c7, .int .i64 c8, .int .i64 c9, .int .i64 c10] 35 (0, 0)) := vbelow (by (repeat' (first | assumption | (refine vnewAt ?_; first | omega | (simp; done) | (simp; omega)) | refine valloc ?_ | refine vdrew ?_ | apply vput | (refine vfarr ?_ ?_; focus (first | omega | (simp; done) | (simp; omega))) | rfl))) hbw1
    have hcC0_w1 := vcell C0_w1
    have hfC0_w1 := vfree C0_w1
    have hsC0_w1 := vlt C0_w1
    have hlC0_w1 := Nat.le_of_lt hsC0_w1
    have hmC0_w1 := Nat.le_succ_of_le hlC0_w1
    rw [h0]
    go_wp2
    have hcu : ∀ x j, (w1.up x).cell? ⟨w.heap.size, j, none⟩ = (#[.int .i64 c0, .int .i64 c1, .int .i64 c2, .int .i64 c3, .int .i64 c4, .int .i64 c5, .int .i64 c6, .int .i64 c7, .int .i64 c8, .int .i64 c9, .int .i64 c10] : Array Value)[j]? := fun x j => (up_cell w1 x _ hsC0_w1).trans (hcC0_w1 j)
    refine wp_region_up_lit (by kernel_rfl) (by kernel_rfl) ?_
    repeat (go_big_quiet_step (((first | (go_at_call 16; exact calls_same (rneed_c _ _)) | (go_at_call 44; exact calls_same (from_t _ _ _ _ (by assumption))) | (go_at_call 44; exact calls_same (from_f _ _ _ _ (by assumption)))))))
    refine wpQuiet_nil ?_
    intro w2 hw2
    have hb2 := below_then hBw1 (up_ex hw2)
    clear hw2
    go_wp2
    go_ret
    exact ⟨ret_int E.out.symm, hb2⟩
  by_cases h7 : inB c9 0 1099511627776 = true
  case neg =>
    have h7 : inB c9 0 1099511627776 = false := by simpa using h7
    have e : errI (cfgB c0 c1 c2 c3 c4 c5 c6 c7 c8 c9 c10) = 3 := by unfold cfgB; rw [h0, h1, h2, h3, h4, h5, h6, h7]; simp [errI]
    have E := Lib.hid e
    clear e
    go_enter Try.func14, Try.ntmps14
    go_wp2_with fail
    refine (rcheck_c _ _ _ _).mono ?_
    rintro e_w1 w1 ⟨rfl, hbw1⟩
    have hBw1 : Below w.heap.size w w1 := below_then (by go_grown) hbw1
    have C0_w1 : w1.heap[w.heap.size]? = some (.cells #[.int .i64 c0, .int .i64 c1, .int .i64 c2, .int .i64 c3, .int .i64 c4, .int .i64 c5, .int .i64 c6, .int .i64 c7, .int .i64 c8, .int .i64 c9, .int .i64 c10] 35 (0, 0)) := vbelow (by (repeat' (first | assumption | (refine vnewAt ?_; first | omega | (simp; done) | (simp; omega)) | refine valloc ?_ | refine vdrew ?_ | apply vput | (refine vfarr ?_ ?_; focus (first | omega | (simp; done) | (simp; omega))) | rfl))) hbw1
    have hcC0_w1 := vcell C0_w1
    have hfC0_w1 := vfree C0_w1
    have hsC0_w1 := vlt C0_w1
    have hlC0_w1 := Nat.le_of_lt hsC0_w1
    have hmC0_w1 := Nat.le_succ_of_le hlC0_w1
    rw [h0]
    go_wp2
    have hcu : ∀ x j, (w1.up x).cell? ⟨w.heap.size, j, none⟩ = (#[.int .i64 c0, .int .i64 c1, .int .i64 c2, .int .i64 c3, .int .i64 c4, .int .i64 c5, .int .i64 c6, .int .i64 c7, .int .i64 c8, .int .i64 c9, .int .i64 c10] : Array Value)[j]? := fun x j => (up_cell w1 x _ hsC0_w1).trans (hcC0_w1 j)
    refine wp_region_up_lit (by kernel_rfl) (by kernel_rfl) ?_
    repeat (go_big_quiet_step (((first | (go_at_call 16; exact calls_same (rneed_c _ _)) | (go_at_call 44; exact calls_same (from_t _ _ _ _ (by assumption))) | (go_at_call 44; exact calls_same (from_f _ _ _ _ (by assumption)))))))
    refine wpQuiet_nil ?_
    intro w2 hw2
    have hb2 := below_then hBw1 (up_ex hw2)
    clear hw2
    go_wp2
    go_ret
    exact ⟨ret_int E.out.symm, hb2⟩
  by_cases h8 : inB c10 0 1099511627776 = true
  case neg =>
    have h8 : inB c10 0 1099511627776 = false := by simpa using h8
    have e : errI (cfgB c0 c1 c2 c3 c4 c5 c6 c7 c8 c9 c10) = 3 := by unfold cfgB; rw [h0, h1, h2, h3, h4, h5, h6, h7, h8]; simp [errI]
    have E := Lib.hid e
    clear e
    go_enter Try.func14, Try.ntmps14
    go_wp2_with fail
    refine (rcheck_c _ _ _ _).mono ?_
    rintro e_w1 w1 ⟨rfl, hbw1⟩
    have hBw1 : Below w.heap.size w w1 := below_then (by go_grown) hbw1
    have C0_w1 : w1.heap[w.heap.size]? = some (.cells #[.int .i64 c0, .int .i64 c1, .int .i64 c2, .int .i64 c3, .int .i64 c4, .int .i64 c5, .int .i64 c6, .int .i64 c7, .int .i64 c8, .int .i64 c9, .int .i64 c10] 35 (0, 0)) := vbelow (by (repeat' (first | assumption | (refine vnewAt ?_; first | omega | (simp; done) | (simp; omega)) | refine valloc ?_ | refine vdrew ?_ | apply vput | (refine vfarr ?_ ?_; focus (first | omega | (simp; done) | (simp; omega))) | rfl))) hbw1
    have hcC0_w1 := vcell C0_w1
    have hfC0_w1 := vfree C0_w1
    have hsC0_w1 := vlt C0_w1
    have hlC0_w1 := Nat.le_of_lt hsC0_w1
    have hmC0_w1 := Nat.le_succ_of_le hlC0_w1
    rw [h0]
    go_wp2
    have hcu : ∀ x j, (w1.up x).cell? ⟨w.heap.size, j, none⟩ = (#[.int .i64 c0, .int .i64 c1, .int .i64 c2, .int .i64 c3, .int .i64 c4, .int .i64 c5, .int .i64 c6, .int .i64 c7, .int .i64 c8, .int .i64 c9, .int .i64 c10] : Array Value)[j]? := fun x j => (up_cell w1 x _ hsC0_w1).trans (hcC0_w1 j)
    refine wp_region_up_lit (by kernel_rfl) (by kernel_rfl) ?_
    repeat (go_big_quiet_step (((first | (go_at_call 16; exact calls_same (rneed_c _ _)) | (go_at_call 44; exact calls_same (from_t _ _ _ _ (by assumption))) | (go_at_call 44; exact calls_same (from_f _ _ _ _ (by assumption)))))))
    refine wpQuiet_nil ?_
    intro w2 hw2
    have hb2 := below_then hBw1 (up_ex hw2)
    clear hw2
    go_wp2
    go_ret
    exact ⟨ret_int E.out.symm, hb2⟩
  have e : errI (cfgB c0 c1 c2 c3 c4 c5 c6 c7 c8 c9 c10) = 0 := by unfold cfgB; rw [h0, h1, h2, h3, h4, h5, h6, h7, h8]; simp [errI]
  have E := Lib.hid e
  clear e
  go_enter Try.func14, Try.ntmps14
  go_wp2_with fail
  refine (rcheck_c _ _ _ _).mono ?_
  rintro e_w1 w1 ⟨rfl, hbw1⟩
  have hBw1 : Below w.heap.size w w1 := below_then (by go_grown) hbw1
  have C0_w1 : w1.heap[w.heap.size]? = some (.cells #[.int .i64 c0, .int .i64 c1, .int .i64 c2, .int .i64 c3, .int .i64 c4, .int .i64 c5, .int .i64 c6, .int .i64 c7, .int .i64 c8, .int .i64 c9, .int .i64 c10] 35 (0, 0)) := vbelow (by (repeat' (first | assumption | (refine vnewAt ?_; first | omega | (simp; done) | (simp; omega)) | refine valloc ?_ | refine vdrew ?_ | apply vput | (refine vfarr ?_ ?_; focus (first | omega | (simp; done) | (simp; omega))) | rfl))) hbw1
  have hcC0_w1 := vcell C0_w1
  have hfC0_w1 := vfree C0_w1
  have hsC0_w1 := vlt C0_w1
  have hlC0_w1 := Nat.le_of_lt hsC0_w1
  have hmC0_w1 := Nat.le_succ_of_le hlC0_w1
  rw [h0]
  go_wp2
  have hcu : ∀ x j, (w1.up x).cell? ⟨w.heap.size, j, none⟩ = (#[.int .i64 c0, .int .i64 c1, .int .i64 c2, .int .i64 c3, .int .i64 c4, .int .i64 c5, .int .i64 c6, .int .i64 c7, .int .i64 c8, .int .i64 c9, .int .i64 c10] : Array Value)[j]? := fun x j => (up_cell w1 x _ hsC0_w1).trans (hcC0_w1 j)
  refine wp_region_up_lit (by kernel_rfl) (by kernel_rfl) ?_
  repeat (go_big_quiet_step (((first | (go_at_call 16; exact calls_same (rneed_c _ _)) | (go_at_call 44; exact calls_same (from_t _ _ _ _ (by assumption))) | (go_at_call 44; exact calls_same (from_f _ _ _ _ (by assumption)))))))
  refine wpQuiet_nil ?_
  intro w2 hw2
  have hb2 := below_then hBw1 (up_ex hw2)
  clear hw2
  go_wp2
  go_ret
  exact ⟨ret_int E.out.symm, hb2⟩
end Go.Proofs.YtldpmeaibkpojaaR
