/- The contract of token.Check. -/
import Derived.Test.YtccehechhdndmaaBase
import Derived.Test.YtccehechhdndmaaProg
import Derived.Lib.Hide
import Derived.Test.YtccehechhdndmaaPr0
namespace Go.Proofs.Ytccehechhdndmaa
open Go.RowKit
set_option linter.unusedSimpArgs false
set_option linter.unusedVariables false

theorem ix3_0 (a b c : Value) (w : World) : (Instr.index 60 (.agg #[a, b, c]) (.int .i64 0)).run Try.prog w = .ok a w := by kernel_rfl
theorem ix3_1 (a b c : Value) (w : World) : (Instr.index 60 (.agg #[a, b, c]) (.int .i64 1)).run Try.prog w = .ok b w := by kernel_rfl
theorem ix3_2 (a b c : Value) (w : World) : (Instr.index 60 (.agg #[a, b, c]) (.int .i64 2)).run Try.prog w = .ok c w := by kernel_rfl
set_option maxHeartbeats 400000 in
theorem numbers_c (t : Tok) (w : World) : Calls Try.prog 52 #[tokV t] w fun e w' => e = .returned (.agg #[.int .i64 t.a, .int .i64 t.b, .int .i64 t.c]) ∧ Below w.heap.size w w' := by
  obtain ⟨a, b, c⟩ := t
  simp only [tokV]
  go_enter Try.func52, Try.ntmps52
  go_wp2
  go_returns
  exact ⟨rfl, by go_grown⟩
set_option maxRecDepth 100000 in
set_option maxHeartbeats 2000000 in
theorem check_ok (a b c : Int) (w : World) (h0 : 0 ≤ a) (k0 : a ≤ 2147483648) (h1 : 0 ≤ b) (k1 : b ≤ 3) (h2 : 1 ≤ c) (k2 : c ≤ 1099511627776) : Calls Try.prog 34 #[.agg #[.int .i64 a, .int .i64 b, .int .i64 c]] w fun e w' => e = .returned (.int .i64 0) ∧ Below w.heap.size w w' := by
  have q0 := ix3_0
  have q1 := ix3_1
  have q2 := ix3_2
  go_enter Try.func34, Try.ntmps34
  go_wp2_with fail
  refine (numbers_c ⟨a, b, c⟩ _).mono ?_
  rintro e_w1 w1 ⟨rfl, hbw1⟩
  have hBw1 : Below w.heap.size w w1 := below_then (by go_grown) hbw1
  have A_w1 : w1.heap[w.heap.size + 1]? = some (.cells #[.int .i64 0, .int .i64 0, .int .i64 1] 60 (0, 0)) := vbelow (by (repeat' (first | assumption | (refine vnewAt ?_; first | omega | (simp; done) | (simp; omega)) | refine valloc ?_ | refine vdrew ?_ | apply vput | (refine vfarr ?_ ?_; focus (first | omega | (simp; done) | (simp; omega))) | rfl))) hbw1
  have B_w1 : w1.heap[w.heap.size + 2]? = some (.cells #[.int .i64 2147483648, .int .i64 3, .int .i64 1099511627776] 60 (0, 0)) := vbelow (by (repeat' (first | assumption | (refine vnewAt ?_; first | omega | (simp; done) | (simp; omega)) | refine valloc ?_ | refine vdrew ?_ | apply vput | (refine vfarr ?_ ?_; focus (first | omega | (simp; done) | (simp; omega))) | rfl))) hbw1
  have hcA_w1 := vcell A_w1
  have hfA_w1 := vfree A_w1
  have hsA_w1 := vlt A_w1
  have hlA_w1 := Nat.le_of_lt hsA_w1
  have hmA_w1 := Nat.le_succ_of_le hlA_w1
  have hcB_w1 := vcell B_w1
  have hfB_w1 := vfree B_w1
  have hsB_w1 := vlt B_w1
  have hlB_w1 := Nat.le_of_lt hsB_w1
  have hmB_w1 := Nat.le_succ_of_le hlB_w1
  go_wp2
  refine wp_loop_rounds 4 ?_
  repeat any_goals (rw [rounds_succ]; go_wp2)
  all_goals (go_ret; exact ⟨rfl, hBw1⟩)
set_option maxRecDepth 100000 in
set_option maxHeartbeats 2000000 in
theorem check_lo0 (a b c : Int) (w : World) (h0 : a < 0) : Calls Try.prog 34 #[.agg #[.int .i64 a, .int .i64 b, .int .i64 c]] w fun e w' => e = .returned (.int .i64 3) ∧ Below w.heap.size w w' := by
  have q0 := ix3_0
  have q1 := ix3_1
  have q2 := ix3_2
  go_enter Try.func34, Try.ntmps34
  go_wp2_with fail
  refine (numbers_c ⟨a, b, c⟩ _).mono ?_
  rintro e_w1 w1 ⟨rfl, hbw1⟩
  have hBw1 : Below w.heap.size w w1 := below_then (by go_grown) hbw1
  have A_w1 : w1.heap[w.heap.size + 1]? = some (.cells #[.int .i64 0, .int .i64 0, .int .i64 1] 60 (0, 0)) := vbelow (by (repeat' (first | assumption | (refine vnewAt ?_; first | omega | (simp; done) | (simp; omega)) | refine valloc ?_ | refine vdrew ?_ | apply vput | (refine vfarr ?_ ?_; focus (first | omega | (simp; done) | (simp; omega))) | rfl))) hbw1
  have B_w1 : w1.heap[w.heap.size + 2]? = some (.cells #[.int .i64 2147483648, .int .i64 3, .int .i64 1099511627776] 60 (0, 0)) := vbelow (by (repeat' (first | assumption | (refine vnewAt ?_; first | omega | (simp; done) | (simp; omega)) | refine valloc ?_ | refine vdrew ?_ | apply vput | (refine vfarr ?_ ?_; focus (first | omega | (simp; done) | (simp; omega))) | rfl))) hbw1
  have hcA_w1 := vcell A_w1
  have hfA_w1 := vfree A_w1
  have hsA_w1 := vlt A_w1
  have hlA_w1 := Nat.le_of_lt hsA_w1
  have hmA_w1 := Nat.le_succ_of_le hlA_w1
  have hcB_w1 := vcell B_w1
  have hfB_w1 := vfree B_w1
  have hsB_w1 := vlt B_w1
  have hlB_w1 := Nat.le_of_lt hsB_w1
  have hmB_w1 := Nat.le_succ_of_le hlB_w1
  go_wp2
  refine wp_loop_rounds 4 ?_
  repeat any_goals (rw [rounds_succ]; go_wp2)
  all_goals (go_ret; exact ⟨rfl, hBw1⟩)
set_option maxRecDepth 100000 in
set_option maxHeartbeats 2000000 in
theorem check_hi0 (a b c : Int) (w : World) (h0 : 0 ≤ a) (k0 : 2147483648 < a) : Calls Try.prog 34 #[.agg #[.int .i64 a, .int .i64 b, .int .i64 c]] w fun e w' => e = .returned (.int .i64 3) ∧ Below w.heap.size w w' := by
  have q0 := ix3_0
  have q1 := ix3_1
  have q2 := ix3_2
  go_enter Try.func34, Try.ntmps34
  go_wp2_with fail
  refine (numbers_c ⟨a, b, c⟩ _).mono ?_
  rintro e_w1 w1 ⟨rfl, hbw1⟩
  have hBw1 : Below w.heap.size w w1 := below_then (by go_grown) hbw1
  have A_w1 : w1.heap[w.heap.size + 1]? = some (.cells #[.int .i64 0, .int .i64 0, .int .i64 1] 60 (0, 0)) := vbelow (by (repeat' (first | assumption | (refine vnewAt ?_; first | omega | (simp; done) | (simp; omega)) | refine valloc ?_ | refine vdrew ?_ | apply vput | (refine vfarr ?_ ?_; focus (first | omega | (simp; done) | (simp; omega))) | rfl))) hbw1
  have B_w1 : w1.heap[w.heap.size + 2]? = some (.cells #[.int .i64 2147483648, .int .i64 3, .int .i64 1099511627776] 60 (0, 0)) := vbelow (by (repeat' (first | assumption | (refine vnewAt ?_; first | omega | (simp; done) | (simp; omega)) | refine valloc ?_ | refine vdrew ?_ | apply vput | (refine vfarr ?_ ?_; focus (first | omega | (simp; done) | (simp; omega))) | rfl))) hbw1
  have hcA_w1 := vcell A_w1
  have hfA_w1 := vfree A_w1
  have hsA_w1 := vlt A_w1
  have hlA_w1 := Nat.le_of_lt hsA_w1
  have hmA_w1 := Nat.le_succ_of_le hlA_w1
  have hcB_w1 := vcell B_w1
  have hfB_w1 := vfree B_w1
  have hsB_w1 := vlt B_w1
  have hlB_w1 := Nat.le_of_lt hsB_w1
  have hmB_w1 := Nat.le_succ_of_le hlB_w1
  go_wp2
  refine wp_loop_rounds 4 ?_
  repeat any_goals (rw [rounds_succ]; go_wp2)
  all_goals (go_ret; exact ⟨rfl, hBw1⟩)
set_option maxRecDepth 100000 in
set_option maxHeartbeats 2000000 in
theorem check_lo1 (a b c : Int) (w : World) (h0 : 0 ≤ a) (k0 : a ≤ 2147483648) (h1 : b < 0) : Calls Try.prog 34 #[.agg #[.int .i64 a, .int .i64 b, .int .i64 c]] w fun e w' => e = .returned (.int .i64 3) ∧ Below w.heap.size w w' := by
  have q0 := ix3_0
  have q1 := ix3_1
  have q2 := ix3_2
  go_enter Try.func34, Try.ntmps34
  go_wp2_with fail
  refine (numbers_c ⟨a, b, c⟩ _).mono ?_
  rintro e_w1 w1 ⟨rfl, hbw1⟩
  have hBw1 : Below w.heap.size w w1 := below_then (by go_grown) hbw1
  have A_w1 : w1.heap[w.heap.size + 1]? = some (.cells #[.int .i64 0, .int .i64 0, .int .i64 1] 60 (0, 0)) := vbelow (by (repeat' (first | assumption | (refine vnewAt ?_; first | omega | (simp; done) | (simp; omega)) | refine valloc ?_ | refine vdrew ?_ | apply vput | (refine vfarr ?_ ?_; focus (first | omega | (simp; done) | (simp; omega))) | rfl))) hbw1
  have B_w1 : w1.heap[w.heap.size + 2]? = some (.cells #[.int .i64 2147483648, .int .i64 3, .int .i64 1099511627776] 60 (0, 0)) := vbelow (by (repeat' (first | assumption | (refine vnewAt ?_; first | omega | (simp; done) | (simp; omega)) | refine valloc ?_ | refine vdrew ?_ | apply vput | (refine vfarr ?_ ?_; focus (first | omega | (simp; done) | (simp; omega))) | rfl))) hbw1
  have hcA_w1 := vcell A_w1
  have hfA_w1 := vfree A_w1
  have hsA_w1 := vlt A_w1
  have hlA_w1 := Nat.le_of_lt hsA_w1
  have hmA_w1 := Nat.le_succ_of_le hlA_w1
  have hcB_w1 := vcell B_w1
  have hfB_w1 := vfree B_w1
  have hsB_w1 := vlt B_w1
  have hlB_w1 := Nat.le_of_lt hsB_w1
  have hmB_w1 := Nat.le_succ_of_le hlB_w1
  go_wp2
  refine wp_loop_rounds 4 ?_
  repeat any_goals (rw [rounds_succ]; go_wp2)
  all_goals (go_ret; exact ⟨rfl, hBw1⟩)
set_option maxRecDepth 100000 in
set_option maxHeartbeats 2000000 in
theorem check_hi1 (a b c : Int) (w : World) (h0 : 0 ≤ a) (k0 : a ≤ 2147483648) (h1 : 0 ≤ b) (k1 : 3 < b) : Calls Try.prog 34 #[.agg #[.int .i64 a, .int .i64 b, .int .i64 c]] w fun e w' => e = .returned (.int .i64 3) ∧ Below w.heap.size w w' := by
  have q0 := ix3_0
  have q1 := ix3_1
  have q2 := ix3_2
  go_enter Try.func34, Try.ntmps34
  go_wp2_with fail
  refine (numbers_c ⟨a, b, c⟩ _).mono ?_
  rintro e_w1 w1 ⟨rfl, hbw1⟩
  have hBw1 : Below w.heap.size w w1 := below_then (by go_grown) hbw1
  have A_w1 : w1.heap[w.heap.size + 1]? = some (.cells #[.int .i64 0, .int .i64 0, .int .i64 1] 60 (0, 0)) := vbelow (by (repeat' (first | assumption | (refine vnewAt ?_; first | omega | (simp; done) | (simp; omega)) | refine valloc ?_ | refine vdrew ?_ | apply vput | (refine vfarr ?_ ?_; focus (first | omega | (simp; done) | (simp; omega))) | rfl))) hbw1
  have B_w1 : w1.heap[w.heap.size + 2]? = some (.cells #[.int .i64 2147483648, .int .i64 3, .int .i64 1099511627776] 60 (0, 0)) := vbelow (by (repeat' (first | assumption | (refine vnewAt ?_; first | omega | (simp; done) | (simp; omega)) | refine valloc ?_ | refine vdrew ?_ | apply vput | (refine vfarr ?_ ?_; focus (first | omega | (simp; done) | (simp; omega))) | rfl))) hbw1
  have hcA_w1 := vcell A_w1
  have hfA_w1 := vfree A_w1
  have hsA_w1 := vlt A_w1
  have hlA_w1 := Nat.le_of_lt hsA_w1
  have hmA_w1 := Nat.le_succ_of_le hlA_w1
  have hcB_w1 := vcell B_w1
  have hfB_w1 := vfree B_w1
  have hsB_w1 := vlt B_w1
  have hlB_w1 := Nat.le_of_lt hsB_w1
  have hmB_w1 := Nat.le_succ_of_le hlB_w1
  go_wp2
  refine wp_loop_rounds 4 ?_
  repeat any_goals (rw [rounds_succ]; go_wp2)
  all_goals (go_ret; exact ⟨rfl, hBw1⟩)
set_option maxRecDepth 100000 in
set_option maxHeartbeats 2000000 in
theorem check_lo2 (a b c : Int) (w : World) (h0 : 0 ≤ a) (k0 : a ≤ 2147483648) (h1 : 0 ≤ b) (k1 : b ≤ 3) (h2 : c < 1) : Calls Try.prog 34 #[.agg #[.int .i64 a, .int .i64 b, .int .i64 c]] w fun e w' => e = .returned (.int .i64 3) ∧ Below w.heap.size w w' := by
  have q0 := ix3_0
  have q1 := ix3_1
  have q2 := ix3_2
  go_enter Try.func34, Try.ntmps34
  go_wp2_with fail
  refine (numbers_c ⟨a, b, c⟩ _).mono ?_
  rintro e_w1 w1 ⟨rfl, hbw1⟩
  have hBw1 : Below w.heap.size w w1 := below_then (by go_grown) hbw1
  have A_w1 : w1.heap[w.heap.size + 1]? = some (.cells #[.int .i64 0, .int .i64 0, .int .i64 1] 60 (0, 0)) := vbelow (by (repeat' (first | assumption | (refine vnewAt ?_; first | omega | (simp; done) | (simp; omega)) | refine valloc ?_ | refine vdrew ?_ | apply vput | (refine vfarr ?_ ?_; focus (first | omega | (simp; done) | (simp; omega))) | rfl))) hbw1
  have B_w1 : w1.heap[w.heap.size + 2]? = some (.cells #[.int .i64 2147483648, .int .i64 3, .int .i64 1099511627776] 60 (0, 0)) := vbelow (by (repeat' (first | assumption | (refine vnewAt ?_; first | omega | (simp; done) | (simp; omega)) | refine valloc ?_ | refine vdrew ?_ | apply vput | (refine vfarr ?_ ?_; focus (first | omega | (simp; done) | (simp; omega))) | rfl))) hbw1
  have hcA_w1 := vcell A_w1
  have hfA_w1 := vfree A_w1
  have hsA_w1 := vlt A_w1
  have hlA_w1 := Nat.le_of_lt hsA_w1
  have hmA_w1 := Nat.le_succ_of_le hlA_w1
  have hcB_w1 := vcell B_w1
  have hfB_w1 := vfree B_w1
  have hsB_w1 := vlt B_w1
  have hlB_w1 := Nat.le_of_lt hsB_w1
  have hmB_w1 := Nat.le_succ_of_le hlB_w1
  go_wp2
  refine wp_loop_rounds 4 ?_
  repeat any_goals (rw [rounds_succ]; go_wp2)
  all_goals (go_ret; exact ⟨rfl, hBw1⟩)
set_option maxRecDepth 100000 in
set_option maxHeartbeats 2000000 in
theorem check_hi2 (a b c : Int) (w : World) (h0 : 0 ≤ a) (k0 : a ≤ 2147483648) (h1 : 0 ≤ b) (k1 : b ≤ 3) (h2 : 1 ≤ c) (k2 : 1099511627776 < c) : Calls Try.prog 34 #[.agg #[.int .i64 a, .int .i64 b, .int .i64 c]] w fun e w' => e = .returned (.int .i64 3) ∧ Below w.heap.size w w' := by
  have q0 := ix3_0
  have q1 := ix3_1
  have q2 := ix3_2
  go_enter Try.func34, Try.ntmps34
  go_wp2_with fail
  refine (numbers_c ⟨a, b, c⟩ _).mono ?_
  rintro e_w1 w1 ⟨rfl, hbw1⟩
  have hBw1 : Below w.heap.size w w1 := below_then (by go_grown) hbw1
  have A_w1 : w1.heap[w.heap.size + 1]? = some (.cells #[.int .i64 0, .int .i64 0, .int .i64 1] 60 (0, 0)) := vbelow (by (repeat' (first | assumption | (refine vnewAt ?_; first | omega | (simp; done) | (simp; omega)) | refine valloc ?_ | refine vdrew ?_ | apply vput | (refine vfarr ?_ ?_; focus (first | omega | (simp; done) | (simp; omega))) | rfl))) hbw1
  have B_w1 : w1.heap[w.heap.size + 2]? = some (.cells #[.int .i64 2147483648, .int .i64 3, .int .i64 1099511627776] 60 (0, 0)) := vbelow (by (repeat' (first | assumption | (refine vnewAt ?_; first | omega | (simp; done) | (simp; omega)) | refine valloc ?_ | refine vdrew ?_ | apply vput | (refine vfarr ?_ ?_; focus (first | omega | (simp; done) | (simp; omega))) | rfl))) hbw1
  have hcA_w1 := vcell A_w1
  have hfA_w1 := vfree A_w1
  have hsA_w1 := vlt A_w1
  have hlA_w1 := Nat.le_of_lt hsA_w1
  have hmA_w1 := Nat.le_succ_of_le hlA_w1
  have hcB_w1 := vcell B_w1
  have hfB_w1 := vfree B_w1
  have hsB_w1 := vlt B_w1
  have hlB_w1 := Nat.le_of_lt hsB_w1
  have hmB_w1 := Nat.le_succ_of_le hlB_w1
  go_wp2
  refine wp_loop_rounds 4 ?_
  repeat any_goals (rw [rounds_succ]; go_wp2)
  all_goals (go_ret; exact ⟨rfl, hBw1⟩)
theorem check_c (t : Tok) (w : World) : Calls Try.prog 34 #[tokV t] w fun e w' => e = .returned (.int .i64 (tokE t)) ∧ Below w.heap.size w w' := by
  obtain ⟨a, b, c⟩ := t
  by_cases h : tokOk ⟨a, b, c⟩ = true
  · rw [show tokE ⟨a, b, c⟩ = 0 by unfold tokE; rw [if_pos h]]
    simp [tokOk] at h
    exact check_ok a b c w (by omega) (by omega) (by omega) (by omega) (by omega) (by omega)
  · rw [show tokE ⟨a, b, c⟩ = 3 by unfold tokE; rw [if_neg h]]
    simp [tokOk] at h
    by_cases h0 : a < 0
    · exact check_lo0 a b c w h0
    by_cases k0 : 2147483648 < a
    · exact check_hi0 a b c w (by omega) k0
    by_cases h1 : b < 0
    · exact check_lo1 a b c w (by omega) (by omega) h1
    by_cases k1 : 3 < b
    · exact check_hi1 a b c w (by omega) (by omega) (by omega) k1
    by_cases h2 : c < 1
    · exact check_lo2 a b c w (by omega) (by omega) (by omega) (by omega) h2
    · exact check_hi2 a b c w (by omega) (by omega) (by omega) (by omega) (by omega) (by omega)
end Go.Proofs.Ytccehechhdndmaa
