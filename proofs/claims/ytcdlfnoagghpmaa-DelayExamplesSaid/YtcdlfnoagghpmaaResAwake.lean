/- The examples of the chapter on res hold. -/
import Derived.Test.YtcdlfnoagghpmaaSub
namespace Go.Proofs.Ytcdlfnoagghpmaa
open Go.RowKit
set_option linter.unusedSimpArgs false
set_option linter.unusedVariables false

theorem fits3_c (a b : R3) (w : World) : Calls Try.prog 24 #[.agg #[.int .i64 a.c, .int .i64 a.m, .int .i64 a.d], .agg #[.int .i64 b.c, .int .i64 b.m, .int .i64 b.d]] w fun e w' =>
    e = .returned (.bool (fits3 a b)) ∧ Below w.heap.size w w' := fits_c _ _ _ _ _ _ w

/-- Amounts that are written out. -/
theorem add_n (a b c x y z p q r : Int) (o : Bool) (h : add2 ⟨a, b, c⟩ ⟨x, y, z⟩ = (⟨p, q, r⟩, o)) (w : World) : Calls Try.prog 20 #[.agg #[.int .i64 a, .int .i64 b, .int .i64 c], .agg #[.int .i64 x, .int .i64 y, .int .i64 z]] w fun e w' =>
    e = .returned (.tuple #[.agg #[.int .i64 p, .int .i64 q, .int .i64 r], .bool o]) ∧ Below w.heap.size w w' := by
  have := add_c a b c x y z w
  rw [h] at this
  exact this
theorem sub_n (a b c x y z p q r : Int) (o : Bool) (h : subF ⟨a, b, c⟩ ⟨x, y, z⟩ = (⟨p, q, r⟩, o)) (w : World) : Calls Try.prog 26 #[.agg #[.int .i64 a, .int .i64 b, .int .i64 c], .agg #[.int .i64 x, .int .i64 y, .int .i64 z]] w fun e w' =>
    e = .returned (.tuple #[.agg #[.int .i64 p, .int .i64 q, .int .i64 r], .bool o]) ∧ Below w.heap.size w w' := by
  have := sub_c ⟨a, b, c⟩ ⟨x, y, z⟩ w
  rw [h] at this
  exact this
theorem sum_n (A : Option Addr) (l : List R3) (cap : Nat) (p q r : Int) (o : Bool) (h : sumF ⟨0, 0, 0⟩ l = (⟨p, q, r⟩, o)) (w : World) (hr : RowR w A l) (hl : l.length * 24 ≤ 140737488355328) : Calls Try.prog 29 #[.slice A l.length cap] w fun e w' =>
    e = .returned (.tuple #[.agg #[.int .i64 p, .int .i64 q, .int .i64 r], .bool o]) ∧ Below w.heap.size w w' := by
  have := sum_c A l cap w hr hl
  rw [h] at this
  exact this
theorem fits_n (a b c x y z : Int) (o : Bool) (h : fitsB a b c x y z = o) (w : World) : Calls Try.prog 24 #[.agg #[.int .i64 a, .int .i64 b, .int .i64 c], .agg #[.int .i64 x, .int .i64 y, .int .i64 z]] w fun e w' =>
    e = .returned (.bool o) ∧ Below w.heap.size w w' := by
  subst h; exact fits_c a b c x y z w
theorem check_n (a b c n : Int) (h : errI (okR a b c) = n) (w : World) : Calls Try.prog 22 #[.agg #[.int .i64 a, .int .i64 b, .int .i64 c]] w fun e w' =>
    e = .returned (.int .i64 n) ∧ Below w.heap.size w w' := by
  subst h; exact check_c a b c w

set_option maxHeartbeats 4000000 in
theorem awake_c (w : World) : Calls Try.prog 28 #[] w fun e w' => e = .returned (.bool true) ∧ Below w.heap.size w w' := by
  go_enter Try.func28, Try.ntmps28
  go_wp2_with fail
  refine (add_n _ _ _ _ _ _ 5 7 9 true (by kernel_rfl) _).mono ?_
  rintro e_w1 w1 ⟨rfl, hbw1⟩
  have hBw1 : Below w.heap.size w w1 := below_then (by go_grown) hbw1
  have A_w1 : w1.heap[w.heap.size]? = some (.cells #[.int .i64 1, .int .i64 2, .int .i64 3] 37 (0, 0)) := vbelow (by (repeat' (first | assumption | (refine vnewAt ?_; first | omega | (simp; done) | (simp; omega)) | refine valloc ?_ | refine vdrew ?_ | apply vput | (refine vfarr ?_ ?_; focus (first | omega | (simp; done) | (simp; omega))) | rfl))) hbw1
  have B_w1 : w1.heap[w.heap.size + 1]? = some (.cells #[.int .i64 4, .int .i64 5, .int .i64 6] 37 (0, 0)) := vbelow (by (repeat' (first | assumption | (refine vnewAt ?_; first | omega | (simp; done) | (simp; omega)) | refine valloc ?_ | refine vdrew ?_ | apply vput | (refine vfarr ?_ ?_; focus (first | omega | (simp; done) | (simp; omega))) | rfl))) hbw1
  have hcA_w1 := vcell A_w1
  have hfA_w1 := vfree A_w1
  have hsA_w1 := vlt A_w1
  have hlA_w1 := Nat.le_of_lt hsA_w1
  have hmA_w1 := Nat.le_succ_of_le hlA_w1
  have hcB_w1 := vcell B_w1
  have hfB_w1 := vfree B_w1
  have hsB_w1 := vlt B_w1
  have hlB_w1 := Nat.le_of_lt hsB_w1
  have hmB_w1 := Nat.le_succ_of_le hlB_w1
  go_wp2_with fail
  refine (sub_n _ _ _ _ _ _ 3 3 3 true (by kernel_rfl) _).mono ?_
  rintro e_w2 w2 ⟨rfl, hbw2⟩
  have hBw2 : Below w.heap.size w w2 := below_then (by go_grown) hbw2
  have A_w2 : w2.heap[w.heap.size]? = some (.cells #[.int .i64 1, .int .i64 2, .int .i64 3] 37 (0, 0)) := vbelow (by (repeat' (first | assumption | (refine vnewAt ?_; first | omega | (simp; done) | (simp; omega)) | refine valloc ?_ | refine vdrew ?_ | apply vput | (refine vfarr ?_ ?_; focus (first | omega | (simp; done) | (simp; omega))) | rfl))) hbw2
  have B_w2 : w2.heap[w.heap.size + 1]? = some (.cells #[.int .i64 4, .int .i64 5, .int .i64 6] 37 (0, 0)) := vbelow (by (repeat' (first | assumption | (refine vnewAt ?_; first | omega | (simp; done) | (simp; omega)) | refine valloc ?_ | refine vdrew ?_ | apply vput | (refine vfarr ?_ ?_; focus (first | omega | (simp; done) | (simp; omega))) | rfl))) hbw2
  have X_w2 : w2.heap[w1.heap.size]? = some (.cells #[.int .i64 5, .int .i64 7, .int .i64 9] 37 (0, 0)) := vbelow (by (repeat' (first | assumption | (refine vnewAt ?_; first | omega | (simp; done) | (simp; omega)) | refine valloc ?_ | refine vdrew ?_ | apply vput | (refine vfarr ?_ ?_; focus (first | omega | (simp; done) | (simp; omega))) | rfl))) hbw2
  have hcA_w2 := vcell A_w2
  have hfA_w2 := vfree A_w2
  have hsA_w2 := vlt A_w2
  have hlA_w2 := Nat.le_of_lt hsA_w2
  have hmA_w2 := Nat.le_succ_of_le hlA_w2
  have hcB_w2 := vcell B_w2
  have hfB_w2 := vfree B_w2
  have hsB_w2 := vlt B_w2
  have hlB_w2 := Nat.le_of_lt hsB_w2
  have hmB_w2 := Nat.le_succ_of_le hlB_w2
  have hcX_w2 := vcell X_w2
  have hfX_w2 := vfree X_w2
  have hsX_w2 := vlt X_w2
  have hlX_w2 := Nat.le_of_lt hsX_w2
  have hmX_w2 := Nat.le_succ_of_le hlX_w2
  try clear A_w1 hcA_w1 hfA_w1 hsA_w1 hlA_w1 hmA_w1 B_w1 hcB_w1 hfB_w1 hsB_w1 hlB_w1 hmB_w1
  go_wp2_with fail
  refine (sub_n _ _ _ _ _ _ 0 0 0 false (by kernel_rfl) _).mono ?_
  rintro e_w3 w3 ⟨rfl, hbw3⟩
  have hBw3 : Below w.heap.size w w3 := below_then (by go_grown) hbw3
  have A_w3 : w3.heap[w.heap.size]? = some (.cells #[.int .i64 1, .int .i64 2, .int .i64 3] 37 (0, 0)) := vbelow (by (repeat' (first | assumption | (refine vnewAt ?_; first | omega | (simp; done) | (simp; omega)) | refine valloc ?_ | refine vdrew ?_ | apply vput | (refine vfarr ?_ ?_; focus (first | omega | (simp; done) | (simp; omega))) | rfl))) hbw3
  have B_w3 : w3.heap[w.heap.size + 1]? = some (.cells #[.int .i64 4, .int .i64 5, .int .i64 6] 37 (0, 0)) := vbelow (by (repeat' (first | assumption | (refine vnewAt ?_; first | omega | (simp; done) | (simp; omega)) | refine valloc ?_ | refine vdrew ?_ | apply vput | (refine vfarr ?_ ?_; focus (first | omega | (simp; done) | (simp; omega))) | rfl))) hbw3
  have X_w3 : w3.heap[w1.heap.size]? = some (.cells #[.int .i64 5, .int .i64 7, .int .i64 9] 37 (0, 0)) := vbelow (by (repeat' (first | assumption | (refine vnewAt ?_; first | omega | (simp; done) | (simp; omega)) | refine valloc ?_ | refine vdrew ?_ | apply vput | (refine vfarr ?_ ?_; focus (first | omega | (simp; done) | (simp; omega))) | rfl))) hbw3
  have Y_w3 : w3.heap[w2.heap.size]? = some (.cells #[.int .i64 3, .int .i64 3, .int .i64 3] 37 (0, 0)) := vbelow (by (repeat' (first | assumption | (refine vnewAt ?_; first | omega | (simp; done) | (simp; omega)) | refine valloc ?_ | refine vdrew ?_ | apply vput | (refine vfarr ?_ ?_; focus (first | omega | (simp; done) | (simp; omega))) | rfl))) hbw3
  have hcA_w3 := vcell A_w3
  have hfA_w3 := vfree A_w3
  have hsA_w3 := vlt A_w3
  have hlA_w3 := Nat.le_of_lt hsA_w3
  have hmA_w3 := Nat.le_succ_of_le hlA_w3
  have hcB_w3 := vcell B_w3
  have hfB_w3 := vfree B_w3
  have hsB_w3 := vlt B_w3
  have hlB_w3 := Nat.le_of_lt hsB_w3
  have hmB_w3 := Nat.le_succ_of_le hlB_w3
  have hcX_w3 := vcell X_w3
  have hfX_w3 := vfree X_w3
  have hsX_w3 := vlt X_w3
  have hlX_w3 := Nat.le_of_lt hsX_w3
  have hmX_w3 := Nat.le_succ_of_le hlX_w3
  have hcY_w3 := vcell Y_w3
  have hfY_w3 := vfree Y_w3
  have hsY_w3 := vlt Y_w3
  have hlY_w3 := Nat.le_of_lt hsY_w3
  have hmY_w3 := Nat.le_succ_of_le hlY_w3
  try clear A_w2 hcA_w2 hfA_w2 hsA_w2 hlA_w2 hmA_w2 B_w2 hcB_w2 hfB_w2 hsB_w2 hlB_w2 hmB_w2 X_w2 hcX_w2 hfX_w2 hsX_w2 hlX_w2 hmX_w2
  go_wp2_with fail
  refine (add_n _ _ _ _ _ _ 0 0 0 false (by kernel_rfl) _).mono ?_
  rintro e_w4 w4 ⟨rfl, hbw4⟩
  have hBw4 : Below w.heap.size w w4 := below_then (by go_grown) hbw4
  have A_w4 : w4.heap[w.heap.size]? = some (.cells #[.int .i64 1, .int .i64 2, .int .i64 3] 37 (0, 0)) := vbelow (by (repeat' (first | assumption | (refine vnewAt ?_; first | omega | (simp; done) | (simp; omega)) | refine valloc ?_ | refine vdrew ?_ | apply vput | (refine vfarr ?_ ?_; focus (first | omega | (simp; done) | (simp; omega))) | rfl))) hbw4
  have B_w4 : w4.heap[w.heap.size + 1]? = some (.cells #[.int .i64 4, .int .i64 5, .int .i64 6] 37 (0, 0)) := vbelow (by (repeat' (first | assumption | (refine vnewAt ?_; first | omega | (simp; done) | (simp; omega)) | refine valloc ?_ | refine vdrew ?_ | apply vput | (refine vfarr ?_ ?_; focus (first | omega | (simp; done) | (simp; omega))) | rfl))) hbw4
  have X_w4 : w4.heap[w1.heap.size]? = some (.cells #[.int .i64 5, .int .i64 7, .int .i64 9] 37 (0, 0)) := vbelow (by (repeat' (first | assumption | (refine vnewAt ?_; first | omega | (simp; done) | (simp; omega)) | refine valloc ?_ | refine vdrew ?_ | apply vput | (refine vfarr ?_ ?_; focus (first | omega | (simp; done) | (simp; omega))) | rfl))) hbw4
  have Y_w4 : w4.heap[w2.heap.size]? = some (.cells #[.int .i64 3, .int .i64 3, .int .i64 3] 37 (0, 0)) := vbelow (by (repeat' (first | assumption | (refine vnewAt ?_; first | omega | (simp; done) | (simp; omega)) | refine valloc ?_ | refine vdrew ?_ | apply vput | (refine vfarr ?_ ?_; focus (first | omega | (simp; done) | (simp; omega))) | rfl))) hbw4
  have hcA_w4 := vcell A_w4
  have hfA_w4 := vfree A_w4
  have hsA_w4 := vlt A_w4
  have hlA_w4 := Nat.le_of_lt hsA_w4
  have hmA_w4 := Nat.le_succ_of_le hlA_w4
  have hcB_w4 := vcell B_w4
  have hfB_w4 := vfree B_w4
  have hsB_w4 := vlt B_w4
  have hlB_w4 := Nat.le_of_lt hsB_w4
  have hmB_w4 := Nat.le_succ_of_le hlB_w4
  have hcX_w4 := vcell X_w4
  have hfX_w4 := vfree X_w4
  have hsX_w4 := vlt X_w4
  have hlX_w4 := Nat.le_of_lt hsX_w4
  have hmX_w4 := Nat.le_succ_of_le hlX_w4
  have hcY_w4 := vcell Y_w4
  have hfY_w4 := vfree Y_w4
  have hsY_w4 := vlt Y_w4
  have hlY_w4 := Nat.le_of_lt hsY_w4
  have hmY_w4 := Nat.le_succ_of_le hlY_w4
  try clear A_w3 hcA_w3 hfA_w3 hsA_w3 hlA_w3 hmA_w3 B_w3 hcB_w3 hfB_w3 hsB_w3 hlB_w3 hmB_w3 X_w3 hcX_w3 hfX_w3 hsX_w3 hlX_w3 hmX_w3 Y_w3 hcY_w3 hfY_w3 hsY_w3 hlY_w3 hmY_w3
  go_wp2_with fail
  refine (sum_n (some ⟨w4.heap.size + 1, 0, none⟩) [⟨1, 2, 3⟩, ⟨4, 5, 6⟩, ⟨1, 2, 3⟩] 3 6 9 12 true (by kernel_rfl) _ ?_ (by simp)).mono ?_
  · refine .inr ⟨w4.heap.size + 1, 0, rfl, by simp, fun k hk => ?_⟩
    match k, hk with
    | 0, _ => refine ⟨?_, ?_, ?_⟩ <;> (simp [go_sem]; rfl)
    | 1, _ => refine ⟨?_, ?_, ?_⟩ <;> (simp [go_sem]; rfl)
    | 2, _ => refine ⟨?_, ?_, ?_⟩ <;> (simp [go_sem]; rfl)
  rintro e_w5 w5 ⟨rfl, hbw5⟩
  have hBw5 : Below w.heap.size w w5 := below_then (by go_grown) hbw5
  have A_w5 : w5.heap[w.heap.size]? = some (.cells #[.int .i64 1, .int .i64 2, .int .i64 3] 37 (0, 0)) := vbelow (by (repeat' (first | assumption | (refine vnewAt ?_; first | omega | (simp; done) | (simp; omega)) | refine valloc ?_ | refine vdrew ?_ | apply vput | (refine vfarr ?_ ?_; focus (first | omega | (simp; done) | (simp; omega))) | rfl))) hbw5
  have B_w5 : w5.heap[w.heap.size + 1]? = some (.cells #[.int .i64 4, .int .i64 5, .int .i64 6] 37 (0, 0)) := vbelow (by (repeat' (first | assumption | (refine vnewAt ?_; first | omega | (simp; done) | (simp; omega)) | refine valloc ?_ | refine vdrew ?_ | apply vput | (refine vfarr ?_ ?_; focus (first | omega | (simp; done) | (simp; omega))) | rfl))) hbw5
  have X_w5 : w5.heap[w1.heap.size]? = some (.cells #[.int .i64 5, .int .i64 7, .int .i64 9] 37 (0, 0)) := vbelow (by (repeat' (first | assumption | (refine vnewAt ?_; first | omega | (simp; done) | (simp; omega)) | refine valloc ?_ | refine vdrew ?_ | apply vput | (refine vfarr ?_ ?_; focus (first | omega | (simp; done) | (simp; omega))) | rfl))) hbw5
  have Y_w5 : w5.heap[w2.heap.size]? = some (.cells #[.int .i64 3, .int .i64 3, .int .i64 3] 37 (0, 0)) := vbelow (by (repeat' (first | assumption | (refine vnewAt ?_; first | omega | (simp; done) | (simp; omega)) | refine valloc ?_ | refine vdrew ?_ | apply vput | (refine vfarr ?_ ?_; focus (first | omega | (simp; done) | (simp; omega))) | rfl))) hbw5
  have hcA_w5 := vcell A_w5
  have hfA_w5 := vfree A_w5
  have hsA_w5 := vlt A_w5
  have hlA_w5 := Nat.le_of_lt hsA_w5
  have hmA_w5 := Nat.le_succ_of_le hlA_w5
  have hcB_w5 := vcell B_w5
  have hfB_w5 := vfree B_w5
  have hsB_w5 := vlt B_w5
  have hlB_w5 := Nat.le_of_lt hsB_w5
  have hmB_w5 := Nat.le_succ_of_le hlB_w5
  have hcX_w5 := vcell X_w5
  have hfX_w5 := vfree X_w5
  have hsX_w5 := vlt X_w5
  have hlX_w5 := Nat.le_of_lt hsX_w5
  have hmX_w5 := Nat.le_succ_of_le hlX_w5
  have hcY_w5 := vcell Y_w5
  have hfY_w5 := vfree Y_w5
  have hsY_w5 := vlt Y_w5
  have hlY_w5 := Nat.le_of_lt hsY_w5
  have hmY_w5 := Nat.le_succ_of_le hlY_w5
  try clear A_w4 hcA_w4 hfA_w4 hsA_w4 hlA_w4 hmA_w4 B_w4 hcB_w4 hfB_w4 hsB_w4 hlB_w4 hmB_w4 X_w4 hcX_w4 hfX_w4 hsX_w4 hlX_w4 hmX_w4 Y_w4 hcY_w4 hfY_w4 hsY_w4 hlY_w4 hmY_w4
  go_wp2_with fail
  refine (fits_n _ _ _ _ _ _ true (by kernel_rfl) _).mono ?_
  rintro e_w6 w6 ⟨rfl, hbw6⟩
  have hBw6 : Below w.heap.size w w6 := below_then (by go_grown) hbw6
  have A_w6 : w6.heap[w.heap.size]? = some (.cells #[.int .i64 1, .int .i64 2, .int .i64 3] 37 (0, 0)) := vbelow (by (repeat' (first | assumption | (refine vnewAt ?_; first | omega | (simp; done) | (simp; omega)) | refine valloc ?_ | refine vdrew ?_ | apply vput | (refine vfarr ?_ ?_; focus (first | omega | (simp; done) | (simp; omega))) | rfl))) hbw6
  have B_w6 : w6.heap[w.heap.size + 1]? = some (.cells #[.int .i64 4, .int .i64 5, .int .i64 6] 37 (0, 0)) := vbelow (by (repeat' (first | assumption | (refine vnewAt ?_; first | omega | (simp; done) | (simp; omega)) | refine valloc ?_ | refine vdrew ?_ | apply vput | (refine vfarr ?_ ?_; focus (first | omega | (simp; done) | (simp; omega))) | rfl))) hbw6
  have X_w6 : w6.heap[w1.heap.size]? = some (.cells #[.int .i64 5, .int .i64 7, .int .i64 9] 37 (0, 0)) := vbelow (by (repeat' (first | assumption | (refine vnewAt ?_; first | omega | (simp; done) | (simp; omega)) | refine valloc ?_ | refine vdrew ?_ | apply vput | (refine vfarr ?_ ?_; focus (first | omega | (simp; done) | (simp; omega))) | rfl))) hbw6
  have Y_w6 : w6.heap[w2.heap.size]? = some (.cells #[.int .i64 3, .int .i64 3, .int .i64 3] 37 (0, 0)) := vbelow (by (repeat' (first | assumption | (refine vnewAt ?_; first | omega | (simp; done) | (simp; omega)) | refine valloc ?_ | refine vdrew ?_ | apply vput | (refine vfarr ?_ ?_; focus (first | omega | (simp; done) | (simp; omega))) | rfl))) hbw6
  have Z_w6 : w6.heap[w5.heap.size]? = some (.cells #[.int .i64 6, .int .i64 9, .int .i64 12] 37 (0, 0)) := vbelow (by (repeat' (first | assumption | (refine vnewAt ?_; first | omega | (simp; done) | (simp; omega)) | refine valloc ?_ | refine vdrew ?_ | apply vput | (refine vfarr ?_ ?_; focus (first | omega | (simp; done) | (simp; omega))) | rfl))) hbw6
  have hcA_w6 := vcell A_w6
  have hfA_w6 := vfree A_w6
  have hsA_w6 := vlt A_w6
  have hlA_w6 := Nat.le_of_lt hsA_w6
  have hmA_w6 := Nat.le_succ_of_le hlA_w6
  have hcB_w6 := vcell B_w6
  have hfB_w6 := vfree B_w6
  have hsB_w6 := vlt B_w6
  have hlB_w6 := Nat.le_of_lt hsB_w6
  have hmB_w6 := Nat.le_succ_of_le hlB_w6
  have hcX_w6 := vcell X_w6
  have hfX_w6 := vfree X_w6
  have hsX_w6 := vlt X_w6
  have hlX_w6 := Nat.le_of_lt hsX_w6
  have hmX_w6 := Nat.le_succ_of_le hlX_w6
  have hcY_w6 := vcell Y_w6
  have hfY_w6 := vfree Y_w6
  have hsY_w6 := vlt Y_w6
  have hlY_w6 := Nat.le_of_lt hsY_w6
  have hmY_w6 := Nat.le_succ_of_le hlY_w6
  have hcZ_w6 := vcell Z_w6
  have hfZ_w6 := vfree Z_w6
  have hsZ_w6 := vlt Z_w6
  have hlZ_w6 := Nat.le_of_lt hsZ_w6
  have hmZ_w6 := Nat.le_succ_of_le hlZ_w6
  try clear A_w5 hcA_w5 hfA_w5 hsA_w5 hlA_w5 hmA_w5 B_w5 hcB_w5 hfB_w5 hsB_w5 hlB_w5 hmB_w5 X_w5 hcX_w5 hfX_w5 hsX_w5 hlX_w5 hmX_w5 Y_w5 hcY_w5 hfY_w5 hsY_w5 hlY_w5 hmY_w5
  go_wp2_with fail
  refine (fits_n _ _ _ _ _ _ false (by kernel_rfl) _).mono ?_
  rintro e_w7 w7 ⟨rfl, hbw7⟩
  have hBw7 : Below w.heap.size w w7 := below_then (by go_grown) hbw7
  have A_w7 : w7.heap[w.heap.size]? = some (.cells #[.int .i64 1, .int .i64 2, .int .i64 3] 37 (0, 0)) := vbelow (by (repeat' (first | assumption | (refine vnewAt ?_; first | omega | (simp; done) | (simp; omega)) | refine valloc ?_ | refine vdrew ?_ | apply vput | (refine vfarr ?_ ?_; focus (first | omega | (simp; done) | (simp; omega))) | rfl))) hbw7
  have B_w7 : w7.heap[w.heap.size + 1]? = some (.cells #[.int .i64 4, .int .i64 5, .int .i64 6] 37 (0, 0)) := vbelow (by (repeat' (first | assumption | (refine vnewAt ?_; first | omega | (simp; done) | (simp; omega)) | refine valloc ?_ | refine vdrew ?_ | apply vput | (refine vfarr ?_ ?_; focus (first | omega | (simp; done) | (simp; omega))) | rfl))) hbw7
  have X_w7 : w7.heap[w1.heap.size]? = some (.cells #[.int .i64 5, .int .i64 7, .int .i64 9] 37 (0, 0)) := vbelow (by (repeat' (first | assumption | (refine vnewAt ?_; first | omega | (simp; done) | (simp; omega)) | refine valloc ?_ | refine vdrew ?_ | apply vput | (refine vfarr ?_ ?_; focus (first | omega | (simp; done) | (simp; omega))) | rfl))) hbw7
  have Y_w7 : w7.heap[w2.heap.size]? = some (.cells #[.int .i64 3, .int .i64 3, .int .i64 3] 37 (0, 0)) := vbelow (by (repeat' (first | assumption | (refine vnewAt ?_; first | omega | (simp; done) | (simp; omega)) | refine valloc ?_ | refine vdrew ?_ | apply vput | (refine vfarr ?_ ?_; focus (first | omega | (simp; done) | (simp; omega))) | rfl))) hbw7
  have Z_w7 : w7.heap[w5.heap.size]? = some (.cells #[.int .i64 6, .int .i64 9, .int .i64 12] 37 (0, 0)) := vbelow (by (repeat' (first | assumption | (refine vnewAt ?_; first | omega | (simp; done) | (simp; omega)) | refine valloc ?_ | refine vdrew ?_ | apply vput | (refine vfarr ?_ ?_; focus (first | omega | (simp; done) | (simp; omega))) | rfl))) hbw7
  have hcA_w7 := vcell A_w7
  have hfA_w7 := vfree A_w7
  have hsA_w7 := vlt A_w7
  have hlA_w7 := Nat.le_of_lt hsA_w7
  have hmA_w7 := Nat.le_succ_of_le hlA_w7
  have hcB_w7 := vcell B_w7
  have hfB_w7 := vfree B_w7
  have hsB_w7 := vlt B_w7
  have hlB_w7 := Nat.le_of_lt hsB_w7
  have hmB_w7 := Nat.le_succ_of_le hlB_w7
  have hcX_w7 := vcell X_w7
  have hfX_w7 := vfree X_w7
  have hsX_w7 := vlt X_w7
  have hlX_w7 := Nat.le_of_lt hsX_w7
  have hmX_w7 := Nat.le_succ_of_le hlX_w7
  have hcY_w7 := vcell Y_w7
  have hfY_w7 := vfree Y_w7
  have hsY_w7 := vlt Y_w7
  have hlY_w7 := Nat.le_of_lt hsY_w7
  have hmY_w7 := Nat.le_succ_of_le hlY_w7
  have hcZ_w7 := vcell Z_w7
  have hfZ_w7 := vfree Z_w7
  have hsZ_w7 := vlt Z_w7
  have hlZ_w7 := Nat.le_of_lt hsZ_w7
  have hmZ_w7 := Nat.le_succ_of_le hlZ_w7
  try clear A_w6 hcA_w6 hfA_w6 hsA_w6 hlA_w6 hmA_w6 B_w6 hcB_w6 hfB_w6 hsB_w6 hlB_w6 hmB_w6 X_w6 hcX_w6 hfX_w6 hsX_w6 hlX_w6 hmX_w6 Y_w6 hcY_w6 hfY_w6 hsY_w6 hlY_w6 hmY_w6 Z_w6 hcZ_w6 hfZ_w6 hsZ_w6 hlZ_w6 hmZ_w6
  go_wp2_with fail
  refine (check_n _ _ _ 3 (by kernel_rfl) _).mono ?_
  rintro e_w8 w8 ⟨rfl, hbw8⟩
  have hBw8 : Below w.heap.size w w8 := below_then (by go_grown) hbw8
  have A_w8 : w8.heap[w.heap.size]? = some (.cells #[.int .i64 1, .int .i64 2, .int .i64 3] 37 (0, 0)) := vbelow (by (repeat' (first | assumption | (refine vnewAt ?_; first | omega | (simp; done) | (simp; omega)) | refine valloc ?_ | refine vdrew ?_ | apply vput | (refine vfarr ?_ ?_; focus (first | omega | (simp; done) | (simp; omega))) | rfl))) hbw8
  have B_w8 : w8.heap[w.heap.size + 1]? = some (.cells #[.int .i64 4, .int .i64 5, .int .i64 6] 37 (0, 0)) := vbelow (by (repeat' (first | assumption | (refine vnewAt ?_; first | omega | (simp; done) | (simp; omega)) | refine valloc ?_ | refine vdrew ?_ | apply vput | (refine vfarr ?_ ?_; focus (first | omega | (simp; done) | (simp; omega))) | rfl))) hbw8
  have X_w8 : w8.heap[w1.heap.size]? = some (.cells #[.int .i64 5, .int .i64 7, .int .i64 9] 37 (0, 0)) := vbelow (by (repeat' (first | assumption | (refine vnewAt ?_; first | omega | (simp; done) | (simp; omega)) | refine valloc ?_ | refine vdrew ?_ | apply vput | (refine vfarr ?_ ?_; focus (first | omega | (simp; done) | (simp; omega))) | rfl))) hbw8
  have Y_w8 : w8.heap[w2.heap.size]? = some (.cells #[.int .i64 3, .int .i64 3, .int .i64 3] 37 (0, 0)) := vbelow (by (repeat' (first | assumption | (refine vnewAt ?_; first | omega | (simp; done) | (simp; omega)) | refine valloc ?_ | refine vdrew ?_ | apply vput | (refine vfarr ?_ ?_; focus (first | omega | (simp; done) | (simp; omega))) | rfl))) hbw8
  have Z_w8 : w8.heap[w5.heap.size]? = some (.cells #[.int .i64 6, .int .i64 9, .int .i64 12] 37 (0, 0)) := vbelow (by (repeat' (first | assumption | (refine vnewAt ?_; first | omega | (simp; done) | (simp; omega)) | refine valloc ?_ | refine vdrew ?_ | apply vput | (refine vfarr ?_ ?_; focus (first | omega | (simp; done) | (simp; omega))) | rfl))) hbw8
  have hcA_w8 := vcell A_w8
  have hfA_w8 := vfree A_w8
  have hsA_w8 := vlt A_w8
  have hlA_w8 := Nat.le_of_lt hsA_w8
  have hmA_w8 := Nat.le_succ_of_le hlA_w8
  have hcB_w8 := vcell B_w8
  have hfB_w8 := vfree B_w8
  have hsB_w8 := vlt B_w8
  have hlB_w8 := Nat.le_of_lt hsB_w8
  have hmB_w8 := Nat.le_succ_of_le hlB_w8
  have hcX_w8 := vcell X_w8
  have hfX_w8 := vfree X_w8
  have hsX_w8 := vlt X_w8
  have hlX_w8 := Nat.le_of_lt hsX_w8
  have hmX_w8 := Nat.le_succ_of_le hlX_w8
  have hcY_w8 := vcell Y_w8
  have hfY_w8 := vfree Y_w8
  have hsY_w8 := vlt Y_w8
  have hlY_w8 := Nat.le_of_lt hsY_w8
  have hmY_w8 := Nat.le_succ_of_le hlY_w8
  have hcZ_w8 := vcell Z_w8
  have hfZ_w8 := vfree Z_w8
  have hsZ_w8 := vlt Z_w8
  have hlZ_w8 := Nat.le_of_lt hsZ_w8
  have hmZ_w8 := Nat.le_succ_of_le hlZ_w8
  try clear A_w7 hcA_w7 hfA_w7 hsA_w7 hlA_w7 hmA_w7 B_w7 hcB_w7 hfB_w7 hsB_w7 hlB_w7 hmB_w7 X_w7 hcX_w7 hfX_w7 hsX_w7 hlX_w7 hmX_w7 Y_w7 hcY_w7 hfY_w7 hsY_w7 hlY_w7 hmY_w7 Z_w7 hcZ_w7 hfZ_w7 hsZ_w7 hlZ_w7 hmZ_w7
  go_wp2
  go_returns
  exact ⟨rfl, by go_grown⟩
end Go.Proofs.Ytcdlfnoagghpmaa
