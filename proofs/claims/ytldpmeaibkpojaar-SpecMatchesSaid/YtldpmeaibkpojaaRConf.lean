/- The contracts of spec.Config, and of its reference. -/
import Derived.Test.YtldpmeaibkpojaaRBase
import Derived.Test.YtldpmeaibkpojaaRResC
import Derived.Test.YtldpmeaibkpojaaRProg
import Derived.Lib.Hide
namespace Go.Proofs.YtldpmeaibkpojaaR
open Go.RowKit
set_option linter.unusedSimpArgs false
set_option linter.unusedVariables false

def inB (n lo hi : Int) : Bool := decide (lo ≤ n) && decide (n ≤ hi)
theorem inB_iff (n lo hi : Int) : inB n lo hi = true ↔ lo ≤ n ∧ n ≤ hi := by simp [inB]
theorem inB_no {n lo hi : Int} (h : inB n lo hi = false) : n < lo ∨ hi < n := by
  have : ¬ (lo ≤ n ∧ n ≤ hi) := by rw [← inB_iff, h]; simp
  omega
def needI (a : Int) : Int := if 1 ≤ a ∧ a ≤ 8 then 16 * (a + 1) else 0
/-- What holds of a configuration that is valid. -/
def cfgB (c0 c1 c2 c3 c4 c5 c6 c7 c8 c9 c10 : Int) : Bool := okR c0 c1 c2 && inB c3 1 8 && inB c4 (needI c3) 1024 && inB c5 2 16 && inB c6 1 64 && inB c7 1 1099511627776 && inB c8 1 1099511627776 && inB c9 0 1099511627776 && inB c10 0 1099511627776

set_option maxHeartbeats 400000 in
theorem in_c (n lo hi : Int) (w : World) : Calls Try.prog 35 #[.int .i64 n, .int .i64 lo, .int .i64 hi] w fun e w' => e = .returned (.int .i64 (errI (inB n lo hi))) ∧ w' = w := by
  by_cases h : inB n lo hi = true
  · have h' := (inB_iff _ _ _).1 h
    have h1 : decide (n < lo) = false := by simp; omega
    have h2 : decide (hi < n) = false := by simp; omega
    rw [h]
    clear h'
    go_enter Try.func35, Try.ntmps35
    go_wp2
    go_ret
    exact ⟨rfl, rfl⟩
  · have h : inB n lo hi = false := by simpa using h
    have h' := inB_no h
    rw [h]
    by_cases h1 : n < lo
    · clear h'
      have h2 : decide (n < lo) = true := by simpa using h1
      go_enter Try.func35, Try.ntmps35
      go_wp2
      go_ret
      exact ⟨rfl, rfl⟩
    · have h1 : decide (n < lo) = false := by simpa using h1
      have h2 : decide (hi < n) = true := by simp; simp at h1; omega
      clear h'
      go_enter Try.func35, Try.ntmps35
      go_wp2
      go_ret
      exact ⟨rfl, rfl⟩
set_option maxHeartbeats 400000 in
theorem need_c (a : Int) (w : World) : Calls Try.prog 15 #[.int .i64 a] w fun e w' => e = .returned (.int .i64 (needI a)) ∧ w' = w := by
  go_enter Try.func15, Try.ntmps15
  go_wp2
  all_goals go_ret
  all_goals refine ⟨ret_int ?_, rfl⟩
  all_goals unfold needI
  all_goals first | (rw [if_pos (by omega)]; done) | (rw [if_pos (by omega)]; omega) | (rw [if_neg (by omega)]; done)

set_option maxHeartbeats 400000 in
theorem cfg1_c (B : Nat) (c0 c1 c2 c3 c4 c5 c6 c7 c8 c9 c10 : Int) (w : World) (hB : w.heap[B]? = some (.cells #[.int .i64 c0, .int .i64 c1, .int .i64 c2, .int .i64 c3, .int .i64 c4, .int .i64 c5, .int .i64 c6, .int .i64 c7, .int .i64 c8, .int .i64 c9, .int .i64 c10] 35 (0, 0))) : Calls Try.prog 32 #[.pointer (some ⟨B, 0, none⟩)] w fun e w' =>
    e = .returned (.int .i64 (errI (okR c0 c1 c2))) ∧ Below w.heap.size w w' := by
  have hc := vcell hB
  go_enter Try.func32, Try.ntmps32
  go_wp2_with (go_at_call 33; (with_reducible refine (check_c _ _ _ _).mono ?_); rintro e_ w1 ⟨rfl, hb⟩)
  go_ret
  exact ⟨rfl, hb⟩

set_option maxHeartbeats 400000 in
theorem cfg2_c (B : Nat) (c0 c1 c2 c3 c4 c5 c6 c7 c8 c9 c10 : Int) (w : World) (hB : w.heap[B]? = some (.cells #[.int .i64 c0, .int .i64 c1, .int .i64 c2, .int .i64 c3, .int .i64 c4, .int .i64 c5, .int .i64 c6, .int .i64 c7, .int .i64 c8, .int .i64 c9, .int .i64 c10] 35 (0, 0))) : Calls Try.prog 34 #[.pointer (some ⟨B, 0, none⟩)] w fun e w' =>
    e = .returned (.int .i64 (errI (inB c3 1 8))) ∧ Below w.heap.size w w' := by
  have hc := vcell hB
  go_enter Try.func34, Try.ntmps34
  go_wp2_with (go_at_call 35; (with_reducible refine (in_c _ _ _ _).mono ?_); rintro e_ w1 ⟨rfl, rfl⟩)
  go_ret
  exact ⟨rfl, Below.refl _ _⟩

set_option maxHeartbeats 400000 in
theorem cfg3_c (B : Nat) (c0 c1 c2 c3 c4 c5 c6 c7 c8 c9 c10 : Int) (w : World) (hB : w.heap[B]? = some (.cells #[.int .i64 c0, .int .i64 c1, .int .i64 c2, .int .i64 c3, .int .i64 c4, .int .i64 c5, .int .i64 c6, .int .i64 c7, .int .i64 c8, .int .i64 c9, .int .i64 c10] 35 (0, 0))) : Calls Try.prog 36 #[.pointer (some ⟨B, 0, none⟩)] w fun e w' =>
    e = .returned (.int .i64 (errI (inB c4 (needI c3) 1024))) ∧ Below w.heap.size w w' := by
  have hc := vcell hB
  go_enter Try.func36, Try.ntmps36
  have hcu : ∀ x j, (w.up x).cell? ⟨B, j, none⟩ = (#[.int .i64 c0, .int .i64 c1, .int .i64 c2, .int .i64 c3, .int .i64 c4, .int .i64 c5, .int .i64 c6, .int .i64 c7, .int .i64 c8, .int .i64 c9, .int .i64 c10] : Array Value)[j]? := fun x j => (up_cell w x _ (vlt hB)).trans (hc j)
  go_wp2
  refine wp_region_up_lit (by kernel_rfl) (by kernel_rfl) ?_
  repeat (go_big_quiet_step (((first | (go_at_call 15; exact calls_same (need_c _ _)) | (go_at_call 35; exact calls_same (in_c _ _ _ _))))))
  refine wpQuiet_nil ?_
  intro w1 hw1
  have hb := up_ex hw1
  clear hw1
  go_wp2
  go_ret
  exact ⟨rfl, hb⟩

set_option maxHeartbeats 400000 in
theorem cfg4_c (B : Nat) (c0 c1 c2 c3 c4 c5 c6 c7 c8 c9 c10 : Int) (w : World) (hB : w.heap[B]? = some (.cells #[.int .i64 c0, .int .i64 c1, .int .i64 c2, .int .i64 c3, .int .i64 c4, .int .i64 c5, .int .i64 c6, .int .i64 c7, .int .i64 c8, .int .i64 c9, .int .i64 c10] 35 (0, 0))) : Calls Try.prog 37 #[.pointer (some ⟨B, 0, none⟩)] w fun e w' =>
    e = .returned (.int .i64 (errI (inB c5 2 16))) ∧ Below w.heap.size w w' := by
  have hc := vcell hB
  go_enter Try.func37, Try.ntmps37
  go_wp2_with (go_at_call 35; (with_reducible refine (in_c _ _ _ _).mono ?_); rintro e_ w1 ⟨rfl, rfl⟩)
  go_ret
  exact ⟨rfl, Below.refl _ _⟩

set_option maxHeartbeats 400000 in
theorem cfg5_c (B : Nat) (c0 c1 c2 c3 c4 c5 c6 c7 c8 c9 c10 : Int) (w : World) (hB : w.heap[B]? = some (.cells #[.int .i64 c0, .int .i64 c1, .int .i64 c2, .int .i64 c3, .int .i64 c4, .int .i64 c5, .int .i64 c6, .int .i64 c7, .int .i64 c8, .int .i64 c9, .int .i64 c10] 35 (0, 0))) : Calls Try.prog 38 #[.pointer (some ⟨B, 0, none⟩)] w fun e w' =>
    e = .returned (.int .i64 (errI (inB c6 1 64))) ∧ Below w.heap.size w w' := by
  have hc := vcell hB
  go_enter Try.func38, Try.ntmps38
  go_wp2_with (go_at_call 35; (with_reducible refine (in_c _ _ _ _).mono ?_); rintro e_ w1 ⟨rfl, rfl⟩)
  go_ret
  exact ⟨rfl, Below.refl _ _⟩

set_option maxHeartbeats 400000 in
theorem cfg6_c (B : Nat) (c0 c1 c2 c3 c4 c5 c6 c7 c8 c9 c10 : Int) (w : World) (hB : w.heap[B]? = some (.cells #[.int .i64 c0, .int .i64 c1, .int .i64 c2, .int .i64 c3, .int .i64 c4, .int .i64 c5, .int .i64 c6, .int .i64 c7, .int .i64 c8, .int .i64 c9, .int .i64 c10] 35 (0, 0))) : Calls Try.prog 39 #[.pointer (some ⟨B, 0, none⟩)] w fun e w' =>
    e = .returned (.int .i64 (errI (inB c7 1 1099511627776))) ∧ Below w.heap.size w w' := by
  have hc := vcell hB
  go_enter Try.func39, Try.ntmps39
  go_wp2_with (go_at_call 35; (with_reducible refine (in_c _ _ _ _).mono ?_); rintro e_ w1 ⟨rfl, rfl⟩)
  go_ret
  exact ⟨rfl, Below.refl _ _⟩

set_option maxHeartbeats 400000 in
theorem cfg7_c (B : Nat) (c0 c1 c2 c3 c4 c5 c6 c7 c8 c9 c10 : Int) (w : World) (hB : w.heap[B]? = some (.cells #[.int .i64 c0, .int .i64 c1, .int .i64 c2, .int .i64 c3, .int .i64 c4, .int .i64 c5, .int .i64 c6, .int .i64 c7, .int .i64 c8, .int .i64 c9, .int .i64 c10] 35 (0, 0))) : Calls Try.prog 40 #[.pointer (some ⟨B, 0, none⟩)] w fun e w' =>
    e = .returned (.int .i64 (errI (inB c8 1 1099511627776))) ∧ Below w.heap.size w w' := by
  have hc := vcell hB
  go_enter Try.func40, Try.ntmps40
  go_wp2_with (go_at_call 35; (with_reducible refine (in_c _ _ _ _).mono ?_); rintro e_ w1 ⟨rfl, rfl⟩)
  go_ret
  exact ⟨rfl, Below.refl _ _⟩

set_option maxHeartbeats 400000 in
theorem cfg8_c (B : Nat) (c0 c1 c2 c3 c4 c5 c6 c7 c8 c9 c10 : Int) (w : World) (hB : w.heap[B]? = some (.cells #[.int .i64 c0, .int .i64 c1, .int .i64 c2, .int .i64 c3, .int .i64 c4, .int .i64 c5, .int .i64 c6, .int .i64 c7, .int .i64 c8, .int .i64 c9, .int .i64 c10] 35 (0, 0))) : Calls Try.prog 41 #[.pointer (some ⟨B, 0, none⟩)] w fun e w' =>
    e = .returned (.int .i64 (errI (inB c9 0 1099511627776))) ∧ Below w.heap.size w w' := by
  have hc := vcell hB
  go_enter Try.func41, Try.ntmps41
  go_wp2_with (go_at_call 35; (with_reducible refine (in_c _ _ _ _).mono ?_); rintro e_ w1 ⟨rfl, rfl⟩)
  go_ret
  exact ⟨rfl, Below.refl _ _⟩

set_option maxHeartbeats 400000 in
theorem cfg9_c (B : Nat) (c0 c1 c2 c3 c4 c5 c6 c7 c8 c9 c10 : Int) (w : World) (hB : w.heap[B]? = some (.cells #[.int .i64 c0, .int .i64 c1, .int .i64 c2, .int .i64 c3, .int .i64 c4, .int .i64 c5, .int .i64 c6, .int .i64 c7, .int .i64 c8, .int .i64 c9, .int .i64 c10] 35 (0, 0))) : Calls Try.prog 42 #[.pointer (some ⟨B, 0, none⟩)] w fun e w' =>
    e = .returned (.int .i64 (errI (inB c10 0 1099511627776))) ∧ Below w.heap.size w w' := by
  have hc := vcell hB
  go_enter Try.func42, Try.ntmps42
  go_wp2_with (go_at_call 35; (with_reducible refine (in_c _ _ _ _).mono ?_); rintro e_ w1 ⟨rfl, rfl⟩)
  go_ret
  exact ⟨rfl, Below.refl _ _⟩

/-- A slice of the nine closures over block B, in block A. -/
def closes (B : Nat) : Array Value := #[.func (.func 32) #[] #[.pointer (some ⟨B, 0, none⟩)], .func (.func 34) #[] #[.pointer (some ⟨B, 0, none⟩)], .func (.func 36) #[] #[.pointer (some ⟨B, 0, none⟩)], .func (.func 37) #[] #[.pointer (some ⟨B, 0, none⟩)], .func (.func 38) #[] #[.pointer (some ⟨B, 0, none⟩)], .func (.func 39) #[] #[.pointer (some ⟨B, 0, none⟩)], .func (.func 40) #[] #[.pointer (some ⟨B, 0, none⟩)], .func (.func 41) #[] #[.pointer (some ⟨B, 0, none⟩)], .func (.func 42) #[] #[.pointer (some ⟨B, 0, none⟩)]]
set_option maxHeartbeats 2000000 in
theorem ask_c (A B : Nat) (c0 c1 c2 c3 c4 c5 c6 c7 c8 c9 c10 : Int) (w : World) (hB : w.heap[B]? = some (.cells #[.int .i64 c0, .int .i64 c1, .int .i64 c2, .int .i64 c3, .int .i64 c4, .int .i64 c5, .int .i64 c6, .int .i64 c7, .int .i64 c8, .int .i64 c9, .int .i64 c10] 35 (0, 0))) (hA : w.heap[A]? = some (.cells (closes B) 63 (0, 0))) :
    Calls Try.prog 31 #[.slice (some ⟨A, 0, none⟩) 9 9] w fun e w' => e = .returned (.int .i64 (errI (cfgB c0 c1 c2 c3 c4 c5 c6 c7 c8 c9 c10))) ∧ Below w.heap.size w w' := by
  have hcA := vcell hA
  have hbel := Below.refl w.heap.size w
  unfold closes at hcA
  go_enter Try.func31, Try.ntmps31
  go_wp2
  refine wp_loop_rounds 10 ?_
  rw [rounds_succ]
  go_wp2_with fail
  refine (cfg1_c B c0 c1 c2 c3 c4 c5 c6 c7 c8 c9 c10 w hB).mono ?_
  rintro e_ w1 ⟨rfl, hb⟩
  replace hB := vbelow hB hb
  replace hA := vbelow hA hb
  clear hcA
  have hcA := vcell hA
  unfold closes at hcA
  replace hbel := below_then hbel hb
  clear hb
  by_cases h1 : okR c0 c1 c2 = true
  case neg =>
    have h1 : okR c0 c1 c2 = false := by simpa using h1
    have e : errI (cfgB c0 c1 c2 c3 c4 c5 c6 c7 c8 c9 c10) = 3 := by unfold cfgB; rw [h1]; simp [errI]
    have E := Lib.hid e
    clear e
    rw [h1]
    clear h1
    have e1 : (errI false != 0) = true := rfl
    go_wp2
    go_ret
    exact ⟨ret_int E.out.symm, hbel⟩
  rw [h1]
  have H1 := Lib.hid h1
  clear h1
  have e1 : (errI true != 0) = false := rfl
  go_wp2_with fail
  rw [rounds_succ]
  go_wp2_with fail
  refine (cfg2_c B c0 c1 c2 c3 c4 c5 c6 c7 c8 c9 c10 w1 hB).mono ?_
  rintro e_ w2 ⟨rfl, hb⟩
  replace hB := vbelow hB hb
  replace hA := vbelow hA hb
  clear hcA
  have hcA := vcell hA
  unfold closes at hcA
  replace hbel := below_then hbel hb
  clear hb
  by_cases h2 : inB c3 1 8 = true
  case neg =>
    have h2 : inB c3 1 8 = false := by simpa using h2
    have e : errI (cfgB c0 c1 c2 c3 c4 c5 c6 c7 c8 c9 c10) = 3 := by unfold cfgB; rw [H1.out, h2]; simp [errI]
    have E := Lib.hid e
    clear e
    rw [h2]
    clear h2
    have e1 : (errI false != 0) = true := rfl
    go_wp2
    go_ret
    exact ⟨ret_int E.out.symm, hbel⟩
  rw [h2]
  have H2 := Lib.hid h2
  clear h2
  go_wp2_with fail
  rw [rounds_succ]
  go_wp2_with fail
  refine (cfg3_c B c0 c1 c2 c3 c4 c5 c6 c7 c8 c9 c10 w2 hB).mono ?_
  rintro e_ w3 ⟨rfl, hb⟩
  replace hB := vbelow hB hb
  replace hA := vbelow hA hb
  clear hcA
  have hcA := vcell hA
  unfold closes at hcA
  replace hbel := below_then hbel hb
  clear hb
  by_cases h3 : inB c4 (needI c3) 1024 = true
  case neg =>
    have h3 : inB c4 (needI c3) 1024 = false := by simpa using h3
    have e : errI (cfgB c0 c1 c2 c3 c4 c5 c6 c7 c8 c9 c10) = 3 := by unfold cfgB; rw [H1.out, H2.out, h3]; simp [errI]
    have E := Lib.hid e
    clear e
    rw [h3]
    clear h3
    have e1 : (errI false != 0) = true := rfl
    go_wp2
    go_ret
    exact ⟨ret_int E.out.symm, hbel⟩
  rw [h3]
  have H3 := Lib.hid h3
  clear h3
  go_wp2_with fail
  rw [rounds_succ]
  go_wp2_with fail
  refine (cfg4_c B c0 c1 c2 c3 c4 c5 c6 c7 c8 c9 c10 w3 hB).mono ?_
  rintro e_ w4 ⟨rfl, hb⟩
  replace hB := vbelow hB hb
  replace hA := vbelow hA hb
  clear hcA
  have hcA := vcell hA
  unfold closes at hcA
  replace hbel := below_then hbel hb
  clear hb
  by_cases h4 : inB c5 2 16 = true
  case neg =>
    have h4 : inB c5 2 16 = false := by simpa using h4
    have e : errI (cfgB c0 c1 c2 c3 c4 c5 c6 c7 c8 c9 c10) = 3 := by unfold cfgB; rw [H1.out, H2.out, H3.out, h4]; simp [errI]
    have E := Lib.hid e
    clear e
    rw [h4]
    clear h4
    have e1 : (errI false != 0) = true := rfl
    go_wp2
    go_ret
    exact ⟨ret_int E.out.symm, hbel⟩
  rw [h4]
  have H4 := Lib.hid h4
  clear h4
  go_wp2_with fail
  rw [rounds_succ]
  go_wp2_with fail
  refine (cfg5_c B c0 c1 c2 c3 c4 c5 c6 c7 c8 c9 c10 w4 hB).mono ?_
  rintro e_ w5 ⟨rfl, hb⟩
  replace hB := vbelow hB hb
  replace hA := vbelow hA hb
  clear hcA
  have hcA := vcell hA
  unfold closes at hcA
  replace hbel := below_then hbel hb
  clear hb
  by_cases h5 : inB c6 1 64 = true
  case neg =>
    have h5 : inB c6 1 64 = false := by simpa using h5
    have e : errI (cfgB c0 c1 c2 c3 c4 c5 c6 c7 c8 c9 c10) = 3 := by unfold cfgB; rw [H1.out, H2.out, H3.out, H4.out, h5]; simp [errI]
    have E := Lib.hid e
    clear e
    rw [h5]
    clear h5
    have e1 : (errI false != 0) = true := rfl
    go_wp2
    go_ret
    exact ⟨ret_int E.out.symm, hbel⟩
  rw [h5]
  have H5 := Lib.hid h5
  clear h5
  go_wp2_with fail
  rw [rounds_succ]
  go_wp2_with fail
  refine (cfg6_c B c0 c1 c2 c3 c4 c5 c6 c7 c8 c9 c10 w5 hB).mono ?_
  rintro e_ w6 ⟨rfl, hb⟩
  replace hB := vbelow hB hb
  replace hA := vbelow hA hb
  clear hcA
  have hcA := vcell hA
  unfold closes at hcA
  replace hbel := below_then hbel hb
  clear hb
  by_cases h6 : inB c7 1 1099511627776 = true
  case neg =>
    have h6 : inB c7 1 1099511627776 = false := by simpa using h6
    have e : errI (cfgB c0 c1 c2 c3 c4 c5 c6 c7 c8 c9 c10) = 3 := by unfold cfgB; rw [H1.out, H2.out, H3.out, H4.out, H5.out, h6]; simp [errI]
    have E := Lib.hid e
    clear e
    rw [h6]
    clear h6
    have e1 : (errI false != 0) = true := rfl
    go_wp2
    go_ret
    exact ⟨ret_int E.out.symm, hbel⟩
  rw [h6]
  have H6 := Lib.hid h6
  clear h6
  go_wp2_with fail
  rw [rounds_succ]
  go_wp2_with fail
  refine (cfg7_c B c0 c1 c2 c3 c4 c5 c6 c7 c8 c9 c10 w6 hB).mono ?_
  rintro e_ w7 ⟨rfl, hb⟩
  replace hB := vbelow hB hb
  replace hA := vbelow hA hb
  clear hcA
  have hcA := vcell hA
  unfold closes at hcA
  replace hbel := below_then hbel hb
  clear hb
  by_cases h7 : inB c8 1 1099511627776 = true
  case neg =>
    have h7 : inB c8 1 1099511627776 = false := by simpa using h7
    have e : errI (cfgB c0 c1 c2 c3 c4 c5 c6 c7 c8 c9 c10) = 3 := by unfold cfgB; rw [H1.out, H2.out, H3.out, H4.out, H5.out, H6.out, h7]; simp [errI]
    have E := Lib.hid e
    clear e
    rw [h7]
    clear h7
    have e1 : (errI false != 0) = true := rfl
    go_wp2
    go_ret
    exact ⟨ret_int E.out.symm, hbel⟩
  rw [h7]
  have H7 := Lib.hid h7
  clear h7
  go_wp2_with fail
  rw [rounds_succ]
  go_wp2_with fail
  refine (cfg8_c B c0 c1 c2 c3 c4 c5 c6 c7 c8 c9 c10 w7 hB).mono ?_
  rintro e_ w8 ⟨rfl, hb⟩
  replace hB := vbelow hB hb
  replace hA := vbelow hA hb
  clear hcA
  have hcA := vcell hA
  unfold closes at hcA
  replace hbel := below_then hbel hb
  clear hb
  by_cases h8 : inB c9 0 1099511627776 = true
  case neg =>
    have h8 : inB c9 0 1099511627776 = false := by simpa using h8
    have e : errI (cfgB c0 c1 c2 c3 c4 c5 c6 c7 c8 c9 c10) = 3 := by unfold cfgB; rw [H1.out, H2.out, H3.out, H4.out, H5.out, H6.out, H7.out, h8]; simp [errI]
    have E := Lib.hid e
    clear e
    rw [h8]
    clear h8
    have e1 : (errI false != 0) = true := rfl
    go_wp2
    go_ret
    exact ⟨ret_int E.out.symm, hbel⟩
  rw [h8]
  have H8 := Lib.hid h8
  clear h8
  go_wp2_with fail
  rw [rounds_succ]
  go_wp2_with fail
  refine (cfg9_c B c0 c1 c2 c3 c4 c5 c6 c7 c8 c9 c10 w8 hB).mono ?_
  rintro e_ w9 ⟨rfl, hb⟩
  replace hB := vbelow hB hb
  replace hA := vbelow hA hb
  clear hcA
  have hcA := vcell hA
  unfold closes at hcA
  replace hbel := below_then hbel hb
  clear hb
  by_cases h9 : inB c10 0 1099511627776 = true
  case neg =>
    have h9 : inB c10 0 1099511627776 = false := by simpa using h9
    have e : errI (cfgB c0 c1 c2 c3 c4 c5 c6 c7 c8 c9 c10) = 3 := by unfold cfgB; rw [H1.out, H2.out, H3.out, H4.out, H5.out, H6.out, H7.out, H8.out, h9]; simp [errI]
    have E := Lib.hid e
    clear e
    rw [h9]
    clear h9
    have e1 : (errI false != 0) = true := rfl
    go_wp2
    go_ret
    exact ⟨ret_int E.out.symm, hbel⟩
  rw [h9]
  have H9 := Lib.hid h9
  clear h9
  go_wp2_with fail
  rw [rounds_succ]
  go_wp2
  have e : errI (cfgB c0 c1 c2 c3 c4 c5 c6 c7 c8 c9 c10) = 0 := by unfold cfgB; rw [H1.out, H2.out, H3.out, H4.out, H5.out, H6.out, H7.out, H8.out, H9.out]; rfl
  go_ret
  exact ⟨ret_int e.symm, hbel⟩

set_option maxHeartbeats 1000000 in
theorem config_c (c0 c1 c2 c3 c4 c5 c6 c7 c8 c9 c10 : Int) (w : World) : Calls Try.prog 13 #[.agg #[.int .i64 c0, .int .i64 c1, .int .i64 c2, .int .i64 c3, .int .i64 c4, .int .i64 c5, .int .i64 c6, .int .i64 c7, .int .i64 c8, .int .i64 c9, .int .i64 c10]] w fun e w' =>
    e = .returned (.int .i64 (errI (cfgB c0 c1 c2 c3 c4 c5 c6 c7 c8 c9 c10))) ∧ Below w.heap.size w w' := by
  go_enter Try.func13, Try.ntmps13
  go_wp2_with fail
  refine (ask_c _ w.heap.size c0 c1 c2 c3 c4 c5 c6 c7 c8 c9 c10 _ ?_ ?_).mono ?_
  · exact valloc vnew
  · exact vnewAt (by simp)
  rintro e_ w1 ⟨rfl, hb⟩
  have hB1 : Below w.heap.size w w1 := below_then (by go_grown) hb
  clear hb
  go_wp2
  go_ret
  exact ⟨rfl, hB1⟩
end Go.Proofs.YtldpmeaibkpojaaR
