/- The contracts of lease.Over, lease.Fenced, lease.Due. -/
import Derived.Test.YtccehechhdndmaaBase
import Derived.Test.YtccehechhdndmaaConf
import Derived.Test.YtccehechhdndmaaConfR
import Derived.Test.YtccehechhdndmaaProg
import Derived.Lib.Hide
namespace Go.Proofs.Ytccehechhdndmaa
open Go.RowKit
set_option linter.unusedSimpArgs false
set_option linter.unusedVariables false
def tickB (at_ now : Int) : Bool := inB at_ (-1) 1099511627776 && inB now 0 1099511627776
theorem cfgB_bd {c0 c1 c2 c3 c4 c5 c6 c7 c8 c9 c10 : Int} (h : cfgB c0 c1 c2 c3 c4 c5 c6 c7 c8 c9 c10 = true) : (1 ≤ c7 ∧ c7 ≤ 1099511627776) ∧ (1 ≤ c8 ∧ c8 ≤ 1099511627776) ∧ (0 ≤ c9 ∧ c9 ≤ 1099511627776) := by
  simp only [cfgB, Bool.and_eq_true, inB_iff] at h
  omega
def overB (c8 at_ now : Int) : Bool := decide (at_ < 0) || decide (at_ + c8 < now)
def fencedB (c8 c9 at_ now : Int) : Bool := decide (at_ < 0) || decide (at_ + c8 + c9 < now)
def dueB (c7 at_ now : Int) : Bool := decide (at_ < 0) || decide (at_ + c7 ≤ now)

set_option maxHeartbeats 400000 in
theorem over_n (c0 c1 c2 c3 c4 c5 c6 c7 c8 c9 c10 at_ now : Int) (w : World) (h7 : 1 ≤ c7) (h7' : c7 ≤ 1099511627776) (h8 : 1 ≤ c8) (h8' : c8 ≤ 1099511627776) (h9 : 0 ≤ c9) (h9' : c9 ≤ 1099511627776) (h1 : -1 ≤ at_) (h2 : at_ ≤ 1099511627776) (h3 : 0 ≤ now) (h4 : now ≤ 1099511627776) :
    Calls Try.prog 54 #[.agg #[.int .i64 c0, .int .i64 c1, .int .i64 c2, .int .i64 c3, .int .i64 c4, .int .i64 c5, .int .i64 c6, .int .i64 c7, .int .i64 c8, .int .i64 c9, .int .i64 c10, .int .i64 now], .int .i64 at_] w fun e w' => e = .returned (.bool (overB c8 at_ now)) ∧ Below w.heap.size w w' := by
  by_cases hc : at_ < 0
  · have hd : decide (at_ < 0) = true := by simpa using hc
    have e : overB c8 at_ now = true := by unfold overB; rw [hd]; rfl
    rw [e]
    clear e
    go_enter Try.func54, Try.ntmps54
    go_wp2
    go_ret
    exact ⟨rfl, by go_grown⟩
  · have hd : decide (at_ < 0) = false := by simpa using hc
    by_cases hq : at_ + c8 < now
    · have hq' : decide (at_ + c8 < now) = true := by simpa using hq
      have e : overB c8 at_ now = true := by unfold overB; rw [hd, hq']; rfl
      rw [e]
      clear e
      go_enter Try.func54, Try.ntmps54
      go_wp2
      go_ret
      exact ⟨rfl, by go_grown⟩
    · have hq' : decide (at_ + c8 < now) = false := by simpa using hq
      have e : overB c8 at_ now = false := by unfold overB; rw [hd, hq']; rfl
      rw [e]
      clear e
      go_enter Try.func54, Try.ntmps54
      go_wp2
      go_ret
      exact ⟨rfl, by go_grown⟩

set_option maxHeartbeats 400000 in
theorem fenced_n (c0 c1 c2 c3 c4 c5 c6 c7 c8 c9 c10 at_ now : Int) (w : World) (h7 : 1 ≤ c7) (h7' : c7 ≤ 1099511627776) (h8 : 1 ≤ c8) (h8' : c8 ≤ 1099511627776) (h9 : 0 ≤ c9) (h9' : c9 ≤ 1099511627776) (h1 : -1 ≤ at_) (h2 : at_ ≤ 1099511627776) (h3 : 0 ≤ now) (h4 : now ≤ 1099511627776) :
    Calls Try.prog 56 #[.agg #[.int .i64 c0, .int .i64 c1, .int .i64 c2, .int .i64 c3, .int .i64 c4, .int .i64 c5, .int .i64 c6, .int .i64 c7, .int .i64 c8, .int .i64 c9, .int .i64 c10, .int .i64 now], .int .i64 at_] w fun e w' => e = .returned (.bool (fencedB c8 c9 at_ now)) ∧ Below w.heap.size w w' := by
  by_cases hc : at_ < 0
  · have hd : decide (at_ < 0) = true := by simpa using hc
    have e : fencedB c8 c9 at_ now = true := by unfold fencedB; rw [hd]; rfl
    rw [e]
    clear e
    go_enter Try.func56, Try.ntmps56
    go_wp2
    go_ret
    exact ⟨rfl, by go_grown⟩
  · have hd : decide (at_ < 0) = false := by simpa using hc
    by_cases hq : at_ + c8 + c9 < now
    · have hq' : decide (at_ + c8 + c9 < now) = true := by simpa using hq
      have e : fencedB c8 c9 at_ now = true := by unfold fencedB; rw [hd, hq']; rfl
      rw [e]
      clear e
      go_enter Try.func56, Try.ntmps56
      go_wp2
      go_ret
      exact ⟨rfl, by go_grown⟩
    · have hq' : decide (at_ + c8 + c9 < now) = false := by simpa using hq
      have e : fencedB c8 c9 at_ now = false := by unfold fencedB; rw [hd, hq']; rfl
      rw [e]
      clear e
      go_enter Try.func56, Try.ntmps56
      go_wp2
      go_ret
      exact ⟨rfl, by go_grown⟩

set_option maxHeartbeats 400000 in
theorem due_n (c0 c1 c2 c3 c4 c5 c6 c7 c8 c9 c10 at_ now : Int) (w : World) (h7 : 1 ≤ c7) (h7' : c7 ≤ 1099511627776) (h8 : 1 ≤ c8) (h8' : c8 ≤ 1099511627776) (h9 : 0 ≤ c9) (h9' : c9 ≤ 1099511627776) (h1 : -1 ≤ at_) (h2 : at_ ≤ 1099511627776) (h3 : 0 ≤ now) (h4 : now ≤ 1099511627776) :
    Calls Try.prog 57 #[.agg #[.int .i64 c0, .int .i64 c1, .int .i64 c2, .int .i64 c3, .int .i64 c4, .int .i64 c5, .int .i64 c6, .int .i64 c7, .int .i64 c8, .int .i64 c9, .int .i64 c10, .int .i64 now], .int .i64 at_] w fun e w' => e = .returned (.bool (dueB c7 at_ now)) ∧ Below w.heap.size w w' := by
  by_cases hc : at_ < 0
  · have hd : decide (at_ < 0) = true := by simpa using hc
    have e : dueB c7 at_ now = true := by unfold dueB; rw [hd]; rfl
    rw [e]
    clear e
    go_enter Try.func57, Try.ntmps57
    go_wp2
    go_ret
    exact ⟨rfl, by go_grown⟩
  · have hd : decide (at_ < 0) = false := by simpa using hc
    by_cases hq : at_ + c7 ≤ now
    · have hq' : decide (at_ + c7 ≤ now) = true := by simpa using hq
      have e : dueB c7 at_ now = true := by unfold dueB; rw [hd, hq']; rfl
      rw [e]
      clear e
      go_enter Try.func57, Try.ntmps57
      go_wp2
      go_ret
      exact ⟨rfl, by go_grown⟩
    · have hq' : decide (at_ + c7 ≤ now) = false := by simpa using hq
      have e : dueB c7 at_ now = false := by unfold dueB; rw [hd, hq']; rfl
      rw [e]
      clear e
      go_enter Try.func57, Try.ntmps57
      go_wp2
      go_ret
      exact ⟨rfl, by go_grown⟩

set_option maxHeartbeats 1000000 in
theorem ask_over1 (c0 c1 c2 c3 c4 c5 c6 c7 c8 c9 c10 at_ now : Int) (w : World) (h : cfgB c0 c1 c2 c3 c4 c5 c6 c7 c8 c9 c10 = false) : Calls Try.prog 53 #[.func (.func 54) #[] #[], .agg #[.int .i64 c0, .int .i64 c1, .int .i64 c2, .int .i64 c3, .int .i64 c4, .int .i64 c5, .int .i64 c6, .int .i64 c7, .int .i64 c8, .int .i64 c9, .int .i64 c10], .int .i64 at_, .int .i64 now] w fun e w' =>
    e = .returned (.tuple #[.bool false, .int .i64 3]) ∧ Below w.heap.size w w' := by
  have he : (errI false != 0) = true := rfl
  go_enter Try.func53, Try.ntmps53
  go_wp2_with fail
  refine (config_c c0 c1 c2 c3 c4 c5 c6 c7 c8 c9 c10 _).mono ?_
  rintro e_w1 w1 ⟨rfl, hbw1⟩
  have hBw1 : Below w.heap.size w w1 := below_then (by go_grown) hbw1
  have C0_w1 : w1.heap[w.heap.size]? = some (.cells #[.int .i64 c0, .int .i64 c1, .int .i64 c2, .int .i64 c3, .int .i64 c4, .int .i64 c5, .int .i64 c6, .int .i64 c7, .int .i64 c8, .int .i64 c9, .int .i64 c10] 54 (0, 0)) := vbelow (by (repeat' (first | assumption | (refine vnewAt ?_; first | omega | (simp; done) | (simp; omega)) | refine valloc ?_ | refine vdrew ?_ | apply vput | (refine vfarr ?_ ?_; focus (first | omega | (simp; done) | (simp; omega))) | rfl))) hbw1
  have hcC0_w1 := vcell C0_w1
  have hfC0_w1 := vfree C0_w1
  have hsC0_w1 := vlt C0_w1
  have hlC0_w1 := Nat.le_of_lt hsC0_w1
  have hmC0_w1 := Nat.le_succ_of_le hlC0_w1
  rw [h]
  go_wp2
  go_ret2
  exact ⟨rfl, hBw1⟩

set_option maxHeartbeats 1000000 in
theorem ask_over2 (c0 c1 c2 c3 c4 c5 c6 c7 c8 c9 c10 at_ now : Int) (w : World) (h : cfgB c0 c1 c2 c3 c4 c5 c6 c7 c8 c9 c10 = true) (h2 : tickB at_ now = false) : Calls Try.prog 53 #[.func (.func 54) #[] #[], .agg #[.int .i64 c0, .int .i64 c1, .int .i64 c2, .int .i64 c3, .int .i64 c4, .int .i64 c5, .int .i64 c6, .int .i64 c7, .int .i64 c8, .int .i64 c9, .int .i64 c10], .int .i64 at_, .int .i64 now] w fun e w' =>
    e = .returned (.tuple #[.bool false, .int .i64 3]) ∧ Below w.heap.size w w' := by
  have he : (errI true != 0) = false := rfl
  have ht : at_ < -1 ∨ 1099511627776 < at_ ∨ now < 0 ∨ 1099511627776 < now := by
    rcases Bool.and_eq_false_iff.1 h2 with h | h <;> have := inB_no h <;> omega
  by_cases q1 : at_ < -1
  all_goals by_cases q2 : 1099511627776 < at_
  all_goals by_cases q3 : now < 0
  all_goals by_cases q4 : 1099511627776 < now
  all_goals first | (exfalso; omega) | skip
  all_goals clear ht
  all_goals (
    go_enter Try.func53, Try.ntmps53
    go_wp2_with fail
    refine (config_c c0 c1 c2 c3 c4 c5 c6 c7 c8 c9 c10 _).mono ?_
    rintro e_w1 w1 ⟨rfl, hbw1⟩
    have hBw1 : Below w.heap.size w w1 := below_then (by go_grown) hbw1
    have C0_w1 : w1.heap[w.heap.size]? = some (.cells #[.int .i64 c0, .int .i64 c1, .int .i64 c2, .int .i64 c3, .int .i64 c4, .int .i64 c5, .int .i64 c6, .int .i64 c7, .int .i64 c8, .int .i64 c9, .int .i64 c10] 54 (0, 0)) := vbelow (by (repeat' (first | assumption | (refine vnewAt ?_; first | omega | (simp; done) | (simp; omega)) | refine valloc ?_ | refine vdrew ?_ | apply vput | (refine vfarr ?_ ?_; focus (first | omega | (simp; done) | (simp; omega))) | rfl))) hbw1
    have hcC0_w1 := vcell C0_w1
    have hfC0_w1 := vfree C0_w1
    have hsC0_w1 := vlt C0_w1
    have hlC0_w1 := Nat.le_of_lt hsC0_w1
    have hmC0_w1 := Nat.le_succ_of_le hlC0_w1
    rw [h]
    go_wp2
    go_ret2
    exact ⟨rfl, hBw1⟩)

set_option maxHeartbeats 1000000 in
theorem ask_over3 (c0 c1 c2 c3 c4 c5 c6 c7 c8 c9 c10 at_ now : Int) (w : World) (h : cfgB c0 c1 c2 c3 c4 c5 c6 c7 c8 c9 c10 = true) (h2 : tickB at_ now = true) : Calls Try.prog 53 #[.func (.func 54) #[] #[], .agg #[.int .i64 c0, .int .i64 c1, .int .i64 c2, .int .i64 c3, .int .i64 c4, .int .i64 c5, .int .i64 c6, .int .i64 c7, .int .i64 c8, .int .i64 c9, .int .i64 c10], .int .i64 at_, .int .i64 now] w fun e w' =>
    e = .returned (.tuple #[.bool (overB c8 at_ now), .int .i64 0]) ∧ Below w.heap.size w w' := by
  have he : (errI true != 0) = false := rfl
  obtain ⟨⟨h7, h7'⟩, ⟨h8, h8'⟩, h9, h9'⟩ := cfgB_bd h
  simp only [tickB, Bool.and_eq_true, inB_iff] at h2
  obtain ⟨⟨t1, t2⟩, t3, t4⟩ := h2
  have q1 : ¬ at_ < -1 := by omega
  have q2 : ¬ 1099511627776 < at_ := by omega
  have q3 : ¬ now < 0 := by omega
  have q4 : ¬ 1099511627776 < now := by omega
  go_enter Try.func53, Try.ntmps53
  go_wp2_with fail
  refine (config_c c0 c1 c2 c3 c4 c5 c6 c7 c8 c9 c10 _).mono ?_
  rintro e_w1 w1 ⟨rfl, hbw1⟩
  have hBw1 : Below w.heap.size w w1 := below_then (by go_grown) hbw1
  have C0_w1 : w1.heap[w.heap.size]? = some (.cells #[.int .i64 c0, .int .i64 c1, .int .i64 c2, .int .i64 c3, .int .i64 c4, .int .i64 c5, .int .i64 c6, .int .i64 c7, .int .i64 c8, .int .i64 c9, .int .i64 c10] 54 (0, 0)) := vbelow (by (repeat' (first | assumption | (refine vnewAt ?_; first | omega | (simp; done) | (simp; omega)) | refine valloc ?_ | refine vdrew ?_ | apply vput | (refine vfarr ?_ ?_; focus (first | omega | (simp; done) | (simp; omega))) | rfl))) hbw1
  have hcC0_w1 := vcell C0_w1
  have hfC0_w1 := vfree C0_w1
  have hsC0_w1 := vlt C0_w1
  have hlC0_w1 := Nat.le_of_lt hsC0_w1
  have hmC0_w1 := Nat.le_succ_of_le hlC0_w1
  rw [h]
  clear h
  go_wp2_with fail
  refine (over_n c0 c1 c2 c3 c4 c5 c6 c7 c8 c9 c10 at_ now _ h7 h7' h8 h8' h9 h9' t1 t2 t3 t4).mono ?_
  rintro e_w2 w2 ⟨rfl, hbw2⟩
  have hBw2 : Below w.heap.size w w2 := below_then (by go_grown) hbw2
  have C0_w2 : w2.heap[w.heap.size]? = some (.cells #[.int .i64 c0, .int .i64 c1, .int .i64 c2, .int .i64 c3, .int .i64 c4, .int .i64 c5, .int .i64 c6, .int .i64 c7, .int .i64 c8, .int .i64 c9, .int .i64 c10] 54 (0, 0)) := vbelow (by (repeat' (first | assumption | (refine vnewAt ?_; first | omega | (simp; done) | (simp; omega)) | refine valloc ?_ | refine vdrew ?_ | apply vput | (refine vfarr ?_ ?_; focus (first | omega | (simp; done) | (simp; omega))) | rfl))) hbw2
  have hcC0_w2 := vcell C0_w2
  have hfC0_w2 := vfree C0_w2
  have hsC0_w2 := vlt C0_w2
  have hlC0_w2 := Nat.le_of_lt hsC0_w2
  have hmC0_w2 := Nat.le_succ_of_le hlC0_w2
  try clear C0_w1 hcC0_w1 hfC0_w1 hsC0_w1 hlC0_w1 hmC0_w1
  go_wp2
  go_ret2
  exact ⟨rfl, hBw2⟩

def overF (c0 c1 c2 c3 c4 c5 c6 c7 c8 c9 c10 at_ now : Int) : Bool × Int := if cfgB c0 c1 c2 c3 c4 c5 c6 c7 c8 c9 c10 = true ∧ tickB at_ now = true then (overB c8 at_ now, 0) else (false, 3)
theorem ask_over (c0 c1 c2 c3 c4 c5 c6 c7 c8 c9 c10 at_ now : Int) (w : World) : Calls Try.prog 53 #[.func (.func 54) #[] #[], .agg #[.int .i64 c0, .int .i64 c1, .int .i64 c2, .int .i64 c3, .int .i64 c4, .int .i64 c5, .int .i64 c6, .int .i64 c7, .int .i64 c8, .int .i64 c9, .int .i64 c10], .int .i64 at_, .int .i64 now] w fun e w' =>
    e = .returned (.tuple #[.bool (overF c0 c1 c2 c3 c4 c5 c6 c7 c8 c9 c10 at_ now).1, .int .i64 (overF c0 c1 c2 c3 c4 c5 c6 c7 c8 c9 c10 at_ now).2]) ∧ Below w.heap.size w w' := by
  by_cases h : cfgB c0 c1 c2 c3 c4 c5 c6 c7 c8 c9 c10 = true
  · by_cases h2 : tickB at_ now = true
    · have : overF c0 c1 c2 c3 c4 c5 c6 c7 c8 c9 c10 at_ now = (overB c8 at_ now, 0) := if_pos ⟨h, h2⟩
      rw [this]; exact ask_over3 c0 c1 c2 c3 c4 c5 c6 c7 c8 c9 c10 at_ now w h h2
    · have : overF c0 c1 c2 c3 c4 c5 c6 c7 c8 c9 c10 at_ now = (false, 3) := if_neg (fun q => h2 q.2)
      rw [this]; exact ask_over2 c0 c1 c2 c3 c4 c5 c6 c7 c8 c9 c10 at_ now w h (by simpa using h2)
  · have : overF c0 c1 c2 c3 c4 c5 c6 c7 c8 c9 c10 at_ now = (false, 3) := if_neg (fun q => h q.1)
    rw [this]; exact ask_over1 c0 c1 c2 c3 c4 c5 c6 c7 c8 c9 c10 at_ now w (by simpa using h)
set_option maxHeartbeats 1000000 in
theorem over_c (c0 c1 c2 c3 c4 c5 c6 c7 c8 c9 c10 at_ now : Int) (w : World) : Calls Try.prog 35 #[.agg #[.int .i64 c0, .int .i64 c1, .int .i64 c2, .int .i64 c3, .int .i64 c4, .int .i64 c5, .int .i64 c6, .int .i64 c7, .int .i64 c8, .int .i64 c9, .int .i64 c10], .int .i64 at_, .int .i64 now] w fun e w' =>
    e = .returned (.tuple #[.bool (overF c0 c1 c2 c3 c4 c5 c6 c7 c8 c9 c10 at_ now).1, .int .i64 (overF c0 c1 c2 c3 c4 c5 c6 c7 c8 c9 c10 at_ now).2]) ∧ Below w.heap.size w w' := by
  go_enter Try.func35, Try.ntmps35
  go_wp2_with fail
  refine (ask_over c0 c1 c2 c3 c4 c5 c6 c7 c8 c9 c10 at_ now _).mono ?_
  rintro e_w1 w1 ⟨rfl, hbw1⟩
  have hBw1 : Below w.heap.size w w1 := below_then (by go_grown) hbw1
  have C0_w1 : w1.heap[w.heap.size]? = some (.cells #[.int .i64 c0, .int .i64 c1, .int .i64 c2, .int .i64 c3, .int .i64 c4, .int .i64 c5, .int .i64 c6, .int .i64 c7, .int .i64 c8, .int .i64 c9, .int .i64 c10] 54 (0, 0)) := vbelow (by (repeat' (first | assumption | (refine vnewAt ?_; first | omega | (simp; done) | (simp; omega)) | refine valloc ?_ | refine vdrew ?_ | apply vput | (refine vfarr ?_ ?_; focus (first | omega | (simp; done) | (simp; omega))) | rfl))) hbw1
  have hcC0_w1 := vcell C0_w1
  have hfC0_w1 := vfree C0_w1
  have hsC0_w1 := vlt C0_w1
  have hlC0_w1 := Nat.le_of_lt hsC0_w1
  have hmC0_w1 := Nat.le_succ_of_le hlC0_w1
  go_wp2
  go_ret2
  exact ⟨rfl, hBw1⟩

set_option maxHeartbeats 1000000 in
theorem ask_fenced1 (c0 c1 c2 c3 c4 c5 c6 c7 c8 c9 c10 at_ now : Int) (w : World) (h : cfgB c0 c1 c2 c3 c4 c5 c6 c7 c8 c9 c10 = false) : Calls Try.prog 53 #[.func (.func 56) #[] #[], .agg #[.int .i64 c0, .int .i64 c1, .int .i64 c2, .int .i64 c3, .int .i64 c4, .int .i64 c5, .int .i64 c6, .int .i64 c7, .int .i64 c8, .int .i64 c9, .int .i64 c10], .int .i64 at_, .int .i64 now] w fun e w' =>
    e = .returned (.tuple #[.bool false, .int .i64 3]) ∧ Below w.heap.size w w' := by
  have he : (errI false != 0) = true := rfl
  go_enter Try.func53, Try.ntmps53
  go_wp2_with fail
  refine (config_c c0 c1 c2 c3 c4 c5 c6 c7 c8 c9 c10 _).mono ?_
  rintro e_w1 w1 ⟨rfl, hbw1⟩
  have hBw1 : Below w.heap.size w w1 := below_then (by go_grown) hbw1
  have C0_w1 : w1.heap[w.heap.size]? = some (.cells #[.int .i64 c0, .int .i64 c1, .int .i64 c2, .int .i64 c3, .int .i64 c4, .int .i64 c5, .int .i64 c6, .int .i64 c7, .int .i64 c8, .int .i64 c9, .int .i64 c10] 54 (0, 0)) := vbelow (by (repeat' (first | assumption | (refine vnewAt ?_; first | omega | (simp; done) | (simp; omega)) | refine valloc ?_ | refine vdrew ?_ | apply vput | (refine vfarr ?_ ?_; focus (first | omega | (simp; done) | (simp; omega))) | rfl))) hbw1
  have hcC0_w1 := vcell C0_w1
  have hfC0_w1 := vfree C0_w1
  have hsC0_w1 := vlt C0_w1
  have hlC0_w1 := Nat.le_of_lt hsC0_w1
  have hmC0_w1 := Nat.le_succ_of_le hlC0_w1
  rw [h]
  go_wp2
  go_ret2
  exact ⟨rfl, hBw1⟩

set_option maxHeartbeats 1000000 in
theorem ask_fenced2 (c0 c1 c2 c3 c4 c5 c6 c7 c8 c9 c10 at_ now : Int) (w : World) (h : cfgB c0 c1 c2 c3 c4 c5 c6 c7 c8 c9 c10 = true) (h2 : tickB at_ now = false) : Calls Try.prog 53 #[.func (.func 56) #[] #[], .agg #[.int .i64 c0, .int .i64 c1, .int .i64 c2, .int .i64 c3, .int .i64 c4, .int .i64 c5, .int .i64 c6, .int .i64 c7, .int .i64 c8, .int .i64 c9, .int .i64 c10], .int .i64 at_, .int .i64 now] w fun e w' =>
    e = .returned (.tuple #[.bool false, .int .i64 3]) ∧ Below w.heap.size w w' := by
  have he : (errI true != 0) = false := rfl
  have ht : at_ < -1 ∨ 1099511627776 < at_ ∨ now < 0 ∨ 1099511627776 < now := by
    rcases Bool.and_eq_false_iff.1 h2 with h | h <;> have := inB_no h <;> omega
  by_cases q1 : at_ < -1
  all_goals by_cases q2 : 1099511627776 < at_
  all_goals by_cases q3 : now < 0
  all_goals by_cases q4 : 1099511627776 < now
  all_goals first | (exfalso; omega) | skip
  all_goals clear ht
  all_goals (
    go_enter Try.func53, Try.ntmps53
    go_wp2_with fail
    refine (config_c c0 c1 c2 c3 c4 c5 c6 c7 c8 c9 c10 _).mono ?_
    rintro e_w1 w1 ⟨rfl, hbw1⟩
    have hBw1 : Below w.heap.size w w1 := below_then (by go_grown) hbw1
    have C0_w1 : w1.heap[w.heap.size]? = some (.cells #[.int .i64 c0, .int .i64 c1, .int .i64 c2, .int .i64 c3, .int .i64 c4, .int .i64 c5, .int .i64 c6, .int .i64 c7, .int .i64 c8, .int .i64 c9, .int .i64 c10] 54 (0, 0)) := vbelow (by (repeat' (first | assumption | (refine vnewAt ?_; first | omega | (simp; done) | (simp; omega)) | refine valloc ?_ | refine vdrew ?_ | apply vput | (refine vfarr ?_ ?_; focus (first | omega | (simp; done) | (simp; omega))) | rfl))) hbw1
    have hcC0_w1 := vcell C0_w1
    have hfC0_w1 := vfree C0_w1
    have hsC0_w1 := vlt C0_w1
    have hlC0_w1 := Nat.le_of_lt hsC0_w1
    have hmC0_w1 := Nat.le_succ_of_le hlC0_w1
    rw [h]
    go_wp2
    go_ret2
    exact ⟨rfl, hBw1⟩)

set_option maxHeartbeats 1000000 in
theorem ask_fenced3 (c0 c1 c2 c3 c4 c5 c6 c7 c8 c9 c10 at_ now : Int) (w : World) (h : cfgB c0 c1 c2 c3 c4 c5 c6 c7 c8 c9 c10 = true) (h2 : tickB at_ now = true) : Calls Try.prog 53 #[.func (.func 56) #[] #[], .agg #[.int .i64 c0, .int .i64 c1, .int .i64 c2, .int .i64 c3, .int .i64 c4, .int .i64 c5, .int .i64 c6, .int .i64 c7, .int .i64 c8, .int .i64 c9, .int .i64 c10], .int .i64 at_, .int .i64 now] w fun e w' =>
    e = .returned (.tuple #[.bool (fencedB c8 c9 at_ now), .int .i64 0]) ∧ Below w.heap.size w w' := by
  have he : (errI true != 0) = false := rfl
  obtain ⟨⟨h7, h7'⟩, ⟨h8, h8'⟩, h9, h9'⟩ := cfgB_bd h
  simp only [tickB, Bool.and_eq_true, inB_iff] at h2
  obtain ⟨⟨t1, t2⟩, t3, t4⟩ := h2
  have q1 : ¬ at_ < -1 := by omega
  have q2 : ¬ 1099511627776 < at_ := by omega
  have q3 : ¬ now < 0 := by omega
  have q4 : ¬ 1099511627776 < now := by omega
  go_enter Try.func53, Try.ntmps53
  go_wp2_with fail
  refine (config_c c0 c1 c2 c3 c4 c5 c6 c7 c8 c9 c10 _).mono ?_
  rintro e_w1 w1 ⟨rfl, hbw1⟩
  have hBw1 : Below w.heap.size w w1 := below_then (by go_grown) hbw1
  have C0_w1 : w1.heap[w.heap.size]? = some (.cells #[.int .i64 c0, .int .i64 c1, .int .i64 c2, .int .i64 c3, .int .i64 c4, .int .i64 c5, .int .i64 c6, .int .i64 c7, .int .i64 c8, .int .i64 c9, .int .i64 c10] 54 (0, 0)) := vbelow (by (repeat' (first | assumption | (refine vnewAt ?_; first | omega | (simp; done) | (simp; omega)) | refine valloc ?_ | refine vdrew ?_ | apply vput | (refine vfarr ?_ ?_; focus (first | omega | (simp; done) | (simp; omega))) | rfl))) hbw1
  have hcC0_w1 := vcell C0_w1
  have hfC0_w1 := vfree C0_w1
  have hsC0_w1 := vlt C0_w1
  have hlC0_w1 := Nat.le_of_lt hsC0_w1
  have hmC0_w1 := Nat.le_succ_of_le hlC0_w1
  rw [h]
  clear h
  go_wp2_with fail
  refine (fenced_n c0 c1 c2 c3 c4 c5 c6 c7 c8 c9 c10 at_ now _ h7 h7' h8 h8' h9 h9' t1 t2 t3 t4).mono ?_
  rintro e_w2 w2 ⟨rfl, hbw2⟩
  have hBw2 : Below w.heap.size w w2 := below_then (by go_grown) hbw2
  have C0_w2 : w2.heap[w.heap.size]? = some (.cells #[.int .i64 c0, .int .i64 c1, .int .i64 c2, .int .i64 c3, .int .i64 c4, .int .i64 c5, .int .i64 c6, .int .i64 c7, .int .i64 c8, .int .i64 c9, .int .i64 c10] 54 (0, 0)) := vbelow (by (repeat' (first | assumption | (refine vnewAt ?_; first | omega | (simp; done) | (simp; omega)) | refine valloc ?_ | refine vdrew ?_ | apply vput | (refine vfarr ?_ ?_; focus (first | omega | (simp; done) | (simp; omega))) | rfl))) hbw2
  have hcC0_w2 := vcell C0_w2
  have hfC0_w2 := vfree C0_w2
  have hsC0_w2 := vlt C0_w2
  have hlC0_w2 := Nat.le_of_lt hsC0_w2
  have hmC0_w2 := Nat.le_succ_of_le hlC0_w2
  try clear C0_w1 hcC0_w1 hfC0_w1 hsC0_w1 hlC0_w1 hmC0_w1
  go_wp2
  go_ret2
  exact ⟨rfl, hBw2⟩

def fencedF (c0 c1 c2 c3 c4 c5 c6 c7 c8 c9 c10 at_ now : Int) : Bool × Int := if cfgB c0 c1 c2 c3 c4 c5 c6 c7 c8 c9 c10 = true ∧ tickB at_ now = true then (fencedB c8 c9 at_ now, 0) else (false, 3)
theorem ask_fenced (c0 c1 c2 c3 c4 c5 c6 c7 c8 c9 c10 at_ now : Int) (w : World) : Calls Try.prog 53 #[.func (.func 56) #[] #[], .agg #[.int .i64 c0, .int .i64 c1, .int .i64 c2, .int .i64 c3, .int .i64 c4, .int .i64 c5, .int .i64 c6, .int .i64 c7, .int .i64 c8, .int .i64 c9, .int .i64 c10], .int .i64 at_, .int .i64 now] w fun e w' =>
    e = .returned (.tuple #[.bool (fencedF c0 c1 c2 c3 c4 c5 c6 c7 c8 c9 c10 at_ now).1, .int .i64 (fencedF c0 c1 c2 c3 c4 c5 c6 c7 c8 c9 c10 at_ now).2]) ∧ Below w.heap.size w w' := by
  by_cases h : cfgB c0 c1 c2 c3 c4 c5 c6 c7 c8 c9 c10 = true
  · by_cases h2 : tickB at_ now = true
    · have : fencedF c0 c1 c2 c3 c4 c5 c6 c7 c8 c9 c10 at_ now = (fencedB c8 c9 at_ now, 0) := if_pos ⟨h, h2⟩
      rw [this]; exact ask_fenced3 c0 c1 c2 c3 c4 c5 c6 c7 c8 c9 c10 at_ now w h h2
    · have : fencedF c0 c1 c2 c3 c4 c5 c6 c7 c8 c9 c10 at_ now = (false, 3) := if_neg (fun q => h2 q.2)
      rw [this]; exact ask_fenced2 c0 c1 c2 c3 c4 c5 c6 c7 c8 c9 c10 at_ now w h (by simpa using h2)
  · have : fencedF c0 c1 c2 c3 c4 c5 c6 c7 c8 c9 c10 at_ now = (false, 3) := if_neg (fun q => h q.1)
    rw [this]; exact ask_fenced1 c0 c1 c2 c3 c4 c5 c6 c7 c8 c9 c10 at_ now w (by simpa using h)
set_option maxHeartbeats 1000000 in
theorem fenced_c (c0 c1 c2 c3 c4 c5 c6 c7 c8 c9 c10 at_ now : Int) (w : World) : Calls Try.prog 37 #[.agg #[.int .i64 c0, .int .i64 c1, .int .i64 c2, .int .i64 c3, .int .i64 c4, .int .i64 c5, .int .i64 c6, .int .i64 c7, .int .i64 c8, .int .i64 c9, .int .i64 c10], .int .i64 at_, .int .i64 now] w fun e w' =>
    e = .returned (.tuple #[.bool (fencedF c0 c1 c2 c3 c4 c5 c6 c7 c8 c9 c10 at_ now).1, .int .i64 (fencedF c0 c1 c2 c3 c4 c5 c6 c7 c8 c9 c10 at_ now).2]) ∧ Below w.heap.size w w' := by
  go_enter Try.func37, Try.ntmps37
  go_wp2_with fail
  refine (ask_fenced c0 c1 c2 c3 c4 c5 c6 c7 c8 c9 c10 at_ now _).mono ?_
  rintro e_w1 w1 ⟨rfl, hbw1⟩
  have hBw1 : Below w.heap.size w w1 := below_then (by go_grown) hbw1
  have C0_w1 : w1.heap[w.heap.size]? = some (.cells #[.int .i64 c0, .int .i64 c1, .int .i64 c2, .int .i64 c3, .int .i64 c4, .int .i64 c5, .int .i64 c6, .int .i64 c7, .int .i64 c8, .int .i64 c9, .int .i64 c10] 54 (0, 0)) := vbelow (by (repeat' (first | assumption | (refine vnewAt ?_; first | omega | (simp; done) | (simp; omega)) | refine valloc ?_ | refine vdrew ?_ | apply vput | (refine vfarr ?_ ?_; focus (first | omega | (simp; done) | (simp; omega))) | rfl))) hbw1
  have hcC0_w1 := vcell C0_w1
  have hfC0_w1 := vfree C0_w1
  have hsC0_w1 := vlt C0_w1
  have hlC0_w1 := Nat.le_of_lt hsC0_w1
  have hmC0_w1 := Nat.le_succ_of_le hlC0_w1
  go_wp2
  go_ret2
  exact ⟨rfl, hBw1⟩

set_option maxHeartbeats 1000000 in
theorem ask_due1 (c0 c1 c2 c3 c4 c5 c6 c7 c8 c9 c10 at_ now : Int) (w : World) (h : cfgB c0 c1 c2 c3 c4 c5 c6 c7 c8 c9 c10 = false) : Calls Try.prog 53 #[.func (.func 57) #[] #[], .agg #[.int .i64 c0, .int .i64 c1, .int .i64 c2, .int .i64 c3, .int .i64 c4, .int .i64 c5, .int .i64 c6, .int .i64 c7, .int .i64 c8, .int .i64 c9, .int .i64 c10], .int .i64 at_, .int .i64 now] w fun e w' =>
    e = .returned (.tuple #[.bool false, .int .i64 3]) ∧ Below w.heap.size w w' := by
  have he : (errI false != 0) = true := rfl
  go_enter Try.func53, Try.ntmps53
  go_wp2_with fail
  refine (config_c c0 c1 c2 c3 c4 c5 c6 c7 c8 c9 c10 _).mono ?_
  rintro e_w1 w1 ⟨rfl, hbw1⟩
  have hBw1 : Below w.heap.size w w1 := below_then (by go_grown) hbw1
  have C0_w1 : w1.heap[w.heap.size]? = some (.cells #[.int .i64 c0, .int .i64 c1, .int .i64 c2, .int .i64 c3, .int .i64 c4, .int .i64 c5, .int .i64 c6, .int .i64 c7, .int .i64 c8, .int .i64 c9, .int .i64 c10] 54 (0, 0)) := vbelow (by (repeat' (first | assumption | (refine vnewAt ?_; first | omega | (simp; done) | (simp; omega)) | refine valloc ?_ | refine vdrew ?_ | apply vput | (refine vfarr ?_ ?_; focus (first | omega | (simp; done) | (simp; omega))) | rfl))) hbw1
  have hcC0_w1 := vcell C0_w1
  have hfC0_w1 := vfree C0_w1
  have hsC0_w1 := vlt C0_w1
  have hlC0_w1 := Nat.le_of_lt hsC0_w1
  have hmC0_w1 := Nat.le_succ_of_le hlC0_w1
  rw [h]
  go_wp2
  go_ret2
  exact ⟨rfl, hBw1⟩

set_option maxHeartbeats 1000000 in
theorem ask_due2 (c0 c1 c2 c3 c4 c5 c6 c7 c8 c9 c10 at_ now : Int) (w : World) (h : cfgB c0 c1 c2 c3 c4 c5 c6 c7 c8 c9 c10 = true) (h2 : tickB at_ now = false) : Calls Try.prog 53 #[.func (.func 57) #[] #[], .agg #[.int .i64 c0, .int .i64 c1, .int .i64 c2, .int .i64 c3, .int .i64 c4, .int .i64 c5, .int .i64 c6, .int .i64 c7, .int .i64 c8, .int .i64 c9, .int .i64 c10], .int .i64 at_, .int .i64 now] w fun e w' =>
    e = .returned (.tuple #[.bool false, .int .i64 3]) ∧ Below w.heap.size w w' := by
  have he : (errI true != 0) = false := rfl
  have ht : at_ < -1 ∨ 1099511627776 < at_ ∨ now < 0 ∨ 1099511627776 < now := by
    rcases Bool.and_eq_false_iff.1 h2 with h | h <;> have := inB_no h <;> omega
  by_cases q1 : at_ < -1
  all_goals by_cases q2 : 1099511627776 < at_
  all_goals by_cases q3 : now < 0
  all_goals by_cases q4 : 1099511627776 < now
  all_goals first | (exfalso; omega) | skip
  all_goals clear ht
  all_goals (
    go_enter Try.func53, Try.ntmps53
    go_wp2_with fail
    refine (config_c c0 c1 c2 c3 c4 c5 c6 c7 c8 c9 c10 _).mono ?_
    rintro e_w1 w1 ⟨rfl, hbw1⟩
    have hBw1 : Below w.heap.size w w1 := below_then (by go_grown) hbw1
    have C0_w1 : w1.heap[w.heap.size]? = some (.cells #[.int .i64 c0, .int .i64 c1, .int .i64 c2, .int .i64 c3, .int .i64 c4, .int .i64 c5, .int .i64 c6, .int .i64 c7, .int .i64 c8, .int .i64 c9, .int .i64 c10] 54 (0, 0)) := vbelow (by (repeat' (first | assumption | (refine vnewAt ?_; first | omega | (simp; done) | (simp; omega)) | refine valloc ?_ | refine vdrew ?_ | apply vput | (refine vfarr ?_ ?_; focus (first | omega | (simp; done) | (simp; omega))) | rfl))) hbw1
    have hcC0_w1 := vcell C0_w1
    have hfC0_w1 := vfree C0_w1
    have hsC0_w1 := vlt C0_w1
    have hlC0_w1 := Nat.le_of_lt hsC0_w1
    have hmC0_w1 := Nat.le_succ_of_le hlC0_w1
    rw [h]
    go_wp2
    go_ret2
    exact ⟨rfl, hBw1⟩)

set_option maxHeartbeats 1000000 in
theorem ask_due3 (c0 c1 c2 c3 c4 c5 c6 c7 c8 c9 c10 at_ now : Int) (w : World) (h : cfgB c0 c1 c2 c3 c4 c5 c6 c7 c8 c9 c10 = true) (h2 : tickB at_ now = true) : Calls Try.prog 53 #[.func (.func 57) #[] #[], .agg #[.int .i64 c0, .int .i64 c1, .int .i64 c2, .int .i64 c3, .int .i64 c4, .int .i64 c5, .int .i64 c6, .int .i64 c7, .int .i64 c8, .int .i64 c9, .int .i64 c10], .int .i64 at_, .int .i64 now] w fun e w' =>
    e = .returned (.tuple #[.bool (dueB c7 at_ now), .int .i64 0]) ∧ Below w.heap.size w w' := by
  have he : (errI true != 0) = false := rfl
  obtain ⟨⟨h7, h7'⟩, ⟨h8, h8'⟩, h9, h9'⟩ := cfgB_bd h
  simp only [tickB, Bool.and_eq_true, inB_iff] at h2
  obtain ⟨⟨t1, t2⟩, t3, t4⟩ := h2
  have q1 : ¬ at_ < -1 := by omega
  have q2 : ¬ 1099511627776 < at_ := by omega
  have q3 : ¬ now < 0 := by omega
  have q4 : ¬ 1099511627776 < now := by omega
  go_enter Try.func53, Try.ntmps53
  go_wp2_with fail
  refine (config_c c0 c1 c2 c3 c4 c5 c6 c7 c8 c9 c10 _).mono ?_
  rintro e_w1 w1 ⟨rfl, hbw1⟩
  have hBw1 : Below w.heap.size w w1 := below_then (by go_grown) hbw1
  have C0_w1 : w1.heap[w.heap.size]? = some (.cells #[.int .i64 c0, .int .i64 c1, .int .i64 c2, .int .i64 c3, .int .i64 c4, .int .i64 c5, .int .i64 c6, .int .i64 c7, .int .i64 c8, .int .i64 c9, .int .i64 c10] 54 (0, 0)) := vbelow (by (repeat' (first | assumption | (refine vnewAt ?_; first | omega | (simp; done) | (simp; omega)) | refine valloc ?_ | refine vdrew ?_ | apply vput | (refine vfarr ?_ ?_; focus (first | omega | (simp; done) | (simp; omega))) | rfl))) hbw1
  have hcC0_w1 := vcell C0_w1
  have hfC0_w1 := vfree C0_w1
  have hsC0_w1 := vlt C0_w1
  have hlC0_w1 := Nat.le_of_lt hsC0_w1
  have hmC0_w1 := Nat.le_succ_of_le hlC0_w1
  rw [h]
  clear h
  go_wp2_with fail
  refine (due_n c0 c1 c2 c3 c4 c5 c6 c7 c8 c9 c10 at_ now _ h7 h7' h8 h8' h9 h9' t1 t2 t3 t4).mono ?_
  rintro e_w2 w2 ⟨rfl, hbw2⟩
  have hBw2 : Below w.heap.size w w2 := below_then (by go_grown) hbw2
  have C0_w2 : w2.heap[w.heap.size]? = some (.cells #[.int .i64 c0, .int .i64 c1, .int .i64 c2, .int .i64 c3, .int .i64 c4, .int .i64 c5, .int .i64 c6, .int .i64 c7, .int .i64 c8, .int .i64 c9, .int .i64 c10] 54 (0, 0)) := vbelow (by (repeat' (first | assumption | (refine vnewAt ?_; first | omega | (simp; done) | (simp; omega)) | refine valloc ?_ | refine vdrew ?_ | apply vput | (refine vfarr ?_ ?_; focus (first | omega | (simp; done) | (simp; omega))) | rfl))) hbw2
  have hcC0_w2 := vcell C0_w2
  have hfC0_w2 := vfree C0_w2
  have hsC0_w2 := vlt C0_w2
  have hlC0_w2 := Nat.le_of_lt hsC0_w2
  have hmC0_w2 := Nat.le_succ_of_le hlC0_w2
  try clear C0_w1 hcC0_w1 hfC0_w1 hsC0_w1 hlC0_w1 hmC0_w1
  go_wp2
  go_ret2
  exact ⟨rfl, hBw2⟩

def dueF (c0 c1 c2 c3 c4 c5 c6 c7 c8 c9 c10 at_ now : Int) : Bool × Int := if cfgB c0 c1 c2 c3 c4 c5 c6 c7 c8 c9 c10 = true ∧ tickB at_ now = true then (dueB c7 at_ now, 0) else (false, 3)
theorem ask_due (c0 c1 c2 c3 c4 c5 c6 c7 c8 c9 c10 at_ now : Int) (w : World) : Calls Try.prog 53 #[.func (.func 57) #[] #[], .agg #[.int .i64 c0, .int .i64 c1, .int .i64 c2, .int .i64 c3, .int .i64 c4, .int .i64 c5, .int .i64 c6, .int .i64 c7, .int .i64 c8, .int .i64 c9, .int .i64 c10], .int .i64 at_, .int .i64 now] w fun e w' =>
    e = .returned (.tuple #[.bool (dueF c0 c1 c2 c3 c4 c5 c6 c7 c8 c9 c10 at_ now).1, .int .i64 (dueF c0 c1 c2 c3 c4 c5 c6 c7 c8 c9 c10 at_ now).2]) ∧ Below w.heap.size w w' := by
  by_cases h : cfgB c0 c1 c2 c3 c4 c5 c6 c7 c8 c9 c10 = true
  · by_cases h2 : tickB at_ now = true
    · have : dueF c0 c1 c2 c3 c4 c5 c6 c7 c8 c9 c10 at_ now = (dueB c7 at_ now, 0) := if_pos ⟨h, h2⟩
      rw [this]; exact ask_due3 c0 c1 c2 c3 c4 c5 c6 c7 c8 c9 c10 at_ now w h h2
    · have : dueF c0 c1 c2 c3 c4 c5 c6 c7 c8 c9 c10 at_ now = (false, 3) := if_neg (fun q => h2 q.2)
      rw [this]; exact ask_due2 c0 c1 c2 c3 c4 c5 c6 c7 c8 c9 c10 at_ now w h (by simpa using h2)
  · have : dueF c0 c1 c2 c3 c4 c5 c6 c7 c8 c9 c10 at_ now = (false, 3) := if_neg (fun q => h q.1)
    rw [this]; exact ask_due1 c0 c1 c2 c3 c4 c5 c6 c7 c8 c9 c10 at_ now w (by simpa using h)
set_option maxHeartbeats 1000000 in
theorem due_c (c0 c1 c2 c3 c4 c5 c6 c7 c8 c9 c10 at_ now : Int) (w : World) : Calls Try.prog 39 #[.agg #[.int .i64 c0, .int .i64 c1, .int .i64 c2, .int .i64 c3, .int .i64 c4, .int .i64 c5, .int .i64 c6, .int .i64 c7, .int .i64 c8, .int .i64 c9, .int .i64 c10], .int .i64 at_, .int .i64 now] w fun e w' =>
    e = .returned (.tuple #[.bool (dueF c0 c1 c2 c3 c4 c5 c6 c7 c8 c9 c10 at_ now).1, .int .i64 (dueF c0 c1 c2 c3 c4 c5 c6 c7 c8 c9 c10 at_ now).2]) ∧ Below w.heap.size w w' := by
  go_enter Try.func39, Try.ntmps39
  go_wp2_with fail
  refine (ask_due c0 c1 c2 c3 c4 c5 c6 c7 c8 c9 c10 at_ now _).mono ?_
  rintro e_w1 w1 ⟨rfl, hbw1⟩
  have hBw1 : Below w.heap.size w w1 := below_then (by go_grown) hbw1
  have C0_w1 : w1.heap[w.heap.size]? = some (.cells #[.int .i64 c0, .int .i64 c1, .int .i64 c2, .int .i64 c3, .int .i64 c4, .int .i64 c5, .int .i64 c6, .int .i64 c7, .int .i64 c8, .int .i64 c9, .int .i64 c10] 54 (0, 0)) := vbelow (by (repeat' (first | assumption | (refine vnewAt ?_; first | omega | (simp; done) | (simp; omega)) | refine valloc ?_ | refine vdrew ?_ | apply vput | (refine vfarr ?_ ?_; focus (first | omega | (simp; done) | (simp; omega))) | rfl))) hbw1
  have hcC0_w1 := vcell C0_w1
  have hfC0_w1 := vfree C0_w1
  have hsC0_w1 := vlt C0_w1
  have hlC0_w1 := Nat.le_of_lt hsC0_w1
  have hmC0_w1 := Nat.le_succ_of_le hlC0_w1
  go_wp2
  go_ret2
  exact ⟨rfl, hBw1⟩

end Go.Proofs.Ytccehechhdndmaa
