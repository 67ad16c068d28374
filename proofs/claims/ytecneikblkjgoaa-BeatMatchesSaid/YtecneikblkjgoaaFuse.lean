/- The contracts of fuse.Fuse: set, New, Arm, Burn, Blown, Reset, Copy. -/
import Derived.Test.YtecneikblkjgoaaBase
import Derived.Test.YtecneikblkjgoaaBut
import Derived.Test.YtecneikblkjgoaaProg
import Derived.Lib.Hide
import Derived.Laws.EntriesVeiled
import Derived.Deep.RegionWith
namespace Go.Proofs.Ytecneikblkjgoaa
open Go.RowKit
set_option linter.unusedSimpArgs false
set_option linter.unusedVariables false

/-- What a fuse does next. -/
def nx (s l : Int) : Nat := if s = 2 ∨ (s = 1 ∧ l = 0) then 70 else if s = 1 then 71 else 72
/-- Block b is a fuse that is in state s with l left. -/
def FZ (w : World) (b : Nat) (s l : Int) : Prop := w.heap[b]? = some (.cells #[.int .i64 s, .int .i64 l, .func (.func (nx s l)) #[] #[]] 87 (0, 0))

theorem nx_dead (s l : Int) (h : s = 2 ∨ (s = 1 ∧ l = 0)) : nx s l = 70 := by unfold nx; rw [if_pos h]
theorem nx_armed (l : Int) (h : l ≠ 0) : nx 1 l = 71 := by unfold nx; rw [if_neg (by omega), if_pos rfl]
theorem nx_idle (l : Int) : nx 0 l = 72 := rfl
set_option maxHeartbeats 1000000 in
theorem set_c (b : Nat) (s l s0 l0 : Int) (f0 : Value) (w : World) (h : w.heap[b]? = some (.cells #[.int .i64 s0, .int .i64 l0, f0] 87 (0, 0))) :
    Calls Try.prog 51 #[.pointer (some ⟨b, 0, none⟩), .int .i64 s, .int .i64 l] w fun e w' => e = .returned (.tuple #[]) ∧ FZ w' b s l ∧ But b w w' := by
  have hc := vcell h
  have hf := vfree h
  go_enter Try.func51, Try.ntmps51
  go_wp2
  all_goals go_returns
  all_goals refine ⟨rfl, ?_, ?_⟩
  all_goals first
    | exact But.setc (But.setc (But.setc (But.refl _ _)))
    | (unfold FZ
       first
         | (have e1 : s = 1 := by assumption
            have e2 : (l == 0) = true := by assumption
            subst e1
            rw [nx_dead 1 l (Or.inr ⟨rfl, by simpa using e2⟩)]; exact vput (vput (vput h rfl) rfl) rfl)
         | (have e1 : s = 1 := by assumption
            have e2 : (l == 0) = false := by assumption
            subst e1
            rw [nx_armed l (by simpa using e2)]; exact vput (vput (vput h rfl) rfl) rfl)
         | (have e2 : (s == 2) = true := by assumption
            rw [nx_dead s l (Or.inl (by simpa using e2))]; exact vput (vput (vput h rfl) rfl) rfl)
         | (have e1 : ¬ s = 1 := by assumption
            have e2 : (s == 2) = false := by assumption
            have e3 : nx s l = 72 := by unfold nx; rw [if_neg (by simp at e2; omega), if_neg e1]
            rw [e3]; exact vput (vput (vput h rfl) rfl) rfl))


set_option maxHeartbeats 1000000 in
theorem burn_dead (b : Nat) (s l : Int) (w : World) (h : FZ w b s l) (hs : s = 2 ∨ (s = 1 ∧ l = 0)) :
    Calls Try.prog 34 #[.pointer (some ⟨b, 0, none⟩)] w fun e w' => e = .returned (.int .i64 10) ∧ FZ w' b 2 0 ∧ But b w w' := by
  unfold FZ at h
  rw [nx_dead s l hs] at h
  have hs' := Lib.hid hs
  clear hs
  have K : Calls Try.prog 70 #[.pointer (some ⟨b, 0, none⟩)] w fun e w' => e = .returned (.int .i64 10) ∧ FZ w' b 2 0 ∧ But b w w' := by
    go_enter Try.func70, Try.ntmps70
    go_wp2_with (go_at_call 51; (refine (set_c b 2 0 _ _ _ _ h).mono ?_); rintro e_ w1 ⟨rfl, hz, hb⟩)
    go_returns
    exact ⟨rfl, hz, hb⟩
  have HK := Lib.hid K
  clear K
  have hc := vcell h
  go_enter Try.func34, Try.ntmps34
  go_wp2_with fail
  refine HK.out.mono ?_
  rintro e_ w1 ⟨rfl, hz, hb⟩
  go_wp2
  go_returns
  exact ⟨rfl, hz, hb⟩

set_option maxHeartbeats 1000000 in
theorem burn_armed (b : Nat) (l : Int) (w : World) (h : FZ w b 1 l) (hl : 1 ≤ l) (hl2 : l ≤ 9223372036854775807) :
    Calls Try.prog 34 #[.pointer (some ⟨b, 0, none⟩)] w fun e w' => e = .returned (.int .i64 0) ∧ FZ w' b 1 (l - 1) ∧ But b w w' := by
  unfold FZ at h
  rw [nx_armed l (by omega)] at h
  have hc := vcell h
  have K : Calls Try.prog 71 #[.pointer (some ⟨b, 0, none⟩)] w fun e w' => e = .returned (.int .i64 0) ∧ FZ w' b 1 (l - 1) ∧ But b w w' := by
    go_enter Try.func71, Try.ntmps71
    go_wp2_with (go_at_call 51; (refine (set_c b 1 (l - 1) _ _ _ _ h).mono ?_); rintro e_ w1 ⟨rfl, hz, hb⟩)
    go_returns
    exact ⟨rfl, hz, hb⟩
  have HK := Lib.hid K
  clear K
  go_enter Try.func34, Try.ntmps34
  go_wp2_with fail
  refine HK.out.mono ?_
  rintro e_ w1 ⟨rfl, hz, hb⟩
  go_wp2
  go_returns
  exact ⟨rfl, hz, hb⟩

set_option maxHeartbeats 1000000 in
theorem burn_idle (b : Nat) (l : Int) (w : World) (h : FZ w b 0 l) :
    Calls Try.prog 34 #[.pointer (some ⟨b, 0, none⟩)] w fun e w' => e = .returned (.int .i64 0) ∧ w' = w := by
  unfold FZ at h
  rw [nx_idle l] at h
  have hc := vcell h
  have K : Calls Try.prog 72 #[.pointer (some ⟨b, 0, none⟩)] w fun e w' => e = .returned (.int .i64 0) ∧ w' = w := by
    go_enter Try.func72, Try.ntmps72
    go_wp2
    go_returns
    exact ⟨rfl, rfl⟩
  have HK := Lib.hid K
  clear K
  go_enter Try.func34, Try.ntmps34
  go_wp2_with fail
  refine HK.out.mono ?_
  rintro e_ w1 ⟨rfl, rfl⟩
  go_wp2
  go_returns
  exact ⟨rfl, rfl⟩

set_option maxHeartbeats 1000000 in
theorem burn_nil (w : World) : Calls Try.prog 34 #[.pointer none] w fun e w' => e = .returned (.int .i64 1) ∧ w' = w := by
  go_enter Try.func34, Try.ntmps34
  go_wp2
  go_returns
  exact ⟨rfl, rfl⟩

set_option maxHeartbeats 1000000 in
theorem new_c (w : World) : Calls Try.prog 12 #[] w fun e w' => ∃ b, e = .returned (.pointer (some ⟨b, 0, none⟩)) ∧ w.heap.size ≤ b ∧ FZ w' b 0 0 ∧ Below w.heap.size w w' := by
  go_enter Try.func12, Try.ntmps12
  go_wp2_with (go_at_call 51; (refine (set_c _ 0 0 _ _ _ _ vnew).mono ?_); rintro e_ w1 ⟨rfl, hz, hb⟩)
  go_returns
  exact ⟨_, rfl, Nat.le_refl _, hz, below_but (Below.alloc (Below.refl _ _) (Nat.le_refl _) _) hb (Nat.le_refl _) (Nat.le_refl _)⟩

set_option maxHeartbeats 1000000 in
theorem arm_c (b : Nat) (s l k : Int) (w : World) (h : FZ w b s l) (hs : s ≠ 2) (hk : 0 ≤ k) :
    Calls Try.prog 14 #[.pointer (some ⟨b, 0, none⟩), .int .i64 k] w fun e w' => e = .returned (.int .i64 0) ∧ FZ w' b 1 k ∧ But b w w' := by
  unfold FZ at h
  have hc := vcell h
  have HS := Lib.hid h
  clear h
  go_enter Try.func14, Try.ntmps14
  go_wp2_with (go_at_call 51; (refine (set_c _ 1 k _ _ _ _ HS.out).mono ?_); rintro e_ w1 ⟨rfl, hz, hb⟩)
  go_returns
  exact ⟨rfl, hz, hb⟩
set_option maxHeartbeats 1000000 in
theorem arm_no (b : Nat) (s l k : Int) (w : World) (h : FZ w b s l) (hs : k < 0 ∨ s = 2) :
    Calls Try.prog 14 #[.pointer (some ⟨b, 0, none⟩), .int .i64 k] w fun e w' => e = .returned (.int .i64 (if k < 0 then 3 else 7)) ∧ w' = w := by
  unfold FZ at h
  have hc := vcell h
  by_cases hk : k < 0
  · rw [if_pos hk]
    clear hs h
    go_enter Try.func14, Try.ntmps14
    go_wp2
    go_returns
    exact ⟨rfl, rfl⟩
  · rw [if_neg hk]
    obtain rfl : s = 2 := by omega
    clear hs h
    go_enter Try.func14, Try.ntmps14
    go_wp2
    go_returns
    exact ⟨rfl, rfl⟩
set_option maxHeartbeats 1000000 in
theorem arm_nil (k : Int) (w : World) : Calls Try.prog 14 #[.pointer none, .int .i64 k] w fun e w' => e = .returned (.int .i64 1) ∧ w' = w := by
  go_enter Try.func14, Try.ntmps14
  go_wp2
  go_returns
  exact ⟨rfl, rfl⟩

set_option maxHeartbeats 1000000 in
theorem blown_c (b : Nat) (s l : Int) (w : World) (h : FZ w b s l) :
    Calls Try.prog 27 #[.pointer (some ⟨b, 0, none⟩)] w fun e w' => e = .returned (.bool (s == 2)) ∧ w' = w := by
  unfold FZ at h
  have hc := vcell h
  clear h
  go_enter Try.func27, Try.ntmps27
  go_wp2
  go_returns
  exact ⟨rfl, rfl⟩
set_option maxHeartbeats 1000000 in
theorem blown_nil (w : World) :
    Calls Try.prog 27 #[.pointer none] w fun e w' => e = .returned (.bool false) ∧ w' = w := by
  go_enter Try.func27, Try.ntmps27
  go_wp2
  go_returns
  exact ⟨rfl, rfl⟩

set_option maxHeartbeats 1000000 in
theorem reset_c (b : Nat) (s l : Int) (w : World) (h : FZ w b s l) :
    Calls Try.prog 22 #[.pointer (some ⟨b, 0, none⟩)] w fun e w' => e = .returned (.tuple #[]) ∧ FZ w' b 0 0 ∧ But b w w' := by
  unfold FZ at h
  go_enter Try.func22, Try.ntmps22
  go_wp2_with (go_at_call 51; (refine (set_c _ 0 0 _ _ _ _ h).mono ?_); rintro e_ w1 ⟨rfl, hz, hb⟩)
  go_returns
  exact ⟨rfl, hz, hb⟩
set_option maxHeartbeats 1000000 in
theorem reset_nil (w : World) :
    Calls Try.prog 22 #[.pointer none] w fun e w' => e = .returned (.tuple #[]) ∧ w' = w := by
  go_enter Try.func22, Try.ntmps22
  go_wp2
  go_returns
  exact ⟨rfl, rfl⟩
theorem FZ.b {w w' : World} {b : Nat} {s l : Int} (h : FZ w b s l) (k : Below w.heap.size w w') : FZ w' b s l := vbelow h k
theorem FZ.o {w w' : World} {b c : Nat} {s l : Int} (h : FZ w c s l) (k : But b w w') (n : c ≠ b) : FZ w' c s l := k.at n h
theorem FZ.lt {w : World} {b : Nat} {s l : Int} (h : FZ w b s l) : b < w.heap.size := vlt h
end Go.Proofs.Ytecneikblkjgoaa
