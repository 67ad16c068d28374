/- The reference's fuse beside the program's: one step of both. -/
import Derived.Test.YtecneikblkjgoaaBase
import Derived.Test.YtecneikblkjgoaaBut
import Derived.Test.YtecneikblkjgoaaFuse
import Derived.Test.YtecneikblkjgoaaProg
import Derived.Lib.Hide
namespace Go.Proofs.Ytecneikblkjgoaa
open Go.RowKit
set_option linter.unusedSimpArgs false
set_option linter.unusedVariables false

/-- Block b is a reference's fuse. -/
def RZ (w : World) (b : Nat) (ar de : Bool) (le : Int) : Prop := w.heap[b]? = some (.cells #[.bool ar, .bool de, .int .i64 le] 40 (0, 0))
/-- The state of both. -/
def Rl (s l : Int) (ar : Bool) (le : Int) : Prop := (s = 0 ∧ ar = false) ∨ (s = 1 ∧ ar = true ∧ le = l ∧ 0 ≤ l ∧ l ≤ 9223372036854775807) ∨ s = 2
def buE (s l : Int) : Int := if s = 2 ∨ (s = 1 ∧ l = 0) then 10 else 0
def buS (s l : Int) : Int := if s = 2 ∨ (s = 1 ∧ l = 0) then 2 else s
def buL (s l : Int) : Int := if s = 2 ∨ (s = 1 ∧ l = 0) then 0 else if s = 1 then l - 1 else l
def arE (s k : Int) : Int := if k < 0 then 3 else if s = 2 then 7 else 0
def arS (s k : Int) : Int := if k < 0 ∨ s = 2 then s else 1
def arL (s l k : Int) : Int := if k < 0 ∨ s = 2 then l else k

/-- Block b is a reference's fuse in the state of a fuse that is in state s with l left. -/
def RF (w : World) (b : Nat) (s l : Int) : Prop := ∃ ar le, RZ w b ar (s == 2) le ∧ Rl s l ar le

theorem burn_t (b : Nat) (s l : Int) (ar : Bool) (le : Int) (w : World) (h : FZ w b s l) (r : Rl s l ar le) :
    Calls Try.prog 34 #[.pointer (some ⟨b, 0, none⟩)] w fun e w' => e = .returned (.int .i64 (buE s l)) ∧ FZ w' b (buS s l) (buL s l) ∧ But b w w' := by
  unfold buE buS buL
  by_cases hd : s = 2 ∨ (s = 1 ∧ l = 0)
  · rw [if_pos hd, if_pos hd, if_pos hd]; exact burn_dead b s l w h hd
  · rw [if_neg hd, if_neg hd, if_neg hd]
    rcases r with ⟨rfl, -⟩ | ⟨rfl, -, -, r1, r2⟩ | rfl
    · exact (burn_idle b l w h).mono fun e w' ⟨h1, h2⟩ => by subst h2; exact ⟨h1, h, But.refl _ _⟩
    · rw [if_pos rfl]; exact burn_armed b l w h (by omega) r2
    · exact absurd (Or.inl rfl) hd
theorem arm_t (b : Nat) (s l k : Int) (w : World) (h : FZ w b s l) :
    Calls Try.prog 14 #[.pointer (some ⟨b, 0, none⟩), .int .i64 k] w fun e w' => e = .returned (.int .i64 (arE s k)) ∧ FZ w' b (arS s k) (arL s l k) ∧ But b w w' := by
  unfold arE arS arL
  by_cases hd : k < 0 ∨ s = 2
  · rw [if_pos hd, if_pos hd]
    exact (arm_no b s l k w h hd).mono fun e w' ⟨h1, h2⟩ => by
      subst h2; refine ⟨?_, h, But.refl _ _⟩
      by_cases hk : k < 0
      · rw [if_pos hk] at h1; rw [if_pos hk]; exact h1
      · rw [if_neg hk] at h1; rw [if_neg hk, if_pos (by omega)]; exact h1
  · rw [if_neg hd, if_neg hd, if_neg (by omega), if_neg (by omega)]; exact arm_c b s l k w h (by omega) (by omega)

set_option maxHeartbeats 1000000 in
theorem rburn_t (b : Nat) (s l : Int) (ar : Bool) (le : Int) (w : World) (h : RZ w b ar (s == 2) le) (r : Rl s l ar le) :
    Calls Try.prog 54 #[.pointer (some ⟨b, 0, none⟩)] w fun e w' => e = .returned (.int .i64 (buE s l)) ∧ RF w' b (buS s l) (buL s l) ∧ But b w w' := by
  unfold RZ at *
  rcases r with ⟨rfl, rfl⟩ | ⟨rfl, rfl, rfl, r1, r2⟩ | rfl
  · have hc := vcell h
    go_enter Try.func54, Try.ntmps54
    go_wp2
    go_returns
    exact ⟨rfl, ⟨_, _, h, Or.inl ⟨rfl, rfl⟩⟩, But.refl _ _⟩
  · have hc := vcell h
    have hf := vfree h
    by_cases h0 : le = 0
    · subst h0
      go_enter Try.func54, Try.ntmps54
      go_wp2
      go_returns
      exact ⟨rfl, ⟨true, 0, vput h rfl, Or.inr (Or.inr rfl)⟩, But.setc (But.refl _ _)⟩
    · have h1 : 1 ≤ le := by omega
      have e0 : (le == 0) = false := by simpa using h0
      have n0 : ¬ ((1 : Int) = 2 ∨ (1 : Int) = 1 ∧ le = 0) := by omega
      have e1 : buE 1 le = 0 := by unfold buE; rw [if_neg n0]
      have e2 : buS 1 le = 1 := by unfold buS; rw [if_neg n0]
      have e3 : buL 1 le = le - 1 := by unfold buL; rw [if_neg n0, if_pos rfl]
      rw [e1, e2, e3]
      clear n0 e1 e2 e3
      go_enter Try.func54, Try.ntmps54
      go_wp2
      go_returns
      exact ⟨rfl, ⟨true, le - 1, vput h rfl, Or.inr (Or.inl ⟨rfl, rfl, rfl, by omega, by omega⟩)⟩, But.setc (But.refl _ _)⟩
  · have hc := vcell h
    go_enter Try.func54, Try.ntmps54
    go_wp2
    go_returns
    exact ⟨rfl, ⟨_, _, h, Or.inr (Or.inr rfl)⟩, But.refl _ _⟩
set_option maxHeartbeats 1000000 in
theorem rarm_t (b : Nat) (s l k : Int) (ar : Bool) (le : Int) (w : World) (h : RZ w b ar (s == 2) le) (r : Rl s l ar le) (hk : k ≤ 9223372036854775807) :
    Calls Try.prog 24 #[.pointer (some ⟨b, 0, none⟩), .int .i64 k] w fun e w' => e = .returned (.int .i64 (arE s k)) ∧ RF w' b (arS s k) (arL s l k) ∧ But b w w' := by
  unfold RZ at *
  by_cases h0 : k < 0
  · have e1 : arE s k = 3 := by unfold arE; rw [if_pos h0]
    have e2 : arS s k = s := by unfold arS; rw [if_pos (Or.inl h0)]
    have e3 : arL s l k = l := by unfold arL; rw [if_pos (Or.inl h0)]
    rw [e1, e2, e3]
    clear e1 e2 e3 hk
    have R := Lib.hid r
    clear r
    go_enter Try.func24, Try.ntmps24
    go_wp2
    go_returns
    exact ⟨rfl, ⟨_, _, h, R.out⟩, But.refl _ _⟩
  · by_cases h2 : s = 2
    · subst h2
      have e1 : arE 2 k = 7 := by unfold arE; rw [if_neg h0, if_pos rfl]
      have e2 : arS 2 k = 2 := by unfold arS; rw [if_pos (Or.inr rfl)]
      have e3 : arL 2 l k = l := by unfold arL; rw [if_pos (Or.inr rfl)]
      rw [e1, e2, e3]
      clear e1 e2 e3 hk r
      have hc := vcell h
      go_enter Try.func24, Try.ntmps24
      go_wp2
      go_returns
      exact ⟨rfl, ⟨_, _, h, Or.inr (Or.inr rfl)⟩, But.refl _ _⟩
    · have e1 : arE s k = 0 := by unfold arE; rw [if_neg h0, if_neg h2]
      have e2 : arS s k = 1 := by unfold arS; rw [if_neg (by omega)]
      have e3 : arL s l k = k := by unfold arL; rw [if_neg (by omega)]
      have e4 : (s == 2) = false := by simpa using h2
      rw [e1, e2, e3]
      rw [e4] at h
      clear e1 e2 e3 e4 r h2
      have hc := vcell h
      have hf := vfree h
      have hk2 := Lib.hid hk
      clear hk
      go_enter Try.func24, Try.ntmps24
      go_wp2
      go_returns
      exact ⟨rfl, ⟨true, k, vput (vput h rfl) rfl, Or.inr (Or.inl ⟨rfl, rfl, rfl, by omega, hk2.out⟩)⟩, But.setc (But.setc (But.refl _ _))⟩
set_option maxHeartbeats 1000000 in
theorem rreset_t (b : Nat) (ar de : Bool) (le : Int) (w : World) (h : RZ w b ar de le) :
    Calls Try.prog 23 #[.pointer (some ⟨b, 0, none⟩)] w fun e w' => e = .returned (.tuple #[]) ∧ RZ w' b false false 0 ∧ But b w w' := by
  unfold RZ at *
  have hc := vcell h
  have hf := vfree h
  go_enter Try.func23, Try.ntmps23
  go_wp2
  go_returns
  exact ⟨rfl, vput (vput (vput h rfl) rfl) rfl, But.setc (But.setc (But.setc (But.refl _ _)))⟩
theorem RF.b {w w' : World} {b : Nat} {s l : Int} (h : RF w b s l) (k : Below w.heap.size w w') : RF w' b s l := by
  obtain ⟨ar, le, h, r⟩ := h; exact ⟨ar, le, vbelow h k, r⟩
theorem RF.o {w w' : World} {b c : Nat} {s l : Int} (h : RF w c s l) (k : But b w w') (n : c ≠ b) : RF w' c s l := by
  obtain ⟨ar, le, h, r⟩ := h; exact ⟨ar, le, k.at n h, r⟩
theorem RF.d {w : World} {b : Nat} {s l : Int} (h : RF w b s l) : RF w.drew b s l := by
  obtain ⟨ar, le, h, r⟩ := h; exact ⟨ar, le, vdrew h, r⟩
theorem RF.lt {w : World} {b : Nat} {s l : Int} (h : RF w b s l) : b < w.heap.size := by
  obtain ⟨ar, le, h, r⟩ := h; exact vlt h
theorem rburn_f (b : Nat) (s l : Int) (w : World) (h : RF w b s l) :
    Calls Try.prog 54 #[.pointer (some ⟨b, 0, none⟩)] w fun e w' => e = .returned (.int .i64 (buE s l)) ∧ RF w' b (buS s l) (buL s l) ∧ But b w w' := by
  obtain ⟨ar, le, h, r⟩ := h; exact rburn_t b s l ar le w h r
theorem burn_f (b c : Nat) (s l : Int) (w w0 : World) (h : FZ w b s l) (r : RF w0 c s l) :
    Calls Try.prog 34 #[.pointer (some ⟨b, 0, none⟩)] w fun e w' => e = .returned (.int .i64 (buE s l)) ∧ FZ w' b (buS s l) (buL s l) ∧ But b w w' := by
  obtain ⟨ar, le, -, r⟩ := r; exact burn_t b s l ar le w h r
theorem rarm_f (b : Nat) (s l k : Int) (w : World) (h : RF w b s l) (hk : k ≤ 9223372036854775807) :
    Calls Try.prog 24 #[.pointer (some ⟨b, 0, none⟩), .int .i64 k] w fun e w' => e = .returned (.int .i64 (arE s k)) ∧ RF w' b (arS s k) (arL s l k) ∧ But b w w' := by
  obtain ⟨ar, le, h, r⟩ := h; exact rarm_t b s l k ar le w h r hk
theorem rreset_f (b : Nat) (s l : Int) (w : World) (h : RF w b s l) :
    Calls Try.prog 23 #[.pointer (some ⟨b, 0, none⟩)] w fun e w' => e = .returned (.tuple #[]) ∧ RF w' b 0 0 ∧ But b w w' := by
  obtain ⟨ar, le, h, r⟩ := h; exact (rreset_t b ar _ le w h).mono fun e w' ⟨h1, h2, h3⟩ => ⟨h1, ⟨false, 0, h2, Or.inl ⟨rfl, rfl⟩⟩, h3⟩
end Go.Proofs.Ytecneikblkjgoaa
