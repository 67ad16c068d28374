/- The contracts of the functions of res and of its reference. -/
import Derived.Test.YtcdlfnoagghpmaaBase
import Derived.Test.YtcdlfnoagghpmaaProg
import Derived.Lib.Hide
namespace Go.Proofs.Ytcdlfnoagghpmaa
open Go.RowKit
set_option linter.unusedSimpArgs false
set_option linter.unusedVariables false

def okI (a : Int) : Bool := decide (0 ≤ a) && decide (a ≤ 1099511627776)
def okR (a b c : Int) : Bool := okI a && okI b && okI c
def errI (b : Bool) : Int := if b then 0 else 3

theorem okR_iff (a b c : Int) : okR a b c = true ↔ (0 ≤ a ∧ a ≤ 1099511627776) ∧ (0 ≤ b ∧ b ≤ 1099511627776) ∧ (0 ≤ c ∧ c ≤ 1099511627776) := by
  simp [okR, okI, and_assoc]
theorem errI_ok {a b c : Int} (h : (0 ≤ a ∧ a ≤ 1099511627776) ∧ (0 ≤ b ∧ b ≤ 1099511627776) ∧ (0 ≤ c ∧ c ≤ 1099511627776)) : errI (okR a b c) = 0 := by
  rw [(okR_iff a b c).2 h]; rfl
theorem errI_no {a b c : Int} (h : ¬ ((0 ≤ a ∧ a ≤ 1099511627776) ∧ (0 ≤ b ∧ b ≤ 1099511627776) ∧ (0 ≤ c ∧ c ≤ 1099511627776))) : errI (okR a b c) = 3 := by
  have : okR a b c = false := by rw [← Bool.not_eq_true, okR_iff]; exact h
  rw [this]; rfl

set_option maxHeartbeats 400000 in
theorem amounts_c (a b c : Int) (w : World) : Calls Try.prog 32 #[.agg #[.int .i64 a, .int .i64 b, .int .i64 c]] w fun e w' =>
    e = .returned (.agg #[.int .i64 a, .int .i64 b, .int .i64 c]) ∧ Below w.heap.size w w' := by
  go_enter Try.func32, Try.ntmps32
  go_wp2
  go_returns
  exact ⟨rfl, by go_grown⟩

set_option maxHeartbeats 400000 in
theorem back_c (a b c : Int) (w : World) : Calls Try.prog 34 #[.agg #[.int .i64 a, .int .i64 b, .int .i64 c]] w fun e w' =>
    e = .returned (.agg #[.int .i64 a, .int .i64 b, .int .i64 c]) ∧ Below w.heap.size w w' := by
  go_enter Try.func34, Try.ntmps34
  go_wp2
  go_returns
  exact ⟨rfl, by go_grown⟩

theorem index_a3 (a b c : Int) : (∀ w, (Instr.index 46 (.agg #[.int .i64 a, .int .i64 b, .int .i64 c]) (.int .i64 0)).run Try.prog w = .ok (.int .i64 a) w) ∧
  (∀ w, (Instr.index 46 (.agg #[.int .i64 a, .int .i64 b, .int .i64 c]) (.int .i64 1)).run Try.prog w = .ok (.int .i64 b) w) ∧
  (∀ w, (Instr.index 46 (.agg #[.int .i64 a, .int .i64 b, .int .i64 c]) (.int .i64 2)).run Try.prog w = .ok (.int .i64 c) w) :=
  ⟨fun _ => by kernel_rfl, fun _ => by kernel_rfl, fun _ => by kernel_rfl⟩

set_option maxHeartbeats 400000 in
theorem check_c (a b c : Int) (w : World) : Calls Try.prog 22 #[.agg #[.int .i64 a, .int .i64 b, .int .i64 c]] w fun e w' =>
    e = .returned (.int .i64 (errI (okR a b c))) ∧ Below w.heap.size w w' := by
  obtain ⟨i0, i1, i2⟩ := index_a3 a b c
  go_enter Try.func22, Try.ntmps22
  go_wp2_with (go_at_call 32; refine (amounts_c _ _ _ _).mono ?_; rintro e w1 ⟨rfl, hb⟩)
  go_rounds 4
  all_goals go_returns
  all_goals refine ⟨ret_int ?_, below_then (below_alloc (Below.refl _ _) _) hb⟩
  all_goals first | (rw [errI_ok (by omega)]; done) | (rw [errI_no (by omega)]; done)

set_option maxHeartbeats 400000 in
theorem ramounts_c (a b c : Int) (w : World) : Calls Try.prog 33 #[.agg #[.int .i64 a, .int .i64 b, .int .i64 c]] w fun e w' =>
    e = .returned (.slice (some ⟨w.heap.size + 1, 0, none⟩) 3 3) ∧ w' = (w.alloc (.cells #[.int .i64 a, .int .i64 b, .int .i64 c] 37)).alloc (.cells #[.int .i64 a, .int .i64 b, .int .i64 c] 3) := by
  go_enter Try.func33, Try.ntmps33
  go_wp2
  go_returns
  exact ⟨rfl, rfl⟩

set_option maxHeartbeats 400000 in
theorem rcheck_c (a b c : Int) (w : World) : Calls Try.prog 23 #[.agg #[.int .i64 a, .int .i64 b, .int .i64 c]] w fun e w' =>
    e = .returned (.int .i64 (errI (okR a b c))) ∧ Below w.heap.size w w' := by
  go_enter Try.func23, Try.ntmps23
  go_wp2_with (go_at_call 33; refine (ramounts_c _ _ _ _).mono ?_; rintro e w1 ⟨rfl, rfl⟩)
  go_rounds 4
  all_goals go_returns
  all_goals refine ⟨ret_int ?_, by go_grown⟩
  all_goals first | (rw [errI_ok (by omega)]; done) | (rw [errI_no (by omega)]; done)

def fitsB (a b c x y z : Int) : Bool := decide (a ≤ x) && decide (b ≤ y) && decide (c ≤ z)
theorem fitsB_iff (a b c x y z : Int) : fitsB a b c x y z = true ↔ a ≤ x ∧ b ≤ y ∧ c ≤ z := by simp [fitsB, and_assoc]
theorem fitsB_no {a b c x y z : Int} (h : ¬ (a ≤ x ∧ b ≤ y ∧ c ≤ z)) : fitsB a b c x y z = false := by
  rw [← Bool.not_eq_true, fitsB_iff]; exact h

set_option maxHeartbeats 400000 in
theorem fits_c (a b c x y z : Int) (w : World) : Calls Try.prog 24 #[.agg #[.int .i64 a, .int .i64 b, .int .i64 c], .agg #[.int .i64 x, .int .i64 y, .int .i64 z]] w fun e w' =>
    e = .returned (.bool (fitsB a b c x y z)) ∧ Below w.heap.size w w' := by
  obtain ⟨i0, i1, i2⟩ := index_a3 a b c
  go_enter Try.func24, Try.ntmps24
  go_wp2_with fail
  refine (amounts_c _ _ _ _).mono ?_
  rintro e_w1 w1 ⟨rfl, hbw1⟩
  obtain ⟨hcw1, hfw1⟩ := bcell hbw1
  have hBw1 : Below w.heap.size w w1 := below_then (by go_grown) hbw1
  have hzw1_0 : w.heap.size < w1.heap.size := by have hq := hbw1.size; (try simp at hq); omega
  have hzw1_1 : w.heap.size + 1 < w1.heap.size := by have hq := hbw1.size; (try simp at hq); omega
  go_wp2_with fail
  refine (amounts_c _ _ _ _).mono ?_
  rintro e_w2 w2 ⟨rfl, hbw2⟩
  obtain ⟨hcw2, hfw2⟩ := bcell hbw2
  have hBw2 : Below w.heap.size w w2 := below_then (by go_grown) hbw2
  have hzw2_0 : w.heap.size < w2.heap.size := by have hq := hbw2.size; (try simp at hq); omega
  have hzw2_1 : w.heap.size + 1 < w2.heap.size := by have hq := hbw2.size; (try simp at hq); omega
  have hzw2_2 : w1.heap.size < w2.heap.size := by have hq := hbw2.size; (try simp at hq); omega
  go_wp2
  go_rounds 4
  all_goals go_returns
  all_goals refine ⟨ret_bool ?_, hBw2⟩
  all_goals first | (rw [(fitsB_iff _ _ _ _ _ _).2 (by omega)]; done) | (rw [fitsB_no (by omega)]; done)

set_option maxHeartbeats 400000 in
theorem rfits_c (a b c x y z : Int) (w : World) : Calls Try.prog 25 #[.agg #[.int .i64 a, .int .i64 b, .int .i64 c], .agg #[.int .i64 x, .int .i64 y, .int .i64 z]] w fun e w' =>
    e = .returned (.bool (fitsB a b c x y z)) ∧ Below w.heap.size w w' := by
  go_enter Try.func25, Try.ntmps25
  go_wp2
  all_goals go_returns
  all_goals refine ⟨ret_bool ?_, by go_grown⟩
  all_goals (simp [fitsB]; omega)

structure R3 where
  (c m d : Int)
def rdR (l : List R3) (k : Nat) : R3 := l.getD k ⟨0, 0, 0⟩
def okR3 (r : R3) : Bool := okR r.c r.m r.d
def addR (a b : R3) : R3 := ⟨a.c + b.c, a.m + b.m, a.d + b.d⟩
/-- The sum of a list of amounts, on top of one that is valid; false: it is too great. -/
def sumF : R3 → List R3 → R3 × Bool
  | acc, [] => (acc, true)
  | acc, r :: rs => if okR3 r = true ∧ okR3 (addR acc r) = true then sumF (addR acc r) rs else (⟨0, 0, 0⟩, false)
/-- A list of amounts that lies in memory. -/
def RowR (W : World) (A : Option Addr) (l : List R3) : Prop := l = [] ∨ ∃ b off, A = some ⟨b, off, none⟩ ∧ b < W.heap.size ∧
  ∀ k, k < l.length → W.cell? ⟨b, off + k * 3, none⟩ = some (.int .i64 (rdR l k).c) ∧ W.cell? ⟨b, off + k * 3 + 1, none⟩ = some (.int .i64 (rdR l k).m) ∧ W.cell? ⟨b, off + k * 3 + 2, none⟩ = some (.int .i64 (rdR l k).d)

theorem sumF_step {acc : R3} {l : List R3} {k : Nat} (hk : k < l.length) : sumF acc (l.drop k) = if okR3 (rdR l k) = true ∧ okR3 (addR acc (rdR l k)) = true then sumF (addR acc (rdR l k)) (l.drop (k + 1)) else (⟨0, 0, 0⟩, false) := by
  rw [List.drop_eq_getElem_cons hk]
  have : rdR l k = l[k] := by simp [rdR, hk]
  rw [this]
  rfl

set_option maxHeartbeats 1000000 in
theorem sum_c (A : Option Addr) (l : List R3) (cap : Nat) (w : World) (hr : RowR w A l) (hl : l.length * 24 ≤ 140737488355328) : Calls Try.prog 29 #[.slice A l.length cap] w fun e w' =>
    e = .returned (.tuple #[.agg #[.int .i64 (sumF ⟨0, 0, 0⟩ l).1.c, .int .i64 (sumF ⟨0, 0, 0⟩ l).1.m, .int .i64 (sumF ⟨0, 0, 0⟩ l).1.d], .bool (sumF ⟨0, 0, 0⟩ l).2]) ∧ Below w.heap.size w w' := by
  have i3 := fun r : R3 => index_a3 r.c r.m r.d
  go_enter Try.func29, Try.ntmps29
  go_wp2
  go_loopw [11] (fun i wr => ∃ (k : Nat) (acc : R3), k ≤ l.length ∧ i = .int .i64 k ∧ okR3 acc = true ∧ sumF ⟨0, 0, 0⟩ l = sumF acc (l.drop k) ∧
      wr.heap[w.heap.size]? = some (.cells #[.int .i64 0, .int .i64 0, .int .i64 0] 37 (0, 0)) ∧ wr.heap[w.heap.size + 1]? = some (.cells #[.int .i64 acc.c, .int .i64 acc.m, .int .i64 acc.d] 46 (0, 0)) ∧ Below w.heap.size w wr)
    (fun i _ => l.length - (intOf i).toNat)
  case atStart => exact ⟨0, ⟨0, 0, 0⟩, by omega, rfl, by decide, rfl, valloc vnew, by simpa using vnew (W := w.alloc _), by go_grown⟩
  case round =>
    obtain ⟨k, acc, hk, rfl, hok, hsum, hB0, hB1, hbel⟩ := hrel
    have HS := Lib.hid hsum
    clear hsum
    have hs0 := vlt hB0
    have hs1 := vlt hB1
    have hc0 := vcell hB0
    have hf0 := vfree hB0
    have hc1 := vcell hB1
    have hf1 := vfree hB1
    by_cases hlt : k < l.length
    · obtain ⟨b, off, rfl, hb, hcells⟩ : ∃ b off, A = some ⟨b, off, none⟩ ∧ b < w.heap.size ∧ _ := hr.resolve_left (by rintro rfl; simp at hlt)
      obtain ⟨x0, x1, x2⟩ := hcells k hlt
      clear hcells
      have y0 : wr.cell? ⟨b, off + k * 3, none⟩ = some (.int .i64 (rdR l k).c) := (hbel.cell hb).trans x0
      have y1 : wr.cell? ⟨b, off + k * 3 + 1, none⟩ = some (.int .i64 (rdR l k).m) := (hbel.cell hb).trans x1
      have y2 : wr.cell? ⟨b, off + k * 3 + 2, none⟩ = some (.int .i64 (rdR l k).d) := (hbel.cell hb).trans x2
      generalize hrd : rdR l k = r at *
      have HR := Lib.hid hrd
      clear hrd
      by_cases hrk : okR r.c r.m r.d = true
      · have he : errI (okR r.c r.m r.d) = 0 := by rw [hrk]; rfl
        have hrk' := (okR_iff _ _ _).1 hrk
        have hok' := (okR_iff _ _ _).1 hok
        go_wp2_with fail
        refine (check_c _ _ _ _).mono ?_
        rintro e_w1 w1 ⟨rfl, hbw1⟩
        obtain ⟨hcw1, hfw1⟩ := bcell hbw1
        have hBw1 : Below w.heap.size w w1 := below_then (by go_grown) hbw1
        have hzw1_0 : wr.heap.size < w1.heap.size := by have hq := hbw1.size; (try simp at hq); omega
        have hB0a := vbelow (valloc hB0) hbw1
        have hchB0a := vcell hB0a
        have hfhB0a := vfree hB0a
        have hshB0a := vlt hB0a
        have hB1a := vbelow (valloc hB1) hbw1
        have hchB1a := vcell hB1a
        have hfhB1a := vfree hB1a
        have hshB1a := vlt hB1a
        go_wp2_with fail
        refine (amounts_c _ _ _ _).mono ?_
        rintro e_w2 w2 ⟨rfl, hbw2⟩
        obtain ⟨hcw2, hfw2⟩ := bcell hbw2
        have hBw2 : Below w.heap.size w w2 := below_then (by go_grown) hbw2
        have hzw2_0 : wr.heap.size < w2.heap.size := by have hq := hbw2.size; (try simp at hq); omega
        have hB0b := vbelow (hB0a) hbw2
        have hchB0b := vcell hB0b
        have hfhB0b := vfree hB0b
        have hshB0b := vlt hB0b
        have hB1b := vbelow (hB1a) hbw2
        have hchB1b := vcell hB1b
        have hfhB1b := vfree hB1b
        have hshB1b := vlt hB1b
        obtain ⟨i0, i1, i2⟩ := i3 r
        go_wp2
        refine wp_loop_rounds 4 ?_
        repeat any_goals (rw [rounds_succ]; go_wp2_with fail)
        have hB0c : (((w2.setCell ⟨w.heap.size + 1, 0, none⟩ (.int .i64 (acc.c + r.c))).setCell ⟨w.heap.size + 1, 1, none⟩ (.int .i64 (acc.m + r.m))).setCell ⟨w.heap.size + 1, 2, none⟩ (.int .i64 (acc.d + r.d))).heap[w.heap.size]? = some _ := vfar (vfar (vfar hB0b (by simp)) (by simp)) (by simp)
        have hB1c : (((w2.setCell ⟨w.heap.size + 1, 0, none⟩ (.int .i64 (acc.c + r.c))).setCell ⟨w.heap.size + 1, 1, none⟩ (.int .i64 (acc.m + r.m))).setCell ⟨w.heap.size + 1, 2, none⟩ (.int .i64 (acc.d + r.d))).heap[w.heap.size + 1]? = some _ := vput (vput (vput hB1b rfl) rfl) rfl
        refine (back_c _ _ _ _).mono ?_
        rintro e_w3 w3 ⟨rfl, hbw3⟩
        obtain ⟨hcw3, hfw3⟩ := bcell hbw3
        have hBw3 : Below w.heap.size w w3 := below_then (by go_grown) hbw3
        have hzw3_0 : wr.heap.size < w3.heap.size := by have hq := hbw3.size; (try simp at hq); omega
        have hB0d := vbelow (hB0c) hbw3
        have hchB0d := vcell hB0d
        have hfhB0d := vfree hB0d
        have hshB0d := vlt hB0d
        have hB1d := vbelow (hB1c) hbw3
        have hchB1d := vcell hB1d
        have hfhB1d := vfree hB1d
        have hshB1d := vlt hB1d
        by_cases hsk : okR (acc.c + r.c) (acc.m + r.m) (acc.d + r.d) = true
        · have he2 : errI (okR (acc.c + r.c) (acc.m + r.m) (acc.d + r.d)) = 0 := by rw [hsk]; rfl
          go_wp2_with fail
          refine (check_c _ _ _ _).mono ?_
          rintro e_w4 w4 ⟨rfl, hbw4⟩
          obtain ⟨hcw4, hfw4⟩ := bcell hbw4
          have hBw4 : Below w.heap.size w w4 := below_then (by go_grown) hbw4
          have hzw4_0 : wr.heap.size < w4.heap.size := by have hq := hbw4.size; (try simp at hq); omega
          have hB0e := vbelow (hB0d) hbw4
          have hchB0e := vcell hB0e
          have hfhB0e := vfree hB0e
          have hshB0e := vlt hB0e
          have hB1e := vbelow (hB1d) hbw4
          have hchB1e := vcell hB1e
          have hfhB1e := vfree hB1e
          have hshB1e := vlt hB1e
          go_wp2
          go_roundw
          case rel => exact ⟨k + 1, addR acc r, by omega, by go_num, hsk, by rw [HS.out, sumF_step hlt, HR.out, if_pos ⟨hrk, hsk⟩], hB0e, hB1e, hBw4⟩
          case measure => simp [intOf]; omega
        · have he2 : errI (okR (acc.c + r.c) (acc.m + r.m) (acc.d + r.d)) = 3 := by rw [Bool.not_eq_true] at hsk; rw [hsk]; rfl
          go_wp2_with fail
          refine (check_c _ _ _ _).mono ?_
          rintro e_w4 w4 ⟨rfl, hbw4⟩
          obtain ⟨hcw4, hfw4⟩ := bcell hbw4
          have hBw4 : Below w.heap.size w w4 := below_then (by go_grown) hbw4
          have hzw4_0 : wr.heap.size < w4.heap.size := by have hq := hbw4.size; (try simp at hq); omega
          have hB0e := vbelow (hB0d) hbw4
          have hchB0e := vcell hB0e
          have hfhB0e := vfree hB0e
          have hshB0e := vlt hB0e
          have hB1e := vbelow (hB1d) hbw4
          have hchB1e := vcell hB1e
          have hfhB1e := vfree hB1e
          have hshB1e := vlt hB1e
          go_wp2
          refine bodyPost_ret (v := .tuple #[.agg #[.int .i64 0, .int .i64 0, .int .i64 0], .bool false]) (by simp [results, Try.results29, go_sem, hchB0e, hfhB0e]) rfl ?_
          refine ⟨?_, by go_grown⟩
          rw [HS.out, sumF_step hlt, HR.out, if_neg (fun h => hsk h.2)]
      · have he : errI (okR r.c r.m r.d) = 3 := by rw [Bool.not_eq_true] at hrk; rw [hrk]; rfl
        go_wp2_with fail
        refine (check_c _ _ _ _).mono ?_
        rintro e_w1 w1 ⟨rfl, hbw1⟩
        obtain ⟨hcw1, hfw1⟩ := bcell hbw1
        have hBw1 : Below w.heap.size w w1 := below_then (by go_grown) hbw1
        have hzw1_0 : wr.heap.size < w1.heap.size := by have hq := hbw1.size; (try simp at hq); omega
        have hB0a := vbelow (valloc hB0) hbw1
        have hchB0a := vcell hB0a
        have hfhB0a := vfree hB0a
        have hshB0a := vlt hB0a
        have hB1a := vbelow (valloc hB1) hbw1
        have hchB1a := vcell hB1a
        have hfhB1a := vfree hB1a
        have hshB1a := vlt hB1a
        go_wp2
        refine bodyPost_ret (v := .tuple #[.agg #[.int .i64 0, .int .i64 0, .int .i64 0], .bool false]) (by simp [results, Try.results29, go_sem, hchB0a, hfhB0a]) rfl ?_
        refine ⟨?_, by go_grown⟩
        rw [HS.out, sumF_step hlt, HR.out, if_neg (fun h => hrk h.1)]
    · go_wp2_with fail
      refine (back_c _ _ _ _).mono ?_
      rintro e_w1 w1 ⟨rfl, hbw1⟩
      obtain ⟨hcw1, hfw1⟩ := bcell hbw1
      have hBw1 : Below w.heap.size w w1 := below_then (by go_grown) hbw1
      have hB0a := vbelow (hB0) hbw1
      have hchB0a := vcell hB0a
      have hfhB0a := vfree hB0a
      have hshB0a := vlt hB0a
      have hB1a := vbelow (hB1) hbw1
      have hchB1a := vcell hB1a
      have hfhB1a := vfree hB1a
      have hshB1a := vlt hB1a
      go_wp2
      refine bodyPost_ret (v := .tuple #[.agg #[.int .i64 acc.c, .int .i64 acc.m, .int .i64 acc.d], .bool true]) (by simp [results, Try.results29, go_sem, hchB0a, hfhB0a]) rfl ?_
      refine ⟨?_, by go_grown⟩
      rw [HS.out, List.drop_eq_nil_of_le (by omega)]
      rfl

def add2 (a b : R3) : R3 × Bool := sumF ⟨0, 0, 0⟩ [a, b]

set_option maxHeartbeats 400000 in
theorem add_c (a b c x y z : Int) (w : World) : Calls Try.prog 20 #[.agg #[.int .i64 a, .int .i64 b, .int .i64 c], .agg #[.int .i64 x, .int .i64 y, .int .i64 z]] w fun e w' =>
    e = .returned (.tuple #[.agg #[.int .i64 (add2 ⟨a, b, c⟩ ⟨x, y, z⟩).1.c, .int .i64 (add2 ⟨a, b, c⟩ ⟨x, y, z⟩).1.m, .int .i64 (add2 ⟨a, b, c⟩ ⟨x, y, z⟩).1.d], .bool (add2 ⟨a, b, c⟩ ⟨x, y, z⟩).2]) ∧ Below w.heap.size w w' := by
  go_enter Try.func20, Try.ntmps20
  go_wp2_with fail
  refine (sum_c (some ⟨w.heap.size + 3, 0, none⟩) [⟨a, b, c⟩, ⟨x, y, z⟩] 2 _ ?_ (by simp)).mono ?_
  · refine .inr ⟨w.heap.size + 3, 0, rfl, by simp, fun k hk => ?_⟩
    match k, hk with
    | 0, _ => refine ⟨?_, ?_, ?_⟩ <;> (simp [go_sem]; rfl)
    | 1, _ => refine ⟨?_, ?_, ?_⟩ <;> (simp [go_sem]; rfl)
  rintro e w1 ⟨rfl, hbw1⟩
  have hB1 : w1.heap[w.heap.size + 2]? = some (.cells #[.int .i64 0, .int .i64 0, .int .i64 0] 37 (0, 0)) := vbelow (valloc (by simpa using vnew (W := (w.alloc _).alloc _))) hbw1
  have hc1 := vcell hB1
  have hf1 := vfree hB1
  have hz1 := vlt hB1
  have hBw1 : Below w.heap.size w w1 := below_then (by go_grown) hbw1
  go_wp2
  refine bodyPost_ret (v := .tuple #[.agg #[.int .i64 (sumF ⟨0, 0, 0⟩ [⟨a, b, c⟩, ⟨x, y, z⟩]).1.c, .int .i64 (sumF ⟨0, 0, 0⟩ [⟨a, b, c⟩, ⟨x, y, z⟩]).1.m, .int .i64 (sumF ⟨0, 0, 0⟩ [⟨a, b, c⟩, ⟨x, y, z⟩]).1.d], .bool (sumF ⟨0, 0, 0⟩ [⟨a, b, c⟩, ⟨x, y, z⟩]).2]) (by simp [results, Try.results20, go_sem, hc1, hf1]) rfl ?_
  exact ⟨rfl, by go_grown⟩

def fits3 (a b : R3) : Bool := fitsB a.c a.m a.d b.c b.m b.d
def subF (a b : R3) : R3 × Bool := if okR3 a = true ∧ okR3 b = true ∧ fits3 b a = true then (⟨a.c - b.c, a.m - b.m, a.d - b.d⟩, true) else (⟨0, 0, 0⟩, false)

end Go.Proofs.Ytcdlfnoagghpmaa
