import Derived.Test.YtcdlfnoagghpmaaRes
import Derived.Deep.DrawnRows
namespace Go.Proofs.Ytcdlfnoagghpmaa
open Go.RowKit
set_option linter.unusedSimpArgs false
set_option linter.unusedVariables false
attribute [local go_sem ↓] Go.wp_at_zero Go.wp_at_succ

set_option maxHeartbeats 400000 in
theorem amounts_x (a b c : Int) (w : World) : Calls Try.prog 32 #[.agg #[.int .i64 a, .int .i64 b, .int .i64 c]] w fun e w' =>
    e = .returned (.agg #[.int .i64 a, .int .i64 b, .int .i64 c]) ∧ w' = (w.alloc (.cells #[.int .i64 a, .int .i64 b, .int .i64 c] 37)).alloc (.cells #[.int .i64 a, .int .i64 b, .int .i64 c] 46) := by
  go_enter Try.func32, Try.ntmps32
  go_wp2
  go_returns
  exact ⟨rfl, rfl⟩

set_option maxHeartbeats 400000 in
theorem back_x (a b c : Int) (w : World) : Calls Try.prog 34 #[.agg #[.int .i64 a, .int .i64 b, .int .i64 c]] w fun e w' =>
    e = .returned (.agg #[.int .i64 a, .int .i64 b, .int .i64 c]) ∧ w' = (w.alloc (.cells #[.int .i64 a, .int .i64 b, .int .i64 c] 46)).alloc (.cells #[.int .i64 a, .int .i64 b, .int .i64 c] 37) := by
  go_enter Try.func34, Try.ntmps34
  go_wp2
  go_returns
  exact ⟨rfl, rfl⟩

set_option maxHeartbeats 2000000 in
theorem sub_c (a b : R3) (w : World) : Calls Try.prog 26 #[.agg #[.int .i64 a.c, .int .i64 a.m, .int .i64 a.d], .agg #[.int .i64 b.c, .int .i64 b.m, .int .i64 b.d]] w fun e w' =>
    e = .returned (.tuple #[.agg #[.int .i64 (subF a b).1.c, .int .i64 (subF a b).1.m, .int .i64 (subF a b).1.d], .bool (subF a b).2]) ∧ Below w.heap.size w w' := by
  by_cases ha : okR a.c a.m a.d = true
  · have hea : errI (okR a.c a.m a.d) = 0 := by rw [ha]; rfl
    by_cases hb : okR b.c b.m b.d = true
    · have heb : errI (okR b.c b.m b.d) = 0 := by rw [hb]; rfl
      by_cases hf : fitsB b.c b.m b.d a.c a.m a.d = true
      · have hs : subF a b = (⟨a.c - b.c, a.m - b.m, a.d - b.d⟩, true) := if_pos ⟨ha, hb, hf⟩
        rw [hs]
        clear hs
        have hra := (okR_iff _ _ _).1 ha
        have hrb := (okR_iff _ _ _).1 hb
        obtain ⟨i0, i1, i2⟩ := index_a3 b.c b.m b.d
        go_enter Try.func26, Try.ntmps26
        have hB : (((w.alloc (.cells #[.int .i64 a.c, .int .i64 a.m, .int .i64 a.d] 37)).alloc (.cells #[.int .i64 b.c, .int .i64 b.m, .int .i64 b.d] 37)).alloc (.cells #[.int .i64 0, .int .i64 0, .int .i64 0] 37)).heap[w.heap.size + 2]? = some _ := vnewAt (by simp)
        go_wp2_with fail
        refine (check_c _ _ _ _).mono ?_
        rintro e_w1 w1 ⟨rfl, hbw1⟩
        obtain ⟨hcw1, hfw1⟩ := bcell hbw1
        have hBw1 : Below w.heap.size w w1 := below_then (by go_grown) hbw1
        have hzw1_0 : w.heap.size < w1.heap.size := by have hq := hbw1.size; (try simp at hq); omega
        have hzw1_1 : w.heap.size + 1 < w1.heap.size := by have hq := hbw1.size; (try simp at hq); omega
        have hB1 := vbelow (hB) hbw1
        have hchB1 := vcell hB1
        have hfhB1 := vfree hB1
        have hshB1 := vlt hB1
        go_wp2_with fail
        refine (check_c _ _ _ _).mono ?_
        rintro e_w2 w2 ⟨rfl, hbw2⟩
        obtain ⟨hcw2, hfw2⟩ := bcell hbw2
        have hBw2 : Below w.heap.size w w2 := below_then (by go_grown) hbw2
        have hzw2_0 : w.heap.size < w2.heap.size := by have hq := hbw2.size; (try simp at hq); omega
        have hzw2_1 : w.heap.size + 1 < w2.heap.size := by have hq := hbw2.size; (try simp at hq); omega
        have hB2 := vbelow (hB1) hbw2
        have hchB2 := vcell hB2
        have hfhB2 := vfree hB2
        have hshB2 := vlt hB2
        go_wp2_with fail
        refine (fits_c _ _ _ _ _ _ _).mono ?_
        rintro e_w3 w3 ⟨rfl, hbw3⟩
        obtain ⟨hcw3, hfw3⟩ := bcell hbw3
        have hBw3 : Below w.heap.size w w3 := below_then (by go_grown) hbw3
        have hzw3_0 : w.heap.size < w3.heap.size := by have hq := hbw3.size; (try simp at hq); omega
        have hzw3_1 : w.heap.size + 1 < w3.heap.size := by have hq := hbw3.size; (try simp at hq); omega
        have hB3 := vbelow (hB2) hbw3
        have hchB3 := vcell hB3
        have hfhB3 := vfree hB3
        have hshB3 := vlt hB3
        go_wp2_with fail
        clear hchB1 hfhB1 hB1 hchB2 hfhB2 hB2 hchB3 hfhB3
        have a0 : w3.cell? ⟨w.heap.size, 0, none⟩ = some (.int .i64 a.c) := by go_cell
        have a1 : w3.cell? ⟨w.heap.size, 1, none⟩ = some (.int .i64 a.m) := by go_cell
        have a2 : w3.cell? ⟨w.heap.size, 2, none⟩ = some (.int .i64 a.d) := by go_cell
        have b0 : w3.cell? ⟨w.heap.size + 1, 0, none⟩ = some (.int .i64 b.c) := by go_cell
        have b1 : w3.cell? ⟨w.heap.size + 1, 1, none⟩ = some (.int .i64 b.m) := by go_cell
        have b2 : w3.cell? ⟨w.heap.size + 1, 2, none⟩ = some (.int .i64 b.d) := by go_cell
        clear hcw1 hcw2 hcw3 hfw1 hfw2 hfw3
        have kS : ∀ w', Below w3.heap.size w3 w' → (w'.cell? ⟨w.heap.size, 0, none⟩ = some (.int .i64 a.c) ∧ w'.cell? ⟨w.heap.size, 1, none⟩ = some (.int .i64 a.m) ∧ w'.cell? ⟨w.heap.size, 2, none⟩ = some (.int .i64 a.d)) ∧ (w'.cell? ⟨w.heap.size + 1, 0, none⟩ = some (.int .i64 b.c) ∧ w'.cell? ⟨w.heap.size + 1, 1, none⟩ = some (.int .i64 b.m) ∧ w'.cell? ⟨w.heap.size + 1, 2, none⟩ = some (.int .i64 b.d)) ∧ Below w3.heap.size w3 w' :=
          fun w' h => ⟨⟨(h.cell (p := ⟨_, _, none⟩) hzw3_0).trans a0, (h.cell (p := ⟨_, _, none⟩) hzw3_0).trans a1, (h.cell (p := ⟨_, _, none⟩) hzw3_0).trans a2⟩, ⟨(h.cell (p := ⟨_, _, none⟩) hzw3_1).trans b0, (h.cell (p := ⟨_, _, none⟩) hzw3_1).trans b1, (h.cell (p := ⟨_, _, none⟩) hzw3_1).trans b2⟩, h⟩
        have KS := Lib.hid kS
        clear kS
        go_cut [6, 7] (fun s6 s7 wx => ∃ g h : Nat, s6 = .pointer (some ⟨g, 0, none⟩) ∧ s7 = .pointer (some ⟨h, 0, none⟩) ∧ g ≠ h ∧ w.heap.size + 2 < g ∧ w.heap.size + 2 < h ∧
            wx.heap[g]? = some (.cells #[.int .i64 a.c, .int .i64 a.m, .int .i64 a.d] 46 (0, 0)) ∧ wx.heap[h]? = some (.cells #[.int .i64 b.c, .int .i64 b.m, .int .i64 b.d] 46 (0, 0)) ∧ Below w3.heap.size w3 wx)
        case first =>
          go_region_held3 (fun w' => (w'.cell? ⟨w.heap.size, 0, none⟩ = some (.int .i64 a.c) ∧ w'.cell? ⟨w.heap.size, 1, none⟩ = some (.int .i64 a.m) ∧ w'.cell? ⟨w.heap.size, 2, none⟩ = some (.int .i64 a.d)) ∧ (w'.cell? ⟨w.heap.size + 1, 0, none⟩ = some (.int .i64 b.c) ∧ w'.cell? ⟨w.heap.size + 1, 1, none⟩ = some (.int .i64 b.m) ∧ w'.cell? ⟨w.heap.size + 1, 2, none⟩ = some (.int .i64 b.d)) ∧ Below w3.heap.size w3 w') ((refine KS.out _ ?_; go_grown; done))
            (first | (go_at_call 32; refine (amounts_x _ _ _ _).mono ?_; rintro e w4 ⟨rfl, rfl⟩))
          all_goals (go_wp2_with fail; go_meet; refine ⟨_, _, rfl, rfl, by first | omega | (simp; done) | (simp; omega), by first | omega | (simp; done) | (simp; omega), by first | omega | (simp; done) | (simp; omega), by (repeat' (first | assumption | (refine vnewAt ?_; first | omega | (simp; done) | (simp; omega)) | refine valloc ?_ | refine vdrew ?_ | apply vput | (refine vfarr ?_ ?_; focus (first | omega | (simp; done) | (simp; omega))) | rfl)), by (repeat' (first | assumption | (refine vnewAt ?_; first | omega | (simp; done) | (simp; omega)) | refine valloc ?_ | refine vdrew ?_ | apply vput | (refine vfarr ?_ ?_; focus (first | omega | (simp; done) | (simp; omega))) | rfl)), by go_grown⟩)
        case rest =>
          obtain ⟨g, h, rfl, rfl, hne, hg2, hh2, hG, hH, hBx⟩ := hcut
          have hBwc : Below w.heap.size w wc := below_then hBw3 hBx
          have hR := vbelow hB3 hBx
          have hcR := vcell hR
          have hfR := vfree hR
          have hsR := vlt hR
          have hcG := vcell hG
          have hfG := vfree hG
          have hsG := vlt hG
          have hcH := vcell hH
          have hgR : g ≠ w.heap.size + 2 := by omega
          go_wp2_with fail
          refine wp_loop_rounds 4 ?_
          repeat any_goals (rw [rounds_succ]; go_wp2_with fail)
          refine (back_c _ _ _ _).mono ?_
          rintro e w4 ⟨rfl, hb4⟩
          have hR4 : w4.heap[w.heap.size + 2]? = some (.cells #[.int .i64 0, .int .i64 0, .int .i64 0] 37 (0, 0)) := vbelow (by (repeat' (first | assumption | (refine vnewAt ?_; first | omega | (simp; done) | (simp; omega)) | refine valloc ?_ | refine vdrew ?_ | apply vput | (refine vfarr ?_ ?_; focus (first | omega | (simp; done) | (simp; omega))) | rfl))) hb4
          have hBw4 : Below w.heap.size w w4 := below_then (by go_grown) hb4
          clear hcR hfR hcG hfG hcH hR hG hH hb4 hBx hB3
          have hcR := vcell hR4
          have hfR := vfree hR4
          have hsR4 := vlt hR4
          go_wp2
          refine bodyPost_ret (v := .tuple #[.agg #[.int .i64 (a.c - b.c), .int .i64 (a.m - b.m), .int .i64 (a.d - b.d)], .bool true]) (by simp [results, Try.results26, go_sem, hcR, hfR, hsR4]) rfl ?_
          exact ⟨rfl, by go_grown⟩
      · have hs : subF a b = (⟨0, 0, 0⟩, false) := if_neg fun h => hf h.2.2
        rw [hs]
        clear hs
        rw [Bool.not_eq_true] at hf
        go_enter Try.func26, Try.ntmps26
        have hB : (((w.alloc (.cells #[.int .i64 a.c, .int .i64 a.m, .int .i64 a.d] 37)).alloc (.cells #[.int .i64 b.c, .int .i64 b.m, .int .i64 b.d] 37)).alloc (.cells #[.int .i64 0, .int .i64 0, .int .i64 0] 37)).heap[w.heap.size + 2]? = some _ := vnewAt (by simp)
        go_wp2_with fail
        refine (check_c _ _ _ _).mono ?_
        rintro e_w1 w1 ⟨rfl, hbw1⟩
        obtain ⟨hcw1, hfw1⟩ := bcell hbw1
        have hBw1 : Below w.heap.size w w1 := below_then (by go_grown) hbw1
        have hzw1_0 : w.heap.size < w1.heap.size := by have hq := hbw1.size; (try simp at hq); omega
        have hzw1_1 : w.heap.size + 1 < w1.heap.size := by have hq := hbw1.size; (try simp at hq); omega
        have hB1 := vbelow (hB) hbw1
        have hchB1 := vcell hB1
        have hfhB1 := vfree hB1
        have hshB1 := vlt hB1
        go_wp2_with fail
        refine (check_c _ _ _ _).mono ?_
        rintro e_w2 w2 ⟨rfl, hbw2⟩
        obtain ⟨hcw2, hfw2⟩ := bcell hbw2
        have hBw2 : Below w.heap.size w w2 := below_then (by go_grown) hbw2
        have hzw2_0 : w.heap.size < w2.heap.size := by have hq := hbw2.size; (try simp at hq); omega
        have hzw2_1 : w.heap.size + 1 < w2.heap.size := by have hq := hbw2.size; (try simp at hq); omega
        have hB2 := vbelow (hB1) hbw2
        have hchB2 := vcell hB2
        have hfhB2 := vfree hB2
        have hshB2 := vlt hB2
        go_wp2_with fail
        refine (fits_c _ _ _ _ _ _ _).mono ?_
        rintro e_w3 w3 ⟨rfl, hbw3⟩
        obtain ⟨hcw3, hfw3⟩ := bcell hbw3
        have hBw3 : Below w.heap.size w w3 := below_then (by go_grown) hbw3
        have hzw3_0 : w.heap.size < w3.heap.size := by have hq := hbw3.size; (try simp at hq); omega
        have hzw3_1 : w.heap.size + 1 < w3.heap.size := by have hq := hbw3.size; (try simp at hq); omega
        have hB3 := vbelow (hB2) hbw3
        have hchB3 := vcell hB3
        have hfhB3 := vfree hB3
        have hshB3 := vlt hB3
        go_wp2
        refine bodyPost_ret (v := .tuple #[.agg #[.int .i64 0, .int .i64 0, .int .i64 0], .bool false]) (by simp [results, Try.results26, go_sem, hchB3, hfhB3]) rfl ?_
        exact ⟨rfl, by go_grown⟩
    · have hs : subF a b = (⟨0, 0, 0⟩, false) := if_neg fun h => hb h.2.1
      rw [hs]
      clear hs
      have heb : errI (okR b.c b.m b.d) = 3 := by rw [Bool.not_eq_true] at hb; rw [hb]; rfl
      go_enter Try.func26, Try.ntmps26
      have hB : (((w.alloc (.cells #[.int .i64 a.c, .int .i64 a.m, .int .i64 a.d] 37)).alloc (.cells #[.int .i64 b.c, .int .i64 b.m, .int .i64 b.d] 37)).alloc (.cells #[.int .i64 0, .int .i64 0, .int .i64 0] 37)).heap[w.heap.size + 2]? = some _ := vnewAt (by simp)
      go_wp2_with fail
      refine (check_c _ _ _ _).mono ?_
      rintro e_w1 w1 ⟨rfl, hbw1⟩
      obtain ⟨hcw1, hfw1⟩ := bcell hbw1
      have hBw1 : Below w.heap.size w w1 := below_then (by go_grown) hbw1
      have hzw1_0 : w.heap.size < w1.heap.size := by have hq := hbw1.size; (try simp at hq); omega
      have hzw1_1 : w.heap.size + 1 < w1.heap.size := by have hq := hbw1.size; (try simp at hq); omega
      have hB1 := vbelow (hB) hbw1
      have hchB1 := vcell hB1
      have hfhB1 := vfree hB1
      have hshB1 := vlt hB1
      go_wp2_with fail
      refine (check_c _ _ _ _).mono ?_
      rintro e_w2 w2 ⟨rfl, hbw2⟩
      obtain ⟨hcw2, hfw2⟩ := bcell hbw2
      have hBw2 : Below w.heap.size w w2 := below_then (by go_grown) hbw2
      have hzw2_0 : w.heap.size < w2.heap.size := by have hq := hbw2.size; (try simp at hq); omega
      have hzw2_1 : w.heap.size + 1 < w2.heap.size := by have hq := hbw2.size; (try simp at hq); omega
      have hB2 := vbelow (hB1) hbw2
      have hchB2 := vcell hB2
      have hfhB2 := vfree hB2
      have hshB2 := vlt hB2
      go_wp2
      refine bodyPost_ret (v := .tuple #[.agg #[.int .i64 0, .int .i64 0, .int .i64 0], .bool false]) (by simp [results, Try.results26, go_sem, hchB2, hfhB2]) rfl ?_
      exact ⟨rfl, by go_grown⟩
  · have hs : subF a b = (⟨0, 0, 0⟩, false) := if_neg fun h => ha h.1
    rw [hs]
    clear hs
    have hea : errI (okR a.c a.m a.d) = 3 := by rw [Bool.not_eq_true] at ha; rw [ha]; rfl
    go_enter Try.func26, Try.ntmps26
    have hB : (((w.alloc (.cells #[.int .i64 a.c, .int .i64 a.m, .int .i64 a.d] 37)).alloc (.cells #[.int .i64 b.c, .int .i64 b.m, .int .i64 b.d] 37)).alloc (.cells #[.int .i64 0, .int .i64 0, .int .i64 0] 37)).heap[w.heap.size + 2]? = some _ := vnewAt (by simp)
    go_wp2_with fail
    refine (check_c _ _ _ _).mono ?_
    rintro e_w1 w1 ⟨rfl, hbw1⟩
    obtain ⟨hcw1, hfw1⟩ := bcell hbw1
    have hBw1 : Below w.heap.size w w1 := below_then (by go_grown) hbw1
    have hzw1_0 : w.heap.size < w1.heap.size := by have hq := hbw1.size; (try simp at hq); omega
    have hzw1_1 : w.heap.size + 1 < w1.heap.size := by have hq := hbw1.size; (try simp at hq); omega
    have hB1 := vbelow (hB) hbw1
    have hchB1 := vcell hB1
    have hfhB1 := vfree hB1
    have hshB1 := vlt hB1
    go_wp2
    refine bodyPost_ret (v := .tuple #[.agg #[.int .i64 0, .int .i64 0, .int .i64 0], .bool false]) (by simp [results, Try.results26, go_sem, hchB1, hfhB1]) rfl ?_
    exact ⟨rfl, by go_grown⟩
end Go.Proofs.Ytcdlfnoagghpmaa
