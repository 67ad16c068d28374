/- The walk of WindowExamples. Printed by gen/wexamples.py. -/
import Derived.Test.YtipbgeobgppagaaBase
import Derived.Test.YtipbgeobgppagaaWMatch
import Derived.Test.YtipbgeobgppagaaOpen
import Derived.Test.YtipbgeobgppagaaProg
import Derived.Lib.Hide
namespace Go.Proofs.Ytipbgeobgppagaa
open Go.RowKit Go.Proofs.Ytipbgeobgppagaa.Ext Go.Proofs.Ytipbgeobgppagaa.V Go.Proofs.Ytipbgeobgppagaa.Pure Go.Proofs.YtipbgeobgppagaaW.PrintWords Go.Proofs.YtipbgeobgppagaaW.PrintLast Go.Proofs.YtipbgeobgppagaaW.PrintMore
set_option linter.unusedSimpArgs false
set_option linter.unusedVariables false

theorem SL_below {w w' : World} {A : Option Addr} {cp : Nat} {l : List Int} (h : SL22 w A cp l) (k : Below w.heap.size w w') : SL22 w' A cp l := by
  obtain ⟨h1, h2, h3⟩ := h
  refine ⟨h1, h2, h3.imp (fun q => q) ?_⟩
  rintro ⟨b, off, e, hb, hc⟩
  exact ⟨b, off, e, Nat.lt_of_lt_of_le hb k.size, fun j hj => ⟨(k.cell (p := ⟨b, off + j, none⟩) hb).trans (hc j hj).1, (hc j hj).2⟩⟩
theorem SL_lit {w : World} {g : Nat} (xs : List Int) (n : Nat) (h : w.heap[g]? = some (.cells (xs.map (Value.int .i64)).toArray 3 (0, 0))) (hn : n = xs.length) (hm : xs.length ≤ 1000) (hw : ∀ j, j < xs.length → (Lit.int .i64 (rdInt xs j)).wf = true) : SL22 w (some ⟨g, 0, none⟩) n xs := by
  subst hn
  refine ⟨Nat.le_refl _, by simp only [maxLen]; omega, Or.inr ⟨g, 0, rfl, vlt h, fun j hj => ⟨?_, hw j hj⟩⟩⟩
  rw [Nat.zero_add, vcell h j]
  simp [rdInt, List.getD_eq_getElem?_getD, hj]
theorem wf64 {a : Int} (h : -1000 ≤ a ∧ a ≤ 1000) : (Lit.int .i64 a).wf = true := by
  simp [Lit.wf, IntKind.min, IntKind.max, IntKind.bits, IntKind.signed]; omega
/-- The lists of the examples. -/
structure WX (w wr : World) : Prop where
  at_ : ∀ i, i < 11 → ∃ A n xs, wr.cell? ⟨w.heap.size + 10, i, none⟩ = some (.slice A (List.length (α := Int) xs) n) ∧ SL22 wr A n xs
  lt : w.heap.size + 10 < wr.heap.size
  bel : Below w.heap.size w wr
theorem WX.more {w wr w' : World} (h : WX w wr) (k : Below wr.heap.size wr w') : WX w w' :=
  ⟨fun i hi => by
    obtain ⟨A, n, xs, h1, h2⟩ := h.at_ i hi
    exact ⟨A, n, xs, (k.cell (p := ⟨_, _, none⟩) h.lt).trans h1, SL_below h2 k⟩, Nat.lt_of_lt_of_le h.lt k.size, below_then h.bel k⟩
theorem WX.of {w wr : World} (g0 : wr.heap[w.heap.size]? = some (.cells #[.int .i64 1, .int .i64 5, .int .i64 5, .int .i64 9] 3 (0, 0))) (g1 : wr.heap[w.heap.size + 1]? = some (.cells #[.int .i64 1, .int .i64 5, .int .i64 9] 3 (0, 0))) (g2 : wr.heap[w.heap.size + 2]? = some (.cells #[.int .i64 1, .int .i64 5] 3 (0, 0))) (g3 : wr.heap[w.heap.size + 3]? = some (.cells #[.int .i64 0] 3 (0, 0))) (g4 : wr.heap[w.heap.size + 4]? = some (.cells #[.int .i64 5, .int .i64 1] 3 (0, 0))) (g5 : wr.heap[w.heap.size + 5]? = some (.cells #[.int .i64 (-1)] 3 (0, 0))) (g6 : wr.heap[w.heap.size + 6]? = some (.cells #[.int .i64 1099511627776] 3 (0, 0))) (g7 : wr.heap[w.heap.size + 7]? = some (.cells #[.int .i64 1099511627777] 3 (0, 0))) (g8 : wr.heap[w.heap.size + 8]? = some (.cells #[.int .i64 0, .int .i64 1099511627776] 3 (0, 0))) (g9 : wr.heap[w.heap.size + 9]? = some (.cells #[.int .i64 3, .int .i64 3, .int .i64 3, .int .i64 3, .int .i64 3, .int .i64 3, .int .i64 3, .int .i64 3, .int .i64 3] 3 (0, 0))) (hl : wr.heap[w.heap.size + 10]? = some (.cells #[.slice none 0 0, .slice (some ⟨w.heap.size, 0, none⟩) 4 4, .slice (some ⟨w.heap.size + 1, 0, none⟩) 3 3, .slice (some ⟨w.heap.size + 2, 0, none⟩) 2 2, .slice (some ⟨w.heap.size + 3, 0, none⟩) 1 1, .slice (some ⟨w.heap.size + 4, 0, none⟩) 2 2, .slice (some ⟨w.heap.size + 5, 0, none⟩) 1 1, .slice (some ⟨w.heap.size + 6, 0, none⟩) 1 1, .slice (some ⟨w.heap.size + 7, 0, none⟩) 1 1, .slice (some ⟨w.heap.size + 8, 0, none⟩) 2 2, .slice (some ⟨w.heap.size + 9, 0, none⟩) 9 9] 22 (0, 0))) (hb : Below w.heap.size w wr) : WX w wr := by
  refine ⟨fun i hi => ?_, vlt hl, hb⟩
  have hc := vcell hl
  have : i = 0 ∨ i = 1 ∨ i = 2 ∨ i = 3 ∨ i = 4 ∨ i = 5 ∨ i = 6 ∨ i = 7 ∨ i = 8 ∨ i = 9 ∨ i = 10 := by omega
  rcases this with rfl | rfl | rfl | rfl | rfl | rfl | rfl | rfl | rfl | rfl | rfl
  · exact ⟨none, 0, [], hc 0, Nat.le_refl _, by simp only [maxLen]; omega, Or.inl rfl⟩
  · exact ⟨some ⟨w.heap.size, 0, none⟩, 4, [1, 5, 5, 9], hc 1, SL_lit [1, 5, 5, 9] 4 g0 rfl (by decide) (by decide)⟩
  · exact ⟨some ⟨w.heap.size + 1, 0, none⟩, 3, [1, 5, 9], hc 2, SL_lit [1, 5, 9] 3 g1 rfl (by decide) (by decide)⟩
  · exact ⟨some ⟨w.heap.size + 2, 0, none⟩, 2, [1, 5], hc 3, SL_lit [1, 5] 2 g2 rfl (by decide) (by decide)⟩
  · exact ⟨some ⟨w.heap.size + 3, 0, none⟩, 1, [0], hc 4, SL_lit [0] 1 g3 rfl (by decide) (by decide)⟩
  · exact ⟨some ⟨w.heap.size + 4, 0, none⟩, 2, [5, 1], hc 5, SL_lit [5, 1] 2 g4 rfl (by decide) (by decide)⟩
  · exact ⟨some ⟨w.heap.size + 5, 0, none⟩, 1, [(-1)], hc 6, SL_lit [(-1)] 1 g5 rfl (by decide) (by decide)⟩
  · exact ⟨some ⟨w.heap.size + 6, 0, none⟩, 1, [1099511627776], hc 7, SL_lit [1099511627776] 1 g6 rfl (by decide) (by decide)⟩
  · exact ⟨some ⟨w.heap.size + 7, 0, none⟩, 1, [1099511627777], hc 8, SL_lit [1099511627777] 1 g7 rfl (by decide) (by decide)⟩
  · exact ⟨some ⟨w.heap.size + 8, 0, none⟩, 2, [0, 1099511627776], hc 9, SL_lit [0, 1099511627776] 2 g8 rfl (by decide) (by decide)⟩
  · exact ⟨some ⟨w.heap.size + 9, 0, none⟩, 9, [3, 3, 3, 3, 3, 3, 3, 3, 3], hc 10, SL_lit [3, 3, 3, 3, 3, 3, 3, 3, 3] 9 g9 rfl (by decide) (by decide)⟩

set_option maxRecDepth 100000 in
set_option maxHeartbeats 8000000 in
theorem walk_WindowExamples (w : World) : Calls Try.prog 4 #[] w fun e w' => e = .returned (.bool true) ∧ Below w.heap.size w w' := by
  go_enter Try.func4, Try.ntmps4
  go_wp2_with fail
  go_loopw [2] (fun v wr => ∃ i : Nat, i ≤ 11 ∧ v = .int .i64 i ∧ WX w wr) (fun v _ => 11 - (intOf v).toNat)
  case atStart => exact ⟨0, by omega, rfl, WX.of (by (repeat' (first | assumption | (refine vnewAt ?_; first | omega | (simp; done) | (simp; omega)) | refine valloc ?_ | refine vdrew ?_ | apply vput | (refine vfarr ?_ ?_; focus (first | omega | (simp; done) | (simp; omega))) | rfl))) (by (repeat' (first | assumption | (refine vnewAt ?_; first | omega | (simp; done) | (simp; omega)) | refine valloc ?_ | refine vdrew ?_ | apply vput | (refine vfarr ?_ ?_; focus (first | omega | (simp; done) | (simp; omega))) | rfl))) (by (repeat' (first | assumption | (refine vnewAt ?_; first | omega | (simp; done) | (simp; omega)) | refine valloc ?_ | refine vdrew ?_ | apply vput | (refine vfarr ?_ ?_; focus (first | omega | (simp; done) | (simp; omega))) | rfl))) (by (repeat' (first | assumption | (refine vnewAt ?_; first | omega | (simp; done) | (simp; omega)) | refine valloc ?_ | refine vdrew ?_ | apply vput | (refine vfarr ?_ ?_; focus (first | omega | (simp; done) | (simp; omega))) | rfl))) (by (repeat' (first | assumption | (refine vnewAt ?_; first | omega | (simp; done) | (simp; omega)) | refine valloc ?_ | refine vdrew ?_ | apply vput | (refine vfarr ?_ ?_; focus (first | omega | (simp; done) | (simp; omega))) | rfl))) (by (repeat' (first | assumption | (refine vnewAt ?_; first | omega | (simp; done) | (simp; omega)) | refine valloc ?_ | refine vdrew ?_ | apply vput | (refine vfarr ?_ ?_; focus (first | omega | (simp; done) | (simp; omega))) | rfl))) (by (repeat' (first | assumption | (refine vnewAt ?_; first | omega | (simp; done) | (simp; omega)) | refine valloc ?_ | refine vdrew ?_ | apply vput | (refine vfarr ?_ ?_; focus (first | omega | (simp; done) | (simp; omega))) | rfl))) (by (repeat' (first | assumption | (refine vnewAt ?_; first | omega | (simp; done) | (simp; omega)) | refine valloc ?_ | refine vdrew ?_ | apply vput | (refine vfarr ?_ ?_; focus (first | omega | (simp; done) | (simp; omega))) | rfl))) (by (repeat' (first | assumption | (refine vnewAt ?_; first | omega | (simp; done) | (simp; omega)) | refine valloc ?_ | refine vdrew ?_ | apply vput | (refine vfarr ?_ ?_; focus (first | omega | (simp; done) | (simp; omega))) | rfl))) (by (repeat' (first | assumption | (refine vnewAt ?_; first | omega | (simp; done) | (simp; omega)) | refine valloc ?_ | refine vdrew ?_ | apply vput | (refine vfarr ?_ ?_; focus (first | omega | (simp; done) | (simp; omega))) | rfl))) (by (repeat' (first | assumption | (refine vnewAt ?_; first | omega | (simp; done) | (simp; omega)) | refine valloc ?_ | refine vdrew ?_ | apply vput | (refine vfarr ?_ ?_; focus (first | omega | (simp; done) | (simp; omega))) | rfl))) (by go_grown)⟩
  case round =>
    obtain ⟨i, hi, rfl, hW⟩ := hrel
    have hi0 : (0 : Int) ≤ (i : Int) := by omega
    by_cases hi1 : ((i : Int) < 11)
    · have hi2 : i < 11 := by omega
      have HI := Lib.hid hi2
      clear hi2 hi
      go_wp2_with fail
      go_loopw [3] (fun v wr => ∃ a : Int, -1 ≤ a ∧ a ≤ 12 ∧ v = .int .i64 a ∧ WX w wr) (fun v _ => (12 - intOf v).toNat)
      case atStart => exact ⟨-1, by omega, by omega, rfl, hW⟩
      case round =>
        clear hW
        obtain ⟨a, a1, a2, rfl, hW⟩ := hrel
        by_cases a3 : (a < 12)
        · go_wp2_with fail
          go_loopw [4] (fun v wr => ∃ b : Int, -1 ≤ b ∧ b ≤ 14 ∧ v = .int .i64 b ∧ WX w wr) (fun v _ => (14 - intOf v).toNat)
          case atStart => exact ⟨-1, by omega, by omega, rfl, hW⟩
          case round =>
            clear hW
            obtain ⟨b, b1, b2, rfl, hW⟩ := hrel
            by_cases b3 : (b < 14)
            · obtain ⟨A, n, xs, hc, hSL⟩ := hW.at_ i HI.out
              have hq : -1000 ≤ b.tdiv 2 ∧ b.tdiv 2 ≤ 1000 := by
                by_cases hb0 : 0 ≤ b
                · rw [Int.tdiv_eq_ediv_of_nonneg hb0]; omega
                · have : b = -1 := by omega
                  subst this; decide
              go_wp2_with fail
              refine (walk_WindowMatches _ A n xs hSL a (wf64 (by omega)) b (wf64 (by omega)) (a - 1) (wf64 (by omega))).mono ?_
              rintro e_ w1 ⟨rfl, hb⟩
              have hW1 := hW.more hb
              have hc1 := (hb.cell (p := ⟨_, _, none⟩) hW.lt).trans hc
              replace hSL := SL_below hSL hb
              clear hc hW hb
              go_wp2_with fail
              refine (walk_WindowMatches _ A n xs hSL a (wf64 (by omega)) b (wf64 (by omega)) (b.tdiv 2) (wf64 hq)).mono ?_
              rintro e_ w2 ⟨rfl, hb⟩
              have hW2 := hW1.more hb
              have hc2 := (hb.cell (p := ⟨_, _, none⟩) hW1.lt).trans hc1
              replace hSL := SL_below hSL hb
              clear hc1 hW1 hb
              go_wp2_with fail
              all_goals go_roundw
              all_goals first | exact ⟨b + 1, by omega, by omega, by go_num, hW2⟩ | (simp [intOf]; omega)
            · go_wp2_with fail
              all_goals go_roundw
              all_goals first | exact ⟨a + 1, by omega, by omega, by go_num, hW⟩ | (simp [intOf]; omega)
        · go_wp2_with fail
          go_loopw [55] (fun v wr => ∃ q : Int, 0 ≤ q ∧ q ≤ 6 ∧ v = .int .i64 q ∧ WX w wr) (fun v _ => (6 - intOf v).toNat)
          case atStart => exact ⟨0, by omega, by omega, rfl, hW⟩
          case round =>
            clear hW
            obtain ⟨q, q0, q1, rfl, hW⟩ := hrel
            by_cases q2 : q < 6
            · obtain ⟨A, n, xs, hc, hSL⟩ := hW.at_ i HI.out
              obtain ⟨x, hx, hix⟩ : ∃ x : Int, (Lit.int .i64 x).wf = true ∧ ∀ W : World, (Instr.index 35 (.agg #[.int .i64 (-9223372036854775808), .int .i64 1099511627775, .int .i64 1099511627776, .int .i64 1099511627777, .int .i64 9223372036854775807, .int .i64 100]) (.int .i64 q)).run Try.prog W = .ok (.int .i64 x) W :=
                ⟨_, by
                  have q3 : q = 0 ∨ q = 1 ∨ q = 2 ∨ q = 3 ∨ q = 4 ∨ q = 5 := by omega
                  rcases q3 with rfl | rfl | rfl | rfl | rfl | rfl <;> decide, fun W => ix_35 _ _ _ _ _ _ W q q0 q2⟩
              clear a1 a2 a3
              go_wp2_with fail
              refine (walk_WindowMatches _ A n xs hSL x hx 5 (by decide) 1 (by decide)).mono ?_
              rintro e_ w1 ⟨rfl, hb⟩
              have hW1 := hW.more hb
              have hc1 := (hb.cell (p := ⟨_, _, none⟩) hW.lt).trans hc
              replace hSL := SL_below hSL hb
              clear hc hW hb
              go_wp2_with fail
              refine (walk_WindowMatches _ A n xs hSL 5 (by decide) x hx x hx).mono ?_
              rintro e_ w2 ⟨rfl, hb⟩
              have hW2 := hW1.more hb
              have hc2 := (hb.cell (p := ⟨_, _, none⟩) hW1.lt).trans hc1
              replace hSL := SL_below hSL hb
              clear hc1 hW1 hb
              go_wp2_with fail
              refine (walk_WindowMatches _ A n xs hSL x hx x hx 2 (by decide)).mono ?_
              rintro e_ w3 ⟨rfl, hb⟩
              have hW3 := hW2.more hb
              have hc3 := (hb.cell (p := ⟨_, _, none⟩) hW2.lt).trans hc2
              replace hSL := SL_below hSL hb
              clear hc2 hW2 hb
              go_wp2_with fail
              all_goals go_roundw
              all_goals first | exact ⟨q + 1, by omega, by omega, by go_num, hW3⟩ | (simp [intOf]; omega)
            · have q3 : ¬ q < 6 := q2
              go_wp2_with fail
              all_goals go_roundw
              all_goals first | exact ⟨i + 1, by have := HI.out; omega, by go_num, hW⟩ | (simp [intOf]; omega)
    · go_wp2_with fail
      refine (wawake_s (L := []) (St.start _)).mono ?_
      rintro e_ w1 ⟨rfl, s1⟩
      go_wp2
      go_ret
      exact ⟨rfl, below_then hW.bel s1.bel⟩
end Go.Proofs.Ytipbgeobgppagaa
