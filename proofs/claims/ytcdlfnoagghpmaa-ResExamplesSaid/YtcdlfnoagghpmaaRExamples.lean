/- The walk of ResExamples. Printed by gen/rexamples.py. -/
import Derived.Test.YtcdlfnoagghpmaaBase
import Derived.Test.YtcdlfnoagghpmaaSep
import Derived.Test.YtcdlfnoagghpmaaSepB
import Derived.Test.YtcdlfnoagghpmaaOpen
import Derived.Test.YtcdlfnoagghpmaaPureResPairs
import Derived.Test.YtcdlfnoagghpmaaPureResSums
import Derived.Test.YtcdlfnoagghpmaaProg
import Derived.BigRegion
import Derived.Deep.Cut
import Derived.Deep.CutRange
import Derived.Deep.RegionHeld3
import Derived.Lib.Hide
namespace Go.Proofs.Ytcdlfnoagghpmaa
open Go.RowKit
set_option linter.unusedSimpArgs false
set_option linter.unusedVariables false

abbrev endsR : Array Value := #[.int .i64 (-9223372036854775808), .int .i64 (-1), .int .i64 0, .int .i64 1, .int .i64 549755813888, .int .i64 549755813889, .int .i64 1099511627775, .int .i64 1099511627776, .int .i64 1099511627777, .int .i64 9223372036854775807]
abbrev W64 (x : Int) : Prop := (Lit.int .i64 x).wf = true
theorem endsR_at (i : Nat) (h : i < 10) : ∃ x, W64 x ∧ endsR[i]? = some (.int .i64 x) := by
  have : i = 0 ∨ i = 1 ∨ i = 2 ∨ i = 3 ∨ i = 4 ∨ i = 5 ∨ i = 6 ∨ i = 7 ∨ i = 8 ∨ i = 9 := by omega
  rcases this with rfl | rfl | rfl | rfl | rfl | rfl | rfl | rfl | rfl | rfl <;> exact ⟨_, by decide, rfl⟩
theorem mk2 {w0 w : World} {L : List HP} (h : St w0 w L) (c d : Array Value) (t : Nat) : ∃ a b, a = w.heap.size ∧ b = w.heap.size + 1 ∧ St w0 ((w.alloc (.cells c t)).alloc (.cells d t)) (blk b d t :: blk a c t :: L) :=
  ⟨w.heap.size, w.heap.size + 1, rfl, rfl, by have := (h.alloc c t).alloc d t; simpa using this⟩
theorem w64_0 : W64 0 := by decide
theorem pairs_s {w0 w : World} {L : List HP} (h : St w0 w L) (a b c x y z : Int) (h1 : W64 a) (h2 : W64 b) (h3 : W64 c) (h4 : W64 x) (h5 : W64 y) (h6 : W64 z) :
    Calls Try.prog 8 #[.agg #[.int .i64 a, .int .i64 b, .int .i64 c], .agg #[.int .i64 x, .int .i64 y, .int .i64 z]] w fun e w' => e = .returned (.bool true) ∧ St w0 w' L :=
  (walk_ResPairs w a b c h1 h2 h3 x y z h4 h5 h6).mono fun e w' ⟨e1, e2⟩ => ⟨e1, h.more e2⟩
theorem sums0_s {w0 w : World} {L : List HP} (h : St w0 w L) : Calls Try.prog 9 #[.slice none 0 0] w fun e w' => e = .returned (.bool true) ∧ St w0 w' L :=
  (walk_ResSums w none 0 [] ⟨Nat.le_refl _, by simp only [maxLen]; omega, Or.inl rfl⟩).mono fun e w' ⟨e1, e2⟩ => ⟨e1, h.more e2⟩
theorem sums2_s {w0 w : World} {L : List HP} {g : Nat} (a b c x y z : Int) (h : St w0 w (blk g #[.int .i64 a, .int .i64 b, .int .i64 c, .int .i64 x, .int .i64 y, .int .i64 z] 37 :: L)) (h1 : W64 a) (h2 : W64 b) (h3 : W64 c) (h4 : W64 x) (h5 : W64 y) (h6 : W64 z) :
    Calls Try.prog 9 #[.slice (some ⟨g, 0, none⟩) 2 2] w fun e w' => e = .returned (.bool true) ∧ St w0 w' L := by
  have hc := h.cells
  refine (walk_ResSums w (some ⟨g, 0, none⟩) 2 [⟨a, b, c⟩, ⟨x, y, z⟩] ⟨Nat.le_refl _, by simp only [maxLen]; omega, Or.inr ⟨g, 0, rfl, vlt h.at0, fun k hk => ?_⟩⟩).mono fun e w' ⟨e1, e2⟩ => ⟨e1, h.drop.more e2⟩
  have : k = 0 ∨ k = 1 := by simp at hk; omega
  rcases this with rfl | rfl
  · exact ⟨hc 0, h1, hc 1, h2, hc 2, h3⟩
  · exact ⟨hc 3, h4, hc 4, h5, hc 5, h6⟩
theorem sums4_s {w0 w : World} {L : List HP} {g : Nat} (a b c x y z : Int) (h : St w0 w (blk g #[.int .i64 a, .int .i64 b, .int .i64 c, .int .i64 0, .int .i64 0, .int .i64 0, .int .i64 x, .int .i64 y, .int .i64 z, .int .i64 a, .int .i64 b, .int .i64 c] 37 :: L)) (h1 : W64 a) (h2 : W64 b) (h3 : W64 c) (h4 : W64 x) (h5 : W64 y) (h6 : W64 z) :
    Calls Try.prog 9 #[.slice (some ⟨g, 0, none⟩) 4 4] w fun e w' => e = .returned (.bool true) ∧ St w0 w' L := by
  have hc := h.cells
  refine (walk_ResSums w (some ⟨g, 0, none⟩) 4 [⟨a, b, c⟩, ⟨0, 0, 0⟩, ⟨x, y, z⟩, ⟨a, b, c⟩] ⟨Nat.le_refl _, by simp only [maxLen]; omega, Or.inr ⟨g, 0, rfl, vlt h.at0, fun k hk => ?_⟩⟩).mono fun e w' ⟨e1, e2⟩ => ⟨e1, h.drop.more e2⟩
  have : k = 0 ∨ k = 1 ∨ k = 2 ∨ k = 3 := by simp at hk; omega
  rcases this with rfl | rfl | rfl | rfl
  · exact ⟨hc 0, h1, hc 1, h2, hc 2, h3⟩
  · exact ⟨hc 3, w64_0, hc 4, w64_0, hc 5, w64_0⟩
  · exact ⟨hc 6, h4, hc 7, h5, hc 8, h6⟩
  · exact ⟨hc 9, h1, hc 10, h2, hc 11, h3⟩
theorem awake_s {w0 w : World} {L : List HP} (h : St w0 w L) : Calls Try.prog 28 #[] w fun e w' => e = .returned (.bool true) ∧ St w0 w' L :=
  (Ext.sacristanlaw09_awake.calls true w rfl).mono fun e w' ⟨e1, e2⟩ => ⟨e1, h.more e2⟩

set_option maxRecDepth 100000 in
set_option maxHeartbeats 8000000 in
theorem walk_ResExamples (w : World) : Calls Try.prog 10 #[] w fun e w' => e = .returned (.bool true) ∧ Below w.heap.size w w' := by
  have h0 := St.start w
  go_enter Try.func10, Try.ntmps10
  go_wp2_with fail
  have h1 := h0.alloc endsR 3
  go_loopw [2] (fun i wr => ∃ n : Nat, n ≤ 10 ∧ i = .int .i64 n ∧ St w wr [blk w.heap.size endsR 3]) (fun i _ => 10 - (intOf i).toNat)
  case atStart => exact ⟨0, by omega, rfl, h1⟩
  case round =>
    clear h1 h0
    obtain ⟨i, hi, rfl, hs⟩ := hrel
    have hi0 : (0 : Int) ≤ (i : Int) := by omega
    by_cases hi1 : ((i : Int) < 10)
    · go_wp2_with fail
      go_loopw [3] (fun k wr => ∃ n : Nat, n ≤ 10 ∧ k = .int .i64 n ∧ St w wr [blk w.heap.size endsR 3]) (fun i _ => 10 - (intOf i).toNat)
      case atStart => exact ⟨0, by omega, rfl, hs⟩
      case round =>
        clear hs
        obtain ⟨k, hk, rfl, hs⟩ := hrel
        have hk0 : (0 : Int) ≤ (k : Int) := by omega
        by_cases hk1 : ((k : Int) < 10)
        · go_wp2_with fail
          go_loopw [4] (fun v wr => ∃ n : Nat, n ≤ 3 ∧ v = .int .i64 n ∧ St w wr [blk w.heap.size endsR 3]) (fun i _ => 3 - (intOf i).toNat)
          case atStart => exact ⟨0, by omega, rfl, hs⟩
          case round =>
            clear hs
            obtain ⟨n, hn, rfl, hs⟩ := hrel
            have hn0 : (0 : Int) ≤ (n : Int) := by omega
            by_cases hn1 : ((n : Int) < 3)
            · obtain ⟨x, hx, ex⟩ := endsR_at i (by omega)
              obtain ⟨y, hy, ey⟩ := endsR_at k (by omega)
              go_upto_region 12 with fail
              obtain ⟨a, b, ea, eb, q1⟩ := mk2 hs #[.int .i64 1, .int .i64 1, .int .i64 1] #[.int .i64 1, .int .i64 1, .int .i64 1] 46
              subst ea eb
              have ex' := ((q1.pick 2).cells i).trans ex
              have ey' := ((q1.pick 2).cells k).trans ey
              have hcA := (q1.pick 1).cells
              have hfA := (q1.pick 1).free
              have hcB := q1.cells
              have hfB := q1.free
              have hE := vlt hs.at0
              have hE1 : ¬ w.heap.size = wr.heap.size := by omega
              have hE2 : ¬ w.heap.size = wr.heap.size + 1 := by omega
              clear hE
              generalize wr.heap.size = a at *
              generalize ((wr.alloc (.cells #[.int .i64 1, .int .i64 1, .int .i64 1] 46)).alloc (.cells #[.int .i64 1, .int .i64 1, .int .i64 1] 46)) = wa at *
              clear hs ex ey
              go_cut [] from 28 to 73 (fun wx => ∃ x0 x1 x2 y0 y1 y2 : Int, (W64 x0 ∧ W64 x1 ∧ W64 x2 ∧ W64 y0 ∧ W64 y1 ∧ W64 y2) ∧ St w wx [blk (a + 1) #[.int .i64 y0, .int .i64 y1, .int .i64 y2] 46, blk a #[.int .i64 x0, .int .i64 x1, .int .i64 x2] 46, blk w.heap.size endsR 3])
              case first =>
                have hn3 : n = 0 ∨ n = 1 ∨ n = 2 := by omega
                clear hn hn0 hn1
                rcases hn3 with rfl | rfl | rfl
                · go_region
                  all_goals (
                    go_wp2_with fail
                    go_meet
                    case rel => exact ⟨_, _, _, _, _, _, ⟨hx, (by decide), (by decide), hy, (by decide), (by decide)⟩, ((((q1.pick 1).setb 0 (.int .i64 x) rfl).pick 1).setb 0 (.int .i64 y) rfl).drew⟩)
                · go_region
                  all_goals (
                    go_wp2_with fail
                    go_meet
                    case rel => exact ⟨_, _, _, _, _, _, ⟨(by decide), hx, (by decide), (by decide), hy, (by decide)⟩, ((((q1.pick 1).setb 1 (.int .i64 x) rfl).pick 1).setb 1 (.int .i64 y) rfl).drew⟩)
                · go_region
                  all_goals (
                    go_wp2_with fail
                    go_meet
                    case rel => exact ⟨_, _, _, _, _, _, ⟨(by decide), (by decide), hx, (by decide), (by decide), hy⟩, ((((q1.pick 1).setb 2 (.int .i64 x) rfl).pick 1).setb 2 (.int .i64 y) rfl).drew⟩)
              case rest =>
                obtain ⟨x0, x1, x2, y0, y1, y2, ⟨f1, f2, f3, f4, f5, f6⟩, q3⟩ := hcut
                clear q1 hcA hfA hcB hfB ex' ey' hx hy hE1 hE2
                have F := Lib.hid (And.intro f1 (And.intro f2 (And.intro f3 (And.intro f4 (And.intro f5 f6)))))
                clear f1 f2 f3 f4 f5 f6
                have hcA := (q3.pick 1).cells
                have hcB := q3.cells
                have hlA := vlt (q3.pick 1).at0
                have hlB := vlt q3.at0
                have kS : ∀ w', Below wc.heap.size wc w' → (w'.cell? ⟨a, 0, none⟩ = some (.int .i64 x0) ∧ w'.cell? ⟨a, 1, none⟩ = some (.int .i64 x1) ∧ w'.cell? ⟨a, 2, none⟩ = some (.int .i64 x2)) ∧ (w'.cell? ⟨a + 1, 0, none⟩ = some (.int .i64 y0) ∧ w'.cell? ⟨a + 1, 1, none⟩ = some (.int .i64 y1) ∧ w'.cell? ⟨a + 1, 2, none⟩ = some (.int .i64 y2)) ∧ Below wc.heap.size wc w' :=
                  fun w' h => ⟨⟨(h.cell (p := ⟨_, _, none⟩) hlA).trans (hcA 0), (h.cell (p := ⟨_, _, none⟩) hlA).trans (hcA 1), (h.cell (p := ⟨_, _, none⟩) hlA).trans (hcA 2)⟩, ⟨(h.cell (p := ⟨_, _, none⟩) hlB).trans (hcB 0), (h.cell (p := ⟨_, _, none⟩) hlB).trans (hcB 1), (h.cell (p := ⟨_, _, none⟩) hlB).trans (hcB 2)⟩, h⟩
                have KS := Lib.hid kS
                clear kS hcA hcB
                go_upto_region 13 with fail
                go_cut [7, 8] from 40 to 73 (fun v7 v8 wx => ∃ g h : Nat, v7 = .pointer (some ⟨g, 0, none⟩) ∧ v8 = .pointer (some ⟨h, 0, none⟩) ∧ wx.heap[g]? = some (.cells #[.int .i64 x0, .int .i64 x1, .int .i64 x2] 37 (0, 0)) ∧ wx.heap[h]? = some (.cells #[.int .i64 y0, .int .i64 y1, .int .i64 y2] 37 (0, 0)) ∧ Below wc.heap.size wc wx)
                case first =>
                  go_region_held3 (fun w' => (w'.cell? ⟨a, 0, none⟩ = some (.int .i64 x0) ∧ w'.cell? ⟨a, 1, none⟩ = some (.int .i64 x1) ∧ w'.cell? ⟨a, 2, none⟩ = some (.int .i64 x2)) ∧ (w'.cell? ⟨a + 1, 0, none⟩ = some (.int .i64 y0) ∧ w'.cell? ⟨a + 1, 1, none⟩ = some (.int .i64 y1) ∧ w'.cell? ⟨a + 1, 2, none⟩ = some (.int .i64 y2)) ∧ Below wc.heap.size wc w') ((refine KS.out _ ?_; go_grown; done)) (fail)
                  all_goals (go_wp2_with fail; go_meet; case rel => exact ⟨_, _, rfl, rfl, by (repeat' (first | assumption | (refine vnewAt ?_; first | omega | (simp; done) | (simp; omega)) | refine valloc ?_ | refine vdrew ?_ | apply vput | (refine vfarr ?_ ?_; focus (first | omega | (simp; done) | (simp; omega))) | rfl)), by (repeat' (first | assumption | (refine vnewAt ?_; first | omega | (simp; done) | (simp; omega)) | refine valloc ?_ | refine vdrew ?_ | apply vput | (refine vfarr ?_ ?_; focus (first | omega | (simp; done) | (simp; omega))) | rfl)), by go_grown⟩)
                case rest =>
                  obtain ⟨g, h, rfl, rfl, hG, hH, hB⟩ := hcut
                  clear KS hlA hlB
                  have s1 : St w _ [blk w.heap.size endsR 3] := (q3.drop.drop).more hB
                  clear q3 hB
                  have hcG := vcell hG
                  have hcH := vcell hH
                  go_wp2_with fail
                  refine (pairs_s (L := []) (St.start _) x0 x1 x2 y0 y1 y2 F.out.1 F.out.2.1 F.out.2.2.1 F.out.2.2.2.1 F.out.2.2.2.2.1 F.out.2.2.2.2.2).mono ?_
                  rintro e_ w3 ⟨rfl, p1⟩
                  have hG3 := vbelow hG p1.bel
                  have hH3 := vbelow hH p1.bel
                  have s2 := s1.more p1.bel
                  clear hcG hcH hG hH s1 p1
                  have hcG := vcell hG3
                  have hcH := vcell hH3
                  go_wp2_with fail
                  have s3 := (s2.alloc #[.int .i64 x0, .int .i64 x1, .int .i64 x2, .int .i64 y0, .int .i64 y1, .int .i64 y2] 37)
                  have hG4 := valloc (o' := .cells #[.int .i64 x0, .int .i64 x1, .int .i64 x2, .int .i64 y0, .int .i64 y1, .int .i64 y2] 37) hG3
                  have hH4 := valloc (o' := .cells #[.int .i64 x0, .int .i64 x1, .int .i64 x2, .int .i64 y0, .int .i64 y1, .int .i64 y2] 37) hH3
                  have b4 := sums2_s x0 x1 x2 y0 y1 y2 (St.start w3 |>.alloc #[.int .i64 x0, .int .i64 x1, .int .i64 x2, .int .i64 y0, .int .i64 y1, .int .i64 y2] 37) F.out.1 F.out.2.1 F.out.2.2.1 F.out.2.2.2.1 F.out.2.2.2.2.1 F.out.2.2.2.2.2
                  refine b4.mono ?_
                  rintro e_ w4 ⟨rfl, p2⟩
                  have hG5 := vbelow hG3 p2.bel
                  have hH5 := vbelow hH3 p2.bel
                  have s5 := s2.more p2.bel
                  clear hcG hcH hG3 hH3 hG4 hH4 s2 s3 b4 p2
                  have hcG := vcell hG5
                  have hcH := vcell hH5
                  go_wp2_with fail
                  have b6 := sums4_s x0 x1 x2 y0 y1 y2 (St.start w4 |>.alloc #[.int .i64 x0, .int .i64 x1, .int .i64 x2, .int .i64 0, .int .i64 0, .int .i64 0, .int .i64 y0, .int .i64 y1, .int .i64 y2, .int .i64 x0, .int .i64 x1, .int .i64 x2] 37) F.out.1 F.out.2.1 F.out.2.2.1 F.out.2.2.2.1 F.out.2.2.2.2.1 F.out.2.2.2.2.2
                  refine b6.mono ?_
                  rintro e_ w5 ⟨rfl, p3⟩
                  have s7 := s5.more p3.bel
                  clear hcG hcH hG5 hH5 s5 b6 p3
                  go_wp2_with fail
                  all_goals go_roundw
                  all_goals first | exact ⟨n + 1, by omega, by go_num, s7⟩ | (simp [intOf]; omega)
            · go_wp2_with fail
              all_goals go_roundw
              all_goals first | exact ⟨k + 1, by omega, by go_num, hs⟩ | (simp [intOf]; omega)
        · go_wp2_with fail
          all_goals go_roundw
          all_goals first | exact ⟨i + 1, by omega, by go_num, hs⟩ | (simp [intOf]; omega)
    · go_wp2_with fail
      refine (sums0_s hs).mono ?_
      rintro e_ w1 ⟨rfl, s1⟩
      go_wp2_with fail
      refine (awake_s s1).mono ?_
      rintro e_ w2 ⟨rfl, s2⟩
      go_wp2
      go_ret
      exact ⟨rfl, s2.bel⟩
end Go.Proofs.Ytcdlfnoagghpmaa
