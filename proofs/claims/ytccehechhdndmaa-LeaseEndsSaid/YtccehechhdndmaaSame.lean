/- The walk of LeaseSame. Printed by gen/same.py. -/
import Derived.Test.YtccehechhdndmaaBase
import Derived.Test.YtccehechhdndmaaSep
import Derived.Test.YtccehechhdndmaaSepB
import Derived.Test.YtccehechhdndmaaPLease
import Derived.BigRegion
import Derived.Deep.Cut
import Derived.Deep.CutRange
import Derived.Deep.RegionHeld3
import Derived.Lib.Hide
namespace Go.Proofs.Ytccehechhdndmaa
open Go.RowKit Go.Proofs.Ytccehechhdndmaa.L Go.Proofs.Ytccehechhdndmaa.Pure
set_option linter.unusedSimpArgs false
set_option linter.unusedVariables false

theorem says_c2 (b l g a n : Int) (w : World) (hb : 1 ≤ b ∧ b ≤ 1099511627776) (hl : 1 ≤ l ∧ l ≤ 1099511627776) (hg : 0 ≤ g ∧ g ≤ 1099511627776) (ha : -1 ≤ a ∧ a ≤ 1099511627776) (hn : 0 ≤ n ∧ n ≤ 1099511627776) (A F D : Bool) (eA : overB l a n = A) (eF : fencedB l g a n = F) (eD : dueB b a n = D) :
    Calls Try.prog 43 #[.agg #[.int .i64 10, .int .i64 10, .int .i64 10, .int .i64 2, .int .i64 48, .int .i64 2, .int .i64 2, .int .i64 b, .int .i64 l, .int .i64 g, .int .i64 3], .int .i64 a, .int .i64 n] w fun e w' => e = .returned (.tuple #[.bool A, .bool F, .bool D, .bool true]) ∧ Below w.heap.size w w' :=
  sacristanlaw15_says.calls _ _ _ _ _ _ _ _ _ _ _ _ _ _ _ _ _ w (by rw [says_eq _ _ _ _ _ _ _ _ _ _ _ _ _ (plain_ok hb hl hg) ((tickB_iff _ _).2 ⟨ha, hn⟩), eA, eF, eD])
theorem same1 (l a n : Int) : fencedB l 0 a n = overB l a n := by
  rw [Bool.eq_iff_iff, fencedB_iff, overB_iff]; omega
theorem same2 (l g a n : Int) : overB (l + g) a n = fencedB l g a n := by
  rw [Bool.eq_iff_iff, fencedB_iff, overB_iff]; omega
theorem same3 (b a n : Int) : overB (b - 1) a n = dueB b a n := by
  rw [Bool.eq_iff_iff, dueB_iff, overB_iff]; omega

set_option maxRecDepth 100000 in
set_option maxHeartbeats 16000000 in
theorem same_c (w : World) (n0 n1 n2 a n : Int) :
    Calls Try.prog 11 #[.agg #[.int .i64 n0, .int .i64 n1, .int .i64 n2], .int .i64 a, .int .i64 n] w fun e w' => e = .returned (.bool true) ∧ Below w.heap.size w w' := by
  have r0 := red n0 1000 (by omega) (by omega)
  have r1 := red n1 1000 (by omega) (by omega)
  have r2 := red n2 1000 (by omega) (by omega)
  have r3 := red a 5000 (by omega) (by omega)
  have r4 := red n 5000 (by omega) (by omega)
  have h0 := (St.start w).alloc #[.int .i64 n0, .int .i64 n1, .int .i64 n2] 60
  have hlt : w.heap.size < (w.alloc (.cells #[.int .i64 n0, .int .i64 n1, .int .i64 n2] 60)).heap.size := vlt h0.at0
  go_enter Try.func11, Try.ntmps11
  go_wp2_with fail
  refine (sacristanlaw13_Plain.calls _ _ _ _ _ _ _ _ _ _ _ _ rfl).mono ?_
  rintro e_ w1 ⟨rfl, hb1⟩
  have hN1 : w.heap.size < w1.heap.size := Nat.lt_of_lt_of_le hlt hb1.size
  have h2 := (h0.more hb1).alloc #[.int .i64 10, .int .i64 10, .int .i64 10, .int .i64 2, .int .i64 48, .int .i64 2, .int .i64 2, .int .i64 5, .int .i64 10, .int .i64 2, .int .i64 3] 54
  clear h0 hb1 hlt
  go_upto_region 2 with fail
  have c0 := (h2.pick 1).cells
  have c1 := h2.cells
  have f1 := h2.free
  have hne : ¬ w.heap.size = w1.heap.size := by omega
  clear hN1
  generalize w1.heap.size = C at *
  generalize (w1.alloc (.cells #[.int .i64 10, .int .i64 10, .int .i64 10, .int .i64 2, .int .i64 48, .int .i64 2, .int .i64 2, .int .i64 5, .int .i64 10, .int .i64 2, .int .i64 3] 54)) = w2 at *
  have d0 := c0 0
  have d1 := c0 1
  have d2 := c0 2
  have e7 := c1 7
  have e8 := c1 8
  have e9 := c1 9
  have g7 := f1 7
  have g8 := f1 8
  have g9 := f1 9
  simp only [List.getElem?_toArray] at d0 d1 d2 e7 e8 e9
  clear c0 c1 f1
  go_cut [] from 28 to 48 (fun wx => ∃ b l g : Int, (2 ≤ b ∧ b ≤ 1001) ∧ (2 ≤ l ∧ l ≤ 1001) ∧ (2 ≤ g ∧ g ≤ 1001) ∧ St w wx [blk C #[.int .i64 10, .int .i64 10, .int .i64 10, .int .i64 2, .int .i64 48, .int .i64 2, .int .i64 2, .int .i64 b, .int .i64 l, .int .i64 g, .int .i64 3] 54])
  case first =>
    have R := Lib.hid (And.intro r0 (And.intro r1 r2))
    clear r3 r4
    go_region
    all_goals (
      go_wp2_with fail
      go_meet
      case rel => exact ⟨_, _, _, by have := R.out; omega, by have := R.out; omega, by have := R.out; omega, (((h2.setb 7 _ rfl).setb 8 _ rfl).setb 9 _ rfl).drew.pick 1 |>.drop⟩)
  case rest =>
    obtain ⟨b, l, g, hb, hl, hg, h3⟩ := hcut
    clear h2 d0 d1 d2 e7 e8 e9 g7 g8 g9 hne r0 r1 r2
    go_upto_region 4 with fail
    generalize hA_ : (wrap64 (a.tmod 5000 + 5000)).tmod 5000 - 1 = at_ at *
    generalize hN_ : (wrap64 (n.tmod 5000 + 5000)).tmod 5000 = now at *
    have ha : -1 ≤ at_ ∧ at_ ≤ 4998 := by omega
    have hn : 0 ≤ now ∧ now ≤ 4999 := by omega
    clear hA_ hN_ r3 r4
    have H := Lib.hid (And.intro hb (And.intro hl (And.intro hg (And.intro ha hn))))
    clear hb hl hg ha hn
    have hcC := h3.cells
    have hlC := vlt h3.at0
    have kS : ∀ w', Below wc.heap.size wc w' → (w'.cell? ⟨C, 0, none⟩ = some (.int .i64 10) ∧ w'.cell? ⟨C, 1, none⟩ = some (.int .i64 10) ∧ w'.cell? ⟨C, 2, none⟩ = some (.int .i64 10) ∧ w'.cell? ⟨C, 3, none⟩ = some (.int .i64 2) ∧ w'.cell? ⟨C, 4, none⟩ = some (.int .i64 48) ∧ w'.cell? ⟨C, 5, none⟩ = some (.int .i64 2) ∧ w'.cell? ⟨C, 6, none⟩ = some (.int .i64 2) ∧ w'.cell? ⟨C, 7, none⟩ = some (.int .i64 b) ∧ w'.cell? ⟨C, 8, none⟩ = some (.int .i64 l) ∧ w'.cell? ⟨C, 9, none⟩ = some (.int .i64 g) ∧ w'.cell? ⟨C, 10, none⟩ = some (.int .i64 3)) ∧ Below wc.heap.size wc w' :=
      fun w' h => ⟨⟨(h.cell (p := ⟨_, _, none⟩) hlC).trans (hcC 0), (h.cell (p := ⟨_, _, none⟩) hlC).trans (hcC 1), (h.cell (p := ⟨_, _, none⟩) hlC).trans (hcC 2), (h.cell (p := ⟨_, _, none⟩) hlC).trans (hcC 3), (h.cell (p := ⟨_, _, none⟩) hlC).trans (hcC 4), (h.cell (p := ⟨_, _, none⟩) hlC).trans (hcC 5), (h.cell (p := ⟨_, _, none⟩) hlC).trans (hcC 6), (h.cell (p := ⟨_, _, none⟩) hlC).trans (hcC 7), (h.cell (p := ⟨_, _, none⟩) hlC).trans (hcC 8), (h.cell (p := ⟨_, _, none⟩) hlC).trans (hcC 9), (h.cell (p := ⟨_, _, none⟩) hlC).trans (hcC 10)⟩, h⟩
    have KS := Lib.hid kS
    clear kS hcC
    go_cut [8, 9, 10] from 58 to 60 (fun v8 v9 v10 wx => ∃ A B D : Nat, v8 = .pointer (some ⟨A, 0, none⟩) ∧ v9 = .pointer (some ⟨B, 0, none⟩) ∧ v10 = .pointer (some ⟨D, 0, none⟩) ∧ A ≠ B ∧ A ≠ D ∧ B ≠ D ∧ wc.heap.size ≤ A ∧ wc.heap.size ≤ B ∧ wc.heap.size ≤ D ∧ wx.heap[A]? = some (.cells #[.int .i64 10, .int .i64 10, .int .i64 10, .int .i64 2, .int .i64 48, .int .i64 2, .int .i64 2, .int .i64 b, .int .i64 l, .int .i64 g, .int .i64 3] 54 (0, 0)) ∧ wx.heap[B]? = some (.cells #[.int .i64 10, .int .i64 10, .int .i64 10, .int .i64 2, .int .i64 48, .int .i64 2, .int .i64 2, .int .i64 b, .int .i64 l, .int .i64 g, .int .i64 3] 54 (0, 0)) ∧ wx.heap[D]? = some (.cells #[.int .i64 10, .int .i64 10, .int .i64 10, .int .i64 2, .int .i64 48, .int .i64 2, .int .i64 2, .int .i64 b, .int .i64 l, .int .i64 g, .int .i64 3] 54 (0, 0)) ∧ Below wc.heap.size wc wx)
    case first =>
      go_region_held3 (fun w' => (w'.cell? ⟨C, 0, none⟩ = some (.int .i64 10) ∧ w'.cell? ⟨C, 1, none⟩ = some (.int .i64 10) ∧ w'.cell? ⟨C, 2, none⟩ = some (.int .i64 10) ∧ w'.cell? ⟨C, 3, none⟩ = some (.int .i64 2) ∧ w'.cell? ⟨C, 4, none⟩ = some (.int .i64 48) ∧ w'.cell? ⟨C, 5, none⟩ = some (.int .i64 2) ∧ w'.cell? ⟨C, 6, none⟩ = some (.int .i64 2) ∧ w'.cell? ⟨C, 7, none⟩ = some (.int .i64 b) ∧ w'.cell? ⟨C, 8, none⟩ = some (.int .i64 l) ∧ w'.cell? ⟨C, 9, none⟩ = some (.int .i64 g) ∧ w'.cell? ⟨C, 10, none⟩ = some (.int .i64 3)) ∧ Below wc.heap.size wc w') ((refine KS.out _ ?_; go_grown; done)) (fail)
      all_goals (go_wp2_with fail; go_meet; case rel => exact ⟨_, _, _, rfl, rfl, rfl, by omega, by omega, by omega, by omega, by omega, by omega, by (repeat' (first | assumption | (refine vnewAt ?_; first | omega | (simp; done) | (simp; omega)) | refine valloc ?_ | refine vdrew ?_ | apply vput | (refine vfarr ?_ ?_; focus (first | omega | (simp; done) | (simp; omega))) | rfl)), by (repeat' (first | assumption | (refine vnewAt ?_; first | omega | (simp; done) | (simp; omega)) | refine valloc ?_ | refine vdrew ?_ | apply vput | (refine vfarr ?_ ?_; focus (first | omega | (simp; done) | (simp; omega))) | rfl)), by (repeat' (first | assumption | (refine vnewAt ?_; first | omega | (simp; done) | (simp; omega)) | refine valloc ?_ | refine vdrew ?_ | apply vput | (refine vfarr ?_ ?_; focus (first | omega | (simp; done) | (simp; omega))) | rfl)), by go_grown⟩)
    case rest =>
      obtain ⟨A, B, D, rfl, rfl, rfl, n1, n2, n3, lA, lB, lD, hA, hB, hD, hbx⟩ := hcut
      have q0 := (h3.more hbx).at0
      have hbw : Below w.heap.size w _ := (h3.more hbx).bel
      have m1 : ¬ C = A := by omega
      have m2 : ¬ C = B := by omega
      have m3 : ¬ C = D := by omega
      have m1' : ¬ A = C := Ne.symm m1
      have m2' : ¬ B = C := Ne.symm m2
      have m3' : ¬ D = C := Ne.symm m3
      have p1 : ¬ A = B := n1
      have p2 : ¬ A = D := n2
      have p3 : ¬ B = D := n3
      have c7 := vcell q0 7
      have c8 := vcell q0 8
      have c9 := vcell q0 9
      have a9 := vcell hA 9
      have b8 := vcell hB 8
      have d8 := vcell hD 8
      have fa := vfree hA 9
      have fb := vfree hB 8
      have fd := vfree hD 8
      simp only [List.getElem?_toArray] at c7 c8 c9 a9 b8 d8
      have hwb := h3.bel.size
      have HH := Lib.hid (And.intro hA (And.intro hB (And.intro hD (And.intro q0 (And.intro hbw (And.intro (show w.heap.size ≤ A by omega) (And.intro (show w.heap.size ≤ B by omega) (show w.heap.size ≤ D by omega))))))))
      have hb := H.out.1
      have hl := H.out.2.1
      have hg := H.out.2.2.1
      clear h3 KS hlC n1 n2 n3 lA lB lD hA hB hD hbx q0 hbw hwb
      go_upto_region 5 with fail
      go_cut [] from 61 to 71 (fun wx => wx.heap[C]? = some (.cells #[.int .i64 10, .int .i64 10, .int .i64 10, .int .i64 2, .int .i64 48, .int .i64 2, .int .i64 2, .int .i64 b, .int .i64 l, .int .i64 g, .int .i64 3] 54 (0, 0)) ∧ wx.heap[A]? = some (.cells #[.int .i64 10, .int .i64 10, .int .i64 10, .int .i64 2, .int .i64 48, .int .i64 2, .int .i64 2, .int .i64 b, .int .i64 l, .int .i64 0, .int .i64 3] 54 (0, 0)) ∧ wx.heap[B]? = some (.cells #[.int .i64 10, .int .i64 10, .int .i64 10, .int .i64 2, .int .i64 48, .int .i64 2, .int .i64 2, .int .i64 b, .int .i64 (l + g), .int .i64 g, .int .i64 3] 54 (0, 0)) ∧ wx.heap[D]? = some (.cells #[.int .i64 10, .int .i64 10, .int .i64 10, .int .i64 2, .int .i64 48, .int .i64 2, .int .i64 2, .int .i64 b, .int .i64 (b - 1), .int .i64 g, .int .i64 3] 54 (0, 0)) ∧ Below w.heap.size w wx)
      case first =>
        go_region
        all_goals (
          go_wp2_with fail
          go_meet
          case rel =>
            obtain ⟨hA, hB, hD, hC, hbw, lA, lB, lD⟩ := HH.out
            exact ⟨vdrew (vfar (vfar (vfar hC m1) m2) m3), vdrew (vfar (vfar (vput hA rfl) p1) p2), vdrew (vfar (vput (vfar hB (Ne.symm p1)) rfl) p3), vdrew (vput (vfar (vfar hD (Ne.symm p2)) (Ne.symm p3)) rfl), by go_grown⟩)
      case rest =>
        obtain ⟨hC, hA, hB, hD, hbw⟩ := hcut
        clear c7 c8 c9 a9 b8 d8 fa fb fd HH m1 m2 m3 m1' m2' m3' p1 p2 p3 hb hl hg
        obtain ⟨b1, b2, b3, b4, b5⟩ := H.out
        have s1 := fun W => says_c2 b l g at_ now W (by omega) (by omega) (by omega) (by omega) (by omega) _ _ _ rfl rfl rfl
        have s2 := fun W => says_c2 b l 0 at_ now W (by omega) (by omega) (by omega) (by omega) (by omega) _ _ _ rfl (same1 _ _ _) rfl
        have s3 := fun W => says_c2 b (l + g) g at_ now W (by omega) (by omega) (by omega) (by omega) (by omega) _ _ _ (same2 _ _ _ _) rfl rfl
        have s4 := fun W => says_c2 b (b - 1) g at_ now W (by omega) (by omega) (by omega) (by omega) (by omega) _ _ _ (same3 _ _ _) rfl rfl
        generalize overB l at_ now = X1 at *
        generalize fencedB l g at_ now = X2 at *
        generalize dueB b at_ now = X3 at *
        generalize fencedB (l + g) g at_ now = X4 at *
        generalize fencedB (b - 1) g at_ now = X5 at *
        have S1 := Lib.hid s1
        have S2 := Lib.hid s2
        have S3 := Lib.hid s3
        have S4 := Lib.hid s4
        clear s1 s2 s3 s4 b1 b2 b3 b4 b5 H
        have hcC := vcell hC
        go_wp2_with fail
        refine (S1.out _).mono ?_
        rintro e_ w3 ⟨rfl, k⟩
        have hA3 := vbelow hA k
        have hB3 := vbelow hB k
        have hD3 := vbelow hD k
        have hb3 := below_then hbw k
        clear hcC hC hA hB hD hbw k
        have hcA := vcell hA3
        go_wp2_with fail
        refine (S2.out _).mono ?_
        rintro e_ w4 ⟨rfl, k⟩
        have hB4 := vbelow hB3 k
        have hD4 := vbelow hD3 k
        have hb4 := below_then hb3 k
        clear hcA hA3 hB3 hD3 hb3 k
        have hcB := vcell hB4
        go_wp2_with fail
        refine (S3.out _).mono ?_
        rintro e_ w5 ⟨rfl, k⟩
        have hD5 := vbelow hD4 k
        have hb5 := below_then hb4 k
        clear hcB hB4 hD4 hb4 k
        have hcD := vcell hD5
        go_wp2_with fail
        refine (S4.out _).mono ?_
        rintro e_ w6 ⟨rfl, k⟩
        have hb6 := below_then hb5 k
        clear hcD hD5 hb5 k
        go_wp2_with fail
        refine (sacristanlaw15_awake.calls true _ awake_eq rfl).mono ?_
        rintro e_ w7 ⟨rfl, k⟩
        go_wp2
        go_ret
        exact ⟨rfl, below_then hb6 k⟩
theorem walk_LeaseSame (w : World) (n0 n1 n2 : Int) (_ : (Lit.int .i64 n0).wf = true) (_ : (Lit.int .i64 n1).wf = true) (_ : (Lit.int .i64 n2).wf = true) (a : Int) (_ : (Lit.int .i64 a).wf = true) (n : Int) (_ : (Lit.int .i64 n).wf = true) :
    Calls Try.prog 11 #[.agg #[.int .i64 n0, .int .i64 n1, .int .i64 n2], .int .i64 a, .int .i64 n] w fun e w' => e = .returned (.bool true) ∧ Below w.heap.size w w' := same_c w n0 n1 n2 a n
end Go.Proofs.Ytccehechhdndmaa
