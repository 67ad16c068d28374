/- The walk of LeaseEnds. Printed by gen/ends.py. -/
import Derived.Test.YtccehechhdndmaaBase
import Derived.Test.YtccehechhdndmaaSep
import Derived.Test.YtccehechhdndmaaSepB
import Derived.Test.YtccehechhdndmaaPLease
import Derived.Test.YtccehechhdndmaaSame
import Derived.BigRegion
import Derived.Deep.Cut
import Derived.Deep.CutRange
import Derived.Lib.Hide
namespace Go.Proofs.Ytccehechhdndmaa
open Go.RowKit Go.Proofs.Ytccehechhdndmaa.L Go.Proofs.Ytccehechhdndmaa.Pure
set_option linter.unusedSimpArgs false
set_option linter.unusedVariables false

theorem ends_imp (b l g a n m e : Int) (hm : 0 ≤ m) (he : -1 ≤ e ∧ e ≤ a ∧ (0 ≤ e → 0 ≤ a)) (hl : 1 ≤ l) (hg : 1 ≤ g) (hb : 1 ≤ b) :
    (fencedB l g a n = true → overB l a n = true) ∧ (overB l a n = true → overB l a (n + m) = true ∧ overB l e n = true) ∧ (fencedB l g a n = true → fencedB l g a (n + m) = true ∧ fencedB l g e n = true) ∧
    (dueB b a n = true → dueB b a (n + m) = true ∧ dueB b e n = true) ∧ (a < 0 → overB l a n = true ∧ fencedB l g a n = true ∧ dueB b a n = true) := by
  simp only [overB_iff, fencedB_iff, dueB_iff]
  omega

set_option maxRecDepth 100000 in
set_option maxHeartbeats 16000000 in
theorem ends_c (w : World) (n0 n1 n2 a n m0 m1 : Int) :
    Calls Try.prog 10 #[.agg #[.int .i64 n0, .int .i64 n1, .int .i64 n2], .int .i64 a, .int .i64 n, .agg #[.int .i64 m0, .int .i64 m1]] w fun e w' => e = .returned (.bool true) ∧ Below w.heap.size w w' := by
  have r0 := red n0 1000 (by omega) (by omega)
  have r1 := red n1 1000 (by omega) (by omega)
  have r2 := red n2 1000 (by omega) (by omega)
  have r3 := red a 5000 (by omega) (by omega)
  have r4 := red n 5000 (by omega) (by omega)
  have r5 := red m0 5000 (by omega) (by omega)
  have r6 := red m1 5000 (by omega) (by omega)
  have h0 : St w ((w.alloc (.cells #[.int .i64 n0, .int .i64 n1, .int .i64 n2] 60)).alloc (.cells #[.int .i64 m0, .int .i64 m1] 61)) [blk (w.heap.size + 1) #[.int .i64 m0, .int .i64 m1] 61, blk w.heap.size #[.int .i64 n0, .int .i64 n1, .int .i64 n2] 60] := by
    have := ((St.start w).alloc #[.int .i64 n0, .int .i64 n1, .int .i64 n2] 60).alloc #[.int .i64 m0, .int .i64 m1] 61
    simpa using this
  have hlt := vlt h0.at0
  go_enter Try.func10, Try.ntmps10
  go_wp2_with fail
  refine (sacristanlaw13_Plain.calls _ _ _ _ _ _ _ _ _ _ _ _ rfl).mono ?_
  rintro e_ w1 ⟨rfl, hb1⟩
  have hN1 := Nat.lt_of_lt_of_le hlt hb1.size
  have h2 := (h0.more hb1).alloc #[.int .i64 10, .int .i64 10, .int .i64 10, .int .i64 2, .int .i64 48, .int .i64 2, .int .i64 2, .int .i64 5, .int .i64 10, .int .i64 2, .int .i64 3] 54
  clear h0 hb1 hlt
  go_upto_region 2 with fail
  have c0 := (h2.pick 2).cells
  have c1 := h2.cells
  have f1 := h2.free
  have hne : ¬ w.heap.size = w1.heap.size := by omega
  have hne1 : ¬ w.heap.size + 1 = w1.heap.size := by omega
  clear hN1
  generalize w1.heap.size = C at *
  generalize (w1.alloc (.cells #[.int .i64 10, .int .i64 10, .int .i64 10, .int .i64 2, .int .i64 48, .int .i64 2, .int .i64 2, .int .i64 5, .int .i64 10, .int .i64 2, .int .i64 3] 54)) = w2 at *
  have d0 := c0 0
  have d1 := c0 1
  have d2 := c0 2
  have e7 := c1 7
  have e8 := c1 8
  have e9 := c1 9
  have g7 := f1 7
  have g8 := f1 8
  have g9 := f1 9
  simp only [List.getElem?_toArray] at d0 d1 d2 e7 e8 e9
  clear c0 c1 f1
  go_cut [] from 33 to 53 (fun wx => ∃ b l g : Int, (1 ≤ b ∧ b ≤ 1000) ∧ (1 ≤ l ∧ l ≤ 1000) ∧ (1 ≤ g ∧ g ≤ 1000) ∧ St w wx [blk C #[.int .i64 10, .int .i64 10, .int .i64 10, .int .i64 2, .int .i64 48, .int .i64 2, .int .i64 2, .int .i64 b, .int .i64 l, .int .i64 g, .int .i64 3] 54, blk (w.heap.size + 1) #[.int .i64 m0, .int .i64 m1] 61])
  case first =>
    have R := Lib.hid (And.intro r0 (And.intro r1 r2))
    clear r3 r4 r5 r6
    go_region
    all_goals (
      go_wp2_with fail
      go_meet
      case rel => exact ⟨_, _, _, by have := R.out; omega, by have := R.out; omega, by have := R.out; omega, ((((h2.setb 7 _ rfl).setb 8 _ rfl).setb 9 _ rfl).drew.pick 2 |>.drop)⟩)
  case rest =>
    obtain ⟨b, l, g, hb, hl, hg, h3⟩ := hcut
    clear h2 d0 d1 d2 e7 e8 e9 g7 g8 g9 hne hne1 r0 r1 r2
    have hcC := h3.cells
    have hcM := (h3.pick 1).cells
    go_upto_region 4 with fail
    generalize hA_ : (wrap64 (a.tmod 5000 + 5000)).tmod 5000 - 1 = at_ at *
    generalize hN_ : (wrap64 (n.tmod 5000 + 5000)).tmod 5000 = now at *
    have ha : -1 ≤ at_ ∧ at_ ≤ 4998 := by omega
    have hn : 0 ≤ now ∧ now ≤ 4999 := by omega
    clear hA_ hN_ r3 r4
    obtain ⟨A, eA⟩ : ∃ A, overB l at_ now = A := ⟨_, rfl⟩
    obtain ⟨F, eF⟩ : ∃ A, fencedB l g at_ now = A := ⟨_, rfl⟩
    obtain ⟨D, eD⟩ : ∃ A, dueB b at_ now = A := ⟨_, rfl⟩
    have EA := Lib.hid eA
    have EF := Lib.hid eF
    have ED := Lib.hid eD
    clear eA eF eD
    go_wp2_with fail
    refine (says_c2 b l g at_ now _ (by omega) (by omega) (by omega) (by omega) (by omega) A F D EA.out EF.out ED.out).mono ?_
    rintro e_ w3 ⟨rfl, k⟩
    have h4 := h3.more k
    clear h3 k hcC hcM
    have hcC := h4.cells
    have hcM := (h4.pick 1).cells
    go_wp2_with fail
    generalize hm_ : (wrap64 (m0.tmod 5000 + 5000)).tmod 5000 = m at *
    clear hm_
    obtain ⟨A1, eA⟩ : ∃ A, overB l at_ (now + m) = A := ⟨_, rfl⟩
    obtain ⟨F1, eF⟩ : ∃ A, fencedB l g at_ (now + m) = A := ⟨_, rfl⟩
    obtain ⟨D1, eD⟩ : ∃ A, dueB b at_ (now + m) = A := ⟨_, rfl⟩
    have EA1 := Lib.hid eA
    have EF1 := Lib.hid eF
    have ED1 := Lib.hid eD
    clear eA eF eD
    refine (says_c2 b l g at_ (now + m) _ (by omega) (by omega) (by omega) (by omega) (by omega) A1 F1 D1 EA1.out EF1.out ED1.out).mono ?_
    rintro e_ w4 ⟨rfl, k⟩
    have h5 := h4.more k
    clear h4 k hcC hcM
    have hcC := h5.cells
    have hcM := (h5.pick 1).cells
    have hI : ∀ e, -1 ≤ e ∧ e ≤ at_ ∧ (0 ≤ e → 0 ≤ at_) → (A = true → overB l e now = true) ∧ (F = true → fencedB l g e now = true) ∧ (D = true → dueB b e now = true) := fun e he => by
      obtain ⟨i1, i2, i3, i4, i5⟩ := ends_imp b l g at_ now m e r5.1 he hl.1 hg.1 hb.1
      rw [EA.out] at i2; rw [EF.out] at i3; rw [ED.out] at i4
      exact ⟨fun h => (i2 h).2, fun h => (i3 h).2, fun h => (i4 h).2⟩
    have hI2 : (F = true → A = true) ∧ (A = true → A1 = true) ∧ (F = true → F1 = true) ∧ (D = true → D1 = true) ∧ (at_ < 0 → A = true ∧ F = true ∧ D = true) := by
      obtain ⟨i1, i2, i3, i4, i5⟩ := ends_imp b l g at_ now m (-1) r5.1 (by omega) hl.1 hg.1 hb.1
      rw [EA.out, EF.out] at i1; rw [EA.out, EA1.out] at i2; rw [EF.out, EF1.out] at i3; rw [ED.out, ED1.out] at i4; rw [EA.out, EF.out, ED.out] at i5
      exact ⟨i1, fun h => (i2 h).1, fun h => (i3 h).1, fun h => (i4 h).1, i5⟩
    have HI := Lib.hid hI
    have HI2 := Lib.hid hI2
    clear hI hI2 EA EF ED EA1 EF1 ED1 r5
    go_upto_region 6 with fail
    go_cut [18, 19, 20, 21] from 87 to 102 (fun v18 v19 v20 v21 wx => ∃ (A2 F2 D2 : Bool), v18 = .bool A2 ∧ v19 = .bool F2 ∧ v20 = .bool D2 ∧ v21 = .bool true ∧ ((A = true → A2 = true) ∧ (F = true → F2 = true) ∧ (D = true → D2 = true)) ∧ St w wx [blk C #[.int .i64 10, .int .i64 10, .int .i64 10, .int .i64 2, .int .i64 48, .int .i64 2, .int .i64 2, .int .i64 b, .int .i64 l, .int .i64 g, .int .i64 3] 54, blk (w.heap.size + 1) #[.int .i64 m0, .int .i64 m1] 61])
    case first =>
      go_wp2_with fail
      all_goals (
        refine (says_c2 b l g _ now _ (by omega) (by omega) (by omega) (by omega) (by omega) _ _ _ rfl rfl rfl).mono ?_
        rintro e_ w5 ⟨rfl, k⟩
        have h6 := h5.more k
        clear k hcC hcM
        go_wp2_with fail
        go_meet
        case rel => exact ⟨_, _, _, rfl, rfl, rfl, rfl, HI.out _ (by omega), h6⟩)
    case rest =>
      obtain ⟨A2, F2, D2, rfl, rfl, rfl, rfl, ⟨j1, j2, j3⟩, h6⟩ := hcut
      obtain ⟨i1, i2, i3, i4, i5⟩ := HI2.out
      have J := Lib.hid (And.intro j1 (And.intro j2 (And.intro j3 (And.intro i1 (And.intro i2 (And.intro i3 i4))))))
      have I5 := Lib.hid i5
      have BD := Lib.hid (And.intro hb (And.intro hl (And.intro hg (And.intro ha hn))))
      clear j1 j2 j3 i1 i2 i3 i4 i5 HI HI2 h5 hcC hcM r6 hb hl hg ha hn
      go_upto_region 7 with fail
      go_cut [149] from 103 to 148 (fun v149 wd => v149 = .bool false ∧ wd = wc)
      case first =>
        clear h6 BD I5
        cases F with
        | true =>
          obtain rfl := J.out.2.1 rfl
          obtain rfl := J.out.2.2.2.1 rfl
          obtain rfl := J.out.1 rfl
          obtain rfl := J.out.2.2.2.2.2.1 rfl
          obtain rfl := J.out.2.2.2.2.1 rfl
          cases D with
          | true =>
            obtain rfl := J.out.2.2.1 rfl
            obtain rfl := J.out.2.2.2.2.2.2 rfl
            clear J
            go_wp2_with fail
            go_meet
            case rel => exact ⟨rfl, rfl⟩
          | false =>
            clear J
            go_wp2_with fail
            go_meet
            case rel => exact ⟨rfl, rfl⟩
        | false =>
          cases A with
          | true =>
            obtain rfl := J.out.1 rfl
            obtain rfl := J.out.2.2.2.2.1 rfl
            cases D with
            | true =>
              obtain rfl := J.out.2.2.1 rfl
              obtain rfl := J.out.2.2.2.2.2.2 rfl
              clear J
              go_wp2_with fail
              go_meet
              case rel => exact ⟨rfl, rfl⟩
            | false =>
              clear J
              go_wp2_with fail
              go_meet
              case rel => exact ⟨rfl, rfl⟩
          | false =>
            cases D with
            | true =>
              obtain rfl := J.out.2.2.1 rfl
              obtain rfl := J.out.2.2.2.2.2.2 rfl
              clear J
              go_wp2_with fail
              go_meet
              case rel => exact ⟨rfl, rfl⟩
            | false =>
              clear J
              go_wp2_with fail
              go_meet
              case rel => exact ⟨rfl, rfl⟩
      case rest =>
        obtain ⟨rfl, ew⟩ := hcut
        have ew := ew.symm
        subst ew
        clear J
        have h7 := h6.pick 1 |>.drop
        clear h6
        by_cases hz : at_ < 0
        · obtain ⟨rfl, rfl, rfl⟩ := I5.out hz
          clear I5
          go_wp2_with fail
          refine (sacristanlaw15_awake.calls true _ awake_eq rfl).mono ?_
          rintro e_ w7 ⟨rfl, k⟩
          have h8 := h7.more k
          clear h7 k
          go_wp2
          go_ret
          exact ⟨rfl, h8.bel⟩
        · clear I5
          have hcC := h7.cells
          go_wp2_with fail
          obtain ⟨hb, hl, hg, ha, hn⟩ := BD.out
          have q1 : overB l at_ at_ = false := by rw [← Bool.not_eq_true, overB_iff]; omega
          have q2 : fencedB l g at_ at_ = false := by rw [← Bool.not_eq_true, fencedB_iff]; omega
          have q3 : dueB b at_ at_ = false := by rw [← Bool.not_eq_true, dueB_iff]; omega
          have q4 : fencedB l g at_ (at_ + l + g) = false := by rw [← Bool.not_eq_true, fencedB_iff]; omega
          have q5 : fencedB l g at_ (at_ + l + g + 1) = true := by rw [fencedB_iff]; omega
          have s1 := fun W => says_c2 b l g at_ at_ W (by omega) (by omega) (by omega) (by omega) (by omega) _ _ _ q1 q2 q3
          have s2 := fun W => says_c2 b l g at_ (at_ + l + g) W (by omega) (by omega) (by omega) (by omega) (by omega) _ _ _ rfl q4 rfl
          have s3 := fun W => says_c2 b l g at_ (at_ + l + g + 1) W (by omega) (by omega) (by omega) (by omega) (by omega) _ _ _ rfl q5 rfl
          have S1 := Lib.hid s1
          have S2 := Lib.hid s2
          have S3 := Lib.hid s3
          clear q1 q2 q3 q4 q5 s1 s2 s3 hn BD
          refine (S1.out _).mono ?_
          rintro e_ w7 ⟨rfl, k⟩
          have h8 := h7.more k
          clear h7 k hcC
          have hcC := h8.cells
          go_wp2_with fail
          refine (S2.out _).mono ?_
          rintro e_ w8 ⟨rfl, k⟩
          have h9 := h8.more k
          clear h8 k hcC
          have hcC := h9.cells
          go_wp2_with fail
          refine (S3.out _).mono ?_
          rintro e_ w9 ⟨rfl, k⟩
          have h10 := h9.more k
          clear h9 k hcC
          go_wp2_with fail
          refine (sacristanlaw15_awake.calls true _ awake_eq rfl).mono ?_
          rintro e_ w10 ⟨rfl, k⟩
          have h11 := h10.more k
          clear h10 k
          go_wp2
          go_ret
          exact ⟨rfl, h11.bel⟩
theorem walk_LeaseEnds (w : World) (n0 n1 n2 : Int) (_ : (Lit.int .i64 n0).wf = true) (_ : (Lit.int .i64 n1).wf = true) (_ : (Lit.int .i64 n2).wf = true) (a : Int) (_ : (Lit.int .i64 a).wf = true) (n : Int) (_ : (Lit.int .i64 n).wf = true) (m0 m1 : Int) (_ : (Lit.int .i64 m0).wf = true) (_ : (Lit.int .i64 m1).wf = true) :
    Calls Try.prog 10 #[.agg #[.int .i64 n0, .int .i64 n1, .int .i64 n2], .int .i64 a, .int .i64 n, .agg #[.int .i64 m0, .int .i64 m1]] w fun e w' => e = .returned (.bool true) ∧ Below w.heap.size w w' := ends_c w n0 n1 n2 a n m0 m1
end Go.Proofs.Ytccehechhdndmaa
