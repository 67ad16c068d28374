/- The walk of DelayScales. -/
import Derived.Test.YtcdlfnoagghpmaaBase
import Derived.Test.YtcdlfnoagghpmaaDelP
import Derived.BigRegion
import Derived.Deep.Cut
import Derived.Deep.CutRange
import Derived.Lib.Hide
namespace Go.Proofs.Ytcdlfnoagghpmaa
open Go.RowKit Go.Proofs.Ytcdlfnoagghpmaa.Ext Go.Proofs.Ytcdlfnoagghpmaa.D Go.Proofs.Ytcdlfnoagghpmaa.Pure
set_option linter.unusedSimpArgs false
set_option linter.unusedVariables false

/-- The four policies, where they lie. -/
structure ScW (w : World) (B B1 B2 B3 : Nat) (l wd bs m bq ms tb tm : Int) (wc : World) : Prop where
  p : wc.heap[B]? = some (.cells #[.bool false, .int .i64 l, .int .i64 wd, .int .i64 bs, .int .i64 m] 23 (0, 0))
  q : wc.heap[B1]? = some (.cells #[.bool false, .int .i64 l, .int .i64 wd, .int .i64 bq, .int .i64 m] 23 (0, 0))
  s : wc.heap[B2]? = some (.cells #[.bool false, .int .i64 l, .int .i64 wd, .int .i64 bs, .int .i64 ms] 23 (0, 0))
  t : wc.heap[B3]? = some (.cells #[.bool false, .int .i64 l, .int .i64 wd, .int .i64 tb, .int .i64 tm] 23 (0, 0))
  b : Below w.heap.size w wc
structure ScN (w : World) (B B1 B2 B3 : Nat) : Prop where
  n1 : B ≠ B1
  n2 : B ≠ B2
  n3 : B ≠ B3
  n4 : B1 ≠ B2
  n5 : B1 ≠ B3
  n6 : B2 ≠ B3
  e1 : w.heap.size ≤ B1
  e2 : w.heap.size ≤ B2
  e3 : w.heap.size ≤ B3
set_option maxRecDepth 100000 in
set_option maxHeartbeats 8000000 in
theorem scales_c (a b more n : Int) (w : World) : Calls Try.prog 7 #[.int .i64 a, .int .i64 b, .int .i64 more, .int .i64 n] w fun e w' => e = .returned (.bool true) ∧ Below w.heap.size w w' := by
  obtain ⟨bs, m, h1, h2, h3, hv⟩ := valid_eq a b
  obtain ⟨l, wd, hv, hok⟩ := hv 0 0
  have hn := red64 n
  have hr := red more 1000 (by omega) (by omega)
  obtain ⟨⟨hl1, hl2⟩, ⟨hw1, hw2⟩, -⟩ := (okP_iff _ _ _ _).1 hok
  have HOK := Lib.hid hok
  have HV := Lib.hid hv
  clear hok hv
  go_enter Try.func7, Try.ntmps7
  go_wp2_with fail
  refine (sacristanlaw11_valid.calls _ _ _ _ _ _ _ _ _ _ HV.out).mono ?_
  rintro e_w1 w1 ⟨rfl, hbw1⟩
  have hBw1 : Below w.heap.size w w1 := below_then (by go_grown) hbw1
  go_upto_region 3 with fail
  have hP : (w1.alloc (.cells #[.bool false, .int .i64 l, .int .i64 wd, .int .i64 bs, .int .i64 m] 23)).heap[w1.heap.size]? = _ := vnew
  have hle : w.heap.size ≤ w1.heap.size := hBw1.size
  have hBw2 : Below w.heap.size w (w1.alloc (.cells #[.bool false, .int .i64 l, .int .i64 wd, .int .i64 bs, .int .i64 m] 23)) := by go_grown
  generalize hB : w1.heap.size = B at *
  generalize w1.alloc (.cells #[.bool false, .int .i64 l, .int .i64 wd, .int .i64 bs, .int .i64 m] 23) = w2 at *
  clear hbw1 hB hBw1
  have hcP := vcell hP
  have hsP := vlt hP
  have hsP1 := Nat.le_of_lt hsP
  have hsP2 : B < w2.heap.size + 1 := by omega
  have hsP3 : B < w2.heap.size + 1 + 1 := by omega
  have hsP4 : B ≤ w2.heap.size + 1 := by omega
  have hsP5 : B ≤ w2.heap.size + 1 + 1 := by omega
  go_cut [10, 11, 12] from 24 (fun v10 v11 v12 wc => ∃ B1 B2 B3 : Nat, v10 = .pointer (some ⟨B1, 0, none⟩) ∧ v11 = .pointer (some ⟨B2, 0, none⟩) ∧ v12 = .pointer (some ⟨B3, 0, none⟩) ∧ ScN w B B1 B2 B3 ∧ ScW w B B1 B2 B3 l wd bs m bs m bs m wc)
  case first =>
    go_region
    all_goals (
      go_wp2_with fail
      go_meet
      case rel => exact ⟨_, _, _, rfl, rfl, rfl, ⟨by omega, by omega, by omega, by omega, by omega, by omega, by omega, by omega, by omega⟩, ⟨by (repeat' (first | assumption | (refine vnewAt ?_; first | omega | (simp; done) | (simp; omega)) | refine valloc ?_ | refine vdrew ?_ | apply vput | (refine vfarr ?_ ?_; focus (first | omega | (simp; done) | (simp; omega))) | rfl)), by (repeat' (first | assumption | (refine vnewAt ?_; first | omega | (simp; done) | (simp; omega)) | refine valloc ?_ | refine vdrew ?_ | apply vput | (refine vfarr ?_ ?_; focus (first | omega | (simp; done) | (simp; omega))) | rfl)), by (repeat' (first | assumption | (refine vnewAt ?_; first | omega | (simp; done) | (simp; omega)) | refine valloc ?_ | refine vdrew ?_ | apply vput | (refine vfarr ?_ ?_; focus (first | omega | (simp; done) | (simp; omega))) | rfl)), by (repeat' (first | assumption | (refine vnewAt ?_; first | omega | (simp; done) | (simp; omega)) | refine valloc ?_ | refine vdrew ?_ | apply vput | (refine vfarr ?_ ?_; focus (first | omega | (simp; done) | (simp; omega))) | rfl)), by go_grown⟩⟩)
  case rest =>
    obtain ⟨B1, B2, B3, rfl, rfl, rfl, HN, hW⟩ := hcut
    clear hcP hsP hsP1 hsP2 hsP3 hsP4 hsP5 hP hBw2
    generalize hnn : (wrap64 (n.tmod 64 + 64)).tmod 64 = n' at *
    generalize hrr : (wrap64 (more.tmod 1000 + 1000)).tmod 1000 = r at *
    clear hnn hrr
    go_upto_region 4 with fail
    go_cut [8] from 24 (fun v8 wd' => v8 = .bool false ∧ ∃ bq, bs ≤ bq ∧ bq ≤ m ∧ ScW w B B1 B2 B3 l wd bs m bq m bs m wd')
    case first =>
      obtain ⟨n1, n2, n3, n4, n5, n6, e1, e2, e3⟩ := HN
      have n1' := n1.symm
      have n2' := n2.symm
      have n3' := n3.symm
      have n4' := n4.symm
      have n5' := n5.symm
      have n6' := n6.symm
      obtain ⟨hP, hQ, hS, hT, hb⟩ := hW
      have hcP := vcell hP
      have hcQ := vcell hQ
      have hcS := vcell hS
      have hcT := vcell hT
      have hfP := vfree hP
      have hfQ := vfree hQ
      have hfS := vfree hS
      have hfT := vfree hT
      go_wp2
      all_goals (
        go_meet
        case rel => first | (have hq : bs ≤ bs + r ∧ bs + r ≤ m := (by omega); exact ⟨rfl, bs + r, hq.1, hq.2, ⟨by (repeat' (first | assumption | (refine vnewAt ?_; first | omega | (simp; done) | (simp; omega)) | refine valloc ?_ | refine vdrew ?_ | apply vput | (refine vfarr ?_ ?_; focus (first | omega | (simp; done) | (simp; omega))) | rfl)), by (repeat' (first | assumption | (refine vnewAt ?_; first | omega | (simp; done) | (simp; omega)) | refine valloc ?_ | refine vdrew ?_ | apply vput | (refine vfarr ?_ ?_; focus (first | omega | (simp; done) | (simp; omega))) | rfl)), by (repeat' (first | assumption | (refine vnewAt ?_; first | omega | (simp; done) | (simp; omega)) | refine valloc ?_ | refine vdrew ?_ | apply vput | (refine vfarr ?_ ?_; focus (first | omega | (simp; done) | (simp; omega))) | rfl)), by (repeat' (first | assumption | (refine vnewAt ?_; first | omega | (simp; done) | (simp; omega)) | refine valloc ?_ | refine vdrew ?_ | apply vput | (refine vfarr ?_ ?_; focus (first | omega | (simp; done) | (simp; omega))) | rfl)), by go_grown⟩⟩) | exact ⟨rfl, m, by omega, by omega, ⟨by (repeat' (first | assumption | (refine vnewAt ?_; first | omega | (simp; done) | (simp; omega)) | refine valloc ?_ | refine vdrew ?_ | apply vput | (refine vfarr ?_ ?_; focus (first | omega | (simp; done) | (simp; omega))) | rfl)), by (repeat' (first | assumption | (refine vnewAt ?_; first | omega | (simp; done) | (simp; omega)) | refine valloc ?_ | refine vdrew ?_ | apply vput | (refine vfarr ?_ ?_; focus (first | omega | (simp; done) | (simp; omega))) | rfl)), by (repeat' (first | assumption | (refine vnewAt ?_; first | omega | (simp; done) | (simp; omega)) | refine valloc ?_ | refine vdrew ?_ | apply vput | (refine vfarr ?_ ?_; focus (first | omega | (simp; done) | (simp; omega))) | rfl)), by (repeat' (first | assumption | (refine vnewAt ?_; first | omega | (simp; done) | (simp; omega)) | refine valloc ?_ | refine vdrew ?_ | apply vput | (refine vfarr ?_ ?_; focus (first | omega | (simp; done) | (simp; omega))) | rfl)), by go_grown⟩⟩)
    case rest =>
      obtain ⟨rfl, bq, q1, q2, hW⟩ := hcut
      go_upto_region 5 with fail
      go_cut [8] from 24 (fun v8 wd' => v8 = .bool false ∧ ∃ ms, m ≤ ms ∧ ms ≤ 1099511627776 ∧ ScW w B B1 B2 B3 l wd bs m bq ms bs m wd')
      case first =>
        obtain ⟨n1, n2, n3, n4, n5, n6, e1, e2, e3⟩ := HN
        have n1' := n1.symm
        have n2' := n2.symm
        have n3' := n3.symm
        have n4' := n4.symm
        have n5' := n5.symm
        have n6' := n6.symm
        obtain ⟨hP, hQ, hS, hT, hb⟩ := hW
        have hcP := vcell hP
        have hcQ := vcell hQ
        have hcS := vcell hS
        have hcT := vcell hT
        have hfP := vfree hP
        have hfQ := vfree hQ
        have hfS := vfree hS
        have hfT := vfree hT
        go_wp2
        all_goals (
          go_meet
          case rel => first | (have hq : m ≤ m + r ∧ m + r ≤ 1099511627776 := (by omega); exact ⟨rfl, m + r, hq.1, hq.2, ⟨by (repeat' (first | assumption | (refine vnewAt ?_; first | omega | (simp; done) | (simp; omega)) | refine valloc ?_ | refine vdrew ?_ | apply vput | (refine vfarr ?_ ?_; focus (first | omega | (simp; done) | (simp; omega))) | rfl)), by (repeat' (first | assumption | (refine vnewAt ?_; first | omega | (simp; done) | (simp; omega)) | refine valloc ?_ | refine vdrew ?_ | apply vput | (refine vfarr ?_ ?_; focus (first | omega | (simp; done) | (simp; omega))) | rfl)), by (repeat' (first | assumption | (refine vnewAt ?_; first | omega | (simp; done) | (simp; omega)) | refine valloc ?_ | refine vdrew ?_ | apply vput | (refine vfarr ?_ ?_; focus (first | omega | (simp; done) | (simp; omega))) | rfl)), by (repeat' (first | assumption | (refine vnewAt ?_; first | omega | (simp; done) | (simp; omega)) | refine valloc ?_ | refine vdrew ?_ | apply vput | (refine vfarr ?_ ?_; focus (first | omega | (simp; done) | (simp; omega))) | rfl)), by go_grown⟩⟩) | exact ⟨rfl, 1099511627776, by omega, by omega, ⟨by (repeat' (first | assumption | (refine vnewAt ?_; first | omega | (simp; done) | (simp; omega)) | refine valloc ?_ | refine vdrew ?_ | apply vput | (refine vfarr ?_ ?_; focus (first | omega | (simp; done) | (simp; omega))) | rfl)), by (repeat' (first | assumption | (refine vnewAt ?_; first | omega | (simp; done) | (simp; omega)) | refine valloc ?_ | refine vdrew ?_ | apply vput | (refine vfarr ?_ ?_; focus (first | omega | (simp; done) | (simp; omega))) | rfl)), by (repeat' (first | assumption | (refine vnewAt ?_; first | omega | (simp; done) | (simp; omega)) | refine valloc ?_ | refine vdrew ?_ | apply vput | (refine vfarr ?_ ?_; focus (first | omega | (simp; done) | (simp; omega))) | rfl)), by (repeat' (first | assumption | (refine vnewAt ?_; first | omega | (simp; done) | (simp; omega)) | refine valloc ?_ | refine vdrew ?_ | apply vput | (refine vfarr ?_ ?_; focus (first | omega | (simp; done) | (simp; omega))) | rfl)), by go_grown⟩⟩)
      case rest =>
        obtain ⟨rfl, ms, s1, s2, hW⟩ := hcut
        go_upto_region 6 with fail
        go_cut [8] from 24 (fun v8 wd' => v8 = .bool false ∧ ScW w B B1 B2 B3 l wd bs m bq ms (2 * bs) (2 * m) wd')
        case first =>
          obtain ⟨n1, n2, n3, n4, n5, n6, e1, e2, e3⟩ := HN
          have n1' := n1.symm
          have n2' := n2.symm
          have n3' := n3.symm
          have n4' := n4.symm
          have n5' := n5.symm
          have n6' := n6.symm
          obtain ⟨hP, hQ, hS, hT, hb⟩ := hW
          have hcP := vcell hP
          have hcQ := vcell hQ
          have hcS := vcell hS
          have hcT := vcell hT
          have hfP := vfree hP
          have hfQ := vfree hQ
          have hfS := vfree hS
          have hfT := vfree hT
          go_region
          all_goals (
            go_wp2_with fail
            go_meet
            case rel => exact ⟨rfl, ⟨by (repeat' (first | assumption | (refine vnewAt ?_; first | omega | (simp; done) | (simp; omega)) | refine valloc ?_ | refine vdrew ?_ | apply vput | (refine vfarr ?_ ?_; focus (first | omega | (simp; done) | (simp; omega))) | rfl)), by (repeat' (first | assumption | (refine vnewAt ?_; first | omega | (simp; done) | (simp; omega)) | refine valloc ?_ | refine vdrew ?_ | apply vput | (refine vfarr ?_ ?_; focus (first | omega | (simp; done) | (simp; omega))) | rfl)), by (repeat' (first | assumption | (refine vnewAt ?_; first | omega | (simp; done) | (simp; omega)) | refine valloc ?_ | refine vdrew ?_ | apply vput | (refine vfarr ?_ ?_; focus (first | omega | (simp; done) | (simp; omega))) | rfl)), by (repeat' (first | assumption | (refine vnewAt ?_; first | omega | (simp; done) | (simp; omega)) | refine valloc ?_ | refine vdrew ?_ | apply vput | (refine vfarr ?_ ?_; focus (first | omega | (simp; done) | (simp; omega))) | rfl)), by go_grown⟩⟩)
        case rest =>
          obtain ⟨rfl, hW⟩ := hcut
          obtain ⟨hP, hQ, hS, hT, hb⟩ := hW
          have hcP := vcell hP
          have hcQ := vcell hQ
          have hcS := vcell hS
          have hcT := vcell hT
          clear HN
          have hq1 := Lib.hid ((okP_iff l wd bq m).2 (by omega))
          have hq2 := Lib.hid ((okP_iff l wd bs ms).2 (by omega))
          have y1 : aftV bs m n' ≤ aftV bq m n' := dly_le_b q1 _
          have y2 : aftV bs m n' ≤ aftV bs ms n' := dly_le_m s1 _
          have y3 : 1 ≤ aftV bs m n' ∧ aftV bs m n' ≤ m := dly_bd h1 h2 _
          have y4 : aftV (2 * bs) (2 * m) n' = 2 * aftV bs m n' := dly_dbl _ _ _
          obtain ⟨X, hX⟩ : ∃ X, aftV bs m n' = X := ⟨_, rfl⟩
          obtain ⟨Y, hY⟩ : ∃ X, aftV bq m n' = X := ⟨_, rfl⟩
          obtain ⟨Z, hZ⟩ : ∃ X, aftV bs ms n' = X := ⟨_, rfl⟩
          rw [hX, hY] at y1
          rw [hX, hZ] at y2
          rw [hX] at y3 y4
          have c1 := fun W => after_ok false l wd bs m n' W HOK.out hn.1 (by omega)
          have c2 := fun W => after_ok false l wd bq m n' W hq1.out hn.1 (by omega)
          have c3 := fun W => after_ok false l wd bs ms n' W hq2.out hn.1 (by omega)
          rw [hX] at c1
          rw [hY] at c2
          rw [hZ] at c3
          have C1 := Lib.hid c1
          have C2 := Lib.hid c2
          have C3 := Lib.hid c3
          have Y4 := Lib.hid y4
          clear c1 c2 c3 hX hY hZ y4
          go_wp2_with fail
          refine (C1.out _).mono ?_
          rintro e_ w3 ⟨rfl, hbw3⟩
          have hB3 := below_then hb hbw3
          have P3 := vbelow hP hbw3
          have Q3 := vbelow hQ hbw3
          have S3 := vbelow hS hbw3
          have T3 := vbelow hT hbw3
          clear hcP hcQ hcS hcT hP hQ hS hT hb hbw3
          have hcQ := vcell Q3
          go_wp2_with fail
          refine (C2.out _).mono ?_
          rintro e_ w4 ⟨rfl, hbw4⟩
          have hB4 := below_then hB3 hbw4
          have S4 := vbelow S3 hbw4
          have T4 := vbelow T3 hbw4
          clear hcQ Q3 S3 T3 P3 hB3 hbw4
          have hcS := vcell S4
          go_wp2_with fail
          refine (C3.out _).mono ?_
          rintro e_ w5 ⟨rfl, hbw5⟩
          have hB5 := below_then hB4 hbw5
          have T5 := vbelow T4 hbw5
          clear hcS S4 T4 hB4 hbw5
          have hcT := vcell T5
          by_cases hbig : 2 * m > 1099511627776
          · have hno : okP l wd (2 * bs) (2 * m) = false := by rw [← Bool.not_eq_true, okP_iff]; omega
            have hbig' : 1099511627776 < 2 * m := hbig
            have c4 := fun W => after_no false l wd (2 * bs) (2 * m) n' W hno
            have C4 := Lib.hid c4
            clear c4 hno
            go_wp2_with fail
            refine (C4.out _).mono ?_
            rintro e_ w6 ⟨rfl, hbw6⟩
            have hB6 := below_then hB5 hbw6
            have T6 := vbelow T5 hbw6
            clear hcT T5 hB5 hbw6
            have hcT := vcell T6
            go_wp2_with (go_at_call 18; (with_reducible refine (sacristanlaw11_awake.calls 20 true _ (awake_eq 20 (by omega)) rfl).mono ?_); rintro e_ w7 ⟨rfl, hb7⟩)
            go_ret
            exact ⟨rfl, below_then hB6 hb7⟩
          · have hyes : okP l wd (2 * bs) (2 * m) = true := (okP_iff _ _ _ _).2 (by omega)
            have c4 := fun W => after_ok false l wd (2 * bs) (2 * m) n' W hyes hn.1 (by omega)
            rw [Y4.out] at c4
            have C4 := Lib.hid c4
            clear c4 hyes
            go_wp2_with fail
            refine (C4.out _).mono ?_
            rintro e_ w6 ⟨rfl, hbw6⟩
            have hB6 := below_then hB5 hbw6
            have T6 := vbelow T5 hbw6
            clear hcT T5 hB5 hbw6
            have hcT := vcell T6
            go_wp2_with (go_at_call 18; (with_reducible refine (sacristanlaw11_awake.calls 20 true _ (awake_eq 20 (by omega)) rfl).mono ?_); rintro e_ w7 ⟨rfl, hb7⟩)
            go_ret
            exact ⟨rfl, below_then hB6 hb7⟩
theorem walk_DelayScales (w : World) (a : Int) (_ : (Lit.int .i64 a).wf = true) (b : Int) (_ : (Lit.int .i64 b).wf = true) (more : Int) (_ : (Lit.int .i64 more).wf = true) (n : Int) (_ : (Lit.int .i64 n).wf = true) :
    Calls Try.prog 7 #[.int .i64 a, .int .i64 b, .int .i64 more, .int .i64 n] w fun e w' => e = .returned (.bool true) ∧ Below w.heap.size w w' := scales_c a b more n w
end Go.Proofs.Ytcdlfnoagghpmaa
