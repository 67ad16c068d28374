/- The laws of nets: awake, BeatNames. Printed by gen/beatl.py. -/
import Derived.Test.YtecneikblkjgoaaBase
import Derived.Test.YtecneikblkjgoaaBeatS
import Derived.Test.YtecneikblkjgoaaProg
import Derived.Lib.Hide
namespace Go.Proofs.Ytecneikblkjgoaa
open Go.RowKit Go.Proofs.YtecneikblkjgoaaW.PrintWords Go.Proofs.YtecneikblkjgoaaW.PrintLast Go.Proofs.YtecneikblkjgoaaW.PrintMore
set_option linter.unusedSimpArgs false
set_option linter.unusedVariables false

theorem send_i {w0 w : World} {L : List HP} {b f : Nat} {l : Int} {xs : List Int} (t : Int) (h : St w0 w (nz b f xs :: fz f 0 l :: L)) (ht : 0 ≤ t ∧ t ≤ 1099511627776) (hx : xs.length ≤ 100000) :
    Calls Try.prog 15 #[.pointer (some ⟨b, 0, none⟩), .int .i64 t] w fun e w' => e = .returned (.int .i64 0) ∧ St w0 w' (nz b f (xs ++ [t]) :: fz f 0 l :: L) := by
  have q := send_s t h (Or.inl rfl) hx
  have e1 : seE t 0 l = 0 := by unfold seE buE; rw [if_neg (by omega), if_neg (by omega)]
  have e2 : seX xs t 0 l = xs ++ [t] := by unfold seX; rw [if_neg (by omega)]
  have e3 : seS t 0 l = 0 := by unfold seS buS; rw [if_neg (by omega), if_neg (by omega)]
  have e4 : seL t 0 l = l := by unfold seL buL; rw [if_neg (by omega), if_neg (by omega), if_neg (by omega)]
  rw [e1, e2, e3, e4] at q
  exact q
theorem send_a {w0 w : World} {L : List HP} {b f : Nat} {l : Int} {xs : List Int} (t : Int) (h : St w0 w (nz b f xs :: fz f 1 l :: L)) (ht : 0 ≤ t ∧ t ≤ 1099511627776) (hl : 1 ≤ l ∧ l ≤ 9223372036854775807) (hx : xs.length ≤ 100000) :
    Calls Try.prog 15 #[.pointer (some ⟨b, 0, none⟩), .int .i64 t] w fun e w' => e = .returned (.int .i64 0) ∧ St w0 w' (nz b f (xs ++ [t]) :: fz f 1 (l - 1) :: L) := by
  have q := send_s t h (Or.inr (Or.inl ⟨rfl, by omega⟩)) hx
  have e1 : seE t 1 l = 0 := by unfold seE buE; rw [if_neg (by omega), if_neg (by omega)]
  have e2 : seX xs t 1 l = xs ++ [t] := by unfold seX; rw [if_neg (by omega)]
  have e3 : seS t 1 l = 1 := by unfold seS buS; rw [if_neg (by omega), if_neg (by omega)]
  have e4 : seL t 1 l = l - 1 := by unfold seL buL; rw [if_neg (by omega), if_neg (by omega), if_pos rfl]
  rw [e1, e2, e3, e4] at q
  exact q
theorem send_d {w0 w : World} {L : List HP} {b f : Nat} {s l : Int} {xs : List Int} (t : Int) (h : St w0 w (nz b f xs :: fz f s l :: L)) (ht : 0 ≤ t ∧ t ≤ 1099511627776) (hs : s = 2 ∨ (s = 1 ∧ l = 0)) (hx : xs.length ≤ 100000 := by simp) :
    Calls Try.prog 15 #[.pointer (some ⟨b, 0, none⟩), .int .i64 t] w fun e w' => e = .returned (.int .i64 10) ∧ St w0 w' (nz b f xs :: fz f 2 0 :: L) := by
  have q := send_s t h (by unfold Fin; omega) hx
  have e1 : seE t s l = 10 := by unfold seE buE; rw [if_neg (by omega), if_pos hs]
  have e2 : seX xs t s l = xs := by unfold seX; rw [if_pos (by omega)]
  have e3 : seS t s l = 2 := by unfold seS buS; rw [if_neg (by omega), if_pos hs]
  have e4 : seL t s l = 0 := by unfold seL buL; rw [if_neg (by omega), if_pos hs]
  rw [e1, e2, e3, e4] at q
  exact q
theorem arm_i {w0 w : World} {L : List HP} {f : Nat} {s l : Int} (k : Int) (h : St w0 w (fz f s l :: L)) (hs : s ≠ 2) (hk : 0 ≤ k) : Calls Try.prog 14 #[.pointer (some ⟨f, 0, none⟩), .int .i64 k] w fun e w' => e = .returned (.int .i64 0) ∧ St w0 w' (fz f 1 k :: L) := by
  have q := arm_s k h
  unfold arE arS arL at q
  rw [if_neg (by omega), if_neg (by omega), if_neg (by omega), if_neg (by omega)] at q
  exact q
theorem bnew_nils (w : World) : Calls Try.prog 13 #[.pointer none] w fun e w' => e = .returned (.tuple #[.pointer none, .int .i64 1]) ∧ w' = w := bnew_nil w

set_option maxHeartbeats 4000000 in
theorem awake_c (w : World) : Calls Try.prog 18 #[] w fun e w' => e = .returned (.bool true) ∧ Below w.heap.size w w' := by
  have h0 := St.start w
  go_enter Try.func18, Try.ntmps18
  go_wp2_with fail
  refine (fnew_s h0).mono ?_
  rintro e_ w1 ⟨f, rfl, q1⟩
  have h1_0 : St w w1 [fz f 0 0] := q1
  clear q1 h0
  go_wp2_with fail
  refine (bnew_s f h1_0).mono ?_
  rintro e_ w2 ⟨b, rfl, q2⟩
  have h2_0 : St w w2 [nz b f [], fz f 0 0] := q2
  clear q2 h1_0
  have h2_1 : St w w2 [fz f 0 0, nz b f []] := h2_0.pick 1
  clear h2_0
  have h2_2 : St w w2 [nz b f [], fz f 0 0] := h2_1.pick 1
  clear h2_1
  go_wp2_with fail
  refine (send_i 0 h2_2 (by decide) (by simp)).mono ?_
  rintro e_ w3 ⟨rfl, q3⟩
  have h3_0 : St w w3 [nz b f [0], fz f 0 0] := q3
  clear q3 h2_2
  have h3_1 : St w w3 [fz f 0 0, nz b f [0]] := h3_0.pick 1
  clear h3_0
  have h3_2 : St w w3 [nz b f [0], fz f 0 0] := h3_1.pick 1
  clear h3_1
  go_wp2_with fail
  refine (send_i 5 h3_2 (by decide) (by simp)).mono ?_
  rintro e_ w4 ⟨rfl, q4⟩
  have h4_0 : St w w4 [nz b f [0, 5], fz f 0 0] := q4
  clear q4 h3_2
  have h4_1 : St w w4 [fz f 0 0, nz b f [0, 5]] := h4_0.pick 1
  clear h4_0
  have h4_2 : St w w4 [nz b f [0, 5], fz f 0 0] := h4_1.pick 1
  clear h4_1
  go_wp2_with fail
  refine (send_i 5 h4_2 (by decide) (by simp)).mono ?_
  rintro e_ w5 ⟨rfl, q5⟩
  have h5_0 : St w w5 [nz b f [0, 5, 5], fz f 0 0] := q5
  clear q5 h4_2
  go_wp2_with fail
  refine (sent_s h5_0 (by simp)).mono ?_
  rintro e_ w6 ⟨A, c, rfl, q6⟩
  have h6_0 : St w w6 [row (.slice A ([0, 5, 5]).length c) [0, 5, 5], nz b f [0, 5, 5], fz f 0 0] := q6
  clear q6 h5_0
  go_wp2_with fail
  have h6_1 := lit_s (L := [row (.slice A ([0, 5, 5]).length c) [0, 5, 5], nz b f [0, 5, 5], fz f 0 0]) [0, 5, 5] 3 _ h6_0 rfl rfl (by decide)
  clear h6_0
  have h6_2 : St w _ [row (.slice A ([0, 5, 5]).length c) [0, 5, 5], row (.slice (some ⟨w6.heap.size, 0, none⟩) 3 3) [0, 5, 5], nz b f [0, 5, 5], fz f 0 0] := h6_1.pick 1
  clear h6_1
  refine (eq_s h6_2 (by decide)).mono ?_
  rintro e_ w7 ⟨rfl, q7⟩
  have h7_0 : St w w7 [row (.slice A ([0, 5, 5]).length c) [0, 5, 5], row (.slice (some ⟨w6.heap.size, 0, none⟩) 3 3) [0, 5, 5], nz b f [0, 5, 5], fz f 0 0] := q7
  clear q7 h6_2
  have h7_1 : St w w7 [nz b f [0, 5, 5], fz f 0 0] := h7_0.drop.drop
  clear h7_0
  go_wp2_with fail
  refine (send_bad b (-1) _ (by decide)).mono ?_
  rintro e_ wx ⟨rfl, ew⟩
  have ew := ew.symm
  subst ew
  go_wp2_with fail
  refine (send_bad b 1099511627777 _ (by decide)).mono ?_
  rintro e_ wx ⟨rfl, ew⟩
  have ew := ew.symm
  subst ew
  have h7_2 : St w w7 [fz f 0 0, nz b f [0, 5, 5]] := h7_1.pick 1
  clear h7_1
  go_wp2_with fail
  refine (arm_i 1 h7_2 (by decide) (by decide)).mono ?_
  rintro e_ w8 ⟨rfl, q8⟩
  have h8_0 : St w w8 [fz f 1 1, nz b f [0, 5, 5]] := q8
  clear q8 h7_2
  have h8_1 : St w w8 [nz b f [0, 5, 5], fz f 1 1] := h8_0.pick 1
  clear h8_0
  go_wp2_with fail
  refine (send_a 6 h8_1 (by decide) (by decide) (by simp)).mono ?_
  rintro e_ w9 ⟨rfl, q9⟩
  have h9_0 : St w w9 [nz b f [0, 5, 5, 6], fz f 1 0] := q9
  clear q9 h8_1
  have h9_1 : St w w9 [fz f 1 0, nz b f [0, 5, 5, 6]] := h9_0.pick 1
  clear h9_0
  have h9_2 : St w w9 [nz b f [0, 5, 5, 6], fz f 1 0] := h9_1.pick 1
  clear h9_1
  go_wp2_with fail
  refine (send_d 7 h9_2 (by decide) (by decide)).mono ?_
  rintro e_ w10 ⟨rfl, q10⟩
  have h10_0 : St w w10 [nz b f [0, 5, 5, 6], fz f 2 0] := q10
  clear q10 h9_2
  go_wp2_with fail
  refine (send_bad b (-1) _ (by decide)).mono ?_
  rintro e_ wx ⟨rfl, ew⟩
  have ew := ew.symm
  subst ew
  go_wp2_with fail
  refine (sent_s h10_0 (by simp)).mono ?_
  rintro e_ w11 ⟨A2, c2, rfl, q11⟩
  have h11_0 : St w w11 [row (.slice A2 ([0, 5, 5, 6]).length c2) [0, 5, 5, 6], nz b f [0, 5, 5, 6], fz f 2 0] := q11
  clear q11 h10_0
  go_wp2_with fail
  have h11_1 := lit_s (L := [row (.slice A2 ([0, 5, 5, 6]).length c2) [0, 5, 5, 6], nz b f [0, 5, 5, 6], fz f 2 0]) [0, 5, 5, 6] 4 _ h11_0 rfl rfl (by decide)
  clear h11_0
  have h11_2 : St w _ [row (.slice A2 ([0, 5, 5, 6]).length c2) [0, 5, 5, 6], row (.slice (some ⟨w11.heap.size, 0, none⟩) 4 4) [0, 5, 5, 6], nz b f [0, 5, 5, 6], fz f 2 0] := h11_1.pick 1
  clear h11_1
  refine (eq_s h11_2 (by decide)).mono ?_
  rintro e_ w12 ⟨rfl, q12⟩
  have h12_0 : St w w12 [row (.slice A2 ([0, 5, 5, 6]).length c2) [0, 5, 5, 6], row (.slice (some ⟨w11.heap.size, 0, none⟩) 4 4) [0, 5, 5, 6], nz b f [0, 5, 5, 6], fz f 2 0] := q12
  clear q12 h11_2
  have h12_1 : St w w12 [nz b f [0, 5, 5, 6], fz f 2 0] := h12_0.drop.drop
  clear h12_0
  go_wp2
  go_ret
  exact ⟨rfl, h12_1.bel⟩
theorem awake_s {w0 w : World} {L : List HP} (h : St w0 w L) : Calls Try.prog 18 #[] w fun e w' => e = .returned (.bool true) ∧ St w0 w' L :=
  (awake_c w).mono fun e w' ⟨e1, e2⟩ => ⟨e1, h.more e2⟩
set_option maxHeartbeats 4000000 in
theorem walk_BeatNames (w : World) : Calls Try.prog 5 #[] w fun e w' => e = .returned (.bool true) ∧ Below w.heap.size w w' := by
  have h0 := St.start w
  go_enter Try.func5, Try.ntmps5
  go_wp2_with fail
  refine (bnew_nils _).mono ?_
  rintro e_ wx ⟨rfl, ew⟩
  have ew := ew.symm
  subst ew
  go_wp2_with fail
  refine (send_nil (-1) _).mono ?_
  rintro e_ wx ⟨rfl, ew⟩
  have ew := ew.symm
  subst ew
  go_wp2_with fail
  refine (sent_nil _).mono ?_
  rintro e_ wx ⟨rfl, ew⟩
  have ew := ew.symm
  subst ew
  go_wp2_with fail
  refine (fnew_s h0).mono ?_
  rintro e_ w1 ⟨f, rfl, q1⟩
  have h1_0 : St w w1 [fz f 0 0] := q1
  clear q1 h0
  go_wp2_with fail
  refine (bcopy_no none (some ⟨f, 0, none⟩) _ (Or.inl rfl)).mono ?_
  rintro e_ wx ⟨rfl, ew⟩
  have ew := ew.symm
  subst ew
  go_wp2_with fail
  refine (fnew_s h1_0).mono ?_
  rintro e_ w2 ⟨f2, rfl, q2⟩
  have h2_0 : St w w2 [fz f2 0 0, fz f 0 0] := q2
  clear q2 h1_0
  go_wp2_with fail
  refine (bnew_s f2 h2_0).mono ?_
  rintro e_ w3 ⟨b, rfl, q3⟩
  have h3_0 : St w w3 [nz b f2 [], fz f2 0 0, fz f 0 0] := q3
  clear q3 h2_0
  go_wp2_with fail
  refine (bcopy_no (some ⟨b, 0, none⟩) none _ (Or.inr rfl)).mono ?_
  rintro e_ wx ⟨rfl, ew⟩
  have ew := ew.symm
  subst ew
  go_wp2_with fail
  refine (sent_s h3_0 (by simp)).mono ?_
  rintro e_ w4 ⟨A, c, rfl, q4⟩
  have h4_0 : St w w4 [row (.slice A ([]).length c) [], nz b f2 [], fz f2 0 0, fz f 0 0] := q4
  clear q4 h3_0
  have h4_1 : St w w4 [nz b f2 [], fz f2 0 0, fz f 0 0] := h4_0.drop
  clear h4_0
  have h4_2 : St w w4 [fz f2 0 0, nz b f2 [], fz f 0 0] := h4_1.pick 1
  clear h4_1
  have h4_3 : St w w4 [nz b f2 [], fz f2 0 0, fz f 0 0] := h4_2.pick 1
  clear h4_2
  go_wp2_with fail
  refine (send_i 1099511627776 h4_3 (by decide) (by simp)).mono ?_
  rintro e_ w5 ⟨rfl, q5⟩
  have h5_0 : St w w5 [nz b f2 [1099511627776], fz f2 0 0, fz f 0 0] := q5
  clear q5 h4_3
  go_wp2_with fail
  refine (sent_s h5_0 (by simp)).mono ?_
  rintro e_ w6 ⟨A2, c2, rfl, q6⟩
  have h6_0 : St w w6 [row (.slice A2 ([1099511627776]).length c2) [1099511627776], nz b f2 [1099511627776], fz f2 0 0, fz f 0 0] := q6
  clear q6 h5_0
  go_wp2_with fail
  have h6_1 := lit_s (L := [row (.slice A2 ([1099511627776]).length c2) [1099511627776], nz b f2 [1099511627776], fz f2 0 0, fz f 0 0]) [1099511627776] 1 _ h6_0 rfl rfl (by decide)
  clear h6_0
  have h6_2 : St w _ [row (.slice A2 ([1099511627776]).length c2) [1099511627776], row (.slice (some ⟨w6.heap.size, 0, none⟩) 1 1) [1099511627776], nz b f2 [1099511627776], fz f2 0 0, fz f 0 0] := h6_1.pick 1
  clear h6_1
  refine (eq_s h6_2 (by decide)).mono ?_
  rintro e_ w7 ⟨rfl, q7⟩
  have h7_0 : St w w7 [row (.slice A2 ([1099511627776]).length c2) [1099511627776], row (.slice (some ⟨w6.heap.size, 0, none⟩) 1 1) [1099511627776], nz b f2 [1099511627776], fz f2 0 0, fz f 0 0] := q7
  clear q7 h6_2
  have h7_1 : St w w7 [nz b f2 [1099511627776], fz f2 0 0, fz f 0 0] := h7_0.drop.drop
  clear h7_0
  go_wp2_with fail
  refine (awake_s h7_1).mono ?_
  rintro e_ w8 ⟨rfl, q8⟩
  have h8_0 : St w w8 [nz b f2 [1099511627776], fz f2 0 0, fz f 0 0] := q8
  clear q8 h7_1
  go_wp2
  go_ret
  exact ⟨rfl, h8_0.bel⟩
end Go.Proofs.Ytecneikblkjgoaa
