-- Printed by a program of this session (wip/xprint.py) out of the translation.
import Derived.Test.YtipbgeobgppagaaV0
import Derived.Test.YtipbgeobgppagaaV1
import Derived.Test.YtipbgeobgppagaaV2
namespace Go.Proofs.Ytipbgeobgppagaa.V
open Go.RowKit Go.Proofs.Ytipbgeobgppagaa.Ext Go.Proofs.YtipbgeobgppagaaW.PrintWords Go.Proofs.YtipbgeobgppagaaW.PrintLast Go.Proofs.YtipbgeobgppagaaW.PrintMore
attribute [local go_sem] max2_int min2_int max_two min_two max_three min_three max_four min_four   -- for this text's walks alone
set_option linter.unusedVariables false
set_option linter.unusedSimpArgs false

/-! ### sacristanlaw12_WindowHolds: function 6 -/
mutual
def sacristanlaw12_WindowHolds.l0 : Nat → Int → Int → Int → List Int → Bool → Int → Int → Option (Bool)
  | 0, _, _, _, _, _, _, _ => none
  | k + 1, x1, x2, x3, x9, x10, x12, x13 => if x13 < (x9.length : Int) then (if 0 ≤ x13 then (sacristanlaw12_WindowHolds.l1 k x1 x2 x3 x9 x10 x12 x13 0 (wrap64 ((wrap64 ((rd x9 x13) + x1)) - 1)) (wrap64 ((rd x9 x13) + 1)) (rd x9 x13)) else (none)) else (if (x10 != (decide (x12 ≤ x2))) = true then (some false) else ((sacristanlaw12_mod.f x3 (wrap64 ((x9.length : Int) + 1))).bind fun t210 => (if 0 ≤ (wrap64 (t210 - 1)) then (if (wrap64 (t210 - 1)) ≤ (x9.length : Int) then ((window_Within.f k (x9.take ((wrap64 (t210 - 1)) : Int).toNat) x1 x2).bind fun bt215 => ((window_Within.f k (x9.drop ((wrap64 (t210 - 1)) : Int).toNat) x1 x2).bind fun bt221 => ((sacristanlaw12_mod.f (wrap64 (t210 - 1)) x1).bind fun t223 => ((window_Within.f k x9 t223 x2).bind fun bt224 => (if bt215.2 = 0 then (if bt221.2 = 0 then (if bt224.2 = 0 then (if x10 = true then (if bt215.1 = true then (if bt221.1 = true then (if bt224.1 = true then ((sacristanlaw12_awake.f k).bind fun t226 => (some t226)) else (some false)) else (some false)) else (some false)) else ((sacristanlaw12_awake.f k).bind fun t227 => (some t227))) else (some false)) else (some false)) else (some false)))))) else (none)) else (none))))
def sacristanlaw12_WindowHolds.l1 : Nat → Int → Int → Int → List Int → Bool → Int → Int → Int → Int → Int → Int → Option (Bool)
  | 0, _, _, _, _, _, _, _, _, _, _, _ => none
  | k + 1, x1, x2, x3, x9, x10, x12, x13, x62, x997, x998, x999 => if x62 < 3 then (if 0 ≤ x62 then ((window_Count.f k x9 x1 (ax [x999, x998, x997] x62)).bind fun bt208 => (if bt208.2 = 0 then (sacristanlaw12_WindowHolds.l1 k x1 x2 x3 x9 x10 (mx x12 bt208.1) x13 (wrap64 (x62 + 1)) x997 x998 x999) else (some false))) else (none)) else (sacristanlaw12_WindowHolds.l0 k x1 x2 x3 x9 x10 x12 (wrap64 (x13 + 1)))
end
def sacristanlaw12_WindowHolds.f (k : Nat) (l0 : List Int) (a1 : Int) (a2 : Int) (a3 : Int) : Option (Bool) := (sacristanlaw12_Starts.f k l0).bind fun t198 => ((sacristanlaw12_mod.f a1 200).bind fun t201 => ((sacristanlaw12_mod.f a2 10).bind fun t202 => ((window_Within.f k t198 t201 (wrap64 (t202 - 1))).bind fun bt203 => (if bt203.2 = 0 then (sacristanlaw12_WindowHolds.l0 k t201 (wrap64 (t202 - 1)) a3 t198 bt203.1 0 0) else (some false)))))
theorem sacristanlaw12_WindowHolds.mono_l : ∀ k, (∀ y0 y1 y2 y3 y4 y5 y6, LeO (sacristanlaw12_WindowHolds.l0 k y0 y1 y2 y3 y4 y5 y6) (sacristanlaw12_WindowHolds.l0 (k + 1) y0 y1 y2 y3 y4 y5 y6)) ∧ (∀ y0 y1 y2 y3 y4 y5 y6 y7 y8 y9 y10, LeO (sacristanlaw12_WindowHolds.l1 k y0 y1 y2 y3 y4 y5 y6 y7 y8 y9 y10) (sacristanlaw12_WindowHolds.l1 (k + 1) y0 y1 y2 y3 y4 y5 y6 y7 y8 y9 y10))
  | 0 => ⟨fun _ _ _ _ _ _ _ r h => by simp [sacristanlaw12_WindowHolds.l0] at h, fun _ _ _ _ _ _ _ _ _ _ _ r h => by simp [sacristanlaw12_WindowHolds.l1] at h⟩
  | k + 1 => by
    obtain ⟨ih0, ih1⟩ := sacristanlaw12_WindowHolds.mono_l k
    refine ⟨?_, ?_⟩
    · intro y0 y1 y2 y3 y4 y5 y6
      unfold sacristanlaw12_WindowHolds.l0
      repeat' first
      | (with_reducible exact ih0 _ _ _ _ _ _ _)
      | (with_reducible exact ih1 _ _ _ _ _ _ _ _ _ _ _)
      | (with_reducible exact sacristanlaw12_Starts.mono _ _)
      | (with_reducible exact sacristanlaw12_awake.mono _)
      | (with_reducible exact window_Count.mono _ _ _ _)
      | (with_reducible exact window_Within.mono _ _ _ _)
      | (with_reducible exact LeO.refl _)
      | (with_reducible exact LeO.none _)
      | (with_reducible refine LeO.ite ?_ ?_)
      | (with_reducible refine LeO.bind ?_ (fun _ => ?_))
      | exact ih0 _ _ _ _ _ _ _
      | exact ih1 _ _ _ _ _ _ _ _ _ _ _
      | exact sacristanlaw12_Starts.mono _ _
      | exact sacristanlaw12_awake.mono _
      | exact window_Count.mono _ _ _ _
      | exact window_Within.mono _ _ _ _
      | exact LeO.none _
      | refine LeO.ite ?_ ?_
      | refine LeO.bind ?_ (fun _ => ?_)
    · intro y0 y1 y2 y3 y4 y5 y6 y7 y8 y9 y10
      unfold sacristanlaw12_WindowHolds.l1
      repeat' first
      | (with_reducible exact ih0 _ _ _ _ _ _ _)
      | (with_reducible exact ih1 _ _ _ _ _ _ _ _ _ _ _)
      | (with_reducible exact sacristanlaw12_Starts.mono _ _)
      | (with_reducible exact sacristanlaw12_awake.mono _)
      | (with_reducible exact window_Count.mono _ _ _ _)
      | (with_reducible exact window_Within.mono _ _ _ _)
      | (with_reducible exact LeO.refl _)
      | (with_reducible exact LeO.none _)
      | (with_reducible refine LeO.ite ?_ ?_)
      | (with_reducible refine LeO.bind ?_ (fun _ => ?_))
      | exact ih0 _ _ _ _ _ _ _
      | exact ih1 _ _ _ _ _ _ _ _ _ _ _
      | exact sacristanlaw12_Starts.mono _ _
      | exact sacristanlaw12_awake.mono _
      | exact window_Count.mono _ _ _ _
      | exact window_Within.mono _ _ _ _
      | exact LeO.none _
      | refine LeO.ite ?_ ?_
      | refine LeO.bind ?_ (fun _ => ?_)
theorem sacristanlaw12_WindowHolds.mono : ∀ a0 a1 a2 a3 k, LeO (sacristanlaw12_WindowHolds.f k a0 a1 a2 a3) (sacristanlaw12_WindowHolds.f (k + 1) a0 a1 a2 a3) := by
  intro a0 a1 a2 a3 k
  obtain ⟨ih0, ih1⟩ := sacristanlaw12_WindowHolds.mono_l k
  unfold sacristanlaw12_WindowHolds.f
  repeat' first
      | (with_reducible exact ih0 _ _ _ _ _ _ _)
      | (with_reducible exact ih1 _ _ _ _ _ _ _ _ _ _ _)
      | (with_reducible exact sacristanlaw12_Starts.mono _ _)
      | (with_reducible exact sacristanlaw12_awake.mono _)
      | (with_reducible exact window_Count.mono _ _ _ _)
      | (with_reducible exact window_Within.mono _ _ _ _)
      | (with_reducible exact LeO.refl _)
      | (with_reducible exact LeO.none _)
      | (with_reducible refine LeO.ite ?_ ?_)
      | (with_reducible refine LeO.bind ?_ (fun _ => ?_))
      | exact ih0 _ _ _ _ _ _ _
      | exact ih1 _ _ _ _ _ _ _ _ _ _ _
      | exact sacristanlaw12_Starts.mono _ _
      | exact sacristanlaw12_awake.mono _
      | exact window_Count.mono _ _ _ _
      | exact window_Within.mono _ _ _ _
      | exact LeO.none _
      | refine LeO.ite ?_ ?_
      | refine LeO.bind ?_ (fun _ => ?_)
set_option maxHeartbeats 8000000 in
set_option maxRecDepth 100000 in
theorem sacristanlaw12_WindowHolds.calls (k : Nat) (A0 : Option Addr) (c0 : Nat) (l0 : List Int) (a1 : Int) (a2 : Int) (a3 : Int) (r : Bool) (w : World) (hr0 : Kd.C (Kd.int .i64) w A0 l0.length l0) (hc0 : l0.length ≤ c0) (h : sacristanlaw12_WindowHolds.f k l0 a1 a2 a3 = some r) (hr_ : r = true) :
    Calls Try.prog 6 #[.slice A0 l0.length c0, .int .i64 a1, .int .i64 a2, .int .i64 a3] w fun e w' => e = .returned (.bool r) ∧ Below w.heap.size w w' := by
  have HR_ := Aside0.mk hr_
  clear hr_
  have hu37 := Try.underlying37
  have HR0 := Aside0.mk hr0
  have HC0 := Aside0.mk hc0
  clear hr0 hc0
  have HB := Aside0.mk (Below.refl w.heap.size w)
  have H : ((sacristanlaw12_Starts.f k l0).bind fun t198 => ((sacristanlaw12_mod.f a1 200).bind fun t201 => ((sacristanlaw12_mod.f a2 10).bind fun t202 => ((window_Within.f k t198 t201 (wrap64 (t202 - 1))).bind fun bt203 => (if bt203.2 = 0 then (sacristanlaw12_WindowHolds.l0 k t201 (wrap64 (t202 - 1)) a3 t198 bt203.1 0 0) else (some false)))))) = some r := h
  clear h
  replace H := Option.bind_eq_some_iff.mp H
  obtain ⟨t198, A50, H⟩ := H
  replace H : ((sacristanlaw12_mod.f a1 200).bind fun t201 => ((sacristanlaw12_mod.f a2 10).bind fun t202 => ((window_Within.f k t198 t201 (wrap64 (t202 - 1))).bind fun bt203 => (if bt203.2 = 0 then (sacristanlaw12_WindowHolds.l0 k t201 (wrap64 (t202 - 1)) a3 t198 bt203.1 0 0) else (some false))))) = some r := H
  have A5 := Aside0.mk A50
  clear A50
  replace H := Option.bind_eq_some_iff.mp H
  obtain ⟨t201, A60, H⟩ := H
  replace H : ((sacristanlaw12_mod.f a2 10).bind fun t202 => ((window_Within.f k t198 t201 (wrap64 (t202 - 1))).bind fun bt203 => (if bt203.2 = 0 then (sacristanlaw12_WindowHolds.l0 k t201 (wrap64 (t202 - 1)) a3 t198 bt203.1 0 0) else (some false)))) = some r := H
  have A6 := Aside0.mk A60
  clear A60
  replace H := Option.bind_eq_some_iff.mp H
  obtain ⟨t202, A70, H⟩ := H
  replace H : ((window_Within.f k t198 t201 (wrap64 (t202 - 1))).bind fun bt203 => (if bt203.2 = 0 then (sacristanlaw12_WindowHolds.l0 k t201 (wrap64 (t202 - 1)) a3 t198 bt203.1 0 0) else (some false))) = some r := H
  have A7 := Aside0.mk A70
  clear A70
  replace H := Option.bind_eq_some_iff.mp H
  obtain ⟨⟨t203, t204⟩, A80, H⟩ := H
  replace H : (if t204 = 0 then (sacristanlaw12_WindowHolds.l0 k t201 (wrap64 (t202 - 1)) a3 t198 t203 0 0) else (some false)) = some r := H
  have A8 := Aside0.mk A80
  clear A80
  by_cases c9 : t204 = 0
  · rw [if_pos c9] at H
    have c9b0 : (t204 == 0) = true := beq_iff_eq.mpr c9
    have c9b1 : (t204 != 0) = false := bne_eq_false_iff_eq.mpr c9
    clear c9
    have H' := Aside0.mk H
    clear H
    go_enter Try.func6, Try.ntmps6
    go_wp2_with (first | (go_at_call 24; (with_reducible refine (sacristanlaw12_Starts.calls k _ _ l0 t198 _ ?side1 ?side2 A5.out).mono ?_); (case side1 => repeat (first | exact HR0.out | (with_reducible refine Kd.C_alloc ?_ _) | (with_reducible refine Kd.C_drewN ?_ _) | (with_reducible refine Kd.C_drew ?_))); (case side2 => exact HC0.out); rintro e w10 ⟨v199, rfl, ho0, hb⟩; have n0_ := Aside0.mk (Kd.R_lower ho0 (below_size (by repeat (first | (with_reducible first | exact HB.out | apply below_alloc | apply pw_below_drewN | apply below_drew1) | exact HB.out)))); have n1_ := Aside0.mk (below_step (w := w) (by repeat (first | (with_reducible first | exact HB.out | apply below_alloc | apply pw_below_drewN | apply below_drew1) | exact HB.out)) hb); clear HB; have HO200 := n0_; have HB := n1_; clear n0_ n1_; (try clear hb); (try clear hb2); (try clear hk); (try clear hi); (try clear ho0)) | (go_at_call 25; (with_reducible refine (sacristanlaw12_mod.calls a1 200 t201 _ A6.out).mono ?_); rintro e w' ⟨rfl, ⟨nd, rfl⟩⟩; (try first | exact ⟨rfl, _, World.drewN_drewN _ _ _⟩ | exact ⟨rfl, _, Eq.trans (World.drewN_drewN _ _ _) (congrArg (World.drewN _) (Nat.add_assoc _ _ _))⟩)) | (go_at_call 25; (with_reducible refine (sacristanlaw12_mod.calls a2 10 t202 _ A7.out).mono ?_); rintro e w' ⟨rfl, ⟨nd, rfl⟩⟩; (try first | exact ⟨rfl, _, World.drewN_drewN _ _ _⟩ | exact ⟨rfl, _, Eq.trans (World.drewN_drewN _ _ _) (congrArg (World.drewN _) (Nat.add_assoc _ _ _))⟩); obtain ⟨Ao11, co11, eo11⟩ := Kd.R_slice HO200.out; subst eo11) | (go_at_call 20; (with_reducible refine (window_Within.calls k _ _ t198 t201 (wrap64 (t202 - 1)) t203 t204 _ ?side1 ?side2 A8.out).mono ?_); (case side1 => repeat (first | exact (Kd.R_reads' HO200.out).2.2 | (with_reducible refine Kd.C_alloc ?_ _) | (with_reducible refine Kd.C_drewN ?_ _) | (with_reducible refine Kd.C_drew ?_))); (case side2 => exact (Kd.R_reads' HO200.out).2.1); rintro e w' ⟨rfl, ⟨nd, rfl⟩⟩; (try first | exact ⟨rfl, _, World.drewN_drewN _ _ _⟩ | exact ⟨rfl, _, Eq.trans (World.drewN_drewN _ _ _) (congrArg (World.drewN _) (Nat.add_assoc _ _ _))⟩)))
    repeat (go_quiet (first | (go_at_call 24; (with_reducible refine (sacristanlaw12_Starts.calls k _ _ l0 t198 _ ?side1 ?side2 A5.out).mono ?_); (case side1 => repeat (first | exact HR0.out | (with_reducible refine Kd.C_alloc ?_ _) | (with_reducible refine Kd.C_drewN ?_ _) | (with_reducible refine Kd.C_drew ?_))); (case side2 => exact HC0.out); rintro e w10 ⟨v199, rfl, ho0, hb⟩; have n0_ := Aside0.mk (Kd.R_lower ho0 (below_size (by repeat (first | (with_reducible first | exact HB.out | apply below_alloc | apply pw_below_drewN | apply below_drew1) | exact HB.out)))); have n1_ := Aside0.mk (below_step (w := w) (by repeat (first | (with_reducible first | exact HB.out | apply below_alloc | apply pw_below_drewN | apply below_drew1) | exact HB.out)) hb); clear HB; have HO200 := n0_; have HB := n1_; clear n0_ n1_; (try clear hb); (try clear hb2); (try clear hk); (try clear hi); (try clear ho0)) | (go_at_call 25; (with_reducible refine (sacristanlaw12_mod.calls a1 200 t201 _ A6.out).mono ?_); rintro e w' ⟨rfl, ⟨nd, rfl⟩⟩; (try first | exact ⟨rfl, _, World.drewN_drewN _ _ _⟩ | exact ⟨rfl, _, Eq.trans (World.drewN_drewN _ _ _) (congrArg (World.drewN _) (Nat.add_assoc _ _ _))⟩)) | (go_at_call 25; (with_reducible refine (sacristanlaw12_mod.calls a2 10 t202 _ A7.out).mono ?_); rintro e w' ⟨rfl, ⟨nd, rfl⟩⟩; (try first | exact ⟨rfl, _, World.drewN_drewN _ _ _⟩ | exact ⟨rfl, _, Eq.trans (World.drewN_drewN _ _ _) (congrArg (World.drewN _) (Nat.add_assoc _ _ _))⟩); obtain ⟨Ao11, co11, eo11⟩ := Kd.R_slice HO200.out; subst eo11) | (go_at_call 20; (with_reducible refine (window_Within.calls k _ _ t198 t201 (wrap64 (t202 - 1)) t203 t204 _ ?side1 ?side2 A8.out).mono ?_); (case side1 => repeat (first | exact (Kd.R_reads' HO200.out).2.2 | (with_reducible refine Kd.C_alloc ?_ _) | (with_reducible refine Kd.C_drewN ?_ _) | (with_reducible refine Kd.C_drew ?_))); (case side2 => exact (Kd.R_reads' HO200.out).2.1); rintro e w' ⟨rfl, ⟨nd, rfl⟩⟩; (try first | exact ⟨rfl, _, World.drewN_drewN _ _ _⟩ | exact ⟨rfl, _, Eq.trans (World.drewN_drewN _ _ _) (congrArg (World.drewN _) (Nat.add_assoc _ _ _))⟩))); try go_wp2_with (first | (go_at_call 24; (with_reducible refine (sacristanlaw12_Starts.calls k _ _ l0 t198 _ ?side1 ?side2 A5.out).mono ?_); (case side1 => repeat (first | exact HR0.out | (with_reducible refine Kd.C_alloc ?_ _) | (with_reducible refine Kd.C_drewN ?_ _) | (with_reducible refine Kd.C_drew ?_))); (case side2 => exact HC0.out); rintro e w10 ⟨v199, rfl, ho0, hb⟩; have n0_ := Aside0.mk (Kd.R_lower ho0 (below_size (by repeat (first | (with_reducible first | exact HB.out | apply below_alloc | apply pw_below_drewN | apply below_drew1) | exact HB.out)))); have n1_ := Aside0.mk (below_step (w := w) (by repeat (first | (with_reducible first | exact HB.out | apply below_alloc | apply pw_below_drewN | apply below_drew1) | exact HB.out)) hb); clear HB; have HO200 := n0_; have HB := n1_; clear n0_ n1_; (try clear hb); (try clear hb2); (try clear hk); (try clear hi); (try clear ho0)) | (go_at_call 25; (with_reducible refine (sacristanlaw12_mod.calls a1 200 t201 _ A6.out).mono ?_); rintro e w' ⟨rfl, ⟨nd, rfl⟩⟩; (try first | exact ⟨rfl, _, World.drewN_drewN _ _ _⟩ | exact ⟨rfl, _, Eq.trans (World.drewN_drewN _ _ _) (congrArg (World.drewN _) (Nat.add_assoc _ _ _))⟩)) | (go_at_call 25; (with_reducible refine (sacristanlaw12_mod.calls a2 10 t202 _ A7.out).mono ?_); rintro e w' ⟨rfl, ⟨nd, rfl⟩⟩; (try first | exact ⟨rfl, _, World.drewN_drewN _ _ _⟩ | exact ⟨rfl, _, Eq.trans (World.drewN_drewN _ _ _) (congrArg (World.drewN _) (Nat.add_assoc _ _ _))⟩); obtain ⟨Ao11, co11, eo11⟩ := Kd.R_slice HO200.out; subst eo11) | (go_at_call 20; (with_reducible refine (window_Within.calls k _ _ t198 t201 (wrap64 (t202 - 1)) t203 t204 _ ?side1 ?side2 A8.out).mono ?_); (case side1 => repeat (first | exact (Kd.R_reads' HO200.out).2.2 | (with_reducible refine Kd.C_alloc ?_ _) | (with_reducible refine Kd.C_drewN ?_ _) | (with_reducible refine Kd.C_drew ?_))); (case side2 => exact (Kd.R_reads' HO200.out).2.1); rintro e w' ⟨rfl, ⟨nd, rfl⟩⟩; (try first | exact ⟨rfl, _, World.drewN_drewN _ _ _⟩ | exact ⟨rfl, _, Eq.trans (World.drewN_drewN _ _ _) (congrArg (World.drewN _) (Nat.add_assoc _ _ _))⟩))))
    go_loopg [12, 13] k (fun kq v12 v13 w' => ∃ (x12_1 : Int) (x13_1 : Int), v12 = .int .i64 x12_1 ∧ v13 = .int .i64 x13_1 ∧ Aside0 (sacristanlaw12_WindowHolds.l0 kq t201 (wrap64 (t202 - 1)) a3 t198 t203 x12_1 x13_1 = some r) ∧ Aside0 (kq ≤ k) ∧ Aside0 (Kd.R (Kd.int .i64) 3 w' w.heap.size (fun _ => True) (.slice Ao11 t198.length co11) t198) ∧ Aside0 (Below w.heap.size w w'))
    case atStart => exact ⟨(0), (0), (by first | rfl | (simp; done) | (simp [*]; done)), (by first | rfl | (simp; done) | (simp [*]; done)), H', ⟨Nat.le_refl _⟩, ⟨by (with_reducible repeat (first | apply Kd.R_alloc | apply Kd.R_drewN | apply Kd.R_drew)); exact HO200.out⟩, ⟨by repeat (first | (with_reducible first | exact HB.out | apply below_alloc | apply pw_below_drewN | apply below_drew1) | exact HB.out)⟩⟩
    case round =>
      clear H'
      try clear p2
      try clear c6
      try clear p6
      try clear c9
      try clear c9b0
      try clear c9b1
      obtain ⟨x12_1, x13_1, rfl, rfl, HA, HK1, HO_9, HB⟩ := hrel
      cases gk with
      | zero => exact absurd HA.out (by simp [sacristanlaw12_WindowHolds.l0])
      | succ k1 =>
        have H := HA.out
        clear HA
        simp only [sacristanlaw12_WindowHolds.l0] at H
        by_cases c12 : x13_1 < (t198.length : Int)
        · rw [if_pos c12] at H
          have c12b0 : decide (x13_1 < (t198.length : Int)) = true := decide_eq_true c12
          clear c12
          by_cases c13 : 0 ≤ x13_1
          · rw [if_pos c13] at H
            have c13b0 : decide (0 ≤ x13_1) = true := decide_eq_true c13
            clear c13
            have H' := Aside0.mk H
            clear H
            have p205 : 0 ≤ (x13_1 : Int) := of_decide_eq_true (by first | (with_reducible assumption) | assumption)
            have q205 : x13_1 < (t198.length : Int) := of_decide_eq_true (by first | (with_reducible assumption) | assumption)
            obtain ⟨ad205, e205, hx205_0⟩ := Kd.at_int (Kd.R_reads' HO_9.out).2.2 x13_1 p205 q205
            cases e205
            replace p205 := eq_true p205
            replace q205 := eq_true q205
            have p206 : 0 ≤ (x13_1 : Int) := of_decide_eq_true (by first | (with_reducible assumption) | assumption)
            have q206 : x13_1 < (t198.length : Int) := of_decide_eq_true (by first | (with_reducible assumption) | assumption)
            obtain ⟨ad206, e206, hx206_0⟩ := Kd.at_int (Kd.R_reads' HO_9.out).2.2 x13_1 p206 q206
            obtain rfl : ad205 = ad206 := (by injection e206)
            replace p206 := eq_true p206
            replace q206 := eq_true q206
            have p207 : 0 ≤ (x13_1 : Int) := of_decide_eq_true (by first | (with_reducible assumption) | assumption)
            have q207 : x13_1 < (t198.length : Int) := of_decide_eq_true (by first | (with_reducible assumption) | assumption)
            obtain ⟨ad207, e207, hx207_0⟩ := Kd.at_int (Kd.R_reads' HO_9.out).2.2 x13_1 p207 q207
            obtain rfl : ad205 = ad207 := (by injection e207)
            replace p207 := eq_true p207
            replace q207 := eq_true q207
            go_wp2
            repeat (go_quiet (fail); try go_wp2)
            go_loopg [12, 62] k1 (fun kq v12 v62 w' => ∃ (x12_2 : Int) (x62_2 : Int), v12 = .int .i64 x12_2 ∧ v62 = .int .i64 x62_2 ∧ Aside0 (sacristanlaw12_WindowHolds.l1 kq t201 (wrap64 (t202 - 1)) a3 t198 t203 x12_2 x13_1 x62_2 (wrap64 ((wrap64 ((rd t198 x13_1) + t201)) - 1)) (wrap64 ((rd t198 x13_1) + 1)) (rd t198 x13_1) = some r) ∧ Aside0 (kq ≤ k1) ∧ Aside0 (Kd.R (Kd.int .i64) 3 w' w.heap.size (fun _ => True) (.slice (some ad205) t198.length co11) t198) ∧ Aside0 (Below w.heap.size w w'))
            case atStart => exact ⟨(x12_1), (0), (by first | rfl | (simp; done) | (simp [*]; done)), (by first | rfl | (simp; done) | (simp [*]; done)), H', ⟨Nat.le_refl _⟩, ⟨by (with_reducible repeat (first | apply Kd.R_alloc | apply Kd.R_drewN | apply Kd.R_drew)); exact HO_9.out⟩, ⟨by repeat (first | (with_reducible first | exact HB.out | apply below_alloc | apply pw_below_drewN | apply below_drew1) | exact HB.out)⟩⟩
            case round =>
              clear H'
              try clear c1
              try clear p2
              try clear q2
              try clear hx2
              try clear c6
              try clear p6
              try clear c9
              try clear c9b0
              try clear c9b1
              try clear c12
              try clear c12b0
              try clear c13
              try clear c13b0
              try clear hx205_0
              try clear hx206_0
              try clear hx207_0
              try clear p2
              try clear p205
              try clear p206
              try clear p207
              try clear p6
              try clear q205
              try clear q206
              try clear q207
              obtain ⟨x12_2, x62_2, rfl, rfl, HA, HK2, HO_9, HB⟩ := hrel
              cases gk with
              | zero => exact absurd HA.out (by simp [sacristanlaw12_WindowHolds.l1])
              | succ k2 =>
                have H := HA.out
                clear HA
                simp only [sacristanlaw12_WindowHolds.l1] at H
                by_cases c14 : x62_2 < 3
                · rw [if_pos c14] at H
                  have c14b0 : decide (x62_2 < 3) = true := decide_eq_true c14
                  clear c14
                  by_cases c15 : 0 ≤ x62_2
                  · rw [if_pos c15] at H
                    have c15b0 : decide (0 ≤ x62_2) = true := decide_eq_true c15
                    clear c15
                    have hix16 := fun w_ => ix_37 (rd t198 x13_1) (wrap64 ((rd t198 x13_1) + 1)) (wrap64 ((wrap64 ((rd t198 x13_1) + t201)) - 1)) w_ x62_2 (by first | omega | exact of_decide_eq_true (by first | (with_reducible assumption) | assumption)) (by first | omega | exact of_decide_eq_true (by first | (with_reducible assumption) | assumption))
                    replace H := Option.bind_eq_some_iff.mp H
                    obtain ⟨⟨t208, t209⟩, A170, H⟩ := H
                    replace H : (if t209 = 0 then (sacristanlaw12_WindowHolds.l1 k2 t201 (wrap64 (t202 - 1)) a3 t198 t203 (mx x12_2 t208) x13_1 (wrap64 (x62_2 + 1)) (wrap64 ((wrap64 ((rd t198 x13_1) + t201)) - 1)) (wrap64 ((rd t198 x13_1) + 1)) (rd t198 x13_1)) else (some false)) = some r := H
                    have A17 := Aside0.mk A170
                    clear A170
                    by_cases c18 : t209 = 0
                    · rw [if_pos c18] at H
                      have c18b0 : (t209 == 0) = true := beq_iff_eq.mpr c18
                      have c18b1 : (t209 != 0) = false := bne_eq_false_iff_eq.mpr c18
                      clear c18
                      obtain ⟨ji19, hji19⟩ : ∃ j_ : Int, (mx x12_2 t208) = j_ := ⟨_, rfl⟩
                      replace H : (sacristanlaw12_WindowHolds.l1 k2 t201 (wrap64 (t202 - 1)) a3 t198 t203 ji19 x13_1 (wrap64 (x62_2 + 1)) (wrap64 ((wrap64 ((rd t198 x13_1) + t201)) - 1)) (wrap64 ((rd t198 x13_1) + 1)) (rd t198 x13_1)) = some r := by first | (rw [hji19] at H; exact H) | (simp only [hji19] at H ⊢; exact H)
                      (try rw [hji19] at A17)
                      have hji19_ : (if x12_2 < t208 then t208 else x12_2) = ji19 := hji19
                      have H' := Aside0.mk H
                      clear H
                      go_wp2_with (first | (go_at_call 16; (with_reducible refine (window_Count.calls k2 _ _ t198 t201 (ax [(rd t198 x13_1), (wrap64 ((rd t198 x13_1) + 1)), (wrap64 ((wrap64 ((rd t198 x13_1) + t201)) - 1))] x62_2) t208 t209 _ ?side1 ?side2 A17.out).mono ?_); (case side1 => repeat (first | exact (Kd.R_reads' HO_9.out).2.2 | (with_reducible refine Kd.C_alloc ?_ _) | (with_reducible refine Kd.C_drewN ?_ _) | (with_reducible refine Kd.C_drew ?_))); (case side2 => exact (Kd.R_reads' HO_9.out).2.1); rintro e w' ⟨rfl, ⟨nd, rfl⟩⟩; (try first | exact ⟨rfl, _, World.drewN_drewN _ _ _⟩ | exact ⟨rfl, _, Eq.trans (World.drewN_drewN _ _ _) (congrArg (World.drewN _) (Nat.add_assoc _ _ _))⟩)))
                      repeat (go_quiet (first | (go_at_call 16; (with_reducible refine (window_Count.calls k2 _ _ t198 t201 (ax [(rd t198 x13_1), (wrap64 ((rd t198 x13_1) + 1)), (wrap64 ((wrap64 ((rd t198 x13_1) + t201)) - 1))] x62_2) t208 t209 _ ?side1 ?side2 A17.out).mono ?_); (case side1 => repeat (first | exact (Kd.R_reads' HO_9.out).2.2 | (with_reducible refine Kd.C_alloc ?_ _) | (with_reducible refine Kd.C_drewN ?_ _) | (with_reducible refine Kd.C_drew ?_))); (case side2 => exact (Kd.R_reads' HO_9.out).2.1); rintro e w' ⟨rfl, ⟨nd, rfl⟩⟩; (try first | exact ⟨rfl, _, World.drewN_drewN _ _ _⟩ | exact ⟨rfl, _, Eq.trans (World.drewN_drewN _ _ _) (congrArg (World.drewN _) (Nat.add_assoc _ _ _))⟩))); try go_wp2_with (first | (go_at_call 16; (with_reducible refine (window_Count.calls k2 _ _ t198 t201 (ax [(rd t198 x13_1), (wrap64 ((rd t198 x13_1) + 1)), (wrap64 ((wrap64 ((rd t198 x13_1) + t201)) - 1))] x62_2) t208 t209 _ ?side1 ?side2 A17.out).mono ?_); (case side1 => repeat (first | exact (Kd.R_reads' HO_9.out).2.2 | (with_reducible refine Kd.C_alloc ?_ _) | (with_reducible refine Kd.C_drewN ?_ _) | (with_reducible refine Kd.C_drew ?_))); (case side2 => exact (Kd.R_reads' HO_9.out).2.1); rintro e w' ⟨rfl, ⟨nd, rfl⟩⟩; (try first | exact ⟨rfl, _, World.drewN_drewN _ _ _⟩ | exact ⟨rfl, _, Eq.trans (World.drewN_drewN _ _ _) (congrArg (World.drewN _) (Nat.add_assoc _ _ _))⟩))))
                      go_roundg k2
                      case measure => have := HK1.out; have := HK2.out; omega
                      case rel => exact ⟨(ji19), (wrap64 (x62_2 + 1)), (by first | rfl | (simp; done) | (simp only [← hji19] <;> (first | rfl | simp)) | (simp [*]; done)), (by first | rfl | (simp; done) | (simp [*]; done)), H', ⟨by have := HK1.out; have := HK2.out; omega⟩, ⟨by (with_reducible repeat (first | apply Kd.R_alloc | apply Kd.R_drewN | apply Kd.R_drew)); exact HO_9.out⟩, ⟨by repeat (first | (with_reducible first | exact HB.out | apply below_alloc | apply pw_below_drewN | apply below_drew1) | exact HB.out)⟩⟩
                    · rw [if_neg c18] at H
                      have c18b0 : (t209 == 0) = false := beq_eq_false_iff_ne.mpr c18
                      have c18b1 : (t209 != 0) = true := bne_iff_ne.mpr c18
                      obtain rfl := Option.some.inj H
                      exact absurd HR_.out (by simp)
                  · rw [if_neg c15] at H
                    exact absurd H (by simp)
                · rw [if_neg c14] at H
                  have c14b0 : decide (x62_2 < 3) = false := decide_eq_false c14
                  clear c14
                  have H' := Aside0.mk H
                  clear H
                  go_wp2
                  repeat (go_quiet (fail); try go_wp2)
                  go_roundg k2
                  case measure => have := HK1.out; have := HK2.out; omega
                  case rel => exact ⟨(x12_2), (wrap64 (x13_1 + 1)), (by first | rfl | (simp; done) | (simp [*]; done)), (by first | rfl | (simp; done) | (simp [*]; done)), H', ⟨by have := HK1.out; have := HK2.out; omega⟩, ⟨by (with_reducible repeat (first | apply Kd.R_alloc | apply Kd.R_drewN | apply Kd.R_drew)); exact HO_9.out⟩, ⟨by repeat (first | (with_reducible first | exact HB.out | apply below_alloc | apply pw_below_drewN | apply below_drew1) | exact HB.out)⟩⟩
          · rw [if_neg c13] at H
            exact absurd H (by simp)
        · rw [if_neg c12] at H
          have c12b0 : decide (x13_1 < (t198.length : Int)) = false := decide_eq_false c12
          clear c12
          by_cases c20 : (t203 != (decide (x12_1 ≤ (wrap64 (t202 - 1))))) = true
          · rw [if_pos c20] at H
            have c20b0 : (t203 != (decide (x12_1 ≤ (wrap64 (t202 - 1))))) = true := c20
            (try (have c20b1 : decide (t203 = (decide (x12_1 ≤ (wrap64 (t202 - 1))))) = false := by simpa using c20))
            (try (have c20b2 : (t203 == (decide (x12_1 ≤ (wrap64 (t202 - 1))))) = false := by simpa using c20))
            (try (have c20b3 : ¬ (t203 = (decide (x12_1 ≤ (wrap64 (t202 - 1))))) := by simpa using c20))
            clear c20
            obtain rfl := Option.some.inj H
            exact absurd HR_.out (by simp)
          · rw [if_neg c20] at H
            have c20b0 : (t203 != (decide (x12_1 ≤ (wrap64 (t202 - 1))))) = false := by simpa using c20
            (try (have c20b1 : decide (t203 = (decide (x12_1 ≤ (wrap64 (t202 - 1))))) = true := by simpa using c20))
            (try (have c20b2 : (t203 == (decide (x12_1 ≤ (wrap64 (t202 - 1))))) = true := by simpa using c20))
            clear c20
            replace H := Option.bind_eq_some_iff.mp H
            obtain ⟨t210, A210, H⟩ := H
            replace H : (if 0 ≤ (wrap64 (t210 - 1)) then (if (wrap64 (t210 - 1)) ≤ (t198.length : Int) then ((window_Within.f k1 (t198.take ((wrap64 (t210 - 1)) : Int).toNat) t201 (wrap64 (t202 - 1))).bind fun bt215 => ((window_Within.f k1 (t198.drop ((wrap64 (t210 - 1)) : Int).toNat) t201 (wrap64 (t202 - 1))).bind fun bt221 => ((sacristanlaw12_mod.f (wrap64 (t210 - 1)) t201).bind fun t223 => ((window_Within.f k1 t198 t223 (wrap64 (t202 - 1))).bind fun bt224 => (if bt215.2 = 0 then (if bt221.2 = 0 then (if bt224.2 = 0 then (if t203 = true then (if bt215.1 = true then (if bt221.1 = true then (if bt224.1 = true then ((sacristanlaw12_awake.f k1).bind fun t226 => (some t226)) else (some false)) else (some false)) else (some false)) else ((sacristanlaw12_awake.f k1).bind fun t227 => (some t227))) else (some false)) else (some false)) else (some false)))))) else (none)) else (none)) = some r := H
            have A21 := Aside0.mk A210
            clear A210
            obtain ⟨ji22, hji22⟩ : ∃ j_ : Int, (wrap64 (t210 - 1)) = j_ := ⟨_, rfl⟩
            replace H : (if 0 ≤ (ji22) then (if (ji22) ≤ (t198.length : Int) then ((window_Within.f k1 (t198.take ((ji22) : Int).toNat) t201 (wrap64 (t202 - 1))).bind fun bt215 => ((window_Within.f k1 (t198.drop ((ji22) : Int).toNat) t201 (wrap64 (t202 - 1))).bind fun bt221 => ((sacristanlaw12_mod.f (ji22) t201).bind fun t223 => ((window_Within.f k1 t198 t223 (wrap64 (t202 - 1))).bind fun bt224 => (if bt215.2 = 0 then (if bt221.2 = 0 then (if bt224.2 = 0 then (if t203 = true then (if bt215.1 = true then (if bt221.1 = true then (if bt224.1 = true then ((sacristanlaw12_awake.f k1).bind fun t226 => (some t226)) else (some false)) else (some false)) else (some false)) else ((sacristanlaw12_awake.f k1).bind fun t227 => (some t227))) else (some false)) else (some false)) else (some false)))))) else (none)) else (none)) = some r := by first | (rw [hji22] at H; exact H) | (simp only [hji22] at H ⊢; exact H)
            (try rw [hji22] at A21)
            have hji22w : (IntKind.i64.wrap (t210 - 1)) = ji22 := (i64_w _).trans hji22
            by_cases c23 : 0 ≤ (ji22)
            · rw [if_pos c23] at H
              have c23b0 := eq_true c23
              have c23b1 : decide (0 ≤ (ji22)) = true := decide_eq_true c23
              clear c23
              by_cases c24 : (ji22) ≤ (t198.length : Int)
              · rw [if_pos c24] at H
                have c24b0 := eq_true c24
                have c24b1 : decide ((ji22) ≤ (t198.length : Int)) = true := decide_eq_true c24
                clear c24
                obtain ⟨y211, hy211⟩ : ∃ y_ : List Int, y_ = (t198.take ((ji22) : Int).toNat) := ⟨_, rfl⟩
                replace H : ((window_Within.f k1 y211 t201 (wrap64 (t202 - 1))).bind fun bt215 => ((window_Within.f k1 (t198.drop ((ji22) : Int).toNat) t201 (wrap64 (t202 - 1))).bind fun bt221 => ((sacristanlaw12_mod.f (ji22) t201).bind fun t223 => ((window_Within.f k1 t198 t223 (wrap64 (t202 - 1))).bind fun bt224 => (if bt215.2 = 0 then (if bt221.2 = 0 then (if bt224.2 = 0 then (if t203 = true then (if bt215.1 = true then (if bt221.1 = true then (if bt224.1 = true then ((sacristanlaw12_awake.f k1).bind fun t226 => (some t226)) else (some false)) else (some false)) else (some false)) else ((sacristanlaw12_awake.f k1).bind fun t227 => (some t227))) else (some false)) else (some false)) else (some false)))))) = some r := by first | (rw [hy211]; with_reducible exact H) | (have H2_ := (Option.bind_some _ _).symm.trans H; rw [hy211]; with_reducible exact H2_) | (have H2_ := (Option.bind_some _ _).symm.trans H; with_reducible exact H2_) | with_reducible exact H | (rw [hy211]; exact H) | exact H
                have Ny211 := Aside0.mk hy211
                clear hy211
                replace H := Option.bind_eq_some_iff.mp H
                obtain ⟨⟨t215, t216⟩, A250, H⟩ := H
                replace H : ((window_Within.f k1 (t198.drop ((ji22) : Int).toNat) t201 (wrap64 (t202 - 1))).bind fun bt221 => ((sacristanlaw12_mod.f (ji22) t201).bind fun t223 => ((window_Within.f k1 t198 t223 (wrap64 (t202 - 1))).bind fun bt224 => (if t216 = 0 then (if bt221.2 = 0 then (if bt224.2 = 0 then (if t203 = true then (if t215 = true then (if bt221.1 = true then (if bt224.1 = true then ((sacristanlaw12_awake.f k1).bind fun t226 => (some t226)) else (some false)) else (some false)) else (some false)) else ((sacristanlaw12_awake.f k1).bind fun t227 => (some t227))) else (some false)) else (some false)) else (some false))))) = some r := H
                have A25 := Aside0.mk A250
                clear A250
                have c26b0 := eq_true (of_decide_eq_true (by first | (with_reducible assumption) | assumption) : 0 ≤ (ji22))
                have c27b0 := eq_true (of_decide_eq_true (by first | (with_reducible assumption) | assumption) : (ji22) ≤ (t198.length : Int))
                obtain ⟨y217, hy217⟩ : ∃ y_ : List Int, y_ = (t198.drop ((ji22) : Int).toNat) := ⟨_, rfl⟩
                replace H : ((window_Within.f k1 y217 t201 (wrap64 (t202 - 1))).bind fun bt221 => ((sacristanlaw12_mod.f (ji22) t201).bind fun t223 => ((window_Within.f k1 t198 t223 (wrap64 (t202 - 1))).bind fun bt224 => (if t216 = 0 then (if bt221.2 = 0 then (if bt224.2 = 0 then (if t203 = true then (if t215 = true then (if bt221.1 = true then (if bt224.1 = true then ((sacristanlaw12_awake.f k1).bind fun t226 => (some t226)) else (some false)) else (some false)) else (some false)) else ((sacristanlaw12_awake.f k1).bind fun t227 => (some t227))) else (some false)) else (some false)) else (some false))))) = some r := by first | (rw [hy217]; with_reducible exact H) | (have H2_ := (Option.bind_some _ _).symm.trans H; rw [hy217]; with_reducible exact H2_) | (have H2_ := (Option.bind_some _ _).symm.trans H; with_reducible exact H2_) | with_reducible exact H | (rw [hy217]; exact H) | exact H
                have Ny217 := Aside0.mk hy217
                clear hy217
                replace H := Option.bind_eq_some_iff.mp H
                obtain ⟨⟨t221, t222⟩, A280, H⟩ := H
                replace H : ((sacristanlaw12_mod.f (ji22) t201).bind fun t223 => ((window_Within.f k1 t198 t223 (wrap64 (t202 - 1))).bind fun bt224 => (if t216 = 0 then (if t222 = 0 then (if bt224.2 = 0 then (if t203 = true then (if t215 = true then (if t221 = true then (if bt224.1 = true then ((sacristanlaw12_awake.f k1).bind fun t226 => (some t226)) else (some false)) else (some false)) else (some false)) else ((sacristanlaw12_awake.f k1).bind fun t227 => (some t227))) else (some false)) else (some false)) else (some false)))) = some r := H
                have A28 := Aside0.mk A280
                clear A280
                replace H := Option.bind_eq_some_iff.mp H
                obtain ⟨t223, A290, H⟩ := H
                replace H : ((window_Within.f k1 t198 t223 (wrap64 (t202 - 1))).bind fun bt224 => (if t216 = 0 then (if t222 = 0 then (if bt224.2 = 0 then (if t203 = true then (if t215 = true then (if t221 = true then (if bt224.1 = true then ((sacristanlaw12_awake.f k1).bind fun t226 => (some t226)) else (some false)) else (some false)) else (some false)) else ((sacristanlaw12_awake.f k1).bind fun t227 => (some t227))) else (some false)) else (some false)) else (some false))) = some r := H
                have A29 := Aside0.mk A290
                clear A290
                replace H := Option.bind_eq_some_iff.mp H
                obtain ⟨⟨t224, t225⟩, A300, H⟩ := H
                replace H : (if t216 = 0 then (if t222 = 0 then (if t225 = 0 then (if t203 = true then (if t215 = true then (if t221 = true then (if t224 = true then ((sacristanlaw12_awake.f k1).bind fun t226 => (some t226)) else (some false)) else (some false)) else (some false)) else ((sacristanlaw12_awake.f k1).bind fun t227 => (some t227))) else (some false)) else (some false)) else (some false)) = some r := H
                have A30 := Aside0.mk A300
                clear A300
                by_cases c31 : t216 = 0
                · rw [if_pos c31] at H
                  have c31b0 : (t216 == 0) = true := beq_iff_eq.mpr c31
                  have c31b1 : (t216 != 0) = false := bne_eq_false_iff_eq.mpr c31
                  clear c31
                  by_cases c32 : t222 = 0
                  · rw [if_pos c32] at H
                    have c32b0 : (t222 == 0) = true := beq_iff_eq.mpr c32
                    have c32b1 : (t222 != 0) = false := bne_eq_false_iff_eq.mpr c32
                    clear c32
                    by_cases c33 : t225 = 0
                    · rw [if_pos c33] at H
                      have c33b0 : (t225 == 0) = true := beq_iff_eq.mpr c33
                      have c33b1 : (t225 != 0) = false := bne_eq_false_iff_eq.mpr c33
                      clear c33
                      by_cases c34 : t203 = true
                      · subst c34
                        have H1 : (if t215 = true then (if t221 = true then (if t224 = true then ((sacristanlaw12_awake.f k1).bind fun t226 => (some t226)) else (some false)) else (some false)) else (some false)) = some r := by rw [if_pos rfl] at H; exact H
                        clear H
                        have H := H1
                        clear H1
                        by_cases c35 : t215 = true
                        · subst c35
                          have H1 : (if t221 = true then (if t224 = true then ((sacristanlaw12_awake.f k1).bind fun t226 => (some t226)) else (some false)) else (some false)) = some r := by rw [if_pos rfl] at H; exact H
                          clear H
                          have H := H1
                          clear H1
                          by_cases c36 : t221 = true
                          · subst c36
                            have H1 : (if t224 = true then ((sacristanlaw12_awake.f k1).bind fun t226 => (some t226)) else (some false)) = some r := by rw [if_pos rfl] at H; exact H
                            clear H
                            have H := H1
                            clear H1
                            by_cases c37 : t224 = true
                            · subst c37
                              have H1 : ((sacristanlaw12_awake.f k1).bind fun t226 => (some t226)) = some r := by rw [if_pos rfl] at H; exact H
                              clear H
                              have H := H1
                              clear H1
                              replace H := Option.bind_eq_some_iff.mp H
                              obtain ⟨t226, A380, H⟩ := H
                              replace H : (some t226) = some r := H
                              have A38 := Aside0.mk A380
                              clear A380
                              obtain rfl := Option.some.inj H
                              go_wp2_with (first | (go_at_call 25; (with_reducible refine (sacristanlaw12_mod.calls a3 (wrap64 ((t198.length : Int) + 1)) t210 _ A21.out).mono ?_); rintro e w' ⟨rfl, ⟨nd, rfl⟩⟩; (try first | exact ⟨rfl, _, World.drewN_drewN _ _ _⟩ | exact ⟨rfl, _, Eq.trans (World.drewN_drewN _ _ _) (congrArg (World.drewN _) (Nat.add_assoc _ _ _))⟩); have q39 : ((ji22) : Int) ≤ ((t198.length : Int) : Int) := of_decide_eq_true (by first | (with_reducible assumption) | assumption); obtain ⟨i039, hi039, _, hsz39, _⟩ := info_parts info3; have hroom39 : t198.length ≤ co11 := (Kd.R_reads' HO_9.out).2.1; have hC39 : Kd.C (Kd.int .i64) _ Ao11 t198.length t198 := (Kd.R_reads' HO_9.out).2.2; have hcut39 := cut_to (P := Try.prog) 22 3 .i64 Try.underlying22 hi039 Ao11 t198.length co11 (ji22) (of_decide_eq_true (by first | (with_reducible assumption) | assumption)) q39 hroom39; have hr39 := Kd.C_take (m := ((ji22) : Int).toNat) hC39 (by omega); have hy39 : y211.length = ((ji22) : Int).toNat := (by rw [Ny211.out, List.length_take]; omega); rw [← Ny211.out] at hr39; rw [← hy39] at hcut39; have HR214 := Aside0.mk hr39; have HC214 := Aside0.mk (show y211.length ≤ co11 from by omega); clear hr39 hC39 hroom39 hi039 hsz39; have KY39 := Aside0.mk hy39; clear hy39; have KL39 := Aside0.mk (show ((ji22) : Int).toNat ≤ t198.length from by omega); replace q39 := eq_true q39) | (go_at_call 20; (with_reducible refine (window_Within.calls k1 _ _ y211 t201 (wrap64 (t202 - 1)) true t216 _ ?side1 ?side2 A25.out).mono ?_); (case side1 => repeat (first | exact (by repeat (first | (with_reducible exact HR214.out) | (with_reducible refine Kd.C_alloc ?_ _) | (with_reducible refine Kd.C_drewN ?_ _) | (with_reducible refine Kd.C_drew ?_) | exact HR214.out)) | (with_reducible refine Kd.C_alloc ?_ _) | (with_reducible refine Kd.C_drewN ?_ _) | (with_reducible refine Kd.C_drew ?_))); (case side2 => exact HC214.out); rintro e w' ⟨rfl, ⟨nd, rfl⟩⟩; (try first | exact ⟨rfl, _, World.drewN_drewN _ _ _⟩ | exact ⟨rfl, _, Eq.trans (World.drewN_drewN _ _ _) (congrArg (World.drewN _) (Nat.add_assoc _ _ _))⟩); have q40 : ((ji22) : Int) ≤ ((t198.length : Int) : Int) := of_decide_eq_true (by first | (with_reducible assumption) | assumption); obtain ⟨i040, hi040, _, hsz40, _⟩ := info_parts info3; have hroom40 : t198.length ≤ co11 := (Kd.R_reads' HO_9.out).2.1; have hC40 : Kd.C (Kd.int .i64) _ Ao11 t198.length t198 := (Kd.R_reads' HO_9.out).2.2; have q040 : (0 : Int) ≤ ((ji22) : Int) := of_decide_eq_true (by first | (with_reducible assumption) | assumption); have hcut40 := cut_from (P := Try.prog) 22 3 .i64 Try.underlying22 hi040 1 hsz40 Ao11 t198.length co11 (ji22) q040 q40; have hr40 := Kd.C_drop (m := ((ji22) : Int).toNat) (c := co11) hC40 (by omega) hroom40; obtain ⟨A40, hA40⟩ : ∃ A1, A1 = (if co11 = ((ji22) : Int).toNat then Ao11 else (Ao11 : Option Addr).map (·.add (((ji22) : Int).toNat * 1))) := ⟨_, rfl⟩; obtain ⟨c40, hc40⟩ : ∃ c1, c1 = co11 - ((ji22) : Int).toNat := ⟨_, rfl⟩; have hy40 : y217.length = t198.length - ((ji22) : Int).toNat := (by rw [Ny217.out, List.length_drop] <;> omega); rw [show (t198).drop ((ji22) : Int).toNat = y217 from Ny217.out.symm] at hr40; replace hr40 : Kd.C (Kd.int .i64) _ A40 y217.length y217 := (by rw [hA40]; exact hr40); rw [← hy40, ← hA40, ← hc40] at hcut40; have HR220 := Aside0.mk hr40; have HC220 := Aside0.mk (show y217.length ≤ c40 from by rw [hy40, hc40]; exact Nat.sub_le_sub_right hroom40 _); clear hr40 hC40 hroom40 hi040 hsz40 hc40; have KY40 := Aside0.mk hy40; have KA40 := Aside0.mk hA40; clear hy40 hA40; have KL40 := Aside0.mk (show ((ji22) : Int).toNat ≤ t198.length from by omega); replace q40 := eq_true q40) | (go_at_call 20; (with_reducible refine (window_Within.calls k1 _ _ y217 t201 (wrap64 (t202 - 1)) true t222 _ ?side1 ?side2 A28.out).mono ?_); (case side1 => repeat (first | exact (by repeat (first | (with_reducible exact HR220.out) | (with_reducible refine Kd.C_alloc ?_ _) | (with_reducible refine Kd.C_drewN ?_ _) | (with_reducible refine Kd.C_drew ?_) | exact HR220.out)) | (with_reducible refine Kd.C_alloc ?_ _) | (with_reducible refine Kd.C_drewN ?_ _) | (with_reducible refine Kd.C_drew ?_))); (case side2 => exact HC220.out); rintro e w' ⟨rfl, ⟨nd, rfl⟩⟩; (try first | exact ⟨rfl, _, World.drewN_drewN _ _ _⟩ | exact ⟨rfl, _, Eq.trans (World.drewN_drewN _ _ _) (congrArg (World.drewN _) (Nat.add_assoc _ _ _))⟩)) | (go_at_call 25; (with_reducible refine (sacristanlaw12_mod.calls ji22 t201 t223 _ A29.out).mono ?_); rintro e w' ⟨rfl, ⟨nd, rfl⟩⟩; (try first | exact ⟨rfl, _, World.drewN_drewN _ _ _⟩ | exact ⟨rfl, _, Eq.trans (World.drewN_drewN _ _ _) (congrArg (World.drewN _) (Nat.add_assoc _ _ _))⟩)) | (go_at_call 20; (with_reducible refine (window_Within.calls k1 _ _ t198 t223 (wrap64 (t202 - 1)) true t225 _ ?side1 ?side2 A30.out).mono ?_); (case side1 => repeat (first | exact (Kd.R_reads' HO_9.out).2.2 | (with_reducible refine Kd.C_alloc ?_ _) | (with_reducible refine Kd.C_drewN ?_ _) | (with_reducible refine Kd.C_drew ?_))); (case side2 => exact (Kd.R_reads' HO_9.out).2.1); rintro e w' ⟨rfl, ⟨nd, rfl⟩⟩; (try first | exact ⟨rfl, _, World.drewN_drewN _ _ _⟩ | exact ⟨rfl, _, Eq.trans (World.drewN_drewN _ _ _) (congrArg (World.drewN _) (Nat.add_assoc _ _ _))⟩)) | (go_at_call 23; (with_reducible refine (sacristanlaw12_awake.calls k1  t226 _ A38.out (by first | rfl | exact HR_.out)).mono ?_); (try clear A38); rintro e w41 ⟨rfl, hb⟩; have n0_ := Aside0.mk (Kd.R_below (by (with_reducible repeat (first | apply Kd.R_alloc | apply Kd.R_drewN | apply Kd.R_drew)); exact HO_9.out) hb); have n1_ := Aside0.mk (Kd.C_below (by repeat (first | (with_reducible exact HR214.out) | (with_reducible refine Kd.C_alloc ?_ _) | (with_reducible refine Kd.C_drewN ?_ _) | (with_reducible refine Kd.C_drew ?_) | exact HR214.out)) hb); have n2_ := Aside0.mk (Kd.C_below (by repeat (first | (with_reducible exact HR220.out) | (with_reducible refine Kd.C_alloc ?_ _) | (with_reducible refine Kd.C_drewN ?_ _) | (with_reducible refine Kd.C_drew ?_) | exact HR220.out)) hb); have n3_ := Aside0.mk (below_step (w := w) (by repeat (first | (with_reducible first | exact HB.out | apply below_alloc | apply pw_below_drewN | apply below_drew1) | exact HB.out)) hb); clear HO_9; clear HR214; clear HR220; clear HB; have HO_9 := n0_; have HR214 := n1_; have HR220 := n2_; have HB := n3_; clear n0_ n1_ n2_ n3_; (try clear hb); (try clear hb2); (try clear hk); (try clear hi)))
                              repeat (go_quiet (first | (go_at_call 25; (with_reducible refine (sacristanlaw12_mod.calls a3 (wrap64 ((t198.length : Int) + 1)) t210 _ A21.out).mono ?_); rintro e w' ⟨rfl, ⟨nd, rfl⟩⟩; (try first | exact ⟨rfl, _, World.drewN_drewN _ _ _⟩ | exact ⟨rfl, _, Eq.trans (World.drewN_drewN _ _ _) (congrArg (World.drewN _) (Nat.add_assoc _ _ _))⟩); have q39 : ((ji22) : Int) ≤ ((t198.length : Int) : Int) := of_decide_eq_true (by first | (with_reducible assumption) | assumption); obtain ⟨i039, hi039, _, hsz39, _⟩ := info_parts info3; have hroom39 : t198.length ≤ co11 := (Kd.R_reads' HO_9.out).2.1; have hC39 : Kd.C (Kd.int .i64) _ Ao11 t198.length t198 := (Kd.R_reads' HO_9.out).2.2; have hcut39 := cut_to (P := Try.prog) 22 3 .i64 Try.underlying22 hi039 Ao11 t198.length co11 (ji22) (of_decide_eq_true (by first | (with_reducible assumption) | assumption)) q39 hroom39; have hr39 := Kd.C_take (m := ((ji22) : Int).toNat) hC39 (by omega); have hy39 : y211.length = ((ji22) : Int).toNat := (by rw [Ny211.out, List.length_take]; omega); rw [← Ny211.out] at hr39; rw [← hy39] at hcut39; have HR214 := Aside0.mk hr39; have HC214 := Aside0.mk (show y211.length ≤ co11 from by omega); clear hr39 hC39 hroom39 hi039 hsz39; have KY39 := Aside0.mk hy39; clear hy39; have KL39 := Aside0.mk (show ((ji22) : Int).toNat ≤ t198.length from by omega); replace q39 := eq_true q39) | (go_at_call 20; (with_reducible refine (window_Within.calls k1 _ _ y211 t201 (wrap64 (t202 - 1)) true t216 _ ?side1 ?side2 A25.out).mono ?_); (case side1 => repeat (first | exact (by repeat (first | (with_reducible exact HR214.out) | (with_reducible refine Kd.C_alloc ?_ _) | (with_reducible refine Kd.C_drewN ?_ _) | (with_reducible refine Kd.C_drew ?_) | exact HR214.out)) | (with_reducible refine Kd.C_alloc ?_ _) | (with_reducible refine Kd.C_drewN ?_ _) | (with_reducible refine Kd.C_drew ?_))); (case side2 => exact HC214.out); rintro e w' ⟨rfl, ⟨nd, rfl⟩⟩; (try first | exact ⟨rfl, _, World.drewN_drewN _ _ _⟩ | exact ⟨rfl, _, Eq.trans (World.drewN_drewN _ _ _) (congrArg (World.drewN _) (Nat.add_assoc _ _ _))⟩); have q40 : ((ji22) : Int) ≤ ((t198.length : Int) : Int) := of_decide_eq_true (by first | (with_reducible assumption) | assumption); obtain ⟨i040, hi040, _, hsz40, _⟩ := info_parts info3; have hroom40 : t198.length ≤ co11 := (Kd.R_reads' HO_9.out).2.1; have hC40 : Kd.C (Kd.int .i64) _ Ao11 t198.length t198 := (Kd.R_reads' HO_9.out).2.2; have q040 : (0 : Int) ≤ ((ji22) : Int) := of_decide_eq_true (by first | (with_reducible assumption) | assumption); have hcut40 := cut_from (P := Try.prog) 22 3 .i64 Try.underlying22 hi040 1 hsz40 Ao11 t198.length co11 (ji22) q040 q40; have hr40 := Kd.C_drop (m := ((ji22) : Int).toNat) (c := co11) hC40 (by omega) hroom40; obtain ⟨A40, hA40⟩ : ∃ A1, A1 = (if co11 = ((ji22) : Int).toNat then Ao11 else (Ao11 : Option Addr).map (·.add (((ji22) : Int).toNat * 1))) := ⟨_, rfl⟩; obtain ⟨c40, hc40⟩ : ∃ c1, c1 = co11 - ((ji22) : Int).toNat := ⟨_, rfl⟩; have hy40 : y217.length = t198.length - ((ji22) : Int).toNat := (by rw [Ny217.out, List.length_drop] <;> omega); rw [show (t198).drop ((ji22) : Int).toNat = y217 from Ny217.out.symm] at hr40; replace hr40 : Kd.C (Kd.int .i64) _ A40 y217.length y217 := (by rw [hA40]; exact hr40); rw [← hy40, ← hA40, ← hc40] at hcut40; have HR220 := Aside0.mk hr40; have HC220 := Aside0.mk (show y217.length ≤ c40 from by rw [hy40, hc40]; exact Nat.sub_le_sub_right hroom40 _); clear hr40 hC40 hroom40 hi040 hsz40 hc40; have KY40 := Aside0.mk hy40; have KA40 := Aside0.mk hA40; clear hy40 hA40; have KL40 := Aside0.mk (show ((ji22) : Int).toNat ≤ t198.length from by omega); replace q40 := eq_true q40) | (go_at_call 20; (with_reducible refine (window_Within.calls k1 _ _ y217 t201 (wrap64 (t202 - 1)) true t222 _ ?side1 ?side2 A28.out).mono ?_); (case side1 => repeat (first | exact (by repeat (first | (with_reducible exact HR220.out) | (with_reducible refine Kd.C_alloc ?_ _) | (with_reducible refine Kd.C_drewN ?_ _) | (with_reducible refine Kd.C_drew ?_) | exact HR220.out)) | (with_reducible refine Kd.C_alloc ?_ _) | (with_reducible refine Kd.C_drewN ?_ _) | (with_reducible refine Kd.C_drew ?_))); (case side2 => exact HC220.out); rintro e w' ⟨rfl, ⟨nd, rfl⟩⟩; (try first | exact ⟨rfl, _, World.drewN_drewN _ _ _⟩ | exact ⟨rfl, _, Eq.trans (World.drewN_drewN _ _ _) (congrArg (World.drewN _) (Nat.add_assoc _ _ _))⟩)) | (go_at_call 25; (with_reducible refine (sacristanlaw12_mod.calls ji22 t201 t223 _ A29.out).mono ?_); rintro e w' ⟨rfl, ⟨nd, rfl⟩⟩; (try first | exact ⟨rfl, _, World.drewN_drewN _ _ _⟩ | exact ⟨rfl, _, Eq.trans (World.drewN_drewN _ _ _) (congrArg (World.drewN _) (Nat.add_assoc _ _ _))⟩)) | (go_at_call 20; (with_reducible refine (window_Within.calls k1 _ _ t198 t223 (wrap64 (t202 - 1)) true t225 _ ?side1 ?side2 A30.out).mono ?_); (case side1 => repeat (first | exact (Kd.R_reads' HO_9.out).2.2 | (with_reducible refine Kd.C_alloc ?_ _) | (with_reducible refine Kd.C_drewN ?_ _) | (with_reducible refine Kd.C_drew ?_))); (case side2 => exact (Kd.R_reads' HO_9.out).2.1); rintro e w' ⟨rfl, ⟨nd, rfl⟩⟩; (try first | exact ⟨rfl, _, World.drewN_drewN _ _ _⟩ | exact ⟨rfl, _, Eq.trans (World.drewN_drewN _ _ _) (congrArg (World.drewN _) (Nat.add_assoc _ _ _))⟩)) | (go_at_call 23; (with_reducible refine (sacristanlaw12_awake.calls k1  t226 _ A38.out (by first | rfl | exact HR_.out)).mono ?_); (try clear A38); rintro e w41 ⟨rfl, hb⟩; have n0_ := Aside0.mk (Kd.R_below (by (with_reducible repeat (first | apply Kd.R_alloc | apply Kd.R_drewN | apply Kd.R_drew)); exact HO_9.out) hb); have n1_ := Aside0.mk (Kd.C_below (by repeat (first | (with_reducible exact HR214.out) | (with_reducible refine Kd.C_alloc ?_ _) | (with_reducible refine Kd.C_drewN ?_ _) | (with_reducible refine Kd.C_drew ?_) | exact HR214.out)) hb); have n2_ := Aside0.mk (Kd.C_below (by repeat (first | (with_reducible exact HR220.out) | (with_reducible refine Kd.C_alloc ?_ _) | (with_reducible refine Kd.C_drewN ?_ _) | (with_reducible refine Kd.C_drew ?_) | exact HR220.out)) hb); have n3_ := Aside0.mk (below_step (w := w) (by repeat (first | (with_reducible first | exact HB.out | apply below_alloc | apply pw_below_drewN | apply below_drew1) | exact HB.out)) hb); clear HO_9; clear HR214; clear HR220; clear HB; have HO_9 := n0_; have HR214 := n1_; have HR220 := n2_; have HB := n3_; clear n0_ n1_ n2_ n3_; (try clear hb); (try clear hb2); (try clear hk); (try clear hi))); try go_wp2_with (first | (go_at_call 25; (with_reducible refine (sacristanlaw12_mod.calls a3 (wrap64 ((t198.length : Int) + 1)) t210 _ A21.out).mono ?_); rintro e w' ⟨rfl, ⟨nd, rfl⟩⟩; (try first | exact ⟨rfl, _, World.drewN_drewN _ _ _⟩ | exact ⟨rfl, _, Eq.trans (World.drewN_drewN _ _ _) (congrArg (World.drewN _) (Nat.add_assoc _ _ _))⟩); have q39 : ((ji22) : Int) ≤ ((t198.length : Int) : Int) := of_decide_eq_true (by first | (with_reducible assumption) | assumption); obtain ⟨i039, hi039, _, hsz39, _⟩ := info_parts info3; have hroom39 : t198.length ≤ co11 := (Kd.R_reads' HO_9.out).2.1; have hC39 : Kd.C (Kd.int .i64) _ Ao11 t198.length t198 := (Kd.R_reads' HO_9.out).2.2; have hcut39 := cut_to (P := Try.prog) 22 3 .i64 Try.underlying22 hi039 Ao11 t198.length co11 (ji22) (of_decide_eq_true (by first | (with_reducible assumption) | assumption)) q39 hroom39; have hr39 := Kd.C_take (m := ((ji22) : Int).toNat) hC39 (by omega); have hy39 : y211.length = ((ji22) : Int).toNat := (by rw [Ny211.out, List.length_take]; omega); rw [← Ny211.out] at hr39; rw [← hy39] at hcut39; have HR214 := Aside0.mk hr39; have HC214 := Aside0.mk (show y211.length ≤ co11 from by omega); clear hr39 hC39 hroom39 hi039 hsz39; have KY39 := Aside0.mk hy39; clear hy39; have KL39 := Aside0.mk (show ((ji22) : Int).toNat ≤ t198.length from by omega); replace q39 := eq_true q39) | (go_at_call 20; (with_reducible refine (window_Within.calls k1 _ _ y211 t201 (wrap64 (t202 - 1)) true t216 _ ?side1 ?side2 A25.out).mono ?_); (case side1 => repeat (first | exact (by repeat (first | (with_reducible exact HR214.out) | (with_reducible refine Kd.C_alloc ?_ _) | (with_reducible refine Kd.C_drewN ?_ _) | (with_reducible refine Kd.C_drew ?_) | exact HR214.out)) | (with_reducible refine Kd.C_alloc ?_ _) | (with_reducible refine Kd.C_drewN ?_ _) | (with_reducible refine Kd.C_drew ?_))); (case side2 => exact HC214.out); rintro e w' ⟨rfl, ⟨nd, rfl⟩⟩; (try first | exact ⟨rfl, _, World.drewN_drewN _ _ _⟩ | exact ⟨rfl, _, Eq.trans (World.drewN_drewN _ _ _) (congrArg (World.drewN _) (Nat.add_assoc _ _ _))⟩); have q40 : ((ji22) : Int) ≤ ((t198.length : Int) : Int) := of_decide_eq_true (by first | (with_reducible assumption) | assumption); obtain ⟨i040, hi040, _, hsz40, _⟩ := info_parts info3; have hroom40 : t198.length ≤ co11 := (Kd.R_reads' HO_9.out).2.1; have hC40 : Kd.C (Kd.int .i64) _ Ao11 t198.length t198 := (Kd.R_reads' HO_9.out).2.2; have q040 : (0 : Int) ≤ ((ji22) : Int) := of_decide_eq_true (by first | (with_reducible assumption) | assumption); have hcut40 := cut_from (P := Try.prog) 22 3 .i64 Try.underlying22 hi040 1 hsz40 Ao11 t198.length co11 (ji22) q040 q40; have hr40 := Kd.C_drop (m := ((ji22) : Int).toNat) (c := co11) hC40 (by omega) hroom40; obtain ⟨A40, hA40⟩ : ∃ A1, A1 = (if co11 = ((ji22) : Int).toNat then Ao11 else (Ao11 : Option Addr).map (·.add (((ji22) : Int).toNat * 1))) := ⟨_, rfl⟩; obtain ⟨c40, hc40⟩ : ∃ c1, c1 = co11 - ((ji22) : Int).toNat := ⟨_, rfl⟩; have hy40 : y217.length = t198.length - ((ji22) : Int).toNat := (by rw [Ny217.out, List.length_drop] <;> omega); rw [show (t198).drop ((ji22) : Int).toNat = y217 from Ny217.out.symm] at hr40; replace hr40 : Kd.C (Kd.int .i64) _ A40 y217.length y217 := (by rw [hA40]; exact hr40); rw [← hy40, ← hA40, ← hc40] at hcut40; have HR220 := Aside0.mk hr40; have HC220 := Aside0.mk (show y217.length ≤ c40 from by rw [hy40, hc40]; exact Nat.sub_le_sub_right hroom40 _); clear hr40 hC40 hroom40 hi040 hsz40 hc40; have KY40 := Aside0.mk hy40; have KA40 := Aside0.mk hA40; clear hy40 hA40; have KL40 := Aside0.mk (show ((ji22) : Int).toNat ≤ t198.length from by omega); replace q40 := eq_true q40) | (go_at_call 20; (with_reducible refine (window_Within.calls k1 _ _ y217 t201 (wrap64 (t202 - 1)) true t222 _ ?side1 ?side2 A28.out).mono ?_); (case side1 => repeat (first | exact (by repeat (first | (with_reducible exact HR220.out) | (with_reducible refine Kd.C_alloc ?_ _) | (with_reducible refine Kd.C_drewN ?_ _) | (with_reducible refine Kd.C_drew ?_) | exact HR220.out)) | (with_reducible refine Kd.C_alloc ?_ _) | (with_reducible refine Kd.C_drewN ?_ _) | (with_reducible refine Kd.C_drew ?_))); (case side2 => exact HC220.out); rintro e w' ⟨rfl, ⟨nd, rfl⟩⟩; (try first | exact ⟨rfl, _, World.drewN_drewN _ _ _⟩ | exact ⟨rfl, _, Eq.trans (World.drewN_drewN _ _ _) (congrArg (World.drewN _) (Nat.add_assoc _ _ _))⟩)) | (go_at_call 25; (with_reducible refine (sacristanlaw12_mod.calls ji22 t201 t223 _ A29.out).mono ?_); rintro e w' ⟨rfl, ⟨nd, rfl⟩⟩; (try first | exact ⟨rfl, _, World.drewN_drewN _ _ _⟩ | exact ⟨rfl, _, Eq.trans (World.drewN_drewN _ _ _) (congrArg (World.drewN _) (Nat.add_assoc _ _ _))⟩)) | (go_at_call 20; (with_reducible refine (window_Within.calls k1 _ _ t198 t223 (wrap64 (t202 - 1)) true t225 _ ?side1 ?side2 A30.out).mono ?_); (case side1 => repeat (first | exact (Kd.R_reads' HO_9.out).2.2 | (with_reducible refine Kd.C_alloc ?_ _) | (with_reducible refine Kd.C_drewN ?_ _) | (with_reducible refine Kd.C_drew ?_))); (case side2 => exact (Kd.R_reads' HO_9.out).2.1); rintro e w' ⟨rfl, ⟨nd, rfl⟩⟩; (try first | exact ⟨rfl, _, World.drewN_drewN _ _ _⟩ | exact ⟨rfl, _, Eq.trans (World.drewN_drewN _ _ _) (congrArg (World.drewN _) (Nat.add_assoc _ _ _))⟩)) | (go_at_call 23; (with_reducible refine (sacristanlaw12_awake.calls k1  t226 _ A38.out (by first | rfl | exact HR_.out)).mono ?_); (try clear A38); rintro e w41 ⟨rfl, hb⟩; have n0_ := Aside0.mk (Kd.R_below (by (with_reducible repeat (first | apply Kd.R_alloc | apply Kd.R_drewN | apply Kd.R_drew)); exact HO_9.out) hb); have n1_ := Aside0.mk (Kd.C_below (by repeat (first | (with_reducible exact HR214.out) | (with_reducible refine Kd.C_alloc ?_ _) | (with_reducible refine Kd.C_drewN ?_ _) | (with_reducible refine Kd.C_drew ?_) | exact HR214.out)) hb); have n2_ := Aside0.mk (Kd.C_below (by repeat (first | (with_reducible exact HR220.out) | (with_reducible refine Kd.C_alloc ?_ _) | (with_reducible refine Kd.C_drewN ?_ _) | (with_reducible refine Kd.C_drew ?_) | exact HR220.out)) hb); have n3_ := Aside0.mk (below_step (w := w) (by repeat (first | (with_reducible first | exact HB.out | apply below_alloc | apply pw_below_drewN | apply below_drew1) | exact HB.out)) hb); clear HO_9; clear HR214; clear HR220; clear HB; have HO_9 := n0_; have HR214 := n1_; have HR220 := n2_; have HB := n3_; clear n0_ n1_ n2_ n3_; (try clear hb); (try clear hb2); (try clear hk); (try clear hi))))
                              go_ret
                              exact ⟨by first | rfl | (simp [errW_none, errW_some] <;> rfl) | (simp only [← hji22]; first | rfl | (simp [errW_none, errW_some] <;> rfl)) | (simp [*, errW_none, errW_some] <;> rfl), by repeat (first | (with_reducible first | exact HB.out | apply below_alloc | apply pw_below_drewN | apply below_drew1) | exact HB.out)⟩
                            · replace c37 := Bool.eq_false_iff.mpr c37
                              subst c37
                              have H1 : (some false) = some r := by rw [if_neg (show ¬ (false = true) by decide)] at H; exact H
                              clear H
                              have H := H1
                              clear H1
                              obtain rfl := Option.some.inj H
                              exact absurd HR_.out (by simp)
                          · replace c36 := Bool.eq_false_iff.mpr c36
                            subst c36
                            have H1 : (some false) = some r := by rw [if_neg (show ¬ (false = true) by decide)] at H; exact H
                            clear H
                            have H := H1
                            clear H1
                            obtain rfl := Option.some.inj H
                            exact absurd HR_.out (by simp)
                        · replace c35 := Bool.eq_false_iff.mpr c35
                          subst c35
                          have H1 : (some false) = some r := by rw [if_neg (show ¬ (false = true) by decide)] at H; exact H
                          clear H
                          have H := H1
                          clear H1
                          obtain rfl := Option.some.inj H
                          exact absurd HR_.out (by simp)
                      · replace c34 := Bool.eq_false_iff.mpr c34
                        subst c34
                        have H1 : ((sacristanlaw12_awake.f k1).bind fun t227 => (some t227)) = some r := by rw [if_neg (show ¬ (false = true) by decide)] at H; exact H
                        clear H
                        have H := H1
                        clear H1
                        replace H := Option.bind_eq_some_iff.mp H
                        obtain ⟨t227, A420, H⟩ := H
                        replace H : (some t227) = some r := H
                        have A42 := Aside0.mk A420
                        clear A420
                        obtain rfl := Option.some.inj H
                        go_wp2_with (first | (go_at_call 25; (with_reducible refine (sacristanlaw12_mod.calls a3 (wrap64 ((t198.length : Int) + 1)) t210 _ A21.out).mono ?_); rintro e w' ⟨rfl, ⟨nd, rfl⟩⟩; (try first | exact ⟨rfl, _, World.drewN_drewN _ _ _⟩ | exact ⟨rfl, _, Eq.trans (World.drewN_drewN _ _ _) (congrArg (World.drewN _) (Nat.add_assoc _ _ _))⟩); have q43 : ((ji22) : Int) ≤ ((t198.length : Int) : Int) := of_decide_eq_true (by first | (with_reducible assumption) | assumption); obtain ⟨i043, hi043, _, hsz43, _⟩ := info_parts info3; have hroom43 : t198.length ≤ co11 := (Kd.R_reads' HO_9.out).2.1; have hC43 : Kd.C (Kd.int .i64) _ Ao11 t198.length t198 := (Kd.R_reads' HO_9.out).2.2; have hcut43 := cut_to (P := Try.prog) 22 3 .i64 Try.underlying22 hi043 Ao11 t198.length co11 (ji22) (of_decide_eq_true (by first | (with_reducible assumption) | assumption)) q43 hroom43; have hr43 := Kd.C_take (m := ((ji22) : Int).toNat) hC43 (by omega); have hy43 : y211.length = ((ji22) : Int).toNat := (by rw [Ny211.out, List.length_take]; omega); rw [← Ny211.out] at hr43; rw [← hy43] at hcut43; have HR214 := Aside0.mk hr43; have HC214 := Aside0.mk (show y211.length ≤ co11 from by omega); clear hr43 hC43 hroom43 hi043 hsz43; have KY43 := Aside0.mk hy43; clear hy43; have KL43 := Aside0.mk (show ((ji22) : Int).toNat ≤ t198.length from by omega); replace q43 := eq_true q43) | (go_at_call 20; (with_reducible refine (window_Within.calls k1 _ _ y211 t201 (wrap64 (t202 - 1)) t215 t216 _ ?side1 ?side2 A25.out).mono ?_); (case side1 => repeat (first | exact (by repeat (first | (with_reducible exact HR214.out) | (with_reducible refine Kd.C_alloc ?_ _) | (with_reducible refine Kd.C_drewN ?_ _) | (with_reducible refine Kd.C_drew ?_) | exact HR214.out)) | (with_reducible refine Kd.C_alloc ?_ _) | (with_reducible refine Kd.C_drewN ?_ _) | (with_reducible refine Kd.C_drew ?_))); (case side2 => exact HC214.out); rintro e w' ⟨rfl, ⟨nd, rfl⟩⟩; (try first | exact ⟨rfl, _, World.drewN_drewN _ _ _⟩ | exact ⟨rfl, _, Eq.trans (World.drewN_drewN _ _ _) (congrArg (World.drewN _) (Nat.add_assoc _ _ _))⟩); have q44 : ((ji22) : Int) ≤ ((t198.length : Int) : Int) := of_decide_eq_true (by first | (with_reducible assumption) | assumption); obtain ⟨i044, hi044, _, hsz44, _⟩ := info_parts info3; have hroom44 : t198.length ≤ co11 := (Kd.R_reads' HO_9.out).2.1; have hC44 : Kd.C (Kd.int .i64) _ Ao11 t198.length t198 := (Kd.R_reads' HO_9.out).2.2; have q044 : (0 : Int) ≤ ((ji22) : Int) := of_decide_eq_true (by first | (with_reducible assumption) | assumption); have hcut44 := cut_from (P := Try.prog) 22 3 .i64 Try.underlying22 hi044 1 hsz44 Ao11 t198.length co11 (ji22) q044 q44; have hr44 := Kd.C_drop (m := ((ji22) : Int).toNat) (c := co11) hC44 (by omega) hroom44; obtain ⟨A44, hA44⟩ : ∃ A1, A1 = (if co11 = ((ji22) : Int).toNat then Ao11 else (Ao11 : Option Addr).map (·.add (((ji22) : Int).toNat * 1))) := ⟨_, rfl⟩; obtain ⟨c44, hc44⟩ : ∃ c1, c1 = co11 - ((ji22) : Int).toNat := ⟨_, rfl⟩; have hy44 : y217.length = t198.length - ((ji22) : Int).toNat := (by rw [Ny217.out, List.length_drop] <;> omega); rw [show (t198).drop ((ji22) : Int).toNat = y217 from Ny217.out.symm] at hr44; replace hr44 : Kd.C (Kd.int .i64) _ A44 y217.length y217 := (by rw [hA44]; exact hr44); rw [← hy44, ← hA44, ← hc44] at hcut44; have HR220 := Aside0.mk hr44; have HC220 := Aside0.mk (show y217.length ≤ c44 from by rw [hy44, hc44]; exact Nat.sub_le_sub_right hroom44 _); clear hr44 hC44 hroom44 hi044 hsz44 hc44; have KY44 := Aside0.mk hy44; have KA44 := Aside0.mk hA44; clear hy44 hA44; have KL44 := Aside0.mk (show ((ji22) : Int).toNat ≤ t198.length from by omega); replace q44 := eq_true q44) | (go_at_call 20; (with_reducible refine (window_Within.calls k1 _ _ y217 t201 (wrap64 (t202 - 1)) t221 t222 _ ?side1 ?side2 A28.out).mono ?_); (case side1 => repeat (first | exact (by repeat (first | (with_reducible exact HR220.out) | (with_reducible refine Kd.C_alloc ?_ _) | (with_reducible refine Kd.C_drewN ?_ _) | (with_reducible refine Kd.C_drew ?_) | exact HR220.out)) | (with_reducible refine Kd.C_alloc ?_ _) | (with_reducible refine Kd.C_drewN ?_ _) | (with_reducible refine Kd.C_drew ?_))); (case side2 => exact HC220.out); rintro e w' ⟨rfl, ⟨nd, rfl⟩⟩; (try first | exact ⟨rfl, _, World.drewN_drewN _ _ _⟩ | exact ⟨rfl, _, Eq.trans (World.drewN_drewN _ _ _) (congrArg (World.drewN _) (Nat.add_assoc _ _ _))⟩)) | (go_at_call 25; (with_reducible refine (sacristanlaw12_mod.calls ji22 t201 t223 _ A29.out).mono ?_); rintro e w' ⟨rfl, ⟨nd, rfl⟩⟩; (try first | exact ⟨rfl, _, World.drewN_drewN _ _ _⟩ | exact ⟨rfl, _, Eq.trans (World.drewN_drewN _ _ _) (congrArg (World.drewN _) (Nat.add_assoc _ _ _))⟩)) | (go_at_call 20; (with_reducible refine (window_Within.calls k1 _ _ t198 t223 (wrap64 (t202 - 1)) t224 t225 _ ?side1 ?side2 A30.out).mono ?_); (case side1 => repeat (first | exact (Kd.R_reads' HO_9.out).2.2 | (with_reducible refine Kd.C_alloc ?_ _) | (with_reducible refine Kd.C_drewN ?_ _) | (with_reducible refine Kd.C_drew ?_))); (case side2 => exact (Kd.R_reads' HO_9.out).2.1); rintro e w' ⟨rfl, ⟨nd, rfl⟩⟩; (try first | exact ⟨rfl, _, World.drewN_drewN _ _ _⟩ | exact ⟨rfl, _, Eq.trans (World.drewN_drewN _ _ _) (congrArg (World.drewN _) (Nat.add_assoc _ _ _))⟩)) | (go_at_call 23; (with_reducible refine (sacristanlaw12_awake.calls k1  t227 _ A42.out (by first | rfl | exact HR_.out)).mono ?_); (try clear A42); rintro e w45 ⟨rfl, hb⟩; have n0_ := Aside0.mk (Kd.R_below (by (with_reducible repeat (first | apply Kd.R_alloc | apply Kd.R_drewN | apply Kd.R_drew)); exact HO_9.out) hb); have n1_ := Aside0.mk (Kd.C_below (by repeat (first | (with_reducible exact HR214.out) | (with_reducible refine Kd.C_alloc ?_ _) | (with_reducible refine Kd.C_drewN ?_ _) | (with_reducible refine Kd.C_drew ?_) | exact HR214.out)) hb); have n2_ := Aside0.mk (Kd.C_below (by repeat (first | (with_reducible exact HR220.out) | (with_reducible refine Kd.C_alloc ?_ _) | (with_reducible refine Kd.C_drewN ?_ _) | (with_reducible refine Kd.C_drew ?_) | exact HR220.out)) hb); have n3_ := Aside0.mk (below_step (w := w) (by repeat (first | (with_reducible first | exact HB.out | apply below_alloc | apply pw_below_drewN | apply below_drew1) | exact HB.out)) hb); clear HO_9; clear HR214; clear HR220; clear HB; have HO_9 := n0_; have HR214 := n1_; have HR220 := n2_; have HB := n3_; clear n0_ n1_ n2_ n3_; (try clear hb); (try clear hb2); (try clear hk); (try clear hi)))
                        repeat (go_quiet (first | (go_at_call 25; (with_reducible refine (sacristanlaw12_mod.calls a3 (wrap64 ((t198.length : Int) + 1)) t210 _ A21.out).mono ?_); rintro e w' ⟨rfl, ⟨nd, rfl⟩⟩; (try first | exact ⟨rfl, _, World.drewN_drewN _ _ _⟩ | exact ⟨rfl, _, Eq.trans (World.drewN_drewN _ _ _) (congrArg (World.drewN _) (Nat.add_assoc _ _ _))⟩); have q43 : ((ji22) : Int) ≤ ((t198.length : Int) : Int) := of_decide_eq_true (by first | (with_reducible assumption) | assumption); obtain ⟨i043, hi043, _, hsz43, _⟩ := info_parts info3; have hroom43 : t198.length ≤ co11 := (Kd.R_reads' HO_9.out).2.1; have hC43 : Kd.C (Kd.int .i64) _ Ao11 t198.length t198 := (Kd.R_reads' HO_9.out).2.2; have hcut43 := cut_to (P := Try.prog) 22 3 .i64 Try.underlying22 hi043 Ao11 t198.length co11 (ji22) (of_decide_eq_true (by first | (with_reducible assumption) | assumption)) q43 hroom43; have hr43 := Kd.C_take (m := ((ji22) : Int).toNat) hC43 (by omega); have hy43 : y211.length = ((ji22) : Int).toNat := (by rw [Ny211.out, List.length_take]; omega); rw [← Ny211.out] at hr43; rw [← hy43] at hcut43; have HR214 := Aside0.mk hr43; have HC214 := Aside0.mk (show y211.length ≤ co11 from by omega); clear hr43 hC43 hroom43 hi043 hsz43; have KY43 := Aside0.mk hy43; clear hy43; have KL43 := Aside0.mk (show ((ji22) : Int).toNat ≤ t198.length from by omega); replace q43 := eq_true q43) | (go_at_call 20; (with_reducible refine (window_Within.calls k1 _ _ y211 t201 (wrap64 (t202 - 1)) t215 t216 _ ?side1 ?side2 A25.out).mono ?_); (case side1 => repeat (first | exact (by repeat (first | (with_reducible exact HR214.out) | (with_reducible refine Kd.C_alloc ?_ _) | (with_reducible refine Kd.C_drewN ?_ _) | (with_reducible refine Kd.C_drew ?_) | exact HR214.out)) | (with_reducible refine Kd.C_alloc ?_ _) | (with_reducible refine Kd.C_drewN ?_ _) | (with_reducible refine Kd.C_drew ?_))); (case side2 => exact HC214.out); rintro e w' ⟨rfl, ⟨nd, rfl⟩⟩; (try first | exact ⟨rfl, _, World.drewN_drewN _ _ _⟩ | exact ⟨rfl, _, Eq.trans (World.drewN_drewN _ _ _) (congrArg (World.drewN _) (Nat.add_assoc _ _ _))⟩); have q44 : ((ji22) : Int) ≤ ((t198.length : Int) : Int) := of_decide_eq_true (by first | (with_reducible assumption) | assumption); obtain ⟨i044, hi044, _, hsz44, _⟩ := info_parts info3; have hroom44 : t198.length ≤ co11 := (Kd.R_reads' HO_9.out).2.1; have hC44 : Kd.C (Kd.int .i64) _ Ao11 t198.length t198 := (Kd.R_reads' HO_9.out).2.2; have q044 : (0 : Int) ≤ ((ji22) : Int) := of_decide_eq_true (by first | (with_reducible assumption) | assumption); have hcut44 := cut_from (P := Try.prog) 22 3 .i64 Try.underlying22 hi044 1 hsz44 Ao11 t198.length co11 (ji22) q044 q44; have hr44 := Kd.C_drop (m := ((ji22) : Int).toNat) (c := co11) hC44 (by omega) hroom44; obtain ⟨A44, hA44⟩ : ∃ A1, A1 = (if co11 = ((ji22) : Int).toNat then Ao11 else (Ao11 : Option Addr).map (·.add (((ji22) : Int).toNat * 1))) := ⟨_, rfl⟩; obtain ⟨c44, hc44⟩ : ∃ c1, c1 = co11 - ((ji22) : Int).toNat := ⟨_, rfl⟩; have hy44 : y217.length = t198.length - ((ji22) : Int).toNat := (by rw [Ny217.out, List.length_drop] <;> omega); rw [show (t198).drop ((ji22) : Int).toNat = y217 from Ny217.out.symm] at hr44; replace hr44 : Kd.C (Kd.int .i64) _ A44 y217.length y217 := (by rw [hA44]; exact hr44); rw [← hy44, ← hA44, ← hc44] at hcut44; have HR220 := Aside0.mk hr44; have HC220 := Aside0.mk (show y217.length ≤ c44 from by rw [hy44, hc44]; exact Nat.sub_le_sub_right hroom44 _); clear hr44 hC44 hroom44 hi044 hsz44 hc44; have KY44 := Aside0.mk hy44; have KA44 := Aside0.mk hA44; clear hy44 hA44; have KL44 := Aside0.mk (show ((ji22) : Int).toNat ≤ t198.length from by omega); replace q44 := eq_true q44) | (go_at_call 20; (with_reducible refine (window_Within.calls k1 _ _ y217 t201 (wrap64 (t202 - 1)) t221 t222 _ ?side1 ?side2 A28.out).mono ?_); (case side1 => repeat (first | exact (by repeat (first | (with_reducible exact HR220.out) | (with_reducible refine Kd.C_alloc ?_ _) | (with_reducible refine Kd.C_drewN ?_ _) | (with_reducible refine Kd.C_drew ?_) | exact HR220.out)) | (with_reducible refine Kd.C_alloc ?_ _) | (with_reducible refine Kd.C_drewN ?_ _) | (with_reducible refine Kd.C_drew ?_))); (case side2 => exact HC220.out); rintro e w' ⟨rfl, ⟨nd, rfl⟩⟩; (try first | exact ⟨rfl, _, World.drewN_drewN _ _ _⟩ | exact ⟨rfl, _, Eq.trans (World.drewN_drewN _ _ _) (congrArg (World.drewN _) (Nat.add_assoc _ _ _))⟩)) | (go_at_call 25; (with_reducible refine (sacristanlaw12_mod.calls ji22 t201 t223 _ A29.out).mono ?_); rintro e w' ⟨rfl, ⟨nd, rfl⟩⟩; (try first | exact ⟨rfl, _, World.drewN_drewN _ _ _⟩ | exact ⟨rfl, _, Eq.trans (World.drewN_drewN _ _ _) (congrArg (World.drewN _) (Nat.add_assoc _ _ _))⟩)) | (go_at_call 20; (with_reducible refine (window_Within.calls k1 _ _ t198 t223 (wrap64 (t202 - 1)) t224 t225 _ ?side1 ?side2 A30.out).mono ?_); (case side1 => repeat (first | exact (Kd.R_reads' HO_9.out).2.2 | (with_reducible refine Kd.C_alloc ?_ _) | (with_reducible refine Kd.C_drewN ?_ _) | (with_reducible refine Kd.C_drew ?_))); (case side2 => exact (Kd.R_reads' HO_9.out).2.1); rintro e w' ⟨rfl, ⟨nd, rfl⟩⟩; (try first | exact ⟨rfl, _, World.drewN_drewN _ _ _⟩ | exact ⟨rfl, _, Eq.trans (World.drewN_drewN _ _ _) (congrArg (World.drewN _) (Nat.add_assoc _ _ _))⟩)) | (go_at_call 23; (with_reducible refine (sacristanlaw12_awake.calls k1  t227 _ A42.out (by first | rfl | exact HR_.out)).mono ?_); (try clear A42); rintro e w45 ⟨rfl, hb⟩; have n0_ := Aside0.mk (Kd.R_below (by (with_reducible repeat (first | apply Kd.R_alloc | apply Kd.R_drewN | apply Kd.R_drew)); exact HO_9.out) hb); have n1_ := Aside0.mk (Kd.C_below (by repeat (first | (with_reducible exact HR214.out) | (with_reducible refine Kd.C_alloc ?_ _) | (with_reducible refine Kd.C_drewN ?_ _) | (with_reducible refine Kd.C_drew ?_) | exact HR214.out)) hb); have n2_ := Aside0.mk (Kd.C_below (by repeat (first | (with_reducible exact HR220.out) | (with_reducible refine Kd.C_alloc ?_ _) | (with_reducible refine Kd.C_drewN ?_ _) | (with_reducible refine Kd.C_drew ?_) | exact HR220.out)) hb); have n3_ := Aside0.mk (below_step (w := w) (by repeat (first | (with_reducible first | exact HB.out | apply below_alloc | apply pw_below_drewN | apply below_drew1) | exact HB.out)) hb); clear HO_9; clear HR214; clear HR220; clear HB; have HO_9 := n0_; have HR214 := n1_; have HR220 := n2_; have HB := n3_; clear n0_ n1_ n2_ n3_; (try clear hb); (try clear hb2); (try clear hk); (try clear hi))); try go_wp2_with (first | (go_at_call 25; (with_reducible refine (sacristanlaw12_mod.calls a3 (wrap64 ((t198.length : Int) + 1)) t210 _ A21.out).mono ?_); rintro e w' ⟨rfl, ⟨nd, rfl⟩⟩; (try first | exact ⟨rfl, _, World.drewN_drewN _ _ _⟩ | exact ⟨rfl, _, Eq.trans (World.drewN_drewN _ _ _) (congrArg (World.drewN _) (Nat.add_assoc _ _ _))⟩); have q43 : ((ji22) : Int) ≤ ((t198.length : Int) : Int) := of_decide_eq_true (by first | (with_reducible assumption) | assumption); obtain ⟨i043, hi043, _, hsz43, _⟩ := info_parts info3; have hroom43 : t198.length ≤ co11 := (Kd.R_reads' HO_9.out).2.1; have hC43 : Kd.C (Kd.int .i64) _ Ao11 t198.length t198 := (Kd.R_reads' HO_9.out).2.2; have hcut43 := cut_to (P := Try.prog) 22 3 .i64 Try.underlying22 hi043 Ao11 t198.length co11 (ji22) (of_decide_eq_true (by first | (with_reducible assumption) | assumption)) q43 hroom43; have hr43 := Kd.C_take (m := ((ji22) : Int).toNat) hC43 (by omega); have hy43 : y211.length = ((ji22) : Int).toNat := (by rw [Ny211.out, List.length_take]; omega); rw [← Ny211.out] at hr43; rw [← hy43] at hcut43; have HR214 := Aside0.mk hr43; have HC214 := Aside0.mk (show y211.length ≤ co11 from by omega); clear hr43 hC43 hroom43 hi043 hsz43; have KY43 := Aside0.mk hy43; clear hy43; have KL43 := Aside0.mk (show ((ji22) : Int).toNat ≤ t198.length from by omega); replace q43 := eq_true q43) | (go_at_call 20; (with_reducible refine (window_Within.calls k1 _ _ y211 t201 (wrap64 (t202 - 1)) t215 t216 _ ?side1 ?side2 A25.out).mono ?_); (case side1 => repeat (first | exact (by repeat (first | (with_reducible exact HR214.out) | (with_reducible refine Kd.C_alloc ?_ _) | (with_reducible refine Kd.C_drewN ?_ _) | (with_reducible refine Kd.C_drew ?_) | exact HR214.out)) | (with_reducible refine Kd.C_alloc ?_ _) | (with_reducible refine Kd.C_drewN ?_ _) | (with_reducible refine Kd.C_drew ?_))); (case side2 => exact HC214.out); rintro e w' ⟨rfl, ⟨nd, rfl⟩⟩; (try first | exact ⟨rfl, _, World.drewN_drewN _ _ _⟩ | exact ⟨rfl, _, Eq.trans (World.drewN_drewN _ _ _) (congrArg (World.drewN _) (Nat.add_assoc _ _ _))⟩); have q44 : ((ji22) : Int) ≤ ((t198.length : Int) : Int) := of_decide_eq_true (by first | (with_reducible assumption) | assumption); obtain ⟨i044, hi044, _, hsz44, _⟩ := info_parts info3; have hroom44 : t198.length ≤ co11 := (Kd.R_reads' HO_9.out).2.1; have hC44 : Kd.C (Kd.int .i64) _ Ao11 t198.length t198 := (Kd.R_reads' HO_9.out).2.2; have q044 : (0 : Int) ≤ ((ji22) : Int) := of_decide_eq_true (by first | (with_reducible assumption) | assumption); have hcut44 := cut_from (P := Try.prog) 22 3 .i64 Try.underlying22 hi044 1 hsz44 Ao11 t198.length co11 (ji22) q044 q44; have hr44 := Kd.C_drop (m := ((ji22) : Int).toNat) (c := co11) hC44 (by omega) hroom44; obtain ⟨A44, hA44⟩ : ∃ A1, A1 = (if co11 = ((ji22) : Int).toNat then Ao11 else (Ao11 : Option Addr).map (·.add (((ji22) : Int).toNat * 1))) := ⟨_, rfl⟩; obtain ⟨c44, hc44⟩ : ∃ c1, c1 = co11 - ((ji22) : Int).toNat := ⟨_, rfl⟩; have hy44 : y217.length = t198.length - ((ji22) : Int).toNat := (by rw [Ny217.out, List.length_drop] <;> omega); rw [show (t198).drop ((ji22) : Int).toNat = y217 from Ny217.out.symm] at hr44; replace hr44 : Kd.C (Kd.int .i64) _ A44 y217.length y217 := (by rw [hA44]; exact hr44); rw [← hy44, ← hA44, ← hc44] at hcut44; have HR220 := Aside0.mk hr44; have HC220 := Aside0.mk (show y217.length ≤ c44 from by rw [hy44, hc44]; exact Nat.sub_le_sub_right hroom44 _); clear hr44 hC44 hroom44 hi044 hsz44 hc44; have KY44 := Aside0.mk hy44; have KA44 := Aside0.mk hA44; clear hy44 hA44; have KL44 := Aside0.mk (show ((ji22) : Int).toNat ≤ t198.length from by omega); replace q44 := eq_true q44) | (go_at_call 20; (with_reducible refine (window_Within.calls k1 _ _ y217 t201 (wrap64 (t202 - 1)) t221 t222 _ ?side1 ?side2 A28.out).mono ?_); (case side1 => repeat (first | exact (by repeat (first | (with_reducible exact HR220.out) | (with_reducible refine Kd.C_alloc ?_ _) | (with_reducible refine Kd.C_drewN ?_ _) | (with_reducible refine Kd.C_drew ?_) | exact HR220.out)) | (with_reducible refine Kd.C_alloc ?_ _) | (with_reducible refine Kd.C_drewN ?_ _) | (with_reducible refine Kd.C_drew ?_))); (case side2 => exact HC220.out); rintro e w' ⟨rfl, ⟨nd, rfl⟩⟩; (try first | exact ⟨rfl, _, World.drewN_drewN _ _ _⟩ | exact ⟨rfl, _, Eq.trans (World.drewN_drewN _ _ _) (congrArg (World.drewN _) (Nat.add_assoc _ _ _))⟩)) | (go_at_call 25; (with_reducible refine (sacristanlaw12_mod.calls ji22 t201 t223 _ A29.out).mono ?_); rintro e w' ⟨rfl, ⟨nd, rfl⟩⟩; (try first | exact ⟨rfl, _, World.drewN_drewN _ _ _⟩ | exact ⟨rfl, _, Eq.trans (World.drewN_drewN _ _ _) (congrArg (World.drewN _) (Nat.add_assoc _ _ _))⟩)) | (go_at_call 20; (with_reducible refine (window_Within.calls k1 _ _ t198 t223 (wrap64 (t202 - 1)) t224 t225 _ ?side1 ?side2 A30.out).mono ?_); (case side1 => repeat (first | exact (Kd.R_reads' HO_9.out).2.2 | (with_reducible refine Kd.C_alloc ?_ _) | (with_reducible refine Kd.C_drewN ?_ _) | (with_reducible refine Kd.C_drew ?_))); (case side2 => exact (Kd.R_reads' HO_9.out).2.1); rintro e w' ⟨rfl, ⟨nd, rfl⟩⟩; (try first | exact ⟨rfl, _, World.drewN_drewN _ _ _⟩ | exact ⟨rfl, _, Eq.trans (World.drewN_drewN _ _ _) (congrArg (World.drewN _) (Nat.add_assoc _ _ _))⟩)) | (go_at_call 23; (with_reducible refine (sacristanlaw12_awake.calls k1  t227 _ A42.out (by first | rfl | exact HR_.out)).mono ?_); (try clear A42); rintro e w45 ⟨rfl, hb⟩; have n0_ := Aside0.mk (Kd.R_below (by (with_reducible repeat (first | apply Kd.R_alloc | apply Kd.R_drewN | apply Kd.R_drew)); exact HO_9.out) hb); have n1_ := Aside0.mk (Kd.C_below (by repeat (first | (with_reducible exact HR214.out) | (with_reducible refine Kd.C_alloc ?_ _) | (with_reducible refine Kd.C_drewN ?_ _) | (with_reducible refine Kd.C_drew ?_) | exact HR214.out)) hb); have n2_ := Aside0.mk (Kd.C_below (by repeat (first | (with_reducible exact HR220.out) | (with_reducible refine Kd.C_alloc ?_ _) | (with_reducible refine Kd.C_drewN ?_ _) | (with_reducible refine Kd.C_drew ?_) | exact HR220.out)) hb); have n3_ := Aside0.mk (below_step (w := w) (by repeat (first | (with_reducible first | exact HB.out | apply below_alloc | apply pw_below_drewN | apply below_drew1) | exact HB.out)) hb); clear HO_9; clear HR214; clear HR220; clear HB; have HO_9 := n0_; have HR214 := n1_; have HR220 := n2_; have HB := n3_; clear n0_ n1_ n2_ n3_; (try clear hb); (try clear hb2); (try clear hk); (try clear hi))))
                        go_ret
                        exact ⟨by first | rfl | (simp [errW_none, errW_some] <;> rfl) | (simp only [← hji22]; first | rfl | (simp [errW_none, errW_some] <;> rfl)) | (simp [*, errW_none, errW_some] <;> rfl), by repeat (first | (with_reducible first | exact HB.out | apply below_alloc | apply pw_below_drewN | apply below_drew1) | exact HB.out)⟩
                    · rw [if_neg c33] at H
                      have c33b0 : (t225 == 0) = false := beq_eq_false_iff_ne.mpr c33
                      have c33b1 : (t225 != 0) = true := bne_iff_ne.mpr c33
                      obtain rfl := Option.some.inj H
                      exact absurd HR_.out (by simp)
                  · rw [if_neg c32] at H
                    have c32b0 : (t222 == 0) = false := beq_eq_false_iff_ne.mpr c32
                    have c32b1 : (t222 != 0) = true := bne_iff_ne.mpr c32
                    obtain rfl := Option.some.inj H
                    exact absurd HR_.out (by simp)
                · rw [if_neg c31] at H
                  have c31b0 : (t216 == 0) = false := beq_eq_false_iff_ne.mpr c31
                  have c31b1 : (t216 != 0) = true := bne_iff_ne.mpr c31
                  obtain rfl := Option.some.inj H
                  exact absurd HR_.out (by simp)
              · rw [if_neg c24] at H
                exact absurd H (by simp)
            · rw [if_neg c23] at H
              exact absurd H (by simp)
  · rw [if_neg c9] at H
    have c9b0 : (t204 == 0) = false := beq_eq_false_iff_ne.mpr c9
    have c9b1 : (t204 != 0) = true := bne_iff_ne.mpr c9
    obtain rfl := Option.some.inj H
    exact absurd HR_.out (by simp)

/-- THE ONE PURE STATEMENT of sacristanlaw12_WindowHolds: yours. -/
def sacristanlaw12_WindowHolds.Pure : Prop := ∀ (l0 : List Int) (a1 : Int) (a2 : Int) (a3 : Int), l0.length ≤ maxLen → l0.length * 8 ≤ 140737488351232 → (∀ x ∈ l0, (Lit.int .i64 x).wf = true) → (Lit.int .i64 a1).wf = true → (Lit.int .i64 a2).wf = true → (Lit.int .i64 a3).wf = true → ∃ k, sacristanlaw12_WindowHolds.f k l0 a1 a2 a3 = some true
theorem sacristanlaw12_WindowHolds.walk (P : sacristanlaw12_WindowHolds.Pure) (a0 : Option Addr) (len0 cap0 : Nat) (z0 : List Int) (a1 : Int) (a2 : Int) (a3 : Int) (w : World) (w0 : (a0 = none ∧ len0 = 0 ∧ cap0 = 0 ∧ z0 = []) ∨ ∃ x, a0 = some x ∧ len0 ≤ cap0 ∧ cap0 ≤ maxLen ∧ z0.length = cap0 ∧ (∀ i, i < z0.length → w.cell? (x.add i) = some (.int .i64 (z0.getD i 0))) ∧ ∀ n ∈ z0, (Lit.int .i64 n).wf = true) (y0 : len0 * 8 ≤ 140737488351232) (w1 : (Lit.int .i64 a1).wf = true) (w2 : (Lit.int .i64 a2).wf = true) (w3 : (Lit.int .i64 a3).wf = true) :
    Calls Try.prog 6 #[.slice a0 len0 cap0, .int .i64 a1, .int .i64 a2, .int .i64 a3] w fun e w' => e = .returned (.bool true) ∧ Below w.heap.size w w' := by
  obtain ⟨l0, rfl, hr0, hm0, hw0, hc0⟩ := ReadsInt.ofRowC w0
  obtain ⟨k, h⟩ := P l0 a1 a2 a3 hm0 y0 hw0 w1 w2 w3
  refine (sacristanlaw12_WindowHolds.calls k _ _ l0 a1 a2 a3 true w (Kd.C_of_reads (d := (0 : Int)) (h1 := fun _ => rfl) hr0) hc0 h rfl).mono ?_
  rintro e w' ⟨rfl, hd⟩
  exact ⟨rfl, hd⟩

/-! ### sacristanlaw12_WindowAdds: function 7 -/
def sacristanlaw12_WindowAdds.j0 : Nat → Int → Int → List Int → Int → Int → Int → Option (Bool)
  | 0, _, _, _, _, _, _ => none
  | k + 1, x1, x2, x9, x10, x229000, x229001 => (window_Within.f k x9 x1 x2).bind fun bt236 => ((window_Count.f k x9 x1 x10).bind fun bt238 => ((sacristanlaw12_mod.f x229001 100).bind fun t240 => (if x9.length < 17592186044416 then ((window_Within.f k (x9 ++ [wrap64 ((wrap64 (x10 + t240)) - 1)]) x1 x2).bind fun bt244 => (if bt236.2 = 0 then (if bt238.2 = 0 then (if bt244.2 = 0 then (if bt236.1 = true then (if bt238.1 ≥ x2 then ((sacristanlaw12_awake.f k).bind fun t246 => (some t246)) else (if bt244.1 = true then ((sacristanlaw12_awake.f k).bind fun t247 => (some t247)) else (some false))) else ((sacristanlaw12_awake.f k).bind fun t248 => (some t248))) else (some false)) else (some false)) else (some false))) else (none))))
def sacristanlaw12_WindowAdds.f (k : Nat) (l0 : List Int) (a1 : Int) (a2 : Int) (a3_0 : Int) (a3_1 : Int) : Option (Bool) := (sacristanlaw12_Starts.f k l0).bind fun t229 => ((sacristanlaw12_mod.f a1 200).bind fun t232 => ((sacristanlaw12_mod.f a2 9).bind fun t233 => ((sacristanlaw12_mod.f a3_0 100).bind fun t234 => (if (t229.length : Int) > 0 then (if 0 ≤ (wrap64 ((t229.length : Int) - 1)) then (if (wrap64 ((t229.length : Int) - 1)) < (t229.length : Int) then (sacristanlaw12_WindowAdds.j0 k t232 t233 t229 (wrap64 ((wrap64 (t234 - 1)) + (rd t229 (wrap64 ((t229.length : Int) - 1))))) a3_0 a3_1) else (none)) else (none)) else (sacristanlaw12_WindowAdds.j0 k t232 t233 t229 (wrap64 (t234 - 1)) a3_0 a3_1)))))
theorem sacristanlaw12_WindowAdds.mono_l : ∀ k, (∀ y0 y1 y2 y3 y4 y5, LeO (sacristanlaw12_WindowAdds.j0 k y0 y1 y2 y3 y4 y5) (sacristanlaw12_WindowAdds.j0 (k + 1) y0 y1 y2 y3 y4 y5))
  | 0 => fun _ _ _ _ _ _ r h => by simp [sacristanlaw12_WindowAdds.j0] at h
  | k + 1 => by
    have ih0 := sacristanlaw12_WindowAdds.mono_l k
    · intro y0 y1 y2 y3 y4 y5
      unfold sacristanlaw12_WindowAdds.j0
      repeat' first
      | (with_reducible exact ih0 _ _ _ _ _ _)
      | (with_reducible exact sacristanlaw12_Starts.mono _ _)
      | (with_reducible exact sacristanlaw12_awake.mono _)
      | (with_reducible exact window_Count.mono _ _ _ _)
      | (with_reducible exact window_Within.mono _ _ _ _)
      | (with_reducible exact LeO.refl _)
      | (with_reducible exact LeO.none _)
      | (with_reducible refine LeO.ite ?_ ?_)
      | (with_reducible refine LeO.bind ?_ (fun _ => ?_))
      | exact ih0 _ _ _ _ _ _
      | exact sacristanlaw12_Starts.mono _ _
      | exact sacristanlaw12_awake.mono _
      | exact window_Count.mono _ _ _ _
      | exact window_Within.mono _ _ _ _
      | exact LeO.none _
      | refine LeO.ite ?_ ?_
      | refine LeO.bind ?_ (fun _ => ?_)
theorem sacristanlaw12_WindowAdds.mono : ∀ a0 a1 a2 a3 a4 k, LeO (sacristanlaw12_WindowAdds.f k a0 a1 a2 a3 a4) (sacristanlaw12_WindowAdds.f (k + 1) a0 a1 a2 a3 a4) := by
  intro a0 a1 a2 a3 a4 k
  have ih0 := sacristanlaw12_WindowAdds.mono_l k
  unfold sacristanlaw12_WindowAdds.f
  repeat' first
      | (with_reducible exact ih0 _ _ _ _ _ _)
      | (with_reducible exact sacristanlaw12_Starts.mono _ _)
      | (with_reducible exact sacristanlaw12_awake.mono _)
      | (with_reducible exact window_Count.mono _ _ _ _)
      | (with_reducible exact window_Within.mono _ _ _ _)
      | (with_reducible exact LeO.refl _)
      | (with_reducible exact LeO.none _)
      | (with_reducible refine LeO.ite ?_ ?_)
      | (with_reducible refine LeO.bind ?_ (fun _ => ?_))
      | exact ih0 _ _ _ _ _ _
      | exact sacristanlaw12_Starts.mono _ _
      | exact sacristanlaw12_awake.mono _
      | exact window_Count.mono _ _ _ _
      | exact window_Within.mono _ _ _ _
      | exact LeO.none _
      | refine LeO.ite ?_ ?_
      | refine LeO.bind ?_ (fun _ => ?_)
set_option maxHeartbeats 8000000 in
set_option maxRecDepth 100000 in
theorem sacristanlaw12_WindowAdds.calls (k : Nat) (A0 : Option Addr) (c0 : Nat) (l0 : List Int) (a1 : Int) (a2 : Int) (a3_0 : Int) (a3_1 : Int) (r : Bool) (w : World) (hr0 : Kd.C (Kd.int .i64) w A0 l0.length l0) (hc0 : l0.length ≤ c0) (h : sacristanlaw12_WindowAdds.f k l0 a1 a2 a3_0 a3_1 = some r) (hr_ : r = true) :
    Calls Try.prog 7 #[.slice A0 l0.length c0, .int .i64 a1, .int .i64 a2, .agg #[.int .i64 a3_0, .int .i64 a3_1]] w fun e w' => e = .returned (.bool r) ∧ Below w.heap.size w w' := by
  have HR_ := Aside0.mk hr_
  clear hr_
  have hu38 := Try.underlying38
  have HR0 := Aside0.mk hr0
  have HC0 := Aside0.mk hc0
  clear hr0 hc0
  have HB := Aside0.mk (Below.refl w.heap.size w)
  have H : ((sacristanlaw12_Starts.f k l0).bind fun t229 => ((sacristanlaw12_mod.f a1 200).bind fun t232 => ((sacristanlaw12_mod.f a2 9).bind fun t233 => ((sacristanlaw12_mod.f a3_0 100).bind fun t234 => (if (t229.length : Int) > 0 then (if 0 ≤ (wrap64 ((t229.length : Int) - 1)) then (if (wrap64 ((t229.length : Int) - 1)) < (t229.length : Int) then (sacristanlaw12_WindowAdds.j0 k t232 t233 t229 (wrap64 ((wrap64 (t234 - 1)) + (rd t229 (wrap64 ((t229.length : Int) - 1))))) a3_0 a3_1) else (none)) else (none)) else (sacristanlaw12_WindowAdds.j0 k t232 t233 t229 (wrap64 (t234 - 1)) a3_0 a3_1)))))) = some r := h
  clear h
  replace H := Option.bind_eq_some_iff.mp H
  obtain ⟨t229, A50, H⟩ := H
  replace H : ((sacristanlaw12_mod.f a1 200).bind fun t232 => ((sacristanlaw12_mod.f a2 9).bind fun t233 => ((sacristanlaw12_mod.f a3_0 100).bind fun t234 => (if (t229.length : Int) > 0 then (if 0 ≤ (wrap64 ((t229.length : Int) - 1)) then (if (wrap64 ((t229.length : Int) - 1)) < (t229.length : Int) then (sacristanlaw12_WindowAdds.j0 k t232 t233 t229 (wrap64 ((wrap64 (t234 - 1)) + (rd t229 (wrap64 ((t229.length : Int) - 1))))) a3_0 a3_1) else (none)) else (none)) else (sacristanlaw12_WindowAdds.j0 k t232 t233 t229 (wrap64 (t234 - 1)) a3_0 a3_1))))) = some r := H
  have A5 := Aside0.mk A50
  clear A50
  replace H := Option.bind_eq_some_iff.mp H
  obtain ⟨t232, A60, H⟩ := H
  replace H : ((sacristanlaw12_mod.f a2 9).bind fun t233 => ((sacristanlaw12_mod.f a3_0 100).bind fun t234 => (if (t229.length : Int) > 0 then (if 0 ≤ (wrap64 ((t229.length : Int) - 1)) then (if (wrap64 ((t229.length : Int) - 1)) < (t229.length : Int) then (sacristanlaw12_WindowAdds.j0 k t232 t233 t229 (wrap64 ((wrap64 (t234 - 1)) + (rd t229 (wrap64 ((t229.length : Int) - 1))))) a3_0 a3_1) else (none)) else (none)) else (sacristanlaw12_WindowAdds.j0 k t232 t233 t229 (wrap64 (t234 - 1)) a3_0 a3_1)))) = some r := H
  have A6 := Aside0.mk A60
  clear A60
  replace H := Option.bind_eq_some_iff.mp H
  obtain ⟨t233, A70, H⟩ := H
  replace H : ((sacristanlaw12_mod.f a3_0 100).bind fun t234 => (if (t229.length : Int) > 0 then (if 0 ≤ (wrap64 ((t229.length : Int) - 1)) then (if (wrap64 ((t229.length : Int) - 1)) < (t229.length : Int) then (sacristanlaw12_WindowAdds.j0 k t232 t233 t229 (wrap64 ((wrap64 (t234 - 1)) + (rd t229 (wrap64 ((t229.length : Int) - 1))))) a3_0 a3_1) else (none)) else (none)) else (sacristanlaw12_WindowAdds.j0 k t232 t233 t229 (wrap64 (t234 - 1)) a3_0 a3_1))) = some r := H
  have A7 := Aside0.mk A70
  clear A70
  replace H := Option.bind_eq_some_iff.mp H
  obtain ⟨t234, A80, H⟩ := H
  replace H : (if (t229.length : Int) > 0 then (if 0 ≤ (wrap64 ((t229.length : Int) - 1)) then (if (wrap64 ((t229.length : Int) - 1)) < (t229.length : Int) then (sacristanlaw12_WindowAdds.j0 k t232 t233 t229 (wrap64 ((wrap64 (t234 - 1)) + (rd t229 (wrap64 ((t229.length : Int) - 1))))) a3_0 a3_1) else (none)) else (none)) else (sacristanlaw12_WindowAdds.j0 k t232 t233 t229 (wrap64 (t234 - 1)) a3_0 a3_1)) = some r := H
  have A8 := Aside0.mk A80
  clear A80
  have HC9 := Aside0.mk H
  clear H
  go_enter Try.func7, Try.ntmps7
  go_upto_if 29 with (first | ((with_reducible refine gate_dst (N := 7) rfl ?_); refine box_event ?hg (N := 7) ?hd (cs := #[.int .i64 a3_0, .int .i64 a3_1]) (t := 38) ?hr ?_; (case hd => rfl); (case hg => rfl); (case hr => first | (go_simp; done) | (go_simp; rfl)); intro gb228 hg w10 hbox hb; have n0_ := Aside0.mk (below_step (w := w) (by repeat (first | (with_reducible first | exact HB.out | apply below_alloc | apply pw_below_drewN | apply below_drew1) | exact HB.out)) hb); have n1_ := Aside0.mk (hbox); have n2_ := Aside0.mk ((by rw [hg]; exact (below_size (by repeat (first | (with_reducible first | exact HB.out | apply below_alloc | apply pw_below_drewN | apply below_drew1) | exact HB.out))) : w.heap.size ≤ gb228)); have n3_ := Aside0.mk ((by rw [hg]; exact (below_size (by repeat (first | (with_reducible first | exact HB.out | apply below_alloc | apply pw_below_drewN | apply below_drew1) | exact HB.out))) : w.heap.size ≤ gb228)); clear HB; have HB := n0_; have BK228 := n1_; have GW228 := n2_; have GE228 := n3_; clear n0_ n1_ n2_ n3_; clear hb hbox hg) | ((with_reducible refine gate_callee (f := 24) rfl ?_); refine goesL_ (some 18) rfl rfl Try.func24 (by kernel_rfl) rfl #[.slice A0 l0.length c0] rfl (by (try simp only [List.map_toArray, List.map_cons, List.map_nil]); first | done | rfl | (simp only [List.length_drop, List.length_take]; rfl)) ?_; (with_reducible refine (sacristanlaw12_Starts.calls k _ _ l0 t229 _ ?side1 ?side2 A5.out).mono ?_); (case side1 => repeat (first | exact (Kd.C_below HR0.out HB.out) | (with_reducible refine Kd.C_alloc ?_ _) | (with_reducible refine Kd.C_drewN ?_ _) | (with_reducible refine Kd.C_drew ?_))); (case side2 => exact HC0.out); rintro e w11 ⟨v230, rfl, ho0, hb⟩; refine ⟨_, rfl, ?_⟩; have n0_ := Aside0.mk (Kd.R_lower ho0 (below_size (by repeat (first | (with_reducible first | exact HB.out | apply below_alloc | apply pw_below_drewN | apply below_drew1 | refine below_set ?_ GE228.out) | exact HB.out)))); have n1_ := Aside0.mk (blk_below (g := gb228) (o := .cells #[.int .i64 a3_0, .int .i64 a3_1] 38 (0, 0)) (by (with_reducible repeat (first | refine blk_drewN ?_ _ | refine blk_drew ?_ | refine blk_alloc ?_ _)); exact BK228.out) hb); have n2_ := Aside0.mk (below_step (w := w) (by repeat (first | (with_reducible first | exact HB.out | apply below_alloc | apply pw_below_drewN | apply below_drew1 | refine below_set ?_ GE228.out) | exact HB.out)) hb); clear BK228; clear HB; have HO231 := n0_; have BK228 := n1_; have HB := n2_; clear n0_ n1_ n2_; (try clear hb); (try clear hb2); (try clear hk); (try clear hi); (try clear ho0)) | ((with_reducible refine gate_callee (f := 25) rfl ?_); refine goesL_ (some 20) rfl rfl Try.func25 (by kernel_rfl) rfl #[.int .i64 a1, .int .i64 200] rfl (by (try simp only [List.map_toArray, List.map_cons, List.map_nil]); first | done | rfl | (simp only [List.length_drop, List.length_take]; rfl)) ?_; (with_reducible refine (sacristanlaw12_mod.calls a1 200 t232 _ A6.out).mono ?_); rintro e w' ⟨rfl, ⟨nd, rfl⟩⟩; refine ⟨_, rfl, ?_⟩) | ((with_reducible refine gate_callee (f := 25) rfl ?_); refine goesL_ (some 22) rfl rfl Try.func25 (by kernel_rfl) rfl #[.int .i64 a2, .int .i64 9] rfl (by (try simp only [List.map_toArray, List.map_cons, List.map_nil]); first | done | rfl | (simp only [List.length_drop, List.length_take]; rfl)) ?_; (with_reducible refine (sacristanlaw12_mod.calls a2 9 t233 _ A7.out).mono ?_); rintro e w' ⟨rfl, ⟨nd, rfl⟩⟩; refine ⟨_, rfl, ?_⟩; have hcz12_0 : w11.cell? ⟨gb228, 0, none⟩ = some (.int .i64 a3_0) := (blk_cell BK228.out 0).trans rfl; have hcz12_1 : w11.cell? ⟨gb228, 1, none⟩ = some (.int .i64 a3_1) := (blk_cell BK228.out 1).trans rfl; have hfz12_0 := blk_frozen BK228.out 0; have hfz12_1 := blk_frozen BK228.out 1) | ((with_reducible refine gate_callee (f := 25) rfl ?_); refine goesL_ (some 25) rfl rfl Try.func25 (by kernel_rfl) rfl #[.int .i64 a3_0, .int .i64 100] rfl (by (try simp only [List.map_toArray, List.map_cons, List.map_nil]); first | done | rfl | (simp only [List.length_drop, List.length_take]; rfl)) ?_; (with_reducible refine (sacristanlaw12_mod.calls a3_0 100 t234 _ A8.out).mono ?_); rintro e w' ⟨rfl, ⟨nd, rfl⟩⟩; refine ⟨_, rfl, ?_⟩; obtain ⟨Ao13, co13, eo13⟩ := Kd.R_slice HO231.out; subst eo13))
  (try simp only [Act.put, List.setIfInBounds_toArray, List.set_cons_zero, List.set_cons_succ])
  go_cut [10] (fun v10 wc => ∃ (kq : Nat) (x10_8 : Int), v10 = .int .i64 x10_8 ∧ Aside0 (sacristanlaw12_WindowAdds.j0 kq t232 t233 t229 x10_8 a3_0 a3_1 = some r) ∧ Aside0 (kq ≤ k) ∧ Aside0 (Kd.R (Kd.int .i64) 3 wc w.heap.size (fun _ => True) (.slice Ao13 t229.length co13) t229) ∧ Aside0 (wc.heap[gb228]? = some (.cells #[.int .i64 a3_0, .int .i64 a3_1] 38 (0, 0))) ∧ Aside0 (Below w.heap.size w wc))
  case first =>
    have H := HC9.out
    clear HC9
    by_cases c14 : (t229.length : Int) > 0
    · rw [if_pos c14] at H
      have c14b0 : decide (0 < (t229.length : Int)) = true := decide_eq_true c14
      have c14b1 : decide (0 < t229.length) = true := decide_eq_true (by omega)
      clear c14
      (first | rw [c14b0] | rw [c14b1] | (simp only [i64_w, i32_w]; rw [c14b0]) | skip)
      obtain ⟨ji15, hji15⟩ : ∃ j_ : Int, (wrap64 ((t229.length : Int) - 1)) = j_ := ⟨_, rfl⟩
      replace H : (if 0 ≤ (ji15) then (if (ji15) < (t229.length : Int) then (sacristanlaw12_WindowAdds.j0 k t232 t233 t229 (wrap64 ((wrap64 (t234 - 1)) + (rd t229 (ji15)))) a3_0 a3_1) else (none)) else (none)) = some r := by first | (rw [hji15] at H; exact H) | (simp only [hji15] at H ⊢; exact H)
      have hji15w : (IntKind.i64.wrap ((t229.length : Int) - 1)) = ji15 := (i64_w _).trans hji15
      by_cases c16 : 0 ≤ (ji15)
      · rw [if_pos c16] at H
        have c16b0 : decide (0 ≤ (ji15)) = true := decide_eq_true c16
        clear c16
        by_cases c17 : (ji15) < (t229.length : Int)
        · rw [if_pos c17] at H
          have c17b0 : decide ((ji15) < (t229.length : Int)) = true := decide_eq_true c17
          clear c17
          have H' := Aside0.mk H
          clear H
          have p235 : 0 ≤ ((ji15) : Int) := of_decide_eq_true (by first | (with_reducible assumption) | assumption)
          have q235 : (ji15) < (t229.length : Int) := of_decide_eq_true (by first | (with_reducible assumption) | assumption)
          obtain ⟨ad235, e235, hx235_0⟩ := Kd.at_int (Kd.R_reads' HO231.out).2.2 (ji15) p235 q235
          cases e235
          replace p235 := eq_true p235
          replace q235 := eq_true q235
          go_wp2
          go_meet
          case rel => exact ⟨_, (wrap64 ((wrap64 (t234 - 1)) + (rd t229 (ji15)))), (by first | rfl | (simp; done) | (simp only [← hji15] <;> (first | rfl | simp)) | (simp [*]; done)), H', ⟨by first | omega | exact Nat.le_refl _⟩, ⟨by (with_reducible repeat (first | apply Kd.R_alloc | apply Kd.R_drewN | apply Kd.R_drew)); exact HO231.out⟩, ⟨by (with_reducible repeat (first | refine blk_drewN ?_ _ | refine blk_drew ?_ | refine blk_alloc ?_ _)); exact BK228.out⟩, ⟨by repeat (first | (with_reducible first | exact HB.out | apply below_alloc | apply pw_below_drewN | apply below_drew1 | refine below_set ?_ GE228.out) | exact HB.out)⟩⟩
        · rw [if_neg c17] at H
          exact absurd H (by simp)
      · rw [if_neg c16] at H
        exact absurd H (by simp)
    · rw [if_neg c14] at H
      have c14b0 : decide (0 < (t229.length : Int)) = false := decide_eq_false c14
      have c14b1 : decide (0 < t229.length) = false := decide_eq_false (by omega)
      clear c14
      (first | rw [c14b0] | rw [c14b1] | (simp only [i64_w, i32_w]; rw [c14b0]) | skip)
      have H' := Aside0.mk H
      clear H
      go_wp2
      go_meet
      case rel => exact ⟨_, (wrap64 (t234 - 1)), (by first | rfl | (simp; done) | (simp [*]; done)), H', ⟨by first | omega | exact Nat.le_refl _⟩, ⟨by (with_reducible repeat (first | apply Kd.R_alloc | apply Kd.R_drewN | apply Kd.R_drew)); exact HO231.out⟩, ⟨by (with_reducible repeat (first | refine blk_drewN ?_ _ | refine blk_drew ?_ | refine blk_alloc ?_ _)); exact BK228.out⟩, ⟨by repeat (first | (with_reducible first | exact HB.out | apply below_alloc | apply pw_below_drewN | apply below_drew1 | refine below_set ?_ GE228.out) | exact HB.out)⟩⟩
  case rest =>
    clear HC9
    try clear c1
    try clear c2
    try clear p2
    try clear q2
    try clear hx2
    try clear p6
    try clear c7
    try clear c14
    try clear c14b0
    try clear c14b1
    try clear c16
    try clear c16b0
    try clear c17
    try clear c17b0
    try clear hcz12_0
    try clear hcz12_1
    try clear hfz12_0
    try clear hfz12_1
    try clear hx235_0
    try clear p235
    try clear q235
    obtain ⟨kq, x10_8, rfl, HA, HJ8, HO_9, BK228, HB⟩ := hcut
    cases kq with
    | zero => exact absurd HA.out (by simp [sacristanlaw12_WindowAdds.j0])
    | succ kj8 =>
      have H := HA.out
      clear HA
      simp only [sacristanlaw12_WindowAdds.j0] at H
      replace H := Option.bind_eq_some_iff.mp H
      obtain ⟨⟨t236, t237⟩, A180, H⟩ := H
      replace H : ((window_Count.f kj8 t229 t232 x10_8).bind fun bt238 => ((sacristanlaw12_mod.f a3_1 100).bind fun t240 => (if t229.length < 17592186044416 then ((window_Within.f kj8 (t229 ++ [wrap64 ((wrap64 (x10_8 + t240)) - 1)]) t232 t233).bind fun bt244 => (if t237 = 0 then (if bt238.2 = 0 then (if bt244.2 = 0 then (if t236 = true then (if bt238.1 ≥ t233 then ((sacristanlaw12_awake.f kj8).bind fun t246 => (some t246)) else (if bt244.1 = true then ((sacristanlaw12_awake.f kj8).bind fun t247 => (some t247)) else (some false))) else ((sacristanlaw12_awake.f kj8).bind fun t248 => (some t248))) else (some false)) else (some false)) else (some false))) else (none)))) = some r := H
      have A18 := Aside0.mk A180
      clear A180
      replace H := Option.bind_eq_some_iff.mp H
      obtain ⟨⟨t238, t239⟩, A190, H⟩ := H
      replace H : ((sacristanlaw12_mod.f a3_1 100).bind fun t240 => (if t229.length < 17592186044416 then ((window_Within.f kj8 (t229 ++ [wrap64 ((wrap64 (x10_8 + t240)) - 1)]) t232 t233).bind fun bt244 => (if t237 = 0 then (if t239 = 0 then (if bt244.2 = 0 then (if t236 = true then (if t238 ≥ t233 then ((sacristanlaw12_awake.f kj8).bind fun t246 => (some t246)) else (if bt244.1 = true then ((sacristanlaw12_awake.f kj8).bind fun t247 => (some t247)) else (some false))) else ((sacristanlaw12_awake.f kj8).bind fun t248 => (some t248))) else (some false)) else (some false)) else (some false))) else (none))) = some r := H
      have A19 := Aside0.mk A190
      clear A190
      replace H := Option.bind_eq_some_iff.mp H
      obtain ⟨t240, A200, H⟩ := H
      replace H : (if t229.length < 17592186044416 then ((window_Within.f kj8 (t229 ++ [wrap64 ((wrap64 (x10_8 + t240)) - 1)]) t232 t233).bind fun bt244 => (if t237 = 0 then (if t239 = 0 then (if bt244.2 = 0 then (if t236 = true then (if t238 ≥ t233 then ((sacristanlaw12_awake.f kj8).bind fun t246 => (some t246)) else (if bt244.1 = true then ((sacristanlaw12_awake.f kj8).bind fun t247 => (some t247)) else (some false))) else ((sacristanlaw12_awake.f kj8).bind fun t248 => (some t248))) else (some false)) else (some false)) else (some false))) else (none)) = some r := H
      have A20 := Aside0.mk A200
      clear A200
      by_cases c21 : t229.length < 17592186044416
      · rw [if_pos c21] at H
        have LMc21 := Aside0.mk c21
        clear c21
        obtain ⟨y241, hy241⟩ : ∃ y_ : List Int, y_ = (t229 ++ [wrap64 ((wrap64 (x10_8 + t240)) - 1)]) := ⟨_, rfl⟩
        replace H : ((window_Within.f kj8 y241 t232 t233).bind fun bt244 => (if t237 = 0 then (if t239 = 0 then (if bt244.2 = 0 then (if t236 = true then (if t238 ≥ t233 then ((sacristanlaw12_awake.f kj8).bind fun t246 => (some t246)) else (if bt244.1 = true then ((sacristanlaw12_awake.f kj8).bind fun t247 => (some t247)) else (some false))) else ((sacristanlaw12_awake.f kj8).bind fun t248 => (some t248))) else (some false)) else (some false)) else (some false))) = some r := by first | (rw [hy241]; with_reducible exact H) | (have H2_ := (Option.bind_some _ _).symm.trans H; rw [hy241]; with_reducible exact H2_) | (have H2_ := (Option.bind_some _ _).symm.trans H; with_reducible exact H2_) | with_reducible exact H | (rw [hy241]; exact H) | exact H
        have Ny241 := Aside0.mk hy241
        clear hy241
        replace H := Option.bind_eq_some_iff.mp H
        obtain ⟨⟨t244, t245⟩, A220, H⟩ := H
        replace H : (if t237 = 0 then (if t239 = 0 then (if t245 = 0 then (if t236 = true then (if t238 ≥ t233 then ((sacristanlaw12_awake.f kj8).bind fun t246 => (some t246)) else (if t244 = true then ((sacristanlaw12_awake.f kj8).bind fun t247 => (some t247)) else (some false))) else ((sacristanlaw12_awake.f kj8).bind fun t248 => (some t248))) else (some false)) else (some false)) else (some false)) = some r := H
        have A22 := Aside0.mk A220
        clear A220
        by_cases c23 : t237 = 0
        · rw [if_pos c23] at H
          have c23b0 : (t237 == 0) = true := beq_iff_eq.mpr c23
          have c23b1 : (t237 != 0) = false := bne_eq_false_iff_eq.mpr c23
          clear c23
          by_cases c24 : t239 = 0
          · rw [if_pos c24] at H
            have c24b0 : (t239 == 0) = true := beq_iff_eq.mpr c24
            have c24b1 : (t239 != 0) = false := bne_eq_false_iff_eq.mpr c24
            clear c24
            by_cases c25 : t245 = 0
            · rw [if_pos c25] at H
              have c25b0 : (t245 == 0) = true := beq_iff_eq.mpr c25
              have c25b1 : (t245 != 0) = false := bne_eq_false_iff_eq.mpr c25
              clear c25
              by_cases c26 : t236 = true
              · subst c26
                have H1 : (if t238 ≥ t233 then ((sacristanlaw12_awake.f kj8).bind fun t246 => (some t246)) else (if t244 = true then ((sacristanlaw12_awake.f kj8).bind fun t247 => (some t247)) else (some false))) = some r := by rw [if_pos rfl] at H; exact H
                clear H
                have H := H1
                clear H1
                by_cases c27 : t238 ≥ t233
                · rw [if_pos c27] at H
                  have c27b0 : decide (t233 ≤ t238) = true := decide_eq_true c27
                  clear c27
                  replace H := Option.bind_eq_some_iff.mp H
                  obtain ⟨t246, A280, H⟩ := H
                  replace H : (some t246) = some r := H
                  have A28 := Aside0.mk A280
                  clear A280
                  obtain rfl := Option.some.inj H
                  go_wp2_with (first | ((with_reducible refine gate_callee (f := 20) rfl ?_); refine goesL_ (some 42) rfl rfl Try.func20 (by kernel_rfl) rfl #[.slice Ao13 t229.length co13, .int .i64 t232, .int .i64 t233] rfl (by (try simp only [List.map_toArray, List.map_cons, List.map_nil]); first | done | rfl | (simp only [List.length_drop, List.length_take]; rfl)) ?_; (with_reducible refine (window_Within.calls kj8 _ _ t229 t232 t233 true t237 _ ?side1 ?side2 A18.out).mono ?_); (case side1 => repeat (first | exact (Kd.R_reads' HO_9.out).2.2 | (with_reducible refine Kd.C_alloc ?_ _) | (with_reducible refine Kd.C_drewN ?_ _) | (with_reducible refine Kd.C_drew ?_))); (case side2 => exact (Kd.R_reads' HO_9.out).2.1); rintro e w' ⟨rfl, ⟨nd, rfl⟩⟩; refine ⟨_, rfl, ?_⟩) | ((with_reducible refine gate_callee (f := 16) rfl ?_); refine goesL_ (some 49) rfl rfl Try.func16 (by kernel_rfl) rfl #[.slice Ao13 t229.length co13, .int .i64 t232, .int .i64 x10_8] rfl (by (try simp only [List.map_toArray, List.map_cons, List.map_nil]); first | done | rfl | (simp only [List.length_drop, List.length_take]; rfl)) ?_; (with_reducible refine (window_Count.calls kj8 _ _ t229 t232 x10_8 t238 t239 _ ?side1 ?side2 A19.out).mono ?_); (case side1 => repeat (first | exact (Kd.R_reads' HO_9.out).2.2 | (with_reducible refine Kd.C_alloc ?_ _) | (with_reducible refine Kd.C_drewN ?_ _) | (with_reducible refine Kd.C_drew ?_))); (case side2 => exact (Kd.R_reads' HO_9.out).2.1); rintro e w' ⟨rfl, ⟨nd, rfl⟩⟩; refine ⟨_, rfl, ?_⟩; have hcz29_0 : wc.cell? ⟨gb228, 0, none⟩ = some (.int .i64 a3_0) := (blk_cell BK228.out 0).trans rfl; have hcz29_1 : wc.cell? ⟨gb228, 1, none⟩ = some (.int .i64 a3_1) := (blk_cell BK228.out 1).trans rfl; have hfz29_0 := blk_frozen BK228.out 0; have hfz29_1 := blk_frozen BK228.out 1) | ((with_reducible refine gate_callee (f := 25) rfl ?_); refine goesL_ (some 57) rfl rfl Try.func25 (by kernel_rfl) rfl #[.int .i64 a3_1, .int .i64 100] rfl (by (try simp only [List.map_toArray, List.map_cons, List.map_nil]); first | done | rfl | (simp only [List.length_drop, List.length_take]; rfl)) ?_; (with_reducible refine (sacristanlaw12_mod.calls a3_1 100 t240 _ A20.out).mono ?_); rintro e w' ⟨rfl, ⟨nd, rfl⟩⟩; refine ⟨_, rfl, ?_⟩) | ((with_reducible refine gate_builtin (b := .append) (xs := #[.tmp 53, .tmp 60]) rfl ?_); at_builtin; refine Kd.R_append (Kd.int .i64) (w0 := w) w.heap.size rfl (.tmp 53) (.tmp 60) 22 3 (.int .i64 0) 8 rfl Try.underlying22 info3 rfl (by decide) (by omega) (.slice Ao13 t229.length co13) t229 (wrap64 ((wrap64 (x10_8 + t240)) - 1)) [.int .i64 (wrap64 ((wrap64 (x10_8 + t240)) - 1))] (fun _ => True) (fun _ => False) rfl rfl ?aP (fun _ hk => hk.elim) ?aF ?aO ?aB ?aS ?aL ?_; (case aP => exact rfl); (case aB => exact (by repeat (first | (with_reducible first | exact HB.out | apply below_alloc | apply pw_below_drewN | apply below_drew1 | refine below_set ?_ GE228.out) | exact HB.out))); (case aF => exact (fun _ _ => trivial)); (case aO => exact (by (with_reducible repeat (first | apply Kd.R_alloc | apply Kd.R_drewN | apply Kd.R_drew)); exact HO_9.out)); (case aS => exact (below_size (by repeat (first | (with_reducible first | exact HB.out | apply below_alloc | apply pw_below_drewN | apply below_drew1 | refine below_set ?_ GE228.out) | exact HB.out)))); (case aL => have := LMc21.out; omega); intro v242 w30 ho hb hg hat; rw [← Ny241.out] at ho; have n0_ := Aside0.mk (blk_grown (g := gb228) (o := .cells #[.int .i64 a3_0, .int .i64 a3_1] 38 (0, 0)) (by (with_reducible repeat (first | refine blk_drewN ?_ _ | refine blk_drew ?_ | refine blk_alloc ?_ _)); exact BK228.out) hg (Kd.R_ne HO_9.out BK228.out (by decide))); have n1_ := Aside0.mk (hb); have n2_ := Aside0.mk (ho); clear BK228; clear HB; clear HO_9; have BK228 := n0_; have HB := n1_; have HO243 := n2_; clear n0_ n1_ n2_; clear ho hb hg hat; obtain ⟨Ao31, co31, eo31⟩ := Kd.R_slice HO243.out; subst eo31) | ((with_reducible refine gate_callee (f := 20) rfl ?_); refine goesL_ (some 64) rfl rfl Try.func20 (by kernel_rfl) rfl #[.slice Ao31 y241.length co31, .int .i64 t232, .int .i64 t233] rfl (by (try simp only [List.map_toArray, List.map_cons, List.map_nil]); first | done | rfl | (simp only [List.length_drop, List.length_take]; rfl)) ?_; (with_reducible refine (window_Within.calls kj8 _ _ y241 t232 t233 t244 t245 _ ?side1 ?side2 A22.out).mono ?_); (case side1 => repeat (first | exact (Kd.R_reads' HO243.out).2.2 | (with_reducible refine Kd.C_alloc ?_ _) | (with_reducible refine Kd.C_drewN ?_ _) | (with_reducible refine Kd.C_drew ?_))); (case side2 => exact (Kd.R_reads' HO243.out).2.1); rintro e w' ⟨rfl, ⟨nd, rfl⟩⟩; refine ⟨_, rfl, ?_⟩) | (go_at_call 23; (with_reducible refine (sacristanlaw12_awake.calls kj8  t246 _ A28.out (by first | rfl | exact HR_.out)).mono ?_); (try clear A28); rintro e w32 ⟨rfl, hb⟩; have n0_ := Aside0.mk (Kd.R_below (by (with_reducible repeat (first | apply Kd.R_alloc | apply Kd.R_drewN | apply Kd.R_drew)); exact HO243.out) hb); have n1_ := Aside0.mk (blk_below (g := gb228) (o := .cells #[.int .i64 a3_0, .int .i64 a3_1] 38 (0, 0)) (by (with_reducible repeat (first | refine blk_drewN ?_ _ | refine blk_drew ?_ | refine blk_alloc ?_ _)); exact BK228.out) hb); have n2_ := Aside0.mk (below_step (w := w) (by repeat (first | (with_reducible first | exact HB.out | apply below_alloc | apply pw_below_drewN | apply below_drew1 | refine below_set ?_ GE228.out) | exact HB.out)) hb); clear HO243; clear BK228; clear HB; have HO243 := n0_; have BK228 := n1_; have HB := n2_; clear n0_ n1_ n2_; (try clear hb); (try clear hb2); (try clear hk); (try clear hi)))
                  go_ret
                  exact ⟨by first | rfl | (simp [errW_none, errW_some] <;> rfl) | (simp [*, errW_none, errW_some] <;> rfl), by repeat (first | (with_reducible first | exact HB.out | apply below_alloc | apply pw_below_drewN | apply below_drew1 | refine below_set ?_ GE228.out) | exact HB.out)⟩
                · rw [if_neg c27] at H
                  have c27b0 : decide (t233 ≤ t238) = false := decide_eq_false c27
                  clear c27
                  by_cases c33 : t244 = true
                  · subst c33
                    have H1 : ((sacristanlaw12_awake.f kj8).bind fun t247 => (some t247)) = some r := by rw [if_pos rfl] at H; exact H
                    clear H
                    have H := H1
                    clear H1
                    replace H := Option.bind_eq_some_iff.mp H
                    obtain ⟨t247, A340, H⟩ := H
                    replace H : (some t247) = some r := H
                    have A34 := Aside0.mk A340
                    clear A340
                    obtain rfl := Option.some.inj H
                    go_wp2_with (first | ((with_reducible refine gate_callee (f := 20) rfl ?_); refine goesL_ (some 42) rfl rfl Try.func20 (by kernel_rfl) rfl #[.slice Ao13 t229.length co13, .int .i64 t232, .int .i64 t233] rfl (by (try simp only [List.map_toArray, List.map_cons, List.map_nil]); first | done | rfl | (simp only [List.length_drop, List.length_take]; rfl)) ?_; (with_reducible refine (window_Within.calls kj8 _ _ t229 t232 t233 true t237 _ ?side1 ?side2 A18.out).mono ?_); (case side1 => repeat (first | exact (Kd.R_reads' HO_9.out).2.2 | (with_reducible refine Kd.C_alloc ?_ _) | (with_reducible refine Kd.C_drewN ?_ _) | (with_reducible refine Kd.C_drew ?_))); (case side2 => exact (Kd.R_reads' HO_9.out).2.1); rintro e w' ⟨rfl, ⟨nd, rfl⟩⟩; refine ⟨_, rfl, ?_⟩) | ((with_reducible refine gate_callee (f := 16) rfl ?_); refine goesL_ (some 49) rfl rfl Try.func16 (by kernel_rfl) rfl #[.slice Ao13 t229.length co13, .int .i64 t232, .int .i64 x10_8] rfl (by (try simp only [List.map_toArray, List.map_cons, List.map_nil]); first | done | rfl | (simp only [List.length_drop, List.length_take]; rfl)) ?_; (with_reducible refine (window_Count.calls kj8 _ _ t229 t232 x10_8 t238 t239 _ ?side1 ?side2 A19.out).mono ?_); (case side1 => repeat (first | exact (Kd.R_reads' HO_9.out).2.2 | (with_reducible refine Kd.C_alloc ?_ _) | (with_reducible refine Kd.C_drewN ?_ _) | (with_reducible refine Kd.C_drew ?_))); (case side2 => exact (Kd.R_reads' HO_9.out).2.1); rintro e w' ⟨rfl, ⟨nd, rfl⟩⟩; refine ⟨_, rfl, ?_⟩; have hcz35_0 : wc.cell? ⟨gb228, 0, none⟩ = some (.int .i64 a3_0) := (blk_cell BK228.out 0).trans rfl; have hcz35_1 : wc.cell? ⟨gb228, 1, none⟩ = some (.int .i64 a3_1) := (blk_cell BK228.out 1).trans rfl; have hfz35_0 := blk_frozen BK228.out 0; have hfz35_1 := blk_frozen BK228.out 1) | ((with_reducible refine gate_callee (f := 25) rfl ?_); refine goesL_ (some 57) rfl rfl Try.func25 (by kernel_rfl) rfl #[.int .i64 a3_1, .int .i64 100] rfl (by (try simp only [List.map_toArray, List.map_cons, List.map_nil]); first | done | rfl | (simp only [List.length_drop, List.length_take]; rfl)) ?_; (with_reducible refine (sacristanlaw12_mod.calls a3_1 100 t240 _ A20.out).mono ?_); rintro e w' ⟨rfl, ⟨nd, rfl⟩⟩; refine ⟨_, rfl, ?_⟩) | ((with_reducible refine gate_builtin (b := .append) (xs := #[.tmp 53, .tmp 60]) rfl ?_); at_builtin; refine Kd.R_append (Kd.int .i64) (w0 := w) w.heap.size rfl (.tmp 53) (.tmp 60) 22 3 (.int .i64 0) 8 rfl Try.underlying22 info3 rfl (by decide) (by omega) (.slice Ao13 t229.length co13) t229 (wrap64 ((wrap64 (x10_8 + t240)) - 1)) [.int .i64 (wrap64 ((wrap64 (x10_8 + t240)) - 1))] (fun _ => True) (fun _ => False) rfl rfl ?aP (fun _ hk => hk.elim) ?aF ?aO ?aB ?aS ?aL ?_; (case aP => exact rfl); (case aB => exact (by repeat (first | (with_reducible first | exact HB.out | apply below_alloc | apply pw_below_drewN | apply below_drew1 | refine below_set ?_ GE228.out) | exact HB.out))); (case aF => exact (fun _ _ => trivial)); (case aO => exact (by (with_reducible repeat (first | apply Kd.R_alloc | apply Kd.R_drewN | apply Kd.R_drew)); exact HO_9.out)); (case aS => exact (below_size (by repeat (first | (with_reducible first | exact HB.out | apply below_alloc | apply pw_below_drewN | apply below_drew1 | refine below_set ?_ GE228.out) | exact HB.out)))); (case aL => have := LMc21.out; omega); intro v242 w36 ho hb hg hat; rw [← Ny241.out] at ho; have n0_ := Aside0.mk (blk_grown (g := gb228) (o := .cells #[.int .i64 a3_0, .int .i64 a3_1] 38 (0, 0)) (by (with_reducible repeat (first | refine blk_drewN ?_ _ | refine blk_drew ?_ | refine blk_alloc ?_ _)); exact BK228.out) hg (Kd.R_ne HO_9.out BK228.out (by decide))); have n1_ := Aside0.mk (hb); have n2_ := Aside0.mk (ho); clear BK228; clear HB; clear HO_9; have BK228 := n0_; have HB := n1_; have HO243 := n2_; clear n0_ n1_ n2_; clear ho hb hg hat; obtain ⟨Ao37, co37, eo37⟩ := Kd.R_slice HO243.out; subst eo37) | ((with_reducible refine gate_callee (f := 20) rfl ?_); refine goesL_ (some 64) rfl rfl Try.func20 (by kernel_rfl) rfl #[.slice Ao37 y241.length co37, .int .i64 t232, .int .i64 t233] rfl (by (try simp only [List.map_toArray, List.map_cons, List.map_nil]); first | done | rfl | (simp only [List.length_drop, List.length_take]; rfl)) ?_; (with_reducible refine (window_Within.calls kj8 _ _ y241 t232 t233 true t245 _ ?side1 ?side2 A22.out).mono ?_); (case side1 => repeat (first | exact (Kd.R_reads' HO243.out).2.2 | (with_reducible refine Kd.C_alloc ?_ _) | (with_reducible refine Kd.C_drewN ?_ _) | (with_reducible refine Kd.C_drew ?_))); (case side2 => exact (Kd.R_reads' HO243.out).2.1); rintro e w' ⟨rfl, ⟨nd, rfl⟩⟩; refine ⟨_, rfl, ?_⟩) | (go_at_call 23; (with_reducible refine (sacristanlaw12_awake.calls kj8  t247 _ A34.out (by first | rfl | exact HR_.out)).mono ?_); (try clear A34); rintro e w38 ⟨rfl, hb⟩; have n0_ := Aside0.mk (Kd.R_below (by (with_reducible repeat (first | apply Kd.R_alloc | apply Kd.R_drewN | apply Kd.R_drew)); exact HO243.out) hb); have n1_ := Aside0.mk (blk_below (g := gb228) (o := .cells #[.int .i64 a3_0, .int .i64 a3_1] 38 (0, 0)) (by (with_reducible repeat (first | refine blk_drewN ?_ _ | refine blk_drew ?_ | refine blk_alloc ?_ _)); exact BK228.out) hb); have n2_ := Aside0.mk (below_step (w := w) (by repeat (first | (with_reducible first | exact HB.out | apply below_alloc | apply pw_below_drewN | apply below_drew1 | refine below_set ?_ GE228.out) | exact HB.out)) hb); clear HO243; clear BK228; clear HB; have HO243 := n0_; have BK228 := n1_; have HB := n2_; clear n0_ n1_ n2_; (try clear hb); (try clear hb2); (try clear hk); (try clear hi)))
                    go_ret
                    exact ⟨by first | rfl | (simp [errW_none, errW_some] <;> rfl) | (simp [*, errW_none, errW_some] <;> rfl), by repeat (first | (with_reducible first | exact HB.out | apply below_alloc | apply pw_below_drewN | apply below_drew1 | refine below_set ?_ GE228.out) | exact HB.out)⟩
                  · replace c33 := Bool.eq_false_iff.mpr c33
                    subst c33
                    have H1 : (some false) = some r := by rw [if_neg (show ¬ (false = true) by decide)] at H; exact H
                    clear H
                    have H := H1
                    clear H1
                    obtain rfl := Option.some.inj H
                    exact absurd HR_.out (by simp)
              · replace c26 := Bool.eq_false_iff.mpr c26
                subst c26
                have H1 : ((sacristanlaw12_awake.f kj8).bind fun t248 => (some t248)) = some r := by rw [if_neg (show ¬ (false = true) by decide)] at H; exact H
                clear H
                have H := H1
                clear H1
                replace H := Option.bind_eq_some_iff.mp H
                obtain ⟨t248, A390, H⟩ := H
                replace H : (some t248) = some r := H
                have A39 := Aside0.mk A390
                clear A390
                obtain rfl := Option.some.inj H
                go_wp2_with (first | ((with_reducible refine gate_callee (f := 20) rfl ?_); refine goesL_ (some 42) rfl rfl Try.func20 (by kernel_rfl) rfl #[.slice Ao13 t229.length co13, .int .i64 t232, .int .i64 t233] rfl (by (try simp only [List.map_toArray, List.map_cons, List.map_nil]); first | done | rfl | (simp only [List.length_drop, List.length_take]; rfl)) ?_; (with_reducible refine (window_Within.calls kj8 _ _ t229 t232 t233 false t237 _ ?side1 ?side2 A18.out).mono ?_); (case side1 => repeat (first | exact (Kd.R_reads' HO_9.out).2.2 | (with_reducible refine Kd.C_alloc ?_ _) | (with_reducible refine Kd.C_drewN ?_ _) | (with_reducible refine Kd.C_drew ?_))); (case side2 => exact (Kd.R_reads' HO_9.out).2.1); rintro e w' ⟨rfl, ⟨nd, rfl⟩⟩; refine ⟨_, rfl, ?_⟩) | ((with_reducible refine gate_callee (f := 16) rfl ?_); refine goesL_ (some 49) rfl rfl Try.func16 (by kernel_rfl) rfl #[.slice Ao13 t229.length co13, .int .i64 t232, .int .i64 x10_8] rfl (by (try simp only [List.map_toArray, List.map_cons, List.map_nil]); first | done | rfl | (simp only [List.length_drop, List.length_take]; rfl)) ?_; (with_reducible refine (window_Count.calls kj8 _ _ t229 t232 x10_8 t238 t239 _ ?side1 ?side2 A19.out).mono ?_); (case side1 => repeat (first | exact (Kd.R_reads' HO_9.out).2.2 | (with_reducible refine Kd.C_alloc ?_ _) | (with_reducible refine Kd.C_drewN ?_ _) | (with_reducible refine Kd.C_drew ?_))); (case side2 => exact (Kd.R_reads' HO_9.out).2.1); rintro e w' ⟨rfl, ⟨nd, rfl⟩⟩; refine ⟨_, rfl, ?_⟩; have hcz40_0 : wc.cell? ⟨gb228, 0, none⟩ = some (.int .i64 a3_0) := (blk_cell BK228.out 0).trans rfl; have hcz40_1 : wc.cell? ⟨gb228, 1, none⟩ = some (.int .i64 a3_1) := (blk_cell BK228.out 1).trans rfl; have hfz40_0 := blk_frozen BK228.out 0; have hfz40_1 := blk_frozen BK228.out 1) | ((with_reducible refine gate_callee (f := 25) rfl ?_); refine goesL_ (some 57) rfl rfl Try.func25 (by kernel_rfl) rfl #[.int .i64 a3_1, .int .i64 100] rfl (by (try simp only [List.map_toArray, List.map_cons, List.map_nil]); first | done | rfl | (simp only [List.length_drop, List.length_take]; rfl)) ?_; (with_reducible refine (sacristanlaw12_mod.calls a3_1 100 t240 _ A20.out).mono ?_); rintro e w' ⟨rfl, ⟨nd, rfl⟩⟩; refine ⟨_, rfl, ?_⟩) | ((with_reducible refine gate_builtin (b := .append) (xs := #[.tmp 53, .tmp 60]) rfl ?_); at_builtin; refine Kd.R_append (Kd.int .i64) (w0 := w) w.heap.size rfl (.tmp 53) (.tmp 60) 22 3 (.int .i64 0) 8 rfl Try.underlying22 info3 rfl (by decide) (by omega) (.slice Ao13 t229.length co13) t229 (wrap64 ((wrap64 (x10_8 + t240)) - 1)) [.int .i64 (wrap64 ((wrap64 (x10_8 + t240)) - 1))] (fun _ => True) (fun _ => False) rfl rfl ?aP (fun _ hk => hk.elim) ?aF ?aO ?aB ?aS ?aL ?_; (case aP => exact rfl); (case aB => exact (by repeat (first | (with_reducible first | exact HB.out | apply below_alloc | apply pw_below_drewN | apply below_drew1 | refine below_set ?_ GE228.out) | exact HB.out))); (case aF => exact (fun _ _ => trivial)); (case aO => exact (by (with_reducible repeat (first | apply Kd.R_alloc | apply Kd.R_drewN | apply Kd.R_drew)); exact HO_9.out)); (case aS => exact (below_size (by repeat (first | (with_reducible first | exact HB.out | apply below_alloc | apply pw_below_drewN | apply below_drew1 | refine below_set ?_ GE228.out) | exact HB.out)))); (case aL => have := LMc21.out; omega); intro v242 w41 ho hb hg hat; rw [← Ny241.out] at ho; have n0_ := Aside0.mk (blk_grown (g := gb228) (o := .cells #[.int .i64 a3_0, .int .i64 a3_1] 38 (0, 0)) (by (with_reducible repeat (first | refine blk_drewN ?_ _ | refine blk_drew ?_ | refine blk_alloc ?_ _)); exact BK228.out) hg (Kd.R_ne HO_9.out BK228.out (by decide))); have n1_ := Aside0.mk (hb); have n2_ := Aside0.mk (ho); clear BK228; clear HB; clear HO_9; have BK228 := n0_; have HB := n1_; have HO243 := n2_; clear n0_ n1_ n2_; clear ho hb hg hat; obtain ⟨Ao42, co42, eo42⟩ := Kd.R_slice HO243.out; subst eo42) | ((with_reducible refine gate_callee (f := 20) rfl ?_); refine goesL_ (some 64) rfl rfl Try.func20 (by kernel_rfl) rfl #[.slice Ao42 y241.length co42, .int .i64 t232, .int .i64 t233] rfl (by (try simp only [List.map_toArray, List.map_cons, List.map_nil]); first | done | rfl | (simp only [List.length_drop, List.length_take]; rfl)) ?_; (with_reducible refine (window_Within.calls kj8 _ _ y241 t232 t233 t244 t245 _ ?side1 ?side2 A22.out).mono ?_); (case side1 => repeat (first | exact (Kd.R_reads' HO243.out).2.2 | (with_reducible refine Kd.C_alloc ?_ _) | (with_reducible refine Kd.C_drewN ?_ _) | (with_reducible refine Kd.C_drew ?_))); (case side2 => exact (Kd.R_reads' HO243.out).2.1); rintro e w' ⟨rfl, ⟨nd, rfl⟩⟩; refine ⟨_, rfl, ?_⟩) | (go_at_call 23; (with_reducible refine (sacristanlaw12_awake.calls kj8  t248 _ A39.out (by first | rfl | exact HR_.out)).mono ?_); (try clear A39); rintro e w43 ⟨rfl, hb⟩; have n0_ := Aside0.mk (Kd.R_below (by (with_reducible repeat (first | apply Kd.R_alloc | apply Kd.R_drewN | apply Kd.R_drew)); exact HO243.out) hb); have n1_ := Aside0.mk (blk_below (g := gb228) (o := .cells #[.int .i64 a3_0, .int .i64 a3_1] 38 (0, 0)) (by (with_reducible repeat (first | refine blk_drewN ?_ _ | refine blk_drew ?_ | refine blk_alloc ?_ _)); exact BK228.out) hb); have n2_ := Aside0.mk (below_step (w := w) (by repeat (first | (with_reducible first | exact HB.out | apply below_alloc | apply pw_below_drewN | apply below_drew1 | refine below_set ?_ GE228.out) | exact HB.out)) hb); clear HO243; clear BK228; clear HB; have HO243 := n0_; have BK228 := n1_; have HB := n2_; clear n0_ n1_ n2_; (try clear hb); (try clear hb2); (try clear hk); (try clear hi)))
                go_ret
                exact ⟨by first | rfl | (simp [errW_none, errW_some] <;> rfl) | (simp [*, errW_none, errW_some] <;> rfl), by repeat (first | (with_reducible first | exact HB.out | apply below_alloc | apply pw_below_drewN | apply below_drew1 | refine below_set ?_ GE228.out) | exact HB.out)⟩
            · rw [if_neg c25] at H
              have c25b0 : (t245 == 0) = false := beq_eq_false_iff_ne.mpr c25
              have c25b1 : (t245 != 0) = true := bne_iff_ne.mpr c25
              obtain rfl := Option.some.inj H
              exact absurd HR_.out (by simp)
          · rw [if_neg c24] at H
            have c24b0 : (t239 == 0) = false := beq_eq_false_iff_ne.mpr c24
            have c24b1 : (t239 != 0) = true := bne_iff_ne.mpr c24
            obtain rfl := Option.some.inj H
            exact absurd HR_.out (by simp)
        · rw [if_neg c23] at H
          have c23b0 : (t237 == 0) = false := beq_eq_false_iff_ne.mpr c23
          have c23b1 : (t237 != 0) = true := bne_iff_ne.mpr c23
          obtain rfl := Option.some.inj H
          exact absurd HR_.out (by simp)
      · rw [if_neg c21] at H
        exact absurd H (by simp)

end Go.Proofs.Ytipbgeobgppagaa.V
