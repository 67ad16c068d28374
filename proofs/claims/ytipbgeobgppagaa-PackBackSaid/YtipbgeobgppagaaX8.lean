-- Printed by a program of this session (wip/xprint.py) out of the translation.
import Derived.Test.YtipbgeobgppagaaX0
import Derived.Test.YtipbgeobgppagaaX3
import Derived.Test.YtipbgeobgppagaaX5
namespace Go.Proofs.Ytipbgeobgppagaa.X
open Go.RowKit Go.Proofs.Ytipbgeobgppagaa.Ext Go.Proofs.YtipbgeobgppagaaW.PrintWords Go.Proofs.YtipbgeobgppagaaW.PrintLast Go.Proofs.YtipbgeobgppagaaW.PrintMore
attribute [local go_sem] max2_int min2_int max_two min_two max_three min_three max_four min_four   -- for this text's walks alone
set_option linter.unusedVariables false
set_option linter.unusedSimpArgs false

/-! ### sacristanlaw02_PackBack: function 14 -/
mutual
def sacristanlaw02_PackBack.j0 : Nat → Int → Int → Int → ByteArray → ByteArray → Bool → Option (Bool)
  | 0, _, _, _, _, _, _ => none
  | k + 1, x0, x1, x2, x3, x4, x40 => if x40 = true then ((sacristanlaw02_known.f k).bind fun t431 => (some t431)) else ((pack_Fixed.f k x0 x1).bind fun bt432 => (if bt432.2 = 0 then ((pack_Unfixed.f k bt432.1).bind fun bt434 => (if bt434.1 = x0 then (if bt434.2 = 0 then (if (bt432.1.size : Int) = x1 then (sacristanlaw02_PackBack.j1 k x0 x2 x3 x4) else (some false)) else (some false)) else (some false))) else (sacristanlaw02_PackBack.j1 k x0 x2 x3 x4)))
def sacristanlaw02_PackBack.j1 : Nat → Int → Int → ByteArray → ByteArray → Option (Bool)
  | 0, _, _, _, _ => none
  | k + 1, x0, x2, x3, x4 => (pack_Var.f x0).bind fun t436 => (if t436.size + x4.size ≤ 9223372036854775807 then ((pack_Unvar.f k (t436 ++ x4)).bind fun bt437 => ((pack_Int.f x2).bind fun t440 => (if t440.size + x4.size ≤ 9223372036854775807 then ((pack_Unint.f k (t440 ++ x4)).bind fun bt441 => ((pack_Text.f x3).bind fun t444 => (if t444.size + x4.size ≤ 9223372036854775807 then ((pack_Untext.f k (t444 ++ x4)).bind fun bt445 => (if bt437.1 = x0 then (if bt437.2.1.toList = x4.toList then (if bt437.2.2 = 0 then (if bt441.1 = x2 then (if bt441.2.1.toList = x4.toList then (if bt441.2.2 = 0 then (if bt445.1.toList = x3.toList then (if bt445.2.1.toList = x4.toList then (sacristanlaw02_PackBack.j2 k x4 (bt445.2.2 != 0)) else (sacristanlaw02_PackBack.j2 k x4 true)) else (sacristanlaw02_PackBack.j2 k x4 true)) else (sacristanlaw02_PackBack.j2 k x4 true)) else (sacristanlaw02_PackBack.j2 k x4 true)) else (sacristanlaw02_PackBack.j2 k x4 true)) else (sacristanlaw02_PackBack.j2 k x4 true)) else (sacristanlaw02_PackBack.j2 k x4 true)) else (sacristanlaw02_PackBack.j2 k x4 true))) else (none)))) else (none)))) else (none))
def sacristanlaw02_PackBack.j2 : Nat → ByteArray → Bool → Option (Bool)
  | 0, _, _ => none
  | k + 1, x4, x134 => if x134 = true then (some false) else ((pack_Unvar.f k x4).bind fun bt448 => (if bt448.2.2 = 0 then ((pack_Var.f bt448.1).bind fun t451 => (if t451.size + bt448.2.1.size ≤ 9223372036854775807 then (sacristanlaw02_PackBack.j3 k x4 ((t451 ++ bt448.2.1).toList != x4.toList)) else (none))) else (sacristanlaw02_PackBack.j3 k x4 false)))
def sacristanlaw02_PackBack.j3 : Nat → ByteArray → Bool → Option (Bool)
  | 0, _, _ => none
  | k + 1, x4, x150 => if x150 = true then (some false) else ((pack_Unint.f k x4).bind fun bt452 => (if bt452.2.2 = 0 then ((pack_Int.f bt452.1).bind fun t455 => (if t455.size + bt452.2.1.size ≤ 9223372036854775807 then (sacristanlaw02_PackBack.j4 k x4 ((t455 ++ bt452.2.1).toList != x4.toList)) else (none))) else (sacristanlaw02_PackBack.j4 k x4 false)))
def sacristanlaw02_PackBack.j4 : Nat → ByteArray → Bool → Option (Bool)
  | 0, _, _ => none
  | k + 1, x4, x166 => if x166 = true then (some false) else ((pack_Untext.f k x4).bind fun bt456 => (if bt456.2.2 = 0 then ((pack_Text.f bt456.1).bind fun t459 => (if t459.size + bt456.2.1.size ≤ 9223372036854775807 then (if (t459 ++ bt456.2.1).toList = x4.toList then ((sacristanlaw02_known.f k).bind fun t460 => (some t460)) else (some false)) else (none))) else ((sacristanlaw02_known.f k).bind fun t461 => (some t461))))
end
def sacristanlaw02_PackBack.f (k : Nat) (a0 : Int) (a1 : Int) (a2 : Int) (a3 : ByteArray) (a4 : ByteArray) : Option (Bool) := if (a3.size : Int) > 600 then (sacristanlaw02_PackBack.j0 k a0 a1 a2 a3 a4 true) else (sacristanlaw02_PackBack.j0 k a0 a1 a2 a3 a4 (decide ((a4.size : Int) > 600)))
theorem sacristanlaw02_PackBack.mono_l : ∀ k, (∀ y0 y1 y2 y3 y4 y5, LeO (sacristanlaw02_PackBack.j0 k y0 y1 y2 y3 y4 y5) (sacristanlaw02_PackBack.j0 (k + 1) y0 y1 y2 y3 y4 y5)) ∧ (∀ y0 y1 y2 y3, LeO (sacristanlaw02_PackBack.j1 k y0 y1 y2 y3) (sacristanlaw02_PackBack.j1 (k + 1) y0 y1 y2 y3)) ∧ (∀ y0 y1, LeO (sacristanlaw02_PackBack.j2 k y0 y1) (sacristanlaw02_PackBack.j2 (k + 1) y0 y1)) ∧ (∀ y0 y1, LeO (sacristanlaw02_PackBack.j3 k y0 y1) (sacristanlaw02_PackBack.j3 (k + 1) y0 y1)) ∧ (∀ y0 y1, LeO (sacristanlaw02_PackBack.j4 k y0 y1) (sacristanlaw02_PackBack.j4 (k + 1) y0 y1))
  | 0 => ⟨fun _ _ _ _ _ _ r h => by simp [sacristanlaw02_PackBack.j0] at h, fun _ _ _ _ r h => by simp [sacristanlaw02_PackBack.j1] at h, fun _ _ r h => by simp [sacristanlaw02_PackBack.j2] at h, fun _ _ r h => by simp [sacristanlaw02_PackBack.j3] at h, fun _ _ r h => by simp [sacristanlaw02_PackBack.j4] at h⟩
  | k + 1 => by
    obtain ⟨ih0, ih1, ih2, ih3, ih4⟩ := sacristanlaw02_PackBack.mono_l k
    refine ⟨?_, ?_, ?_, ?_, ?_⟩
    · intro y0 y1 y2 y3 y4 y5
      unfold sacristanlaw02_PackBack.j0
      repeat' first
      | (with_reducible exact ih0 _ _ _ _ _ _)
      | (with_reducible exact ih1 _ _ _ _)
      | (with_reducible exact ih2 _ _)
      | (with_reducible exact ih3 _ _)
      | (with_reducible exact ih4 _ _)
      | (with_reducible exact pack_Fixed.mono _ _ _)
      | (with_reducible exact pack_Unfixed.mono _ _)
      | (with_reducible exact pack_Unint.mono _ _)
      | (with_reducible exact pack_Untext.mono _ _)
      | (with_reducible exact pack_Unvar.mono _ _)
      | (with_reducible exact sacristanlaw02_known.mono _)
      | (with_reducible exact LeO.refl _)
      | (with_reducible exact LeO.none _)
      | (with_reducible refine LeO.ite ?_ ?_)
      | (with_reducible refine LeO.bind ?_ (fun _ => ?_))
      | exact ih0 _ _ _ _ _ _
      | exact ih1 _ _ _ _
      | exact ih2 _ _
      | exact ih3 _ _
      | exact ih4 _ _
      | exact pack_Fixed.mono _ _ _
      | exact pack_Unfixed.mono _ _
      | exact pack_Unint.mono _ _
      | exact pack_Untext.mono _ _
      | exact pack_Unvar.mono _ _
      | exact sacristanlaw02_known.mono _
      | exact LeO.none _
      | refine LeO.ite ?_ ?_
      | refine LeO.bind ?_ (fun _ => ?_)
    · intro y0 y1 y2 y3
      unfold sacristanlaw02_PackBack.j1
      repeat' first
      | (with_reducible exact ih0 _ _ _ _ _ _)
      | (with_reducible exact ih1 _ _ _ _)
      | (with_reducible exact ih2 _ _)
      | (with_reducible exact ih3 _ _)
      | (with_reducible exact ih4 _ _)
      | (with_reducible exact pack_Fixed.mono _ _ _)
      | (with_reducible exact pack_Unfixed.mono _ _)
      | (with_reducible exact pack_Unint.mono _ _)
      | (with_reducible exact pack_Untext.mono _ _)
      | (with_reducible exact pack_Unvar.mono _ _)
      | (with_reducible exact sacristanlaw02_known.mono _)
      | (with_reducible exact LeO.refl _)
      | (with_reducible exact LeO.none _)
      | (with_reducible refine LeO.ite ?_ ?_)
      | (with_reducible refine LeO.bind ?_ (fun _ => ?_))
      | exact ih0 _ _ _ _ _ _
      | exact ih1 _ _ _ _
      | exact ih2 _ _
      | exact ih3 _ _
      | exact ih4 _ _
      | exact pack_Fixed.mono _ _ _
      | exact pack_Unfixed.mono _ _
      | exact pack_Unint.mono _ _
      | exact pack_Untext.mono _ _
      | exact pack_Unvar.mono _ _
      | exact sacristanlaw02_known.mono _
      | exact LeO.none _
      | refine LeO.ite ?_ ?_
      | refine LeO.bind ?_ (fun _ => ?_)
    · intro y0 y1
      unfold sacristanlaw02_PackBack.j2
      repeat' first
      | (with_reducible exact ih0 _ _ _ _ _ _)
      | (with_reducible exact ih1 _ _ _ _)
      | (with_reducible exact ih2 _ _)
      | (with_reducible exact ih3 _ _)
      | (with_reducible exact ih4 _ _)
      | (with_reducible exact pack_Fixed.mono _ _ _)
      | (with_reducible exact pack_Unfixed.mono _ _)
      | (with_reducible exact pack_Unint.mono _ _)
      | (with_reducible exact pack_Untext.mono _ _)
      | (with_reducible exact pack_Unvar.mono _ _)
      | (with_reducible exact sacristanlaw02_known.mono _)
      | (with_reducible exact LeO.refl _)
      | (with_reducible exact LeO.none _)
      | (with_reducible refine LeO.ite ?_ ?_)
      | (with_reducible refine LeO.bind ?_ (fun _ => ?_))
      | exact ih0 _ _ _ _ _ _
      | exact ih1 _ _ _ _
      | exact ih2 _ _
      | exact ih3 _ _
      | exact ih4 _ _
      | exact pack_Fixed.mono _ _ _
      | exact pack_Unfixed.mono _ _
      | exact pack_Unint.mono _ _
      | exact pack_Untext.mono _ _
      | exact pack_Unvar.mono _ _
      | exact sacristanlaw02_known.mono _
      | exact LeO.none _
      | refine LeO.ite ?_ ?_
      | refine LeO.bind ?_ (fun _ => ?_)
    · intro y0 y1
      unfold sacristanlaw02_PackBack.j3
      repeat' first
      | (with_reducible exact ih0 _ _ _ _ _ _)
      | (with_reducible exact ih1 _ _ _ _)
      | (with_reducible exact ih2 _ _)
      | (with_reducible exact ih3 _ _)
      | (with_reducible exact ih4 _ _)
      | (with_reducible exact pack_Fixed.mono _ _ _)
      | (with_reducible exact pack_Unfixed.mono _ _)
      | (with_reducible exact pack_Unint.mono _ _)
      | (with_reducible exact pack_Untext.mono _ _)
      | (with_reducible exact pack_Unvar.mono _ _)
      | (with_reducible exact sacristanlaw02_known.mono _)
      | (with_reducible exact LeO.refl _)
      | (with_reducible exact LeO.none _)
      | (with_reducible refine LeO.ite ?_ ?_)
      | (with_reducible refine LeO.bind ?_ (fun _ => ?_))
      | exact ih0 _ _ _ _ _ _
      | exact ih1 _ _ _ _
      | exact ih2 _ _
      | exact ih3 _ _
      | exact ih4 _ _
      | exact pack_Fixed.mono _ _ _
      | exact pack_Unfixed.mono _ _
      | exact pack_Unint.mono _ _
      | exact pack_Untext.mono _ _
      | exact pack_Unvar.mono _ _
      | exact sacristanlaw02_known.mono _
      | exact LeO.none _
      | refine LeO.ite ?_ ?_
      | refine LeO.bind ?_ (fun _ => ?_)
    · intro y0 y1
      unfold sacristanlaw02_PackBack.j4
      repeat' first
      | (with_reducible exact ih0 _ _ _ _ _ _)
      | (with_reducible exact ih1 _ _ _ _)
      | (with_reducible exact ih2 _ _)
      | (with_reducible exact ih3 _ _)
      | (with_reducible exact ih4 _ _)
      | (with_reducible exact pack_Fixed.mono _ _ _)
      | (with_reducible exact pack_Unfixed.mono _ _)
      | (with_reducible exact pack_Unint.mono _ _)
      | (with_reducible exact pack_Untext.mono _ _)
      | (with_reducible exact pack_Unvar.mono _ _)
      | (with_reducible exact sacristanlaw02_known.mono _)
      | (with_reducible exact LeO.refl _)
      | (with_reducible exact LeO.none _)
      | (with_reducible refine LeO.ite ?_ ?_)
      | (with_reducible refine LeO.bind ?_ (fun _ => ?_))
      | exact ih0 _ _ _ _ _ _
      | exact ih1 _ _ _ _
      | exact ih2 _ _
      | exact ih3 _ _
      | exact ih4 _ _
      | exact pack_Fixed.mono _ _ _
      | exact pack_Unfixed.mono _ _
      | exact pack_Unint.mono _ _
      | exact pack_Untext.mono _ _
      | exact pack_Unvar.mono _ _
      | exact sacristanlaw02_known.mono _
      | exact LeO.none _
      | refine LeO.ite ?_ ?_
      | refine LeO.bind ?_ (fun _ => ?_)
theorem sacristanlaw02_PackBack.mono : ∀ a0 a1 a2 a3 a4 k, LeO (sacristanlaw02_PackBack.f k a0 a1 a2 a3 a4) (sacristanlaw02_PackBack.f (k + 1) a0 a1 a2 a3 a4) := by
  intro a0 a1 a2 a3 a4 k
  obtain ⟨ih0, ih1, ih2, ih3, ih4⟩ := sacristanlaw02_PackBack.mono_l k
  unfold sacristanlaw02_PackBack.f
  repeat' first
      | (with_reducible exact ih0 _ _ _ _ _ _)
      | (with_reducible exact ih1 _ _ _ _)
      | (with_reducible exact ih2 _ _)
      | (with_reducible exact ih3 _ _)
      | (with_reducible exact ih4 _ _)
      | (with_reducible exact pack_Fixed.mono _ _ _)
      | (with_reducible exact pack_Unfixed.mono _ _)
      | (with_reducible exact pack_Unint.mono _ _)
      | (with_reducible exact pack_Untext.mono _ _)
      | (with_reducible exact pack_Unvar.mono _ _)
      | (with_reducible exact sacristanlaw02_known.mono _)
      | (with_reducible exact LeO.refl _)
      | (with_reducible exact LeO.none _)
      | (with_reducible refine LeO.ite ?_ ?_)
      | (with_reducible refine LeO.bind ?_ (fun _ => ?_))
      | exact ih0 _ _ _ _ _ _
      | exact ih1 _ _ _ _
      | exact ih2 _ _
      | exact ih3 _ _
      | exact ih4 _ _
      | exact pack_Fixed.mono _ _ _
      | exact pack_Unfixed.mono _ _
      | exact pack_Unint.mono _ _
      | exact pack_Untext.mono _ _
      | exact pack_Unvar.mono _ _
      | exact sacristanlaw02_known.mono _
      | exact LeO.none _
      | refine LeO.ite ?_ ?_
      | refine LeO.bind ?_ (fun _ => ?_)
set_option maxHeartbeats 8000000 in
set_option maxRecDepth 100000 in
theorem sacristanlaw02_PackBack.calls (k : Nat) (a0 : Int) (a1 : Int) (a2 : Int) (a3 : ByteArray) (a4 : ByteArray) (r : Bool) (w : World) (h : sacristanlaw02_PackBack.f k a0 a1 a2 a3 a4 = some r) :
    Calls Try.prog 14 #[.int .u64 a0, .int .i64 a1, .int .i64 a2, .string a3, .string a4] w fun e w' => e = .returned (.bool r) ∧ Below w.heap.size w w' := by
  have HB := Aside0.mk (Below.refl w.heap.size w)
  have H : (if (a3.size : Int) > 600 then (sacristanlaw02_PackBack.j0 k a0 a1 a2 a3 a4 true) else (sacristanlaw02_PackBack.j0 k a0 a1 a2 a3 a4 (decide ((a4.size : Int) > 600)))) = some r := h
  clear h
  have HC6 := Aside0.mk H
  clear H
  go_enter Try.func14, Try.ntmps14
  go_upto_region 1 with (fail)
  go_cut [40] (fun v40 wc => ∃ (kq : Nat) (x40_5 : Bool), v40 = .bool x40_5 ∧ Aside0 (sacristanlaw02_PackBack.j0 kq a0 a1 a2 a3 a4 x40_5 = some r) ∧ Aside0 (kq ≤ k) ∧ Aside0 (Below w.heap.size w wc))
  case first =>
    have H := HC6.out
    clear HC6
    by_cases c7 : (a3.size : Int) > 600
    · rw [if_pos c7] at H
      have c7b0 : decide (600 < (a3.size : Int)) = true := decide_eq_true c7
      have c7b1 : decide (600 < a3.size) = true := decide_eq_true (by omega)
      clear c7
      (first | rw [c7b0] | (simp only [i64_w, i32_w]; rw [c7b0]) | skip)
      have H' := Aside0.mk H
      clear H
      go_wp2
      go_meet
      case rel => exact ⟨_, (true), (by first | rfl | (simp; done) | (simp [*]; done)), H', ⟨by first | omega | exact Nat.le_refl _⟩, ⟨by repeat (first | (with_reducible first | exact HB.out | apply below_alloc | apply pw_below_drewN | apply below_drew1) | exact HB.out)⟩⟩
    · rw [if_neg c7] at H
      have c7b0 : decide (600 < (a3.size : Int)) = false := decide_eq_false c7
      have c7b1 : decide (600 < a3.size) = false := decide_eq_false (by omega)
      clear c7
      (first | rw [c7b0] | (simp only [i64_w, i32_w]; rw [c7b0]) | skip)
      have H' := Aside0.mk H
      clear H
      go_wp2
      go_meet
      case rel => exact ⟨_, (decide ((a4.size : Int) > 600)), (by first | rfl | (simp; done) | (simp [*]; done)), H', ⟨by first | omega | exact Nat.le_refl _⟩, ⟨by repeat (first | (with_reducible first | exact HB.out | apply below_alloc | apply pw_below_drewN | apply below_drew1) | exact HB.out)⟩⟩
  case rest =>
    clear HC6
    try clear c1
    try clear p2
    try clear c7
    try clear c7b0
    try clear c7b1
    obtain ⟨kq, x40_5, rfl, HA, HJ5, HB⟩ := hcut
    cases kq with
    | zero => exact absurd HA.out (by simp [sacristanlaw02_PackBack.j0])
    | succ kj5 =>
      have H := HA.out
      clear HA
      simp only [sacristanlaw02_PackBack.j0] at H
      by_cases c8 : x40_5 = true
      · subst c8
        have H1 : ((sacristanlaw02_known.f kj5).bind fun t431 => (some t431)) = some r := by rw [if_pos rfl] at H; exact H
        clear H
        have H := H1
        clear H1
        replace H := Option.bind_eq_some_iff.mp H
        obtain ⟨t431, A90, H⟩ := H
        replace H : (some t431) = some r := H
        have A9 := Aside0.mk A90
        clear A90
        obtain rfl := Option.some.inj H
        go_wp2_with (first | ((with_reducible refine gate_callee (f := 28) rfl ?_); refine goesL_ (some 41) rfl rfl Try.func28 (by kernel_rfl) rfl #[] rfl (by (try simp only [List.map_toArray, List.map_cons, List.map_nil]); first | done | rfl | (simp only [List.length_drop, List.length_take]; rfl)) ?_; (with_reducible refine (sacristanlaw02_known.calls kj5  t431 _ A9.out).mono ?_); rintro e w10 ⟨rfl, hb⟩; refine ⟨_, rfl, ?_⟩; have n0_ := Aside0.mk (below_step (by repeat (first | (with_reducible first | exact HB.out | apply below_alloc | apply pw_below_drewN | apply below_drew1) | exact HB.out)) hb); clear HB; have HB := n0_; clear n0_; (try clear hb); (try clear hb2); (try clear hk); (try clear hi)))
        go_ret
        exact ⟨by first | rfl | (simp [errW_none, errW_some] <;> rfl) | (simp [*, errW_none, errW_some] <;> rfl), by repeat (first | (with_reducible first | exact HB.out | apply below_alloc | apply pw_below_drewN | apply below_drew1) | exact HB.out)⟩
      · replace c8 := Bool.eq_false_iff.mpr c8
        subst c8
        have H1 : ((pack_Fixed.f kj5 a0 a1).bind fun bt432 => (if bt432.2 = 0 then ((pack_Unfixed.f kj5 bt432.1).bind fun bt434 => (if bt434.1 = a0 then (if bt434.2 = 0 then (if (bt432.1.size : Int) = a1 then (sacristanlaw02_PackBack.j1 kj5 a0 a2 a3 a4) else (some false)) else (some false)) else (some false))) else (sacristanlaw02_PackBack.j1 kj5 a0 a2 a3 a4))) = some r := by rw [if_neg (show ¬ (false = true) by decide)] at H; exact H
        clear H
        have H := H1
        clear H1
        replace H := Option.bind_eq_some_iff.mp H
        obtain ⟨⟨t432, t433⟩, A110, H⟩ := H
        replace H : (if t433 = 0 then ((pack_Unfixed.f kj5 t432).bind fun bt434 => (if bt434.1 = a0 then (if bt434.2 = 0 then (if (t432.size : Int) = a1 then (sacristanlaw02_PackBack.j1 kj5 a0 a2 a3 a4) else (some false)) else (some false)) else (some false))) else (sacristanlaw02_PackBack.j1 kj5 a0 a2 a3 a4)) = some r := H
        have A11 := Aside0.mk A110
        clear A110
        have HC12 := Aside0.mk H
        clear H
        go_upto_if 49 with (first | ((with_reducible refine gate_callee (f := 26) rfl ?_); refine goesL_ (some 45) rfl rfl Try.func26 (by kernel_rfl) rfl #[.int .u64 a0, .int .i64 a1] rfl (by (try simp only [List.map_toArray, List.map_cons, List.map_nil]); first | done | rfl | (simp only [List.length_drop, List.length_take]; rfl)) ?_; (with_reducible refine (pack_Fixed.calls kj5 a0 a1 t432 t433 _ A11.out).mono ?_); rintro e w13 ⟨rfl, hb⟩; refine ⟨_, rfl, ?_⟩; have n0_ := Aside0.mk (below_step (by repeat (first | (with_reducible first | exact HB.out | apply below_alloc | apply pw_below_drewN | apply below_drew1) | exact HB.out)) hb); clear HB; have HB := n0_; clear n0_; (try clear hb); (try clear hb2); (try clear hk); (try clear hi)))
        (try simp only [Act.put, List.setIfInBounds_toArray, List.set_cons_zero, List.set_cons_succ])
        go_cut [] (fun wc => ∃ (kq : Nat), Aside0 (sacristanlaw02_PackBack.j1 kq a0 a2 a3 a4 = some r) ∧ Aside0 (kq ≤ kj5) ∧ Aside0 (Below w.heap.size w wc))
        case first =>
          have H := HC12.out
          clear HC12
          by_cases c14 : t433 = 0
          · rw [if_pos c14] at H
            have c14b0 : (t433 == 0) = true := beq_iff_eq.mpr c14
            have c14b1 : (t433 != 0) = false := bne_eq_false_iff_eq.mpr c14
            clear c14
            (first | rw [c14b0] | (simp only [i64_w, i32_w]; rw [c14b0]) | skip)
            replace H := Option.bind_eq_some_iff.mp H
            obtain ⟨⟨t434, t435⟩, A150, H⟩ := H
            replace H : (if t434 = a0 then (if t435 = 0 then (if (t432.size : Int) = a1 then (sacristanlaw02_PackBack.j1 kj5 a0 a2 a3 a4) else (some false)) else (some false)) else (some false)) = some r := H
            have A15 := Aside0.mk A150
            clear A150
            by_cases c16 : t434 = a0
            · rw [if_pos c16] at H
              have c16b0 : (t434 == a0) = true := beq_iff_eq.mpr c16
              have c16b1 : (t434 != a0) = false := bne_eq_false_iff_eq.mpr c16
              clear c16
              by_cases c17 : t435 = 0
              · rw [if_pos c17] at H
                have c17b0 : (t435 == 0) = true := beq_iff_eq.mpr c17
                have c17b1 : (t435 != 0) = false := bne_eq_false_iff_eq.mpr c17
                clear c17
                by_cases c18 : (t432.size : Int) = a1
                · rw [if_pos c18] at H
                  have c18b0 : ((t432.size : Int) == a1) = true := beq_iff_eq.mpr c18
                  have c18b1 : ((t432.size : Int) != a1) = false := bne_eq_false_iff_eq.mpr c18
                  clear c18
                  have H' := Aside0.mk H
                  clear H
                  go_wp2_with (first | ((with_reducible refine gate_callee (f := 36) rfl ?_); refine goesL_ (some 52) rfl rfl Try.func36 (by kernel_rfl) rfl #[.string t432] rfl (by (try simp only [List.map_toArray, List.map_cons, List.map_nil]); first | done | rfl | (simp only [List.length_drop, List.length_take]; rfl)) ?_; (with_reducible refine (pack_Unfixed.calls kj5 t432 t434 t435 _ A15.out).mono ?_); rintro e w' ⟨rfl, ⟨nd, rfl⟩⟩; refine ⟨_, rfl, ?_⟩))
                  go_meet
                  case rel => exact ⟨_, H', ⟨by have := HJ5.out; first | omega | exact Nat.le_refl _⟩, ⟨by repeat (first | (with_reducible first | exact HB.out | apply below_alloc | apply pw_below_drewN | apply below_drew1) | exact HB.out)⟩⟩
                · rw [if_neg c18] at H
                  have c18b0 : ((t432.size : Int) == a1) = false := beq_eq_false_iff_ne.mpr c18
                  have c18b1 : ((t432.size : Int) != a1) = true := bne_iff_ne.mpr c18
                  obtain rfl := Option.some.inj H
                  go_wp2_with (first | ((with_reducible refine gate_callee (f := 36) rfl ?_); refine goesL_ (some 52) rfl rfl Try.func36 (by kernel_rfl) rfl #[.string t432] rfl (by (try simp only [List.map_toArray, List.map_cons, List.map_nil]); first | done | rfl | (simp only [List.length_drop, List.length_take]; rfl)) ?_; (with_reducible refine (pack_Unfixed.calls kj5 t432 t434 t435 _ A15.out).mono ?_); rintro e w' ⟨rfl, ⟨nd, rfl⟩⟩; refine ⟨_, rfl, ?_⟩))
                  go_ret
                  exact ⟨by first | rfl | (simp [errW_none, errW_some] <;> rfl) | (simp [*, errW_none, errW_some] <;> rfl), by repeat (first | (with_reducible first | exact HB.out | apply below_alloc | apply pw_below_drewN | apply below_drew1) | exact HB.out)⟩
              · rw [if_neg c17] at H
                have c17b0 : (t435 == 0) = false := beq_eq_false_iff_ne.mpr c17
                have c17b1 : (t435 != 0) = true := bne_iff_ne.mpr c17
                obtain rfl := Option.some.inj H
                go_wp2_with (first | ((with_reducible refine gate_callee (f := 36) rfl ?_); refine goesL_ (some 52) rfl rfl Try.func36 (by kernel_rfl) rfl #[.string t432] rfl (by (try simp only [List.map_toArray, List.map_cons, List.map_nil]); first | done | rfl | (simp only [List.length_drop, List.length_take]; rfl)) ?_; (with_reducible refine (pack_Unfixed.calls kj5 t432 t434 t435 _ A15.out).mono ?_); rintro e w' ⟨rfl, ⟨nd, rfl⟩⟩; refine ⟨_, rfl, ?_⟩))
                go_ret
                exact ⟨by first | rfl | (simp [errW_none, errW_some] <;> rfl) | (simp [*, errW_none, errW_some] <;> rfl), by repeat (first | (with_reducible first | exact HB.out | apply below_alloc | apply pw_below_drewN | apply below_drew1) | exact HB.out)⟩
            · rw [if_neg c16] at H
              have c16b0 : (t434 == a0) = false := beq_eq_false_iff_ne.mpr c16
              have c16b1 : (t434 != a0) = true := bne_iff_ne.mpr c16
              obtain rfl := Option.some.inj H
              go_wp2_with (first | ((with_reducible refine gate_callee (f := 36) rfl ?_); refine goesL_ (some 52) rfl rfl Try.func36 (by kernel_rfl) rfl #[.string t432] rfl (by (try simp only [List.map_toArray, List.map_cons, List.map_nil]); first | done | rfl | (simp only [List.length_drop, List.length_take]; rfl)) ?_; (with_reducible refine (pack_Unfixed.calls kj5 t432 t434 t435 _ A15.out).mono ?_); rintro e w' ⟨rfl, ⟨nd, rfl⟩⟩; refine ⟨_, rfl, ?_⟩))
              go_ret
              exact ⟨by first | rfl | (simp [errW_none, errW_some] <;> rfl) | (simp [*, errW_none, errW_some] <;> rfl), by repeat (first | (with_reducible first | exact HB.out | apply below_alloc | apply pw_below_drewN | apply below_drew1) | exact HB.out)⟩
          · rw [if_neg c14] at H
            have c14b0 : (t433 == 0) = false := beq_eq_false_iff_ne.mpr c14
            have c14b1 : (t433 != 0) = true := bne_iff_ne.mpr c14
            (first | rw [c14b0] | (simp only [i64_w, i32_w]; rw [c14b0]) | skip)
            have H' := Aside0.mk H
            clear H
            go_wp2
            go_meet
            case rel => exact ⟨_, H', ⟨by have := HJ5.out; first | omega | exact Nat.le_refl _⟩, ⟨by repeat (first | (with_reducible first | exact HB.out | apply below_alloc | apply pw_below_drewN | apply below_drew1) | exact HB.out)⟩⟩
        case rest =>
          clear HC12
          try clear c1
          try clear c2
          try clear p2
          try clear c3
          try clear c7
          try clear c7b0
          try clear c7b1
          try clear c8
          try clear c14
          try clear c14b0
          try clear c14b1
          try clear c16
          try clear c16b0
          try clear c16b1
          try clear c17
          try clear c17b0
          try clear c17b1
          try clear c18
          try clear c18b0
          try clear c18b1
          try clear p2
          obtain ⟨kq, HA, HJ11, HB⟩ := hcut
          cases kq with
          | zero => exact absurd HA.out (by simp [sacristanlaw02_PackBack.j1])
          | succ kj11 =>
            have H := HA.out
            clear HA
            simp only [sacristanlaw02_PackBack.j1] at H
            replace H := Option.bind_eq_some_iff.mp H
            obtain ⟨t436, A190, H⟩ := H
            replace H : (if t436.size + a4.size ≤ 9223372036854775807 then ((pack_Unvar.f kj11 (t436 ++ a4)).bind fun bt437 => ((pack_Int.f a2).bind fun t440 => (if t440.size + a4.size ≤ 9223372036854775807 then ((pack_Unint.f kj11 (t440 ++ a4)).bind fun bt441 => ((pack_Text.f a3).bind fun t444 => (if t444.size + a4.size ≤ 9223372036854775807 then ((pack_Untext.f kj11 (t444 ++ a4)).bind fun bt445 => (if bt437.1 = a0 then (if bt437.2.1.toList = a4.toList then (if bt437.2.2 = 0 then (if bt441.1 = a2 then (if bt441.2.1.toList = a4.toList then (if bt441.2.2 = 0 then (if bt445.1.toList = a3.toList then (if bt445.2.1.toList = a4.toList then (sacristanlaw02_PackBack.j2 kj11 a4 (bt445.2.2 != 0)) else (sacristanlaw02_PackBack.j2 kj11 a4 true)) else (sacristanlaw02_PackBack.j2 kj11 a4 true)) else (sacristanlaw02_PackBack.j2 kj11 a4 true)) else (sacristanlaw02_PackBack.j2 kj11 a4 true)) else (sacristanlaw02_PackBack.j2 kj11 a4 true)) else (sacristanlaw02_PackBack.j2 kj11 a4 true)) else (sacristanlaw02_PackBack.j2 kj11 a4 true)) else (sacristanlaw02_PackBack.j2 kj11 a4 true))) else (none)))) else (none)))) else (none)) = some r := H
            have A19 := Aside0.mk A190
            clear A190
            by_cases c20 : t436.size + a4.size ≤ 9223372036854775807
            · rw [if_pos c20] at H
              have c20b0 := eq_true c20
              have c20b1 : decide (t436.size + a4.size ≤ 9223372036854775807) = true := decide_eq_true c20
              try have c20b2 : (9223372036854775807 < t436.size + a4.size) = False := eq_false (Nat.not_lt.2 c20)
              replace H := Option.bind_eq_some_iff.mp H
              obtain ⟨⟨t437, t438, t439⟩, A210, H⟩ := H
              replace H : ((pack_Int.f a2).bind fun t440 => (if t440.size + a4.size ≤ 9223372036854775807 then ((pack_Unint.f kj11 (t440 ++ a4)).bind fun bt441 => ((pack_Text.f a3).bind fun t444 => (if t444.size + a4.size ≤ 9223372036854775807 then ((pack_Untext.f kj11 (t444 ++ a4)).bind fun bt445 => (if t437 = a0 then (if t438.toList = a4.toList then (if t439 = 0 then (if bt441.1 = a2 then (if bt441.2.1.toList = a4.toList then (if bt441.2.2 = 0 then (if bt445.1.toList = a3.toList then (if bt445.2.1.toList = a4.toList then (sacristanlaw02_PackBack.j2 kj11 a4 (bt445.2.2 != 0)) else (sacristanlaw02_PackBack.j2 kj11 a4 true)) else (sacristanlaw02_PackBack.j2 kj11 a4 true)) else (sacristanlaw02_PackBack.j2 kj11 a4 true)) else (sacristanlaw02_PackBack.j2 kj11 a4 true)) else (sacristanlaw02_PackBack.j2 kj11 a4 true)) else (sacristanlaw02_PackBack.j2 kj11 a4 true)) else (sacristanlaw02_PackBack.j2 kj11 a4 true)) else (sacristanlaw02_PackBack.j2 kj11 a4 true))) else (none)))) else (none))) = some r := H
              have A21 := Aside0.mk A210
              clear A210
              replace H := Option.bind_eq_some_iff.mp H
              obtain ⟨t440, A220, H⟩ := H
              replace H : (if t440.size + a4.size ≤ 9223372036854775807 then ((pack_Unint.f kj11 (t440 ++ a4)).bind fun bt441 => ((pack_Text.f a3).bind fun t444 => (if t444.size + a4.size ≤ 9223372036854775807 then ((pack_Untext.f kj11 (t444 ++ a4)).bind fun bt445 => (if t437 = a0 then (if t438.toList = a4.toList then (if t439 = 0 then (if bt441.1 = a2 then (if bt441.2.1.toList = a4.toList then (if bt441.2.2 = 0 then (if bt445.1.toList = a3.toList then (if bt445.2.1.toList = a4.toList then (sacristanlaw02_PackBack.j2 kj11 a4 (bt445.2.2 != 0)) else (sacristanlaw02_PackBack.j2 kj11 a4 true)) else (sacristanlaw02_PackBack.j2 kj11 a4 true)) else (sacristanlaw02_PackBack.j2 kj11 a4 true)) else (sacristanlaw02_PackBack.j2 kj11 a4 true)) else (sacristanlaw02_PackBack.j2 kj11 a4 true)) else (sacristanlaw02_PackBack.j2 kj11 a4 true)) else (sacristanlaw02_PackBack.j2 kj11 a4 true)) else (sacristanlaw02_PackBack.j2 kj11 a4 true))) else (none)))) else (none)) = some r := H
              have A22 := Aside0.mk A220
              clear A220
              by_cases c23 : t440.size + a4.size ≤ 9223372036854775807
              · rw [if_pos c23] at H
                have c23b0 := eq_true c23
                have c23b1 : decide (t440.size + a4.size ≤ 9223372036854775807) = true := decide_eq_true c23
                try have c23b2 : (9223372036854775807 < t440.size + a4.size) = False := eq_false (Nat.not_lt.2 c23)
                replace H := Option.bind_eq_some_iff.mp H
                obtain ⟨⟨t441, t442, t443⟩, A240, H⟩ := H
                replace H : ((pack_Text.f a3).bind fun t444 => (if t444.size + a4.size ≤ 9223372036854775807 then ((pack_Untext.f kj11 (t444 ++ a4)).bind fun bt445 => (if t437 = a0 then (if t438.toList = a4.toList then (if t439 = 0 then (if t441 = a2 then (if t442.toList = a4.toList then (if t443 = 0 then (if bt445.1.toList = a3.toList then (if bt445.2.1.toList = a4.toList then (sacristanlaw02_PackBack.j2 kj11 a4 (bt445.2.2 != 0)) else (sacristanlaw02_PackBack.j2 kj11 a4 true)) else (sacristanlaw02_PackBack.j2 kj11 a4 true)) else (sacristanlaw02_PackBack.j2 kj11 a4 true)) else (sacristanlaw02_PackBack.j2 kj11 a4 true)) else (sacristanlaw02_PackBack.j2 kj11 a4 true)) else (sacristanlaw02_PackBack.j2 kj11 a4 true)) else (sacristanlaw02_PackBack.j2 kj11 a4 true)) else (sacristanlaw02_PackBack.j2 kj11 a4 true))) else (none))) = some r := H
                have A24 := Aside0.mk A240
                clear A240
                replace H := Option.bind_eq_some_iff.mp H
                obtain ⟨t444, A250, H⟩ := H
                replace H : (if t444.size + a4.size ≤ 9223372036854775807 then ((pack_Untext.f kj11 (t444 ++ a4)).bind fun bt445 => (if t437 = a0 then (if t438.toList = a4.toList then (if t439 = 0 then (if t441 = a2 then (if t442.toList = a4.toList then (if t443 = 0 then (if bt445.1.toList = a3.toList then (if bt445.2.1.toList = a4.toList then (sacristanlaw02_PackBack.j2 kj11 a4 (bt445.2.2 != 0)) else (sacristanlaw02_PackBack.j2 kj11 a4 true)) else (sacristanlaw02_PackBack.j2 kj11 a4 true)) else (sacristanlaw02_PackBack.j2 kj11 a4 true)) else (sacristanlaw02_PackBack.j2 kj11 a4 true)) else (sacristanlaw02_PackBack.j2 kj11 a4 true)) else (sacristanlaw02_PackBack.j2 kj11 a4 true)) else (sacristanlaw02_PackBack.j2 kj11 a4 true)) else (sacristanlaw02_PackBack.j2 kj11 a4 true))) else (none)) = some r := H
                have A25 := Aside0.mk A250
                clear A250
                by_cases c26 : t444.size + a4.size ≤ 9223372036854775807
                · rw [if_pos c26] at H
                  have c26b0 := eq_true c26
                  have c26b1 : decide (t444.size + a4.size ≤ 9223372036854775807) = true := decide_eq_true c26
                  try have c26b2 : (9223372036854775807 < t444.size + a4.size) = False := eq_false (Nat.not_lt.2 c26)
                  replace H := Option.bind_eq_some_iff.mp H
                  obtain ⟨⟨t445, t446, t447⟩, A270, H⟩ := H
                  replace H : (if t437 = a0 then (if t438.toList = a4.toList then (if t439 = 0 then (if t441 = a2 then (if t442.toList = a4.toList then (if t443 = 0 then (if t445.toList = a3.toList then (if t446.toList = a4.toList then (sacristanlaw02_PackBack.j2 kj11 a4 (t447 != 0)) else (sacristanlaw02_PackBack.j2 kj11 a4 true)) else (sacristanlaw02_PackBack.j2 kj11 a4 true)) else (sacristanlaw02_PackBack.j2 kj11 a4 true)) else (sacristanlaw02_PackBack.j2 kj11 a4 true)) else (sacristanlaw02_PackBack.j2 kj11 a4 true)) else (sacristanlaw02_PackBack.j2 kj11 a4 true)) else (sacristanlaw02_PackBack.j2 kj11 a4 true)) else (sacristanlaw02_PackBack.j2 kj11 a4 true)) = some r := H
                  have A27 := Aside0.mk A270
                  clear A270
                  have HC28 := Aside0.mk H
                  clear H
                  go_upto_region 11 with (first | ((with_reducible refine gate_callee (f := 27) rfl ?_); refine goesL_ (some 70) rfl rfl Try.func27 (by kernel_rfl) rfl #[.int .u64 a0] rfl (by (try simp only [List.map_toArray, List.map_cons, List.map_nil]); first | done | rfl | (simp only [List.length_drop, List.length_take]; rfl)) ?_; (with_reducible refine (pack_Var.calls a0 t436 _ A19.out).mono ?_); rintro e w29 ⟨rfl, hb⟩; refine ⟨_, rfl, ?_⟩; have n0_ := Aside0.mk (below_step (by repeat (first | (with_reducible first | exact HB.out | apply below_alloc | apply pw_below_drewN | apply below_drew1) | exact HB.out)) hb); clear HB; have HB := n0_; clear n0_; (try clear hb); (try clear hb2); (try clear hk); (try clear hi)) | ((with_reducible refine gate_callee (f := 37) rfl ?_); refine goesL_ (some 73) rfl rfl Try.func37 (by kernel_rfl) rfl #[.string (t436 ++ a4)] rfl (by (try simp only [List.map_toArray, List.map_cons, List.map_nil]); first | done | rfl | (simp only [List.length_drop, List.length_take]; rfl)) ?_; (with_reducible refine (pack_Unvar.calls kj11 (t436 ++ a4) t437 t438 t439 _ A21.out).mono ?_); rintro e w' ⟨rfl, ⟨nd, rfl⟩⟩; refine ⟨_, rfl, ?_⟩) | ((with_reducible refine gate_callee (f := 31) rfl ?_); refine goesL_ (some 79) rfl rfl Try.func31 (by kernel_rfl) rfl #[.int .i64 a2] rfl (by (try simp only [List.map_toArray, List.map_cons, List.map_nil]); first | done | rfl | (simp only [List.length_drop, List.length_take]; rfl)) ?_; (with_reducible refine (pack_Int.calls a2 t440 _ A22.out).mono ?_); rintro e w30 ⟨rfl, hb⟩; refine ⟨_, rfl, ?_⟩; have n0_ := Aside0.mk (below_step (by repeat (first | (with_reducible first | exact HB.out | apply below_alloc | apply pw_below_drewN | apply below_drew1) | exact HB.out)) hb); clear HB; have HB := n0_; clear n0_; (try clear hb); (try clear hb2); (try clear hk); (try clear hi)) | ((with_reducible refine gate_callee (f := 39) rfl ?_); refine goesL_ (some 82) rfl rfl Try.func39 (by kernel_rfl) rfl #[.string (t440 ++ a4)] rfl (by (try simp only [List.map_toArray, List.map_cons, List.map_nil]); first | done | rfl | (simp only [List.length_drop, List.length_take]; rfl)) ?_; (with_reducible refine (pack_Unint.calls kj11 (t440 ++ a4) t441 t442 t443 _ A24.out).mono ?_); rintro e w' ⟨rfl, ⟨nd, rfl⟩⟩; refine ⟨_, rfl, ?_⟩) | ((with_reducible refine gate_callee (f := 33) rfl ?_); refine goesL_ (some 88) rfl rfl Try.func33 (by kernel_rfl) rfl #[.string a3] rfl (by (try simp only [List.map_toArray, List.map_cons, List.map_nil]); first | done | rfl | (simp only [List.length_drop, List.length_take]; rfl)) ?_; (with_reducible refine (pack_Text.calls a3 t444 _ A25.out).mono ?_); rintro e w31 ⟨rfl, hb⟩; refine ⟨_, rfl, ?_⟩; have n0_ := Aside0.mk (below_step (by repeat (first | (with_reducible first | exact HB.out | apply below_alloc | apply pw_below_drewN | apply below_drew1) | exact HB.out)) hb); clear HB; have HB := n0_; clear n0_; (try clear hb); (try clear hb2); (try clear hk); (try clear hi)) | ((with_reducible refine gate_callee (f := 38) rfl ?_); refine goesL_ (some 91) rfl rfl Try.func38 (by kernel_rfl) rfl #[.string (t444 ++ a4)] rfl (by (try simp only [List.map_toArray, List.map_cons, List.map_nil]); first | done | rfl | (simp only [List.length_drop, List.length_take]; rfl)) ?_; (with_reducible refine (pack_Untext.calls kj11 (t444 ++ a4) t445 t446 t447 _ A27.out).mono ?_); rintro e w' ⟨rfl, ⟨nd, rfl⟩⟩; refine ⟨_, rfl, ?_⟩))
                  (try simp only [Act.put, List.setIfInBounds_toArray, List.set_cons_zero, List.set_cons_succ])
                  go_cut [134] (fun v134 wc => ∃ (kq : Nat) (x134_27 : Bool), v134 = .bool x134_27 ∧ Aside0 (sacristanlaw02_PackBack.j2 kq a4 x134_27 = some r) ∧ Aside0 (kq ≤ kj11) ∧ Aside0 (Below w.heap.size w wc))
                  case first =>
                    have H := HC28.out
                    clear HC28
                    by_cases c32 : t437 = a0
                    · rw [if_pos c32] at H
                      have c32b0 : (t437 == a0) = true := beq_iff_eq.mpr c32
                      have c32b1 : (t437 != a0) = false := bne_eq_false_iff_eq.mpr c32
                      clear c32
                      (first | rw [c32b0] | (simp only [i64_w, i32_w]; rw [c32b0]) | skip)
                      by_cases c33 : t438.toList = a4.toList
                      · rw [if_pos c33] at H
                        have c33b0 : (t438.toList == a4.toList) = true := beq_iff_eq.mpr c33
                        have c33b1 : (t438.toList != a4.toList) = false := bne_eq_false_iff_eq.mpr c33
                        clear c33
                        by_cases c34 : t439 = 0
                        · rw [if_pos c34] at H
                          have c34b0 : (t439 == 0) = true := beq_iff_eq.mpr c34
                          have c34b1 : (t439 != 0) = false := bne_eq_false_iff_eq.mpr c34
                          clear c34
                          by_cases c35 : t441 = a2
                          · rw [if_pos c35] at H
                            have c35b0 : (t441 == a2) = true := beq_iff_eq.mpr c35
                            have c35b1 : (t441 != a2) = false := bne_eq_false_iff_eq.mpr c35
                            clear c35
                            by_cases c36 : t442.toList = a4.toList
                            · rw [if_pos c36] at H
                              have c36b0 : (t442.toList == a4.toList) = true := beq_iff_eq.mpr c36
                              have c36b1 : (t442.toList != a4.toList) = false := bne_eq_false_iff_eq.mpr c36
                              clear c36
                              by_cases c37 : t443 = 0
                              · rw [if_pos c37] at H
                                have c37b0 : (t443 == 0) = true := beq_iff_eq.mpr c37
                                have c37b1 : (t443 != 0) = false := bne_eq_false_iff_eq.mpr c37
                                clear c37
                                by_cases c38 : t445.toList = a3.toList
                                · rw [if_pos c38] at H
                                  have c38b0 : (t445.toList == a3.toList) = true := beq_iff_eq.mpr c38
                                  have c38b1 : (t445.toList != a3.toList) = false := bne_eq_false_iff_eq.mpr c38
                                  clear c38
                                  by_cases c39 : t446.toList = a4.toList
                                  · rw [if_pos c39] at H
                                    have c39b0 : (t446.toList == a4.toList) = true := beq_iff_eq.mpr c39
                                    have c39b1 : (t446.toList != a4.toList) = false := bne_eq_false_iff_eq.mpr c39
                                    clear c39
                                    have H' := Aside0.mk H
                                    clear H
                                    go_wp2
                                    go_meet
                                    case rel => exact ⟨_, ((t447 != 0)), (by first | rfl | (simp; done) | (simp [*]; done)), H', ⟨by have := HJ5.out; have := HJ11.out; first | omega | exact Nat.le_refl _⟩, ⟨by repeat (first | (with_reducible first | exact HB.out | apply below_alloc | apply pw_below_drewN | apply below_drew1) | exact HB.out)⟩⟩
                                  · rw [if_neg c39] at H
                                    have c39b0 : (t446.toList == a4.toList) = false := beq_eq_false_iff_ne.mpr c39
                                    have c39b1 : (t446.toList != a4.toList) = true := bne_iff_ne.mpr c39
                                    have H' := Aside0.mk H
                                    clear H
                                    go_wp2
                                    go_meet
                                    case rel => exact ⟨_, (true), (by first | rfl | (simp; done) | (simp [*]; done)), H', ⟨by have := HJ5.out; have := HJ11.out; first | omega | exact Nat.le_refl _⟩, ⟨by repeat (first | (with_reducible first | exact HB.out | apply below_alloc | apply pw_below_drewN | apply below_drew1) | exact HB.out)⟩⟩
                                · rw [if_neg c38] at H
                                  have c38b0 : (t445.toList == a3.toList) = false := beq_eq_false_iff_ne.mpr c38
                                  have c38b1 : (t445.toList != a3.toList) = true := bne_iff_ne.mpr c38
                                  have H' := Aside0.mk H
                                  clear H
                                  go_wp2
                                  go_meet
                                  case rel => exact ⟨_, (true), (by first | rfl | (simp; done) | (simp [*]; done)), H', ⟨by have := HJ5.out; have := HJ11.out; first | omega | exact Nat.le_refl _⟩, ⟨by repeat (first | (with_reducible first | exact HB.out | apply below_alloc | apply pw_below_drewN | apply below_drew1) | exact HB.out)⟩⟩
                              · rw [if_neg c37] at H
                                have c37b0 : (t443 == 0) = false := beq_eq_false_iff_ne.mpr c37
                                have c37b1 : (t443 != 0) = true := bne_iff_ne.mpr c37
                                have H' := Aside0.mk H
                                clear H
                                go_wp2
                                go_meet
                                case rel => exact ⟨_, (true), (by first | rfl | (simp; done) | (simp [*]; done)), H', ⟨by have := HJ5.out; have := HJ11.out; first | omega | exact Nat.le_refl _⟩, ⟨by repeat (first | (with_reducible first | exact HB.out | apply below_alloc | apply pw_below_drewN | apply below_drew1) | exact HB.out)⟩⟩
                            · rw [if_neg c36] at H
                              have c36b0 : (t442.toList == a4.toList) = false := beq_eq_false_iff_ne.mpr c36
                              have c36b1 : (t442.toList != a4.toList) = true := bne_iff_ne.mpr c36
                              have H' := Aside0.mk H
                              clear H
                              go_wp2
                              go_meet
                              case rel => exact ⟨_, (true), (by first | rfl | (simp; done) | (simp [*]; done)), H', ⟨by have := HJ5.out; have := HJ11.out; first | omega | exact Nat.le_refl _⟩, ⟨by repeat (first | (with_reducible first | exact HB.out | apply below_alloc | apply pw_below_drewN | apply below_drew1) | exact HB.out)⟩⟩
                          · rw [if_neg c35] at H
                            have c35b0 : (t441 == a2) = false := beq_eq_false_iff_ne.mpr c35
                            have c35b1 : (t441 != a2) = true := bne_iff_ne.mpr c35
                            have H' := Aside0.mk H
                            clear H
                            go_wp2
                            go_meet
                            case rel => exact ⟨_, (true), (by first | rfl | (simp; done) | (simp [*]; done)), H', ⟨by have := HJ5.out; have := HJ11.out; first | omega | exact Nat.le_refl _⟩, ⟨by repeat (first | (with_reducible first | exact HB.out | apply below_alloc | apply pw_below_drewN | apply below_drew1) | exact HB.out)⟩⟩
                        · rw [if_neg c34] at H
                          have c34b0 : (t439 == 0) = false := beq_eq_false_iff_ne.mpr c34
                          have c34b1 : (t439 != 0) = true := bne_iff_ne.mpr c34
                          have H' := Aside0.mk H
                          clear H
                          go_wp2
                          go_meet
                          case rel => exact ⟨_, (true), (by first | rfl | (simp; done) | (simp [*]; done)), H', ⟨by have := HJ5.out; have := HJ11.out; first | omega | exact Nat.le_refl _⟩, ⟨by repeat (first | (with_reducible first | exact HB.out | apply below_alloc | apply pw_below_drewN | apply below_drew1) | exact HB.out)⟩⟩
                      · rw [if_neg c33] at H
                        have c33b0 : (t438.toList == a4.toList) = false := beq_eq_false_iff_ne.mpr c33
                        have c33b1 : (t438.toList != a4.toList) = true := bne_iff_ne.mpr c33
                        have H' := Aside0.mk H
                        clear H
                        go_wp2
                        go_meet
                        case rel => exact ⟨_, (true), (by first | rfl | (simp; done) | (simp [*]; done)), H', ⟨by have := HJ5.out; have := HJ11.out; first | omega | exact Nat.le_refl _⟩, ⟨by repeat (first | (with_reducible first | exact HB.out | apply below_alloc | apply pw_below_drewN | apply below_drew1) | exact HB.out)⟩⟩
                    · rw [if_neg c32] at H
                      have c32b0 : (t437 == a0) = false := beq_eq_false_iff_ne.mpr c32
                      have c32b1 : (t437 != a0) = true := bne_iff_ne.mpr c32
                      (first | rw [c32b0] | (simp only [i64_w, i32_w]; rw [c32b0]) | skip)
                      have H' := Aside0.mk H
                      clear H
                      go_wp2
                      go_meet
                      case rel => exact ⟨_, (true), (by first | rfl | (simp; done) | (simp [*]; done)), H', ⟨by have := HJ5.out; have := HJ11.out; first | omega | exact Nat.le_refl _⟩, ⟨by repeat (first | (with_reducible first | exact HB.out | apply below_alloc | apply pw_below_drewN | apply below_drew1) | exact HB.out)⟩⟩
                  case rest =>
                    clear HC28
                    try clear c1
                    try clear c2
                    try clear p2
                    try clear c3
                    try clear c7
                    try clear c7b0
                    try clear c7b1
                    try clear c8
                    try clear c14
                    try clear c14b0
                    try clear c14b1
                    try clear c16
                    try clear c16b0
                    try clear c16b1
                    try clear c17
                    try clear c17b0
                    try clear c17b1
                    try clear c18
                    try clear c18b0
                    try clear c18b1
                    try clear c20
                    try clear c20b0
                    try clear c20b1
                    try clear c20b2
                    try clear c23
                    try clear c23b0
                    try clear c23b1
                    try clear c23b2
                    try clear c26
                    try clear c26b0
                    try clear c26b1
                    try clear c26b2
                    try clear c27
                    try clear c28
                    try clear c31
                    try clear c32
                    try clear c32b0
                    try clear c32b1
                    try clear c33
                    try clear c33b0
                    try clear c33b1
                    try clear c34
                    try clear c34b0
                    try clear c34b1
                    try clear c35
                    try clear c35b0
                    try clear c35b1
                    try clear c36
                    try clear c36b0
                    try clear c36b1
                    try clear c37
                    try clear c37b0
                    try clear c37b1
                    try clear c38
                    try clear c38b0
                    try clear c38b1
                    try clear c39
                    try clear c39b0
                    try clear c39b1
                    try clear p2
                    obtain ⟨kq, x134_27, rfl, HA, HJ27, HB⟩ := hcut
                    cases kq with
                    | zero => exact absurd HA.out (by simp [sacristanlaw02_PackBack.j2])
                    | succ kj27 =>
                      have H := HA.out
                      clear HA
                      simp only [sacristanlaw02_PackBack.j2] at H
                      by_cases c40 : x134_27 = true
                      · subst c40
                        have H1 : (some false) = some r := by rw [if_pos rfl] at H; exact H
                        clear H
                        have H := H1
                        clear H1
                        obtain rfl := Option.some.inj H
                        go_wp2
                        go_ret
                        exact ⟨by first | rfl | (simp [errW_none, errW_some] <;> rfl) | (simp [*, errW_none, errW_some] <;> rfl), by repeat (first | (with_reducible first | exact HB.out | apply below_alloc | apply pw_below_drewN | apply below_drew1) | exact HB.out)⟩
                      · replace c40 := Bool.eq_false_iff.mpr c40
                        subst c40
                        have H1 : ((pack_Unvar.f kj27 a4).bind fun bt448 => (if bt448.2.2 = 0 then ((pack_Var.f bt448.1).bind fun t451 => (if t451.size + bt448.2.1.size ≤ 9223372036854775807 then (sacristanlaw02_PackBack.j3 kj27 a4 ((t451 ++ bt448.2.1).toList != a4.toList)) else (none))) else (sacristanlaw02_PackBack.j3 kj27 a4 false))) = some r := by rw [if_neg (show ¬ (false = true) by decide)] at H; exact H
                        clear H
                        have H := H1
                        clear H1
                        replace H := Option.bind_eq_some_iff.mp H
                        obtain ⟨⟨t448, t449, t450⟩, A410, H⟩ := H
                        replace H : (if t450 = 0 then ((pack_Var.f t448).bind fun t451 => (if t451.size + t449.size ≤ 9223372036854775807 then (sacristanlaw02_PackBack.j3 kj27 a4 ((t451 ++ t449).toList != a4.toList)) else (none))) else (sacristanlaw02_PackBack.j3 kj27 a4 false)) = some r := H
                        have A41 := Aside0.mk A410
                        clear A410
                        have HC42 := Aside0.mk H
                        clear H
                        go_upto_region 14 with (first | ((with_reducible refine gate_callee (f := 37) rfl ?_); refine goesL_ (some 137) rfl rfl Try.func37 (by kernel_rfl) rfl #[.string a4] rfl (by (try simp only [List.map_toArray, List.map_cons, List.map_nil]); first | done | rfl | (simp only [List.length_drop, List.length_take]; rfl)) ?_; (with_reducible refine (pack_Unvar.calls kj27 a4 t448 t449 t450 _ A41.out).mono ?_); rintro e w' ⟨rfl, ⟨nd, rfl⟩⟩; refine ⟨_, rfl, ?_⟩))
                        (try simp only [Act.put, List.setIfInBounds_toArray, List.set_cons_zero, List.set_cons_succ])
                        go_cut [150] (fun v150 wc => ∃ (kq : Nat) (x150_41 : Bool), v150 = .bool x150_41 ∧ Aside0 (sacristanlaw02_PackBack.j3 kq a4 x150_41 = some r) ∧ Aside0 (kq ≤ kj27) ∧ Aside0 (Below w.heap.size w wc))
                        case first =>
                          have H := HC42.out
                          clear HC42
                          by_cases c43 : t450 = 0
                          · rw [if_pos c43] at H
                            have c43b0 : (t450 == 0) = true := beq_iff_eq.mpr c43
                            have c43b1 : (t450 != 0) = false := bne_eq_false_iff_eq.mpr c43
                            clear c43
                            (first | rw [c43b0] | (simp only [i64_w, i32_w]; rw [c43b0]) | skip)
                            replace H := Option.bind_eq_some_iff.mp H
                            obtain ⟨t451, A440, H⟩ := H
                            replace H : (if t451.size + t449.size ≤ 9223372036854775807 then (sacristanlaw02_PackBack.j3 kj27 a4 ((t451 ++ t449).toList != a4.toList)) else (none)) = some r := H
                            have A44 := Aside0.mk A440
                            clear A440
                            by_cases c45 : t451.size + t449.size ≤ 9223372036854775807
                            · rw [if_pos c45] at H
                              have c45b0 := eq_true c45
                              have c45b1 : decide (t451.size + t449.size ≤ 9223372036854775807) = true := decide_eq_true c45
                              try have c45b2 : (9223372036854775807 < t451.size + t449.size) = False := eq_false (Nat.not_lt.2 c45)
                              have H' := Aside0.mk H
                              clear H
                              go_wp2_with (first | (go_at_call 27; (with_reducible refine (pack_Var.calls t448 t451 _ A44.out).mono ?_); rintro e w46 ⟨rfl, hb⟩; have n0_ := Aside0.mk (below_step (by repeat (first | (with_reducible first | exact HB.out | apply below_alloc | apply pw_below_drewN | apply below_drew1) | exact HB.out)) hb); clear HB; have HB := n0_; clear n0_; (try clear hb); (try clear hb2); (try clear hk); (try clear hi)))
                              go_meet
                              case rel => exact ⟨_, (((t451 ++ t449).toList != a4.toList)), (by first | rfl | (simp; done) | (simp [*]; done)), H', ⟨by have := HJ5.out; have := HJ11.out; have := HJ27.out; first | omega | exact Nat.le_refl _⟩, ⟨by repeat (first | (with_reducible first | exact HB.out | apply below_alloc | apply pw_below_drewN | apply below_drew1) | exact HB.out)⟩⟩
                            · rw [if_neg c45] at H
                              exact absurd H (by simp)
                          · rw [if_neg c43] at H
                            have c43b0 : (t450 == 0) = false := beq_eq_false_iff_ne.mpr c43
                            have c43b1 : (t450 != 0) = true := bne_iff_ne.mpr c43
                            (first | rw [c43b0] | (simp only [i64_w, i32_w]; rw [c43b0]) | skip)
                            have H' := Aside0.mk H
                            clear H
                            go_wp2
                            go_meet
                            case rel => exact ⟨_, (false), (by first | rfl | (simp; done) | (simp [*]; done)), H', ⟨by have := HJ5.out; have := HJ11.out; have := HJ27.out; first | omega | exact Nat.le_refl _⟩, ⟨by repeat (first | (with_reducible first | exact HB.out | apply below_alloc | apply pw_below_drewN | apply below_drew1) | exact HB.out)⟩⟩
                        case rest =>
                          clear HC42
                          try clear c1
                          try clear c2
                          try clear p2
                          try clear c3
                          try clear c4
                          try clear c7
                          try clear c7b0
                          try clear c7b1
                          try clear c8
                          try clear c14
                          try clear c14b0
                          try clear c14b1
                          try clear c16
                          try clear c16b0
                          try clear c16b1
                          try clear c17
                          try clear c17b0
                          try clear c17b1
                          try clear c18
                          try clear c18b0
                          try clear c18b1
                          try clear c20
                          try clear c20b0
                          try clear c20b1
                          try clear c20b2
                          try clear c23
                          try clear c23b0
                          try clear c23b1
                          try clear c23b2
                          try clear c26
                          try clear c26b0
                          try clear c26b1
                          try clear c26b2
                          try clear c27
                          try clear c28
                          try clear c31
                          try clear c32
                          try clear c32b0
                          try clear c32b1
                          try clear c33
                          try clear c33b0
                          try clear c33b1
                          try clear c34
                          try clear c34b0
                          try clear c34b1
                          try clear c35
                          try clear c35b0
                          try clear c35b1
                          try clear c36
                          try clear c36b0
                          try clear c36b1
                          try clear c37
                          try clear c37b0
                          try clear c37b1
                          try clear c38
                          try clear c38b0
                          try clear c38b1
                          try clear c39
                          try clear c39b0
                          try clear c39b1
                          try clear c40
                          try clear c43
                          try clear c43b0
                          try clear c43b1
                          try clear c45
                          try clear c45b0
                          try clear c45b1
                          try clear c45b2
                          try clear p2
                          obtain ⟨kq, x150_41, rfl, HA, HJ41, HB⟩ := hcut
                          cases kq with
                          | zero => exact absurd HA.out (by simp [sacristanlaw02_PackBack.j3])
                          | succ kj41 =>
                            have H := HA.out
                            clear HA
                            simp only [sacristanlaw02_PackBack.j3] at H
                            by_cases c47 : x150_41 = true
                            · subst c47
                              have H1 : (some false) = some r := by rw [if_pos rfl] at H; exact H
                              clear H
                              have H := H1
                              clear H1
                              obtain rfl := Option.some.inj H
                              go_wp2
                              go_ret
                              exact ⟨by first | rfl | (simp [errW_none, errW_some] <;> rfl) | (simp [*, errW_none, errW_some] <;> rfl), by repeat (first | (with_reducible first | exact HB.out | apply below_alloc | apply pw_below_drewN | apply below_drew1) | exact HB.out)⟩
                            · replace c47 := Bool.eq_false_iff.mpr c47
                              subst c47
                              have H1 : ((pack_Unint.f kj41 a4).bind fun bt452 => (if bt452.2.2 = 0 then ((pack_Int.f bt452.1).bind fun t455 => (if t455.size + bt452.2.1.size ≤ 9223372036854775807 then (sacristanlaw02_PackBack.j4 kj41 a4 ((t455 ++ bt452.2.1).toList != a4.toList)) else (none))) else (sacristanlaw02_PackBack.j4 kj41 a4 false))) = some r := by rw [if_neg (show ¬ (false = true) by decide)] at H; exact H
                              clear H
                              have H := H1
                              clear H1
                              replace H := Option.bind_eq_some_iff.mp H
                              obtain ⟨⟨t452, t453, t454⟩, A480, H⟩ := H
                              replace H : (if t454 = 0 then ((pack_Int.f t452).bind fun t455 => (if t455.size + t453.size ≤ 9223372036854775807 then (sacristanlaw02_PackBack.j4 kj41 a4 ((t455 ++ t453).toList != a4.toList)) else (none))) else (sacristanlaw02_PackBack.j4 kj41 a4 false)) = some r := H
                              have A48 := Aside0.mk A480
                              clear A480
                              have HC49 := Aside0.mk H
                              clear H
                              go_upto_region 17 with (first | ((with_reducible refine gate_callee (f := 39) rfl ?_); refine goesL_ (some 153) rfl rfl Try.func39 (by kernel_rfl) rfl #[.string a4] rfl (by (try simp only [List.map_toArray, List.map_cons, List.map_nil]); first | done | rfl | (simp only [List.length_drop, List.length_take]; rfl)) ?_; (with_reducible refine (pack_Unint.calls kj41 a4 t452 t453 t454 _ A48.out).mono ?_); rintro e w' ⟨rfl, ⟨nd, rfl⟩⟩; refine ⟨_, rfl, ?_⟩))
                              (try simp only [Act.put, List.setIfInBounds_toArray, List.set_cons_zero, List.set_cons_succ])
                              go_cut [166] (fun v166 wc => ∃ (kq : Nat) (x166_48 : Bool), v166 = .bool x166_48 ∧ Aside0 (sacristanlaw02_PackBack.j4 kq a4 x166_48 = some r) ∧ Aside0 (kq ≤ kj41) ∧ Aside0 (Below w.heap.size w wc))
                              case first =>
                                have H := HC49.out
                                clear HC49
                                by_cases c50 : t454 = 0
                                · rw [if_pos c50] at H
                                  have c50b0 : (t454 == 0) = true := beq_iff_eq.mpr c50
                                  have c50b1 : (t454 != 0) = false := bne_eq_false_iff_eq.mpr c50
                                  clear c50
                                  (first | rw [c50b0] | (simp only [i64_w, i32_w]; rw [c50b0]) | skip)
                                  replace H := Option.bind_eq_some_iff.mp H
                                  obtain ⟨t455, A510, H⟩ := H
                                  replace H : (if t455.size + t453.size ≤ 9223372036854775807 then (sacristanlaw02_PackBack.j4 kj41 a4 ((t455 ++ t453).toList != a4.toList)) else (none)) = some r := H
                                  have A51 := Aside0.mk A510
                                  clear A510
                                  by_cases c52 : t455.size + t453.size ≤ 9223372036854775807
                                  · rw [if_pos c52] at H
                                    have c52b0 := eq_true c52
                                    have c52b1 : decide (t455.size + t453.size ≤ 9223372036854775807) = true := decide_eq_true c52
                                    try have c52b2 : (9223372036854775807 < t455.size + t453.size) = False := eq_false (Nat.not_lt.2 c52)
                                    have H' := Aside0.mk H
                                    clear H
                                    go_wp2_with (first | (go_at_call 31; (with_reducible refine (pack_Int.calls t452 t455 _ A51.out).mono ?_); rintro e w53 ⟨rfl, hb⟩; have n0_ := Aside0.mk (below_step (by repeat (first | (with_reducible first | exact HB.out | apply below_alloc | apply pw_below_drewN | apply below_drew1) | exact HB.out)) hb); clear HB; have HB := n0_; clear n0_; (try clear hb); (try clear hb2); (try clear hk); (try clear hi)))
                                    go_meet
                                    case rel => exact ⟨_, (((t455 ++ t453).toList != a4.toList)), (by first | rfl | (simp; done) | (simp [*]; done)), H', ⟨by have := HJ5.out; have := HJ11.out; have := HJ27.out; have := HJ41.out; first | omega | exact Nat.le_refl _⟩, ⟨by repeat (first | (with_reducible first | exact HB.out | apply below_alloc | apply pw_below_drewN | apply below_drew1) | exact HB.out)⟩⟩
                                  · rw [if_neg c52] at H
                                    exact absurd H (by simp)
                                · rw [if_neg c50] at H
                                  have c50b0 : (t454 == 0) = false := beq_eq_false_iff_ne.mpr c50
                                  have c50b1 : (t454 != 0) = true := bne_iff_ne.mpr c50
                                  (first | rw [c50b0] | (simp only [i64_w, i32_w]; rw [c50b0]) | skip)
                                  have H' := Aside0.mk H
                                  clear H
                                  go_wp2
                                  go_meet
                                  case rel => exact ⟨_, (false), (by first | rfl | (simp; done) | (simp [*]; done)), H', ⟨by have := HJ5.out; have := HJ11.out; have := HJ27.out; have := HJ41.out; first | omega | exact Nat.le_refl _⟩, ⟨by repeat (first | (with_reducible first | exact HB.out | apply below_alloc | apply pw_below_drewN | apply below_drew1) | exact HB.out)⟩⟩
                              case rest =>
                                clear HC49
                                try clear c1
                                try clear c2
                                try clear p2
                                try clear c3
                                try clear c4
                                try clear c5
                                try clear c7
                                try clear c7b0
                                try clear c7b1
                                try clear c8
                                try clear c14
                                try clear c14b0
                                try clear c14b1
                                try clear c16
                                try clear c16b0
                                try clear c16b1
                                try clear c17
                                try clear c17b0
                                try clear c17b1
                                try clear c18
                                try clear c18b0
                                try clear c18b1
                                try clear c20
                                try clear c20b0
                                try clear c20b1
                                try clear c20b2
                                try clear c23
                                try clear c23b0
                                try clear c23b1
                                try clear c23b2
                                try clear c26
                                try clear c26b0
                                try clear c26b1
                                try clear c26b2
                                try clear c27
                                try clear c28
                                try clear c31
                                try clear c32
                                try clear c32b0
                                try clear c32b1
                                try clear c33
                                try clear c33b0
                                try clear c33b1
                                try clear c34
                                try clear c34b0
                                try clear c34b1
                                try clear c35
                                try clear c35b0
                                try clear c35b1
                                try clear c36
                                try clear c36b0
                                try clear c36b1
                                try clear c37
                                try clear c37b0
                                try clear c37b1
                                try clear c38
                                try clear c38b0
                                try clear c38b1
                                try clear c39
                                try clear c39b0
                                try clear c39b1
                                try clear c40
                                try clear c43
                                try clear c43b0
                                try clear c43b1
                                try clear c45
                                try clear c45b0
                                try clear c45b1
                                try clear c45b2
                                try clear c47
                                try clear c50
                                try clear c50b0
                                try clear c50b1
                                try clear c52
                                try clear c52b0
                                try clear c52b1
                                try clear c52b2
                                try clear p2
                                obtain ⟨kq, x166_48, rfl, HA, HJ48, HB⟩ := hcut
                                cases kq with
                                | zero => exact absurd HA.out (by simp [sacristanlaw02_PackBack.j4])
                                | succ kj48 =>
                                  have H := HA.out
                                  clear HA
                                  simp only [sacristanlaw02_PackBack.j4] at H
                                  by_cases c54 : x166_48 = true
                                  · subst c54
                                    have H1 : (some false) = some r := by rw [if_pos rfl] at H; exact H
                                    clear H
                                    have H := H1
                                    clear H1
                                    obtain rfl := Option.some.inj H
                                    go_wp2
                                    go_ret
                                    exact ⟨by first | rfl | (simp [errW_none, errW_some] <;> rfl) | (simp [*, errW_none, errW_some] <;> rfl), by repeat (first | (with_reducible first | exact HB.out | apply below_alloc | apply pw_below_drewN | apply below_drew1) | exact HB.out)⟩
                                  · replace c54 := Bool.eq_false_iff.mpr c54
                                    subst c54
                                    have H1 : ((pack_Untext.f kj48 a4).bind fun bt456 => (if bt456.2.2 = 0 then ((pack_Text.f bt456.1).bind fun t459 => (if t459.size + bt456.2.1.size ≤ 9223372036854775807 then (if (t459 ++ bt456.2.1).toList = a4.toList then ((sacristanlaw02_known.f kj48).bind fun t460 => (some t460)) else (some false)) else (none))) else ((sacristanlaw02_known.f kj48).bind fun t461 => (some t461)))) = some r := by rw [if_neg (show ¬ (false = true) by decide)] at H; exact H
                                    clear H
                                    have H := H1
                                    clear H1
                                    replace H := Option.bind_eq_some_iff.mp H
                                    obtain ⟨⟨t456, t457, t458⟩, A550, H⟩ := H
                                    replace H : (if t458 = 0 then ((pack_Text.f t456).bind fun t459 => (if t459.size + t457.size ≤ 9223372036854775807 then (if (t459 ++ t457).toList = a4.toList then ((sacristanlaw02_known.f kj48).bind fun t460 => (some t460)) else (some false)) else (none))) else ((sacristanlaw02_known.f kj48).bind fun t461 => (some t461))) = some r := H
                                    have A55 := Aside0.mk A550
                                    clear A550
                                    by_cases c56 : t458 = 0
                                    · rw [if_pos c56] at H
                                      have c56b0 : (t458 == 0) = true := beq_iff_eq.mpr c56
                                      have c56b1 : (t458 != 0) = false := bne_eq_false_iff_eq.mpr c56
                                      clear c56
                                      replace H := Option.bind_eq_some_iff.mp H
                                      obtain ⟨t459, A570, H⟩ := H
                                      replace H : (if t459.size + t457.size ≤ 9223372036854775807 then (if (t459 ++ t457).toList = a4.toList then ((sacristanlaw02_known.f kj48).bind fun t460 => (some t460)) else (some false)) else (none)) = some r := H
                                      have A57 := Aside0.mk A570
                                      clear A570
                                      by_cases c58 : t459.size + t457.size ≤ 9223372036854775807
                                      · rw [if_pos c58] at H
                                        have c58b0 := eq_true c58
                                        have c58b1 : decide (t459.size + t457.size ≤ 9223372036854775807) = true := decide_eq_true c58
                                        try have c58b2 : (9223372036854775807 < t459.size + t457.size) = False := eq_false (Nat.not_lt.2 c58)
                                        by_cases c59 : (t459 ++ t457).toList = a4.toList
                                        · rw [if_pos c59] at H
                                          have c59b0 : ((t459 ++ t457).toList == a4.toList) = true := beq_iff_eq.mpr c59
                                          have c59b1 : ((t459 ++ t457).toList != a4.toList) = false := bne_eq_false_iff_eq.mpr c59
                                          clear c59
                                          replace H := Option.bind_eq_some_iff.mp H
                                          obtain ⟨t460, A600, H⟩ := H
                                          replace H : (some t460) = some r := H
                                          have A60 := Aside0.mk A600
                                          clear A600
                                          obtain rfl := Option.some.inj H
                                          go_wp2_with (first | ((with_reducible refine gate_callee (f := 38) rfl ?_); refine goesL_ (some 169) rfl rfl Try.func38 (by kernel_rfl) rfl #[.string a4] rfl (by (try simp only [List.map_toArray, List.map_cons, List.map_nil]); first | done | rfl | (simp only [List.length_drop, List.length_take]; rfl)) ?_; (with_reducible refine (pack_Untext.calls kj48 a4 t456 t457 t458 _ A55.out).mono ?_); rintro e w' ⟨rfl, ⟨nd, rfl⟩⟩; refine ⟨_, rfl, ?_⟩) | (go_at_call 33; (with_reducible refine (pack_Text.calls t456 t459 _ A57.out).mono ?_); rintro e w61 ⟨rfl, hb⟩; have n0_ := Aside0.mk (below_step (by repeat (first | (with_reducible first | exact HB.out | apply below_alloc | apply pw_below_drewN | apply below_drew1) | exact HB.out)) hb); clear HB; have HB := n0_; clear n0_; (try clear hb); (try clear hb2); (try clear hk); (try clear hi)) | ((with_reducible refine gate_callee (f := 28) rfl ?_); refine goesL_ (some 183) rfl rfl Try.func28 (by kernel_rfl) rfl #[] rfl (by (try simp only [List.map_toArray, List.map_cons, List.map_nil]); first | done | rfl | (simp only [List.length_drop, List.length_take]; rfl)) ?_; (with_reducible refine (sacristanlaw02_known.calls kj48  t460 _ A60.out).mono ?_); rintro e w62 ⟨rfl, hb⟩; refine ⟨_, rfl, ?_⟩; have n0_ := Aside0.mk (below_step (by repeat (first | (with_reducible first | exact HB.out | apply below_alloc | apply pw_below_drewN | apply below_drew1) | exact HB.out)) hb); clear HB; have HB := n0_; clear n0_; (try clear hb); (try clear hb2); (try clear hk); (try clear hi)))
                                          go_ret
                                          exact ⟨by first | rfl | (simp [errW_none, errW_some] <;> rfl) | (simp [*, errW_none, errW_some] <;> rfl), by repeat (first | (with_reducible first | exact HB.out | apply below_alloc | apply pw_below_drewN | apply below_drew1) | exact HB.out)⟩
                                        · rw [if_neg c59] at H
                                          have c59b0 : ((t459 ++ t457).toList == a4.toList) = false := beq_eq_false_iff_ne.mpr c59
                                          have c59b1 : ((t459 ++ t457).toList != a4.toList) = true := bne_iff_ne.mpr c59
                                          obtain rfl := Option.some.inj H
                                          go_wp2_with (first | ((with_reducible refine gate_callee (f := 38) rfl ?_); refine goesL_ (some 169) rfl rfl Try.func38 (by kernel_rfl) rfl #[.string a4] rfl (by (try simp only [List.map_toArray, List.map_cons, List.map_nil]); first | done | rfl | (simp only [List.length_drop, List.length_take]; rfl)) ?_; (with_reducible refine (pack_Untext.calls kj48 a4 t456 t457 t458 _ A55.out).mono ?_); rintro e w' ⟨rfl, ⟨nd, rfl⟩⟩; refine ⟨_, rfl, ?_⟩) | (go_at_call 33; (with_reducible refine (pack_Text.calls t456 t459 _ A57.out).mono ?_); rintro e w63 ⟨rfl, hb⟩; have n0_ := Aside0.mk (below_step (by repeat (first | (with_reducible first | exact HB.out | apply below_alloc | apply pw_below_drewN | apply below_drew1) | exact HB.out)) hb); clear HB; have HB := n0_; clear n0_; (try clear hb); (try clear hb2); (try clear hk); (try clear hi)))
                                          go_ret
                                          exact ⟨by first | rfl | (simp [errW_none, errW_some] <;> rfl) | (simp [*, errW_none, errW_some] <;> rfl), by repeat (first | (with_reducible first | exact HB.out | apply below_alloc | apply pw_below_drewN | apply below_drew1) | exact HB.out)⟩
                                      · rw [if_neg c58] at H
                                        exact absurd H (by simp)
                                    · rw [if_neg c56] at H
                                      have c56b0 : (t458 == 0) = false := beq_eq_false_iff_ne.mpr c56
                                      have c56b1 : (t458 != 0) = true := bne_iff_ne.mpr c56
                                      replace H := Option.bind_eq_some_iff.mp H
                                      obtain ⟨t461, A640, H⟩ := H
                                      replace H : (some t461) = some r := H
                                      have A64 := Aside0.mk A640
                                      clear A640
                                      obtain rfl := Option.some.inj H
                                      go_wp2_with (first | ((with_reducible refine gate_callee (f := 38) rfl ?_); refine goesL_ (some 169) rfl rfl Try.func38 (by kernel_rfl) rfl #[.string a4] rfl (by (try simp only [List.map_toArray, List.map_cons, List.map_nil]); first | done | rfl | (simp only [List.length_drop, List.length_take]; rfl)) ?_; (with_reducible refine (pack_Untext.calls kj48 a4 t456 t457 t458 _ A55.out).mono ?_); rintro e w' ⟨rfl, ⟨nd, rfl⟩⟩; refine ⟨_, rfl, ?_⟩) | ((with_reducible refine gate_callee (f := 28) rfl ?_); refine goesL_ (some 183) rfl rfl Try.func28 (by kernel_rfl) rfl #[] rfl (by (try simp only [List.map_toArray, List.map_cons, List.map_nil]); first | done | rfl | (simp only [List.length_drop, List.length_take]; rfl)) ?_; (with_reducible refine (sacristanlaw02_known.calls kj48  t461 _ A64.out).mono ?_); rintro e w65 ⟨rfl, hb⟩; refine ⟨_, rfl, ?_⟩; have n0_ := Aside0.mk (below_step (by repeat (first | (with_reducible first | exact HB.out | apply below_alloc | apply pw_below_drewN | apply below_drew1) | exact HB.out)) hb); clear HB; have HB := n0_; clear n0_; (try clear hb); (try clear hb2); (try clear hk); (try clear hi)))
                                      go_ret
                                      exact ⟨by first | rfl | (simp [errW_none, errW_some] <;> rfl) | (simp [*, errW_none, errW_some] <;> rfl), by repeat (first | (with_reducible first | exact HB.out | apply below_alloc | apply pw_below_drewN | apply below_drew1) | exact HB.out)⟩
                · rw [if_neg c26] at H
                  exact absurd H (by simp)
              · rw [if_neg c23] at H
                exact absurd H (by simp)
            · rw [if_neg c20] at H
              exact absurd H (by simp)

/-- THE ONE PURE STATEMENT of sacristanlaw02_PackBack: yours. -/
def sacristanlaw02_PackBack.Pure : Prop := ∀ (a0 : Int) (a1 : Int) (a2 : Int) (a3 : ByteArray) (a4 : ByteArray), (Lit.int .u64 a0).wf = true → (Lit.int .i64 a1).wf = true → (Lit.int .i64 a2).wf = true → a3.size ≤ 140737488351232 → a4.size ≤ 140737488351232 → ∃ k, sacristanlaw02_PackBack.f k a0 a1 a2 a3 a4 = some true
theorem sacristanlaw02_PackBack.walk (P : sacristanlaw02_PackBack.Pure) (a0 : Int) (a1 : Int) (a2 : Int) (a3 : ByteArray) (a4 : ByteArray) (w : World) (w0 : (Lit.int .u64 a0).wf = true) (w1 : (Lit.int .i64 a1).wf = true) (w2 : (Lit.int .i64 a2).wf = true) (w3 : a3.size ≤ 140737488351232) (w4 : a4.size ≤ 140737488351232) :
    Calls Try.prog 14 #[.int .u64 a0, .int .i64 a1, .int .i64 a2, .string a3, .string a4] w fun e w' => e = .returned (.bool true) ∧ Below w.heap.size w w' := by
  obtain ⟨k, h⟩ := P a0 a1 a2 a3 a4 w0 w1 w2 w3 w4
  refine (sacristanlaw02_PackBack.calls k a0 a1 a2 a3 a4 true w h).mono ?_
  rintro e w' ⟨rfl, hd⟩
  exact ⟨rfl, hd⟩

end Go.Proofs.Ytipbgeobgppagaa.X
