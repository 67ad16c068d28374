-- Printed by a program of this session (wip/xprint.py) out of the translation.
import Derived.Test.YtipbgeobgppagaaX0
import Derived.Test.YtipbgeobgppagaaX3
import Derived.Test.YtipbgeobgppagaaX5
import Derived.Test.YtipbgeobgppagaaX6
namespace Go.Proofs.Ytipbgeobgppagaa.X
open Go.RowKit Go.Proofs.Ytipbgeobgppagaa.Ext Go.Proofs.YtipbgeobgppagaaW.PrintWords Go.Proofs.YtipbgeobgppagaaW.PrintLast Go.Proofs.YtipbgeobgppagaaW.PrintMore
attribute [local go_sem] max2_int min2_int max_two min_two max_three min_three max_four min_four   -- for this text's walks alone
set_option linter.unusedVariables false
set_option linter.unusedSimpArgs false

/-! ### sacristanref02_Untext: function 43 -/
def sacristanref02_Untext.f (k : Nat) (a0 : ByteArray) : Option (ByteArray × ByteArray × Int) := (sacristanref02_Unvar.f k a0).bind fun bt404 => (if bt404.2.2 = 0 then (if bt404.1 > (IntKind.u64.wrap ((bt404.2.1.size : Int))) then (some ((⟨#[]⟩ : ByteArray), (⟨#[]⟩ : ByteArray), 4)) else (if 0 ≤ bt404.1 then (if bt404.1 ≤ (bt404.2.1.size : Int) then (some (bt404.2.1.extract 0 (bt404.1 : Int).toNat, bt404.2.1.extract (bt404.1 : Int).toNat bt404.2.1.size, 0)) else (none)) else (none))) else (some ((⟨#[]⟩ : ByteArray), (⟨#[]⟩ : ByteArray), 4)))
theorem sacristanref02_Untext.mono : ∀ a0 k, LeO (sacristanref02_Untext.f k a0) (sacristanref02_Untext.f (k + 1) a0) := by
  intro a0 k
  unfold sacristanref02_Untext.f
  repeat' first
      | (with_reducible exact sacristanref02_Unvar.mono _ _)
      | (with_reducible exact LeO.refl _)
      | (with_reducible exact LeO.none _)
      | (with_reducible refine LeO.ite ?_ ?_)
      | (with_reducible refine LeO.bind ?_ (fun _ => ?_))
      | exact sacristanref02_Unvar.mono _ _
      | exact LeO.none _
      | refine LeO.ite ?_ ?_
      | refine LeO.bind ?_ (fun _ => ?_)
set_option maxHeartbeats 8000000 in
set_option maxRecDepth 100000 in
theorem sacristanref02_Untext.calls (k : Nat) (a0 : ByteArray) (r1 : ByteArray) (r2 : ByteArray) (r3 : Int) (w : World) (h : sacristanref02_Untext.f k a0 = some (r1, r2, r3)) :
    Calls Try.prog 43 #[.string a0] w fun e w' => e = .returned (.tuple #[.string r1, .string r2, .int .i64 r3]) ∧ Below w.heap.size w w' := by
  have HB := Aside0.mk (Below.refl w.heap.size w)
  have H : ((sacristanref02_Unvar.f k a0).bind fun bt404 => (if bt404.2.2 = 0 then (if bt404.1 > (IntKind.u64.wrap ((bt404.2.1.size : Int))) then (some ((⟨#[]⟩ : ByteArray), (⟨#[]⟩ : ByteArray), 4)) else (if 0 ≤ bt404.1 then (if bt404.1 ≤ (bt404.2.1.size : Int) then (some (bt404.2.1.extract 0 (bt404.1 : Int).toNat, bt404.2.1.extract (bt404.1 : Int).toNat bt404.2.1.size, 0)) else (none)) else (none))) else (some ((⟨#[]⟩ : ByteArray), (⟨#[]⟩ : ByteArray), 4)))) = some (r1, r2, r3) := h
  clear h
  replace H := Option.bind_eq_some_iff.mp H
  obtain ⟨⟨t404, t405, t406⟩, A20, H⟩ := H
  replace H : (if t406 = 0 then (if t404 > (IntKind.u64.wrap ((t405.size : Int))) then (some ((⟨#[]⟩ : ByteArray), (⟨#[]⟩ : ByteArray), 4)) else (if 0 ≤ t404 then (if t404 ≤ (t405.size : Int) then (some (t405.extract 0 (t404 : Int).toNat, t405.extract (t404 : Int).toNat t405.size, 0)) else (none)) else (none))) else (some ((⟨#[]⟩ : ByteArray), (⟨#[]⟩ : ByteArray), 4))) = some (r1, r2, r3) := H
  have A2 := Aside0.mk A20
  clear A20
  by_cases c3 : t406 = 0
  · rw [if_pos c3] at H
    have c3b0 : (t406 == 0) = true := beq_iff_eq.mpr c3
    have c3b1 : (t406 != 0) = false := bne_eq_false_iff_eq.mpr c3
    clear c3
    by_cases c4 : t404 > (IntKind.u64.wrap ((t405.size : Int)))
    · rw [if_pos c4] at H
      have c4b0 : decide ((IntKind.u64.wrap ((t405.size : Int))) < t404) = true := decide_eq_true c4
      clear c4
      simp only [Option.some.injEq, Prod.mk.injEq] at H
      obtain ⟨rfl, rfl, rfl⟩ := H
      go_enter Try.func43, Try.ntmps43
      go_wp2_with (first | (go_at_call 41; (with_reducible refine (sacristanref02_Unvar.calls k a0 t404 t405 t406 _ A2.out).mono ?_); rintro e w5 ⟨rfl, hb⟩; have n0_ := Aside0.mk (below_step (w := w) (by repeat (first | (with_reducible first | exact HB.out | apply below_alloc | apply pw_below_drewN | apply below_drew1) | exact HB.out)) hb); clear HB; have HB := n0_; clear n0_; (try clear hb); (try clear hb2); (try clear hk); (try clear hi)))
      repeat (go_quiet (first | (go_at_call 41; (with_reducible refine (sacristanref02_Unvar.calls k a0 t404 t405 t406 _ A2.out).mono ?_); rintro e w5 ⟨rfl, hb⟩; have n0_ := Aside0.mk (below_step (w := w) (by repeat (first | (with_reducible first | exact HB.out | apply below_alloc | apply pw_below_drewN | apply below_drew1) | exact HB.out)) hb); clear HB; have HB := n0_; clear n0_; (try clear hb); (try clear hb2); (try clear hk); (try clear hi))); try go_wp2_with (first | (go_at_call 41; (with_reducible refine (sacristanref02_Unvar.calls k a0 t404 t405 t406 _ A2.out).mono ?_); rintro e w5 ⟨rfl, hb⟩; have n0_ := Aside0.mk (below_step (w := w) (by repeat (first | (with_reducible first | exact HB.out | apply below_alloc | apply pw_below_drewN | apply below_drew1) | exact HB.out)) hb); clear HB; have HB := n0_; clear n0_; (try clear hb); (try clear hb2); (try clear hk); (try clear hi))))
      go_ret3
      exact ⟨by first | rfl | (simp [errW_none, errW_some] <;> rfl) | (simp [*, errW_none, errW_some] <;> rfl), by repeat (first | (with_reducible first | exact HB.out | apply below_alloc | apply pw_below_drewN | apply below_drew1) | exact HB.out)⟩
    · rw [if_neg c4] at H
      have c4b0 : decide ((IntKind.u64.wrap ((t405.size : Int))) < t404) = false := decide_eq_false c4
      clear c4
      by_cases c6 : 0 ≤ t404
      · rw [if_pos c6] at H
        have c6b0 := eq_true c6
        have c6b1 : decide (0 ≤ t404) = true := decide_eq_true c6
        clear c6
        by_cases c7 : t404 ≤ (t405.size : Int)
        · rw [if_pos c7] at H
          have c7b0 := eq_true c7
          have c7b1 : decide (t404 ≤ (t405.size : Int)) = true := decide_eq_true c7
          clear c7
          have c8b0 := eq_true (of_decide_eq_true (by first | (with_reducible assumption) | assumption) : 0 ≤ t404)
          have c9b0 := eq_true (of_decide_eq_true (by first | (with_reducible assumption) | assumption) : t404 ≤ (t405.size : Int))
          simp only [Option.some.injEq, Prod.mk.injEq] at H
          obtain ⟨rfl, rfl, rfl⟩ := H
          go_enter Try.func43, Try.ntmps43
          go_wp2_with (first | (go_at_call 41; (with_reducible refine (sacristanref02_Unvar.calls k a0 t404 t405 t406 _ A2.out).mono ?_); rintro e w10 ⟨rfl, hb⟩; have n0_ := Aside0.mk (below_step (w := w) (by repeat (first | (with_reducible first | exact HB.out | apply below_alloc | apply pw_below_drewN | apply below_drew1) | exact HB.out)) hb); clear HB; have HB := n0_; clear n0_; (try clear hb); (try clear hb2); (try clear hk); (try clear hi)))
          repeat (go_quiet (first | (go_at_call 41; (with_reducible refine (sacristanref02_Unvar.calls k a0 t404 t405 t406 _ A2.out).mono ?_); rintro e w10 ⟨rfl, hb⟩; have n0_ := Aside0.mk (below_step (w := w) (by repeat (first | (with_reducible first | exact HB.out | apply below_alloc | apply pw_below_drewN | apply below_drew1) | exact HB.out)) hb); clear HB; have HB := n0_; clear n0_; (try clear hb); (try clear hb2); (try clear hk); (try clear hi))); try go_wp2_with (first | (go_at_call 41; (with_reducible refine (sacristanref02_Unvar.calls k a0 t404 t405 t406 _ A2.out).mono ?_); rintro e w10 ⟨rfl, hb⟩; have n0_ := Aside0.mk (below_step (w := w) (by repeat (first | (with_reducible first | exact HB.out | apply below_alloc | apply pw_below_drewN | apply below_drew1) | exact HB.out)) hb); clear HB; have HB := n0_; clear n0_; (try clear hb); (try clear hb2); (try clear hk); (try clear hi))))
          go_ret3
          exact ⟨by first | rfl | (simp [errW_none, errW_some] <;> rfl) | (simp [*, errW_none, errW_some] <;> rfl), by repeat (first | (with_reducible first | exact HB.out | apply below_alloc | apply pw_below_drewN | apply below_drew1) | exact HB.out)⟩
        · rw [if_neg c7] at H
          exact absurd H (by simp)
      · rw [if_neg c6] at H
        exact absurd H (by simp)
  · rw [if_neg c3] at H
    have c3b0 : (t406 == 0) = false := beq_eq_false_iff_ne.mpr c3
    have c3b1 : (t406 != 0) = true := bne_iff_ne.mpr c3
    simp only [Option.some.injEq, Prod.mk.injEq] at H
    obtain ⟨rfl, rfl, rfl⟩ := H
    go_enter Try.func43, Try.ntmps43
    go_wp2_with (first | (go_at_call 41; (with_reducible refine (sacristanref02_Unvar.calls k a0 t404 t405 t406 _ A2.out).mono ?_); rintro e w11 ⟨rfl, hb⟩; have n0_ := Aside0.mk (below_step (w := w) (by repeat (first | (with_reducible first | exact HB.out | apply below_alloc | apply pw_below_drewN | apply below_drew1) | exact HB.out)) hb); clear HB; have HB := n0_; clear n0_; (try clear hb); (try clear hb2); (try clear hk); (try clear hi)))
    repeat (go_quiet (first | (go_at_call 41; (with_reducible refine (sacristanref02_Unvar.calls k a0 t404 t405 t406 _ A2.out).mono ?_); rintro e w11 ⟨rfl, hb⟩; have n0_ := Aside0.mk (below_step (w := w) (by repeat (first | (with_reducible first | exact HB.out | apply below_alloc | apply pw_below_drewN | apply below_drew1) | exact HB.out)) hb); clear HB; have HB := n0_; clear n0_; (try clear hb); (try clear hb2); (try clear hk); (try clear hi))); try go_wp2_with (first | (go_at_call 41; (with_reducible refine (sacristanref02_Unvar.calls k a0 t404 t405 t406 _ A2.out).mono ?_); rintro e w11 ⟨rfl, hb⟩; have n0_ := Aside0.mk (below_step (w := w) (by repeat (first | (with_reducible first | exact HB.out | apply below_alloc | apply pw_below_drewN | apply below_drew1) | exact HB.out)) hb); clear HB; have HB := n0_; clear n0_; (try clear hb); (try clear hb2); (try clear hk); (try clear hi))))
    go_ret3
    exact ⟨by first | rfl | (simp [errW_none, errW_some] <;> rfl) | (simp [*, errW_none, errW_some] <;> rfl), by repeat (first | (with_reducible first | exact HB.out | apply below_alloc | apply pw_below_drewN | apply below_drew1) | exact HB.out)⟩

/-! ### sacristanlaw02_PackReads: function 13 -/
mutual
def sacristanlaw02_PackReads.j0 : Nat → ByteArray → Bool → Option (Bool)
  | 0, _, _ => none
  | k + 1, x0, x36 => if x36 = true then (some false) else ((pack_Unvar.f k x0).bind fun bt412 => ((sacristanref02_Unvar.f k x0).bind fun bt415 => (if bt412.1 = bt415.1 then (if bt412.2.1.toList = bt415.2.1.toList then (sacristanlaw02_PackReads.j1 k x0 (bt412.2.2 != bt415.2.2)) else (sacristanlaw02_PackReads.j1 k x0 true)) else (sacristanlaw02_PackReads.j1 k x0 true))))
def sacristanlaw02_PackReads.j1 : Nat → ByteArray → Bool → Option (Bool)
  | 0, _, _ => none
  | k + 1, x0, x61 => if x61 = true then (some false) else ((pack_Unint.f k x0).bind fun bt418 => ((sacristanref02_Unint.f k x0).bind fun bt421 => (if bt418.1 = bt421.1 then (if bt418.2.1.toList = bt421.2.1.toList then (sacristanlaw02_PackReads.j2 k x0 (bt418.2.2 != bt421.2.2)) else (sacristanlaw02_PackReads.j2 k x0 true)) else (sacristanlaw02_PackReads.j2 k x0 true))))
def sacristanlaw02_PackReads.j2 : Nat → ByteArray → Bool → Option (Bool)
  | 0, _, _ => none
  | k + 1, x0, x86 => if x86 = true then (some false) else ((pack_Untext.f k x0).bind fun bt424 => ((sacristanref02_Untext.f k x0).bind fun bt427 => (if bt424.1.toList = bt427.1.toList then (if bt424.2.1.toList = bt427.2.1.toList then (if bt424.2.2 = bt427.2.2 then ((sacristanlaw02_known.f k).bind fun t430 => (some t430)) else (some false)) else (some false)) else (some false))))
end
def sacristanlaw02_PackReads.f (k : Nat) (a0 : ByteArray) : Option (Bool) := if (a0.size : Int) > 2000 then ((sacristanlaw02_known.f k).bind fun t407 => (some t407)) else ((pack_Unfixed.f k a0).bind fun bt408 => ((sacristanref02_Unfixed.f k a0).bind fun bt410 => (if bt408.1 = bt410.1 then (sacristanlaw02_PackReads.j0 k a0 (bt408.2 != bt410.2)) else (sacristanlaw02_PackReads.j0 k a0 true))))
theorem sacristanlaw02_PackReads.mono_l : ∀ k, (∀ y0 y1, LeO (sacristanlaw02_PackReads.j0 k y0 y1) (sacristanlaw02_PackReads.j0 (k + 1) y0 y1)) ∧ (∀ y0 y1, LeO (sacristanlaw02_PackReads.j1 k y0 y1) (sacristanlaw02_PackReads.j1 (k + 1) y0 y1)) ∧ (∀ y0 y1, LeO (sacristanlaw02_PackReads.j2 k y0 y1) (sacristanlaw02_PackReads.j2 (k + 1) y0 y1))
  | 0 => ⟨fun _ _ r h => by simp [sacristanlaw02_PackReads.j0] at h, fun _ _ r h => by simp [sacristanlaw02_PackReads.j1] at h, fun _ _ r h => by simp [sacristanlaw02_PackReads.j2] at h⟩
  | k + 1 => by
    obtain ⟨ih0, ih1, ih2⟩ := sacristanlaw02_PackReads.mono_l k
    refine ⟨?_, ?_, ?_⟩
    · intro y0 y1
      unfold sacristanlaw02_PackReads.j0
      repeat' first
      | (with_reducible exact ih0 _ _)
      | (with_reducible exact ih1 _ _)
      | (with_reducible exact ih2 _ _)
      | (with_reducible exact pack_Unfixed.mono _ _)
      | (with_reducible exact pack_Unint.mono _ _)
      | (with_reducible exact pack_Untext.mono _ _)
      | (with_reducible exact pack_Unvar.mono _ _)
      | (with_reducible exact sacristanlaw02_known.mono _)
      | (with_reducible exact sacristanref02_Unfixed.mono _ _)
      | (with_reducible exact sacristanref02_Unint.mono _ _)
      | (with_reducible exact sacristanref02_Untext.mono _ _)
      | (with_reducible exact sacristanref02_Unvar.mono _ _)
      | (with_reducible exact LeO.refl _)
      | (with_reducible exact LeO.none _)
      | (with_reducible refine LeO.ite ?_ ?_)
      | (with_reducible refine LeO.bind ?_ (fun _ => ?_))
      | exact ih0 _ _
      | exact ih1 _ _
      | exact ih2 _ _
      | exact pack_Unfixed.mono _ _
      | exact pack_Unint.mono _ _
      | exact pack_Untext.mono _ _
      | exact pack_Unvar.mono _ _
      | exact sacristanlaw02_known.mono _
      | exact sacristanref02_Unfixed.mono _ _
      | exact sacristanref02_Unint.mono _ _
      | exact sacristanref02_Untext.mono _ _
      | exact sacristanref02_Unvar.mono _ _
      | exact LeO.none _
      | refine LeO.ite ?_ ?_
      | refine LeO.bind ?_ (fun _ => ?_)
    · intro y0 y1
      unfold sacristanlaw02_PackReads.j1
      repeat' first
      | (with_reducible exact ih0 _ _)
      | (with_reducible exact ih1 _ _)
      | (with_reducible exact ih2 _ _)
      | (with_reducible exact pack_Unfixed.mono _ _)
      | (with_reducible exact pack_Unint.mono _ _)
      | (with_reducible exact pack_Untext.mono _ _)
      | (with_reducible exact pack_Unvar.mono _ _)
      | (with_reducible exact sacristanlaw02_known.mono _)
      | (with_reducible exact sacristanref02_Unfixed.mono _ _)
      | (with_reducible exact sacristanref02_Unint.mono _ _)
      | (with_reducible exact sacristanref02_Untext.mono _ _)
      | (with_reducible exact sacristanref02_Unvar.mono _ _)
      | (with_reducible exact LeO.refl _)
      | (with_reducible exact LeO.none _)
      | (with_reducible refine LeO.ite ?_ ?_)
      | (with_reducible refine LeO.bind ?_ (fun _ => ?_))
      | exact ih0 _ _
      | exact ih1 _ _
      | exact ih2 _ _
      | exact pack_Unfixed.mono _ _
      | exact pack_Unint.mono _ _
      | exact pack_Untext.mono _ _
      | exact pack_Unvar.mono _ _
      | exact sacristanlaw02_known.mono _
      | exact sacristanref02_Unfixed.mono _ _
      | exact sacristanref02_Unint.mono _ _
      | exact sacristanref02_Untext.mono _ _
      | exact sacristanref02_Unvar.mono _ _
      | exact LeO.none _
      | refine LeO.ite ?_ ?_
      | refine LeO.bind ?_ (fun _ => ?_)
    · intro y0 y1
      unfold sacristanlaw02_PackReads.j2
      repeat' first
      | (with_reducible exact ih0 _ _)
      | (with_reducible exact ih1 _ _)
      | (with_reducible exact ih2 _ _)
      | (with_reducible exact pack_Unfixed.mono _ _)
      | (with_reducible exact pack_Unint.mono _ _)
      | (with_reducible exact pack_Untext.mono _ _)
      | (with_reducible exact pack_Unvar.mono _ _)
      | (with_reducible exact sacristanlaw02_known.mono _)
      | (with_reducible exact sacristanref02_Unfixed.mono _ _)
      | (with_reducible exact sacristanref02_Unint.mono _ _)
      | (with_reducible exact sacristanref02_Untext.mono _ _)
      | (with_reducible exact sacristanref02_Unvar.mono _ _)
      | (with_reducible exact LeO.refl _)
      | (with_reducible exact LeO.none _)
      | (with_reducible refine LeO.ite ?_ ?_)
      | (with_reducible refine LeO.bind ?_ (fun _ => ?_))
      | exact ih0 _ _
      | exact ih1 _ _
      | exact ih2 _ _
      | exact pack_Unfixed.mono _ _
      | exact pack_Unint.mono _ _
      | exact pack_Untext.mono _ _
      | exact pack_Unvar.mono _ _
      | exact sacristanlaw02_known.mono _
      | exact sacristanref02_Unfixed.mono _ _
      | exact sacristanref02_Unint.mono _ _
      | exact sacristanref02_Untext.mono _ _
      | exact sacristanref02_Unvar.mono _ _
      | exact LeO.none _
      | refine LeO.ite ?_ ?_
      | refine LeO.bind ?_ (fun _ => ?_)
theorem sacristanlaw02_PackReads.mono : ∀ a0 k, LeO (sacristanlaw02_PackReads.f k a0) (sacristanlaw02_PackReads.f (k + 1) a0) := by
  intro a0 k
  obtain ⟨ih0, ih1, ih2⟩ := sacristanlaw02_PackReads.mono_l k
  unfold sacristanlaw02_PackReads.f
  repeat' first
      | (with_reducible exact ih0 _ _)
      | (with_reducible exact ih1 _ _)
      | (with_reducible exact ih2 _ _)
      | (with_reducible exact pack_Unfixed.mono _ _)
      | (with_reducible exact pack_Unint.mono _ _)
      | (with_reducible exact pack_Untext.mono _ _)
      | (with_reducible exact pack_Unvar.mono _ _)
      | (with_reducible exact sacristanlaw02_known.mono _)
      | (with_reducible exact sacristanref02_Unfixed.mono _ _)
      | (with_reducible exact sacristanref02_Unint.mono _ _)
      | (with_reducible exact sacristanref02_Untext.mono _ _)
      | (with_reducible exact sacristanref02_Unvar.mono _ _)
      | (with_reducible exact LeO.refl _)
      | (with_reducible exact LeO.none _)
      | (with_reducible refine LeO.ite ?_ ?_)
      | (with_reducible refine LeO.bind ?_ (fun _ => ?_))
      | exact ih0 _ _
      | exact ih1 _ _
      | exact ih2 _ _
      | exact pack_Unfixed.mono _ _
      | exact pack_Unint.mono _ _
      | exact pack_Untext.mono _ _
      | exact pack_Unvar.mono _ _
      | exact sacristanlaw02_known.mono _
      | exact sacristanref02_Unfixed.mono _ _
      | exact sacristanref02_Unint.mono _ _
      | exact sacristanref02_Untext.mono _ _
      | exact sacristanref02_Unvar.mono _ _
      | exact LeO.none _
      | refine LeO.ite ?_ ?_
      | refine LeO.bind ?_ (fun _ => ?_)
set_option maxHeartbeats 8000000 in
set_option maxRecDepth 100000 in
theorem sacristanlaw02_PackReads.calls (k : Nat) (a0 : ByteArray) (r : Bool) (w : World) (h : sacristanlaw02_PackReads.f k a0 = some r) :
    Calls Try.prog 13 #[.string a0] w fun e w' => e = .returned (.bool r) ∧ Below w.heap.size w w' := by
  have HB := Aside0.mk (Below.refl w.heap.size w)
  have H : (if (a0.size : Int) > 2000 then ((sacristanlaw02_known.f k).bind fun t407 => (some t407)) else ((pack_Unfixed.f k a0).bind fun bt408 => ((sacristanref02_Unfixed.f k a0).bind fun bt410 => (if bt408.1 = bt410.1 then (sacristanlaw02_PackReads.j0 k a0 (bt408.2 != bt410.2)) else (sacristanlaw02_PackReads.j0 k a0 true))))) = some r := h
  clear h
  by_cases c2 : (a0.size : Int) > 2000
  · rw [if_pos c2] at H
    have c2b0 : decide (2000 < (a0.size : Int)) = true := decide_eq_true c2
    have c2b1 : decide (2000 < a0.size) = true := decide_eq_true (by omega)
    clear c2
    replace H := Option.bind_eq_some_iff.mp H
    obtain ⟨t407, A30, H⟩ := H
    replace H : (some t407) = some r := H
    have A3 := Aside0.mk A30
    clear A30
    obtain rfl := Option.some.inj H
    go_enter Try.func13, Try.ntmps13
    go_wp2_with (first | ((with_reducible refine gate_callee (f := 28) rfl ?_); refine goesL_ (some 18) rfl rfl Try.func28 (by kernel_rfl) rfl #[] rfl (by (try simp only [List.map_toArray, List.map_cons, List.map_nil]); first | done | rfl | (simp only [List.length_drop, List.length_take]; rfl)) ?_; (with_reducible refine (sacristanlaw02_known.calls k  t407 _ A3.out).mono ?_); rintro e w4 ⟨rfl, hb⟩; refine ⟨_, rfl, ?_⟩; have n0_ := Aside0.mk (below_step (w := w) (by repeat (first | (with_reducible first | exact HB.out | apply below_alloc | apply pw_below_drewN | apply below_drew1) | exact HB.out)) hb); clear HB; have HB := n0_; clear n0_; (try clear hb); (try clear hb2); (try clear hk); (try clear hi)))
    go_ret
    exact ⟨by first | rfl | (simp [errW_none, errW_some] <;> rfl) | (simp [*, errW_none, errW_some] <;> rfl), by repeat (first | (with_reducible first | exact HB.out | apply below_alloc | apply pw_below_drewN | apply below_drew1) | exact HB.out)⟩
  · rw [if_neg c2] at H
    have c2b0 : decide (2000 < (a0.size : Int)) = false := decide_eq_false c2
    have c2b1 : decide (2000 < a0.size) = false := decide_eq_false (by omega)
    clear c2
    replace H := Option.bind_eq_some_iff.mp H
    obtain ⟨⟨t408, t409⟩, A50, H⟩ := H
    replace H : ((sacristanref02_Unfixed.f k a0).bind fun bt410 => (if t408 = bt410.1 then (sacristanlaw02_PackReads.j0 k a0 (t409 != bt410.2)) else (sacristanlaw02_PackReads.j0 k a0 true))) = some r := H
    have A5 := Aside0.mk A50
    clear A50
    replace H := Option.bind_eq_some_iff.mp H
    obtain ⟨⟨t410, t411⟩, A60, H⟩ := H
    replace H : (if t408 = t410 then (sacristanlaw02_PackReads.j0 k a0 (t409 != t411)) else (sacristanlaw02_PackReads.j0 k a0 true)) = some r := H
    have A6 := Aside0.mk A60
    clear A60
    have HC7 := Aside0.mk H
    clear H
    go_enter Try.func13, Try.ntmps13
    go_upto_region 5 with (first | ((with_reducible refine gate_callee (f := 36) rfl ?_); refine goesL_ (some 21) rfl rfl Try.func36 (by kernel_rfl) rfl #[.string a0] rfl (by (try simp only [List.map_toArray, List.map_cons, List.map_nil]); first | done | rfl | (simp only [List.length_drop, List.length_take]; rfl)) ?_; (with_reducible refine (pack_Unfixed.calls k a0 t408 t409 _ A5.out).mono ?_); rintro e w' ⟨rfl, ⟨nd, rfl⟩⟩; refine ⟨_, rfl, ?_⟩) | ((with_reducible refine gate_callee (f := 40) rfl ?_); refine goesL_ (some 26) rfl rfl Try.func40 (by kernel_rfl) rfl #[.string a0] rfl (by (try simp only [List.map_toArray, List.map_cons, List.map_nil]); first | done | rfl | (simp only [List.length_drop, List.length_take]; rfl)) ?_; (with_reducible refine (sacristanref02_Unfixed.calls k a0 t410 t411 _ A6.out).mono ?_); rintro e w' ⟨rfl, ⟨nd, rfl⟩⟩; refine ⟨_, rfl, ?_⟩))
    (try simp only [Act.put, List.setIfInBounds_toArray, List.set_cons_zero, List.set_cons_succ])
    go_cut [36] (fun v36 wc => ∃ (kq : Nat) (x36_6 : Bool), v36 = .bool x36_6 ∧ Aside0 (sacristanlaw02_PackReads.j0 kq a0 x36_6 = some r) ∧ Aside0 (kq ≤ k) ∧ Aside0 (Below w.heap.size w wc))
    case first =>
      have H := HC7.out
      clear HC7
      by_cases c8 : t408 = t410
      · rw [if_pos c8] at H
        have c8b0 : (t408 == t410) = true := beq_iff_eq.mpr c8
        have c8b1 : (t408 != t410) = false := bne_eq_false_iff_eq.mpr c8
        clear c8
        (first | rw [c8b0] | (simp only [i64_w, i32_w]; rw [c8b0]) | skip)
        have H' := Aside0.mk H
        clear H
        go_wp2
        go_meet
        case rel => exact ⟨_, ((t409 != t411)), (by first | rfl | (simp; done) | (simp [*]; done)), H', ⟨by first | omega | exact Nat.le_refl _⟩, ⟨by repeat (first | (with_reducible first | exact HB.out | apply below_alloc | apply pw_below_drewN | apply below_drew1) | exact HB.out)⟩⟩
      · rw [if_neg c8] at H
        have c8b0 : (t408 == t410) = false := beq_eq_false_iff_ne.mpr c8
        have c8b1 : (t408 != t410) = true := bne_iff_ne.mpr c8
        (first | rw [c8b0] | (simp only [i64_w, i32_w]; rw [c8b0]) | skip)
        have H' := Aside0.mk H
        clear H
        go_wp2
        go_meet
        case rel => exact ⟨_, (true), (by first | rfl | (simp; done) | (simp [*]; done)), H', ⟨by first | omega | exact Nat.le_refl _⟩, ⟨by repeat (first | (with_reducible first | exact HB.out | apply below_alloc | apply pw_below_drewN | apply below_drew1) | exact HB.out)⟩⟩
    case rest =>
      clear HC7
      try clear c1
      try clear c2
      try clear c2b0
      try clear c2b1
      try clear p2
      try clear c3
      try clear c4
      try clear c8
      try clear c8b0
      try clear c8b1
      obtain ⟨kq, x36_6, rfl, HA, HJ6, HB⟩ := hcut
      cases kq with
      | zero => exact absurd HA.out (by simp [sacristanlaw02_PackReads.j0])
      | succ kj6 =>
        have H := HA.out
        clear HA
        simp only [sacristanlaw02_PackReads.j0] at H
        by_cases c9 : x36_6 = true
        · subst c9
          have H1 : (some false) = some r := by rw [if_pos rfl] at H; exact H
          clear H
          have H := H1
          clear H1
          obtain rfl := Option.some.inj H
          go_wp2
          go_ret
          exact ⟨by first | rfl | (simp [errW_none, errW_some] <;> rfl) | (simp [*, errW_none, errW_some] <;> rfl), by repeat (first | (with_reducible first | exact HB.out | apply below_alloc | apply pw_below_drewN | apply below_drew1) | exact HB.out)⟩
        · replace c9 := Bool.eq_false_iff.mpr c9
          subst c9
          have H1 : ((pack_Unvar.f kj6 a0).bind fun bt412 => ((sacristanref02_Unvar.f kj6 a0).bind fun bt415 => (if bt412.1 = bt415.1 then (if bt412.2.1.toList = bt415.2.1.toList then (sacristanlaw02_PackReads.j1 kj6 a0 (bt412.2.2 != bt415.2.2)) else (sacristanlaw02_PackReads.j1 kj6 a0 true)) else (sacristanlaw02_PackReads.j1 kj6 a0 true)))) = some r := by rw [if_neg (show ¬ (false = true) by decide)] at H; exact H
          clear H
          have H := H1
          clear H1
          replace H := Option.bind_eq_some_iff.mp H
          obtain ⟨⟨t412, t413, t414⟩, A100, H⟩ := H
          replace H : ((sacristanref02_Unvar.f kj6 a0).bind fun bt415 => (if t412 = bt415.1 then (if t413.toList = bt415.2.1.toList then (sacristanlaw02_PackReads.j1 kj6 a0 (t414 != bt415.2.2)) else (sacristanlaw02_PackReads.j1 kj6 a0 true)) else (sacristanlaw02_PackReads.j1 kj6 a0 true))) = some r := H
          have A10 := Aside0.mk A100
          clear A100
          replace H := Option.bind_eq_some_iff.mp H
          obtain ⟨⟨t415, t416, t417⟩, A110, H⟩ := H
          replace H : (if t412 = t415 then (if t413.toList = t416.toList then (sacristanlaw02_PackReads.j1 kj6 a0 (t414 != t417)) else (sacristanlaw02_PackReads.j1 kj6 a0 true)) else (sacristanlaw02_PackReads.j1 kj6 a0 true)) = some r := H
          have A11 := Aside0.mk A110
          clear A110
          have HC12 := Aside0.mk H
          clear H
          go_upto_region 9 with (first | ((with_reducible refine gate_callee (f := 37) rfl ?_); refine goesL_ (some 39) rfl rfl Try.func37 (by kernel_rfl) rfl #[.string a0] rfl (by (try simp only [List.map_toArray, List.map_cons, List.map_nil]); first | done | rfl | (simp only [List.length_drop, List.length_take]; rfl)) ?_; (with_reducible refine (pack_Unvar.calls kj6 a0 t412 t413 t414 _ A10.out).mono ?_); rintro e w' ⟨rfl, ⟨nd, rfl⟩⟩; refine ⟨_, rfl, ?_⟩) | ((with_reducible refine gate_callee (f := 41) rfl ?_); refine goesL_ (some 45) rfl rfl Try.func41 (by kernel_rfl) rfl #[.string a0] rfl (by (try simp only [List.map_toArray, List.map_cons, List.map_nil]); first | done | rfl | (simp only [List.length_drop, List.length_take]; rfl)) ?_; (with_reducible refine (sacristanref02_Unvar.calls kj6 a0 t415 t416 t417 _ A11.out).mono ?_); rintro e w13 ⟨rfl, hb⟩; refine ⟨_, rfl, ?_⟩; have n0_ := Aside0.mk (below_step (w := w) (by repeat (first | (with_reducible first | exact HB.out | apply below_alloc | apply pw_below_drewN | apply below_drew1) | exact HB.out)) hb); clear HB; have HB := n0_; clear n0_; (try clear hb); (try clear hb2); (try clear hk); (try clear hi)))
          (try simp only [Act.put, List.setIfInBounds_toArray, List.set_cons_zero, List.set_cons_succ])
          go_cut [61] (fun v61 wc => ∃ (kq : Nat) (x61_11 : Bool), v61 = .bool x61_11 ∧ Aside0 (sacristanlaw02_PackReads.j1 kq a0 x61_11 = some r) ∧ Aside0 (kq ≤ kj6) ∧ Aside0 (Below w.heap.size w wc))
          case first =>
            have H := HC12.out
            clear HC12
            by_cases c14 : t412 = t415
            · rw [if_pos c14] at H
              have c14b0 : (t412 == t415) = true := beq_iff_eq.mpr c14
              have c14b1 : (t412 != t415) = false := bne_eq_false_iff_eq.mpr c14
              clear c14
              (first | rw [c14b0] | (simp only [i64_w, i32_w]; rw [c14b0]) | skip)
              by_cases c15 : t413.toList = t416.toList
              · rw [if_pos c15] at H
                have c15b0 : (t413.toList == t416.toList) = true := beq_iff_eq.mpr c15
                have c15b1 : (t413.toList != t416.toList) = false := bne_eq_false_iff_eq.mpr c15
                clear c15
                have H' := Aside0.mk H
                clear H
                go_wp2
                go_meet
                case rel => exact ⟨_, ((t414 != t417)), (by first | rfl | (simp; done) | (simp [*]; done)), H', ⟨by have := HJ6.out; first | omega | exact Nat.le_refl _⟩, ⟨by repeat (first | (with_reducible first | exact HB.out | apply below_alloc | apply pw_below_drewN | apply below_drew1) | exact HB.out)⟩⟩
              · rw [if_neg c15] at H
                have c15b0 : (t413.toList == t416.toList) = false := beq_eq_false_iff_ne.mpr c15
                have c15b1 : (t413.toList != t416.toList) = true := bne_iff_ne.mpr c15
                have H' := Aside0.mk H
                clear H
                go_wp2
                go_meet
                case rel => exact ⟨_, (true), (by first | rfl | (simp; done) | (simp [*]; done)), H', ⟨by have := HJ6.out; first | omega | exact Nat.le_refl _⟩, ⟨by repeat (first | (with_reducible first | exact HB.out | apply below_alloc | apply pw_below_drewN | apply below_drew1) | exact HB.out)⟩⟩
            · rw [if_neg c14] at H
              have c14b0 : (t412 == t415) = false := beq_eq_false_iff_ne.mpr c14
              have c14b1 : (t412 != t415) = true := bne_iff_ne.mpr c14
              (first | rw [c14b0] | (simp only [i64_w, i32_w]; rw [c14b0]) | skip)
              have H' := Aside0.mk H
              clear H
              go_wp2
              go_meet
              case rel => exact ⟨_, (true), (by first | rfl | (simp; done) | (simp [*]; done)), H', ⟨by have := HJ6.out; first | omega | exact Nat.le_refl _⟩, ⟨by repeat (first | (with_reducible first | exact HB.out | apply below_alloc | apply pw_below_drewN | apply below_drew1) | exact HB.out)⟩⟩
          case rest =>
            clear HC12
            try clear c1
            try clear c2
            try clear c2b0
            try clear c2b1
            try clear p2
            try clear c3
            try clear c4
            try clear c8
            try clear c8b0
            try clear c8b1
            try clear c9
            try clear c13
            try clear c14
            try clear c14b0
            try clear c14b1
            try clear c15
            try clear c15b0
            try clear c15b1
            try clear p2
            obtain ⟨kq, x61_11, rfl, HA, HJ11, HB⟩ := hcut
            cases kq with
            | zero => exact absurd HA.out (by simp [sacristanlaw02_PackReads.j1])
            | succ kj11 =>
              have H := HA.out
              clear HA
              simp only [sacristanlaw02_PackReads.j1] at H
              by_cases c16 : x61_11 = true
              · subst c16
                have H1 : (some false) = some r := by rw [if_pos rfl] at H; exact H
                clear H
                have H := H1
                clear H1
                obtain rfl := Option.some.inj H
                go_wp2
                go_ret
                exact ⟨by first | rfl | (simp [errW_none, errW_some] <;> rfl) | (simp [*, errW_none, errW_some] <;> rfl), by repeat (first | (with_reducible first | exact HB.out | apply below_alloc | apply pw_below_drewN | apply below_drew1) | exact HB.out)⟩
              · replace c16 := Bool.eq_false_iff.mpr c16
                subst c16
                have H1 : ((pack_Unint.f kj11 a0).bind fun bt418 => ((sacristanref02_Unint.f kj11 a0).bind fun bt421 => (if bt418.1 = bt421.1 then (if bt418.2.1.toList = bt421.2.1.toList then (sacristanlaw02_PackReads.j2 kj11 a0 (bt418.2.2 != bt421.2.2)) else (sacristanlaw02_PackReads.j2 kj11 a0 true)) else (sacristanlaw02_PackReads.j2 kj11 a0 true)))) = some r := by rw [if_neg (show ¬ (false = true) by decide)] at H; exact H
                clear H
                have H := H1
                clear H1
                replace H := Option.bind_eq_some_iff.mp H
                obtain ⟨⟨t418, t419, t420⟩, A170, H⟩ := H
                replace H : ((sacristanref02_Unint.f kj11 a0).bind fun bt421 => (if t418 = bt421.1 then (if t419.toList = bt421.2.1.toList then (sacristanlaw02_PackReads.j2 kj11 a0 (t420 != bt421.2.2)) else (sacristanlaw02_PackReads.j2 kj11 a0 true)) else (sacristanlaw02_PackReads.j2 kj11 a0 true))) = some r := H
                have A17 := Aside0.mk A170
                clear A170
                replace H := Option.bind_eq_some_iff.mp H
                obtain ⟨⟨t421, t422, t423⟩, A180, H⟩ := H
                replace H : (if t418 = t421 then (if t419.toList = t422.toList then (sacristanlaw02_PackReads.j2 kj11 a0 (t420 != t423)) else (sacristanlaw02_PackReads.j2 kj11 a0 true)) else (sacristanlaw02_PackReads.j2 kj11 a0 true)) = some r := H
                have A18 := Aside0.mk A180
                clear A180
                have HC19 := Aside0.mk H
                clear H
                go_upto_region 13 with (first | ((with_reducible refine gate_callee (f := 39) rfl ?_); refine goesL_ (some 64) rfl rfl Try.func39 (by kernel_rfl) rfl #[.string a0] rfl (by (try simp only [List.map_toArray, List.map_cons, List.map_nil]); first | done | rfl | (simp only [List.length_drop, List.length_take]; rfl)) ?_; (with_reducible refine (pack_Unint.calls kj11 a0 t418 t419 t420 _ A17.out).mono ?_); rintro e w' ⟨rfl, ⟨nd, rfl⟩⟩; refine ⟨_, rfl, ?_⟩) | ((with_reducible refine gate_callee (f := 42) rfl ?_); refine goesL_ (some 70) rfl rfl Try.func42 (by kernel_rfl) rfl #[.string a0] rfl (by (try simp only [List.map_toArray, List.map_cons, List.map_nil]); first | done | rfl | (simp only [List.length_drop, List.length_take]; rfl)) ?_; (with_reducible refine (sacristanref02_Unint.calls kj11 a0 t421 t422 t423 _ A18.out).mono ?_); rintro e w20 ⟨rfl, hb⟩; refine ⟨_, rfl, ?_⟩; have n0_ := Aside0.mk (below_step (w := w) (by repeat (first | (with_reducible first | exact HB.out | apply below_alloc | apply pw_below_drewN | apply below_drew1) | exact HB.out)) hb); clear HB; have HB := n0_; clear n0_; (try clear hb); (try clear hb2); (try clear hk); (try clear hi)))
                (try simp only [Act.put, List.setIfInBounds_toArray, List.set_cons_zero, List.set_cons_succ])
                go_cut [86] (fun v86 wc => ∃ (kq : Nat) (x86_18 : Bool), v86 = .bool x86_18 ∧ Aside0 (sacristanlaw02_PackReads.j2 kq a0 x86_18 = some r) ∧ Aside0 (kq ≤ kj11) ∧ Aside0 (Below w.heap.size w wc))
                case first =>
                  have H := HC19.out
                  clear HC19
                  by_cases c21 : t418 = t421
                  · rw [if_pos c21] at H
                    have c21b0 : (t418 == t421) = true := beq_iff_eq.mpr c21
                    have c21b1 : (t418 != t421) = false := bne_eq_false_iff_eq.mpr c21
                    clear c21
                    (first | rw [c21b0] | (simp only [i64_w, i32_w]; rw [c21b0]) | skip)
                    by_cases c22 : t419.toList = t422.toList
                    · rw [if_pos c22] at H
                      have c22b0 : (t419.toList == t422.toList) = true := beq_iff_eq.mpr c22
                      have c22b1 : (t419.toList != t422.toList) = false := bne_eq_false_iff_eq.mpr c22
                      clear c22
                      have H' := Aside0.mk H
                      clear H
                      go_wp2
                      go_meet
                      case rel => exact ⟨_, ((t420 != t423)), (by first | rfl | (simp; done) | (simp [*]; done)), H', ⟨by have := HJ6.out; have := HJ11.out; first | omega | exact Nat.le_refl _⟩, ⟨by repeat (first | (with_reducible first | exact HB.out | apply below_alloc | apply pw_below_drewN | apply below_drew1) | exact HB.out)⟩⟩
                    · rw [if_neg c22] at H
                      have c22b0 : (t419.toList == t422.toList) = false := beq_eq_false_iff_ne.mpr c22
                      have c22b1 : (t419.toList != t422.toList) = true := bne_iff_ne.mpr c22
                      have H' := Aside0.mk H
                      clear H
                      go_wp2
                      go_meet
                      case rel => exact ⟨_, (true), (by first | rfl | (simp; done) | (simp [*]; done)), H', ⟨by have := HJ6.out; have := HJ11.out; first | omega | exact Nat.le_refl _⟩, ⟨by repeat (first | (with_reducible first | exact HB.out | apply below_alloc | apply pw_below_drewN | apply below_drew1) | exact HB.out)⟩⟩
                  · rw [if_neg c21] at H
                    have c21b0 : (t418 == t421) = false := beq_eq_false_iff_ne.mpr c21
                    have c21b1 : (t418 != t421) = true := bne_iff_ne.mpr c21
                    (first | rw [c21b0] | (simp only [i64_w, i32_w]; rw [c21b0]) | skip)
                    have H' := Aside0.mk H
                    clear H
                    go_wp2
                    go_meet
                    case rel => exact ⟨_, (true), (by first | rfl | (simp; done) | (simp [*]; done)), H', ⟨by have := HJ6.out; have := HJ11.out; first | omega | exact Nat.le_refl _⟩, ⟨by repeat (first | (with_reducible first | exact HB.out | apply below_alloc | apply pw_below_drewN | apply below_drew1) | exact HB.out)⟩⟩
                case rest =>
                  clear HC19
                  try clear c1
                  try clear c2
                  try clear c2b0
                  try clear c2b1
                  try clear p2
                  try clear c3
                  try clear c4
                  try clear c8
                  try clear c8b0
                  try clear c8b1
                  try clear c9
                  try clear c13
                  try clear c14
                  try clear c14b0
                  try clear c14b1
                  try clear c15
                  try clear c15b0
                  try clear c15b1
                  try clear c16
                  try clear c21
                  try clear c21b0
                  try clear c21b1
                  try clear c22
                  try clear c22b0
                  try clear c22b1
                  try clear p2
                  obtain ⟨kq, x86_18, rfl, HA, HJ18, HB⟩ := hcut
                  cases kq with
                  | zero => exact absurd HA.out (by simp [sacristanlaw02_PackReads.j2])
                  | succ kj18 =>
                    have H := HA.out
                    clear HA
                    simp only [sacristanlaw02_PackReads.j2] at H
                    by_cases c23 : x86_18 = true
                    · subst c23
                      have H1 : (some false) = some r := by rw [if_pos rfl] at H; exact H
                      clear H
                      have H := H1
                      clear H1
                      obtain rfl := Option.some.inj H
                      go_wp2
                      go_ret
                      exact ⟨by first | rfl | (simp [errW_none, errW_some] <;> rfl) | (simp [*, errW_none, errW_some] <;> rfl), by repeat (first | (with_reducible first | exact HB.out | apply below_alloc | apply pw_below_drewN | apply below_drew1) | exact HB.out)⟩
                    · replace c23 := Bool.eq_false_iff.mpr c23
                      subst c23
                      have H1 : ((pack_Untext.f kj18 a0).bind fun bt424 => ((sacristanref02_Untext.f kj18 a0).bind fun bt427 => (if bt424.1.toList = bt427.1.toList then (if bt424.2.1.toList = bt427.2.1.toList then (if bt424.2.2 = bt427.2.2 then ((sacristanlaw02_known.f kj18).bind fun t430 => (some t430)) else (some false)) else (some false)) else (some false)))) = some r := by rw [if_neg (show ¬ (false = true) by decide)] at H; exact H
                      clear H
                      have H := H1
                      clear H1
                      replace H := Option.bind_eq_some_iff.mp H
                      obtain ⟨⟨t424, t425, t426⟩, A240, H⟩ := H
                      replace H : ((sacristanref02_Untext.f kj18 a0).bind fun bt427 => (if t424.toList = bt427.1.toList then (if t425.toList = bt427.2.1.toList then (if t426 = bt427.2.2 then ((sacristanlaw02_known.f kj18).bind fun t430 => (some t430)) else (some false)) else (some false)) else (some false))) = some r := H
                      have A24 := Aside0.mk A240
                      clear A240
                      replace H := Option.bind_eq_some_iff.mp H
                      obtain ⟨⟨t427, t428, t429⟩, A250, H⟩ := H
                      replace H : (if t424.toList = t427.toList then (if t425.toList = t428.toList then (if t426 = t429 then ((sacristanlaw02_known.f kj18).bind fun t430 => (some t430)) else (some false)) else (some false)) else (some false)) = some r := H
                      have A25 := Aside0.mk A250
                      clear A250
                      by_cases c26 : t424.toList = t427.toList
                      · rw [if_pos c26] at H
                        have c26b0 : (t424.toList == t427.toList) = true := beq_iff_eq.mpr c26
                        have c26b1 : (t424.toList != t427.toList) = false := bne_eq_false_iff_eq.mpr c26
                        clear c26
                        by_cases c27 : t425.toList = t428.toList
                        · rw [if_pos c27] at H
                          have c27b0 : (t425.toList == t428.toList) = true := beq_iff_eq.mpr c27
                          have c27b1 : (t425.toList != t428.toList) = false := bne_eq_false_iff_eq.mpr c27
                          clear c27
                          by_cases c28 : t426 = t429
                          · rw [if_pos c28] at H
                            have c28b0 : (t426 == t429) = true := beq_iff_eq.mpr c28
                            have c28b1 : (t426 != t429) = false := bne_eq_false_iff_eq.mpr c28
                            clear c28
                            replace H := Option.bind_eq_some_iff.mp H
                            obtain ⟨t430, A290, H⟩ := H
                            replace H : (some t430) = some r := H
                            have A29 := Aside0.mk A290
                            clear A290
                            obtain rfl := Option.some.inj H
                            go_wp2_with (first | ((with_reducible refine gate_callee (f := 38) rfl ?_); refine goesL_ (some 89) rfl rfl Try.func38 (by kernel_rfl) rfl #[.string a0] rfl (by (try simp only [List.map_toArray, List.map_cons, List.map_nil]); first | done | rfl | (simp only [List.length_drop, List.length_take]; rfl)) ?_; (with_reducible refine (pack_Untext.calls kj18 a0 t424 t425 t426 _ A24.out).mono ?_); rintro e w' ⟨rfl, ⟨nd, rfl⟩⟩; refine ⟨_, rfl, ?_⟩) | ((with_reducible refine gate_callee (f := 43) rfl ?_); refine goesL_ (some 95) rfl rfl Try.func43 (by kernel_rfl) rfl #[.string a0] rfl (by (try simp only [List.map_toArray, List.map_cons, List.map_nil]); first | done | rfl | (simp only [List.length_drop, List.length_take]; rfl)) ?_; (with_reducible refine (sacristanref02_Untext.calls kj18 a0 t427 t428 t429 _ A25.out).mono ?_); rintro e w30 ⟨rfl, hb⟩; refine ⟨_, rfl, ?_⟩; have n0_ := Aside0.mk (below_step (w := w) (by repeat (first | (with_reducible first | exact HB.out | apply below_alloc | apply pw_below_drewN | apply below_drew1) | exact HB.out)) hb); clear HB; have HB := n0_; clear n0_; (try clear hb); (try clear hb2); (try clear hk); (try clear hi)) | (go_at_call 28; (with_reducible refine (sacristanlaw02_known.calls kj18  t430 _ A29.out).mono ?_); rintro e w31 ⟨rfl, hb⟩; have n0_ := Aside0.mk (below_step (w := w) (by repeat (first | (with_reducible first | exact HB.out | apply below_alloc | apply pw_below_drewN | apply below_drew1) | exact HB.out)) hb); clear HB; have HB := n0_; clear n0_; (try clear hb); (try clear hb2); (try clear hk); (try clear hi)))
                            go_ret
                            exact ⟨by first | rfl | (simp [errW_none, errW_some] <;> rfl) | (simp [*, errW_none, errW_some] <;> rfl), by repeat (first | (with_reducible first | exact HB.out | apply below_alloc | apply pw_below_drewN | apply below_drew1) | exact HB.out)⟩
                          · rw [if_neg c28] at H
                            have c28b0 : (t426 == t429) = false := beq_eq_false_iff_ne.mpr c28
                            have c28b1 : (t426 != t429) = true := bne_iff_ne.mpr c28
                            obtain rfl := Option.some.inj H
                            go_wp2_with (first | ((with_reducible refine gate_callee (f := 38) rfl ?_); refine goesL_ (some 89) rfl rfl Try.func38 (by kernel_rfl) rfl #[.string a0] rfl (by (try simp only [List.map_toArray, List.map_cons, List.map_nil]); first | done | rfl | (simp only [List.length_drop, List.length_take]; rfl)) ?_; (with_reducible refine (pack_Untext.calls kj18 a0 t424 t425 t426 _ A24.out).mono ?_); rintro e w' ⟨rfl, ⟨nd, rfl⟩⟩; refine ⟨_, rfl, ?_⟩) | ((with_reducible refine gate_callee (f := 43) rfl ?_); refine goesL_ (some 95) rfl rfl Try.func43 (by kernel_rfl) rfl #[.string a0] rfl (by (try simp only [List.map_toArray, List.map_cons, List.map_nil]); first | done | rfl | (simp only [List.length_drop, List.length_take]; rfl)) ?_; (with_reducible refine (sacristanref02_Untext.calls kj18 a0 t427 t428 t429 _ A25.out).mono ?_); rintro e w32 ⟨rfl, hb⟩; refine ⟨_, rfl, ?_⟩; have n0_ := Aside0.mk (below_step (w := w) (by repeat (first | (with_reducible first | exact HB.out | apply below_alloc | apply pw_below_drewN | apply below_drew1) | exact HB.out)) hb); clear HB; have HB := n0_; clear n0_; (try clear hb); (try clear hb2); (try clear hk); (try clear hi)))
                            go_ret
                            exact ⟨by first | rfl | (simp [errW_none, errW_some] <;> rfl) | (simp [*, errW_none, errW_some] <;> rfl), by repeat (first | (with_reducible first | exact HB.out | apply below_alloc | apply pw_below_drewN | apply below_drew1) | exact HB.out)⟩
                        · rw [if_neg c27] at H
                          have c27b0 : (t425.toList == t428.toList) = false := beq_eq_false_iff_ne.mpr c27
                          have c27b1 : (t425.toList != t428.toList) = true := bne_iff_ne.mpr c27
                          obtain rfl := Option.some.inj H
                          go_wp2_with (first | ((with_reducible refine gate_callee (f := 38) rfl ?_); refine goesL_ (some 89) rfl rfl Try.func38 (by kernel_rfl) rfl #[.string a0] rfl (by (try simp only [List.map_toArray, List.map_cons, List.map_nil]); first | done | rfl | (simp only [List.length_drop, List.length_take]; rfl)) ?_; (with_reducible refine (pack_Untext.calls kj18 a0 t424 t425 t426 _ A24.out).mono ?_); rintro e w' ⟨rfl, ⟨nd, rfl⟩⟩; refine ⟨_, rfl, ?_⟩) | ((with_reducible refine gate_callee (f := 43) rfl ?_); refine goesL_ (some 95) rfl rfl Try.func43 (by kernel_rfl) rfl #[.string a0] rfl (by (try simp only [List.map_toArray, List.map_cons, List.map_nil]); first | done | rfl | (simp only [List.length_drop, List.length_take]; rfl)) ?_; (with_reducible refine (sacristanref02_Untext.calls kj18 a0 t427 t428 t429 _ A25.out).mono ?_); rintro e w33 ⟨rfl, hb⟩; refine ⟨_, rfl, ?_⟩; have n0_ := Aside0.mk (below_step (w := w) (by repeat (first | (with_reducible first | exact HB.out | apply below_alloc | apply pw_below_drewN | apply below_drew1) | exact HB.out)) hb); clear HB; have HB := n0_; clear n0_; (try clear hb); (try clear hb2); (try clear hk); (try clear hi)))
                          go_ret
                          exact ⟨by first | rfl | (simp [errW_none, errW_some] <;> rfl) | (simp [*, errW_none, errW_some] <;> rfl), by repeat (first | (with_reducible first | exact HB.out | apply below_alloc | apply pw_below_drewN | apply below_drew1) | exact HB.out)⟩
                      · rw [if_neg c26] at H
                        have c26b0 : (t424.toList == t427.toList) = false := beq_eq_false_iff_ne.mpr c26
                        have c26b1 : (t424.toList != t427.toList) = true := bne_iff_ne.mpr c26
                        obtain rfl := Option.some.inj H
                        go_wp2_with (first | ((with_reducible refine gate_callee (f := 38) rfl ?_); refine goesL_ (some 89) rfl rfl Try.func38 (by kernel_rfl) rfl #[.string a0] rfl (by (try simp only [List.map_toArray, List.map_cons, List.map_nil]); first | done | rfl | (simp only [List.length_drop, List.length_take]; rfl)) ?_; (with_reducible refine (pack_Untext.calls kj18 a0 t424 t425 t426 _ A24.out).mono ?_); rintro e w' ⟨rfl, ⟨nd, rfl⟩⟩; refine ⟨_, rfl, ?_⟩) | ((with_reducible refine gate_callee (f := 43) rfl ?_); refine goesL_ (some 95) rfl rfl Try.func43 (by kernel_rfl) rfl #[.string a0] rfl (by (try simp only [List.map_toArray, List.map_cons, List.map_nil]); first | done | rfl | (simp only [List.length_drop, List.length_take]; rfl)) ?_; (with_reducible refine (sacristanref02_Untext.calls kj18 a0 t427 t428 t429 _ A25.out).mono ?_); rintro e w34 ⟨rfl, hb⟩; refine ⟨_, rfl, ?_⟩; have n0_ := Aside0.mk (below_step (w := w) (by repeat (first | (with_reducible first | exact HB.out | apply below_alloc | apply pw_below_drewN | apply below_drew1) | exact HB.out)) hb); clear HB; have HB := n0_; clear n0_; (try clear hb); (try clear hb2); (try clear hk); (try clear hi)))
                        go_ret
                        exact ⟨by first | rfl | (simp [errW_none, errW_some] <;> rfl) | (simp [*, errW_none, errW_some] <;> rfl), by repeat (first | (with_reducible first | exact HB.out | apply below_alloc | apply pw_below_drewN | apply below_drew1) | exact HB.out)⟩

/-- THE ONE PURE STATEMENT of sacristanlaw02_PackReads: yours. -/
def sacristanlaw02_PackReads.Pure : Prop := ∀ (a0 : ByteArray), a0.size ≤ 140737488351232 → ∃ k, sacristanlaw02_PackReads.f k a0 = some true
theorem sacristanlaw02_PackReads.walk (P : sacristanlaw02_PackReads.Pure) (a0 : ByteArray) (w : World) (w0 : a0.size ≤ 140737488351232) :
    Calls Try.prog 13 #[.string a0] w fun e w' => e = .returned (.bool true) ∧ Below w.heap.size w w' := by
  obtain ⟨k, h⟩ := P a0 w0
  refine (sacristanlaw02_PackReads.calls k a0 true w h).mono ?_
  rintro e w' ⟨rfl, hd⟩
  exact ⟨rfl, hd⟩

end Go.Proofs.Ytipbgeobgppagaa.X
