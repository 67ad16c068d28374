-- Printed by a program of this session (wip/xprint.py) out of the translation.
import Derived.Test.YtcdlfnoagghpmaaD0
import Derived.Test.YtcdlfnoagghpmaaD1
import Derived.Test.YtcdlfnoagghpmaaD3
namespace Go.Proofs.Ytcdlfnoagghpmaa.D
open Go.RowKit Go.Proofs.Ytcdlfnoagghpmaa.Ext Go.Proofs.YtcdlfnoagghpmaaW.PrintWords Go.Proofs.YtcdlfnoagghpmaaW.PrintLast Go.Proofs.YtcdlfnoagghpmaaW.PrintMore
attribute [local go_sem] max2_int min2_int max_two min_two max_three min_three max_four min_four   -- for this text's walks alone
set_option linter.unusedVariables false
set_option linter.unusedSimpArgs false

/-! ### sacristanlaw11_DelayGrows: function 5 -/
def sacristanlaw11_DelayGrows.j0 : Nat → Int → Int → Int → Bool → Bool → Int → Int → Int → Int → Option (Bool)
  | 0, _, _, _, _, _, _, _, _, _ => none
  | k + 1, x2, x8, x10, x66, x149000, x149001, x149002, x149003, x149004 => if x66 = true then (some false) else (if x2 = 0 then (if x8 = x149003 then (if x10 = x149003 then (if x2 > 0 then (if x10 < x149004 then (if x10 = (wrap64 (2 * x8)) then (if (wrap64 (2 * x8)) ≤ x149004 then (if x2 < 42 then ((sacristanlaw11_awake.f k).bind fun t153 => (some t153)) else (if x10 = x149004 then ((sacristanlaw11_awake.f k).bind fun t154 => (some t154)) else (some false))) else (if x2 < 42 then ((sacristanlaw11_awake.f k).bind fun t155 => (some t155)) else (if x10 = x149004 then ((sacristanlaw11_awake.f k).bind fun t156 => (some t156)) else (some false)))) else (some false)) else (if (wrap64 (2 * x8)) ≤ x149004 then (if x10 = (wrap64 (2 * x8)) then (if x2 < 42 then ((sacristanlaw11_awake.f k).bind fun t157 => (some t157)) else (if x10 = x149004 then ((sacristanlaw11_awake.f k).bind fun t158 => (some t158)) else (some false))) else (some false)) else (if x2 < 42 then ((sacristanlaw11_awake.f k).bind fun t159 => (some t159)) else (if x10 = x149004 then ((sacristanlaw11_awake.f k).bind fun t160 => (some t160)) else (some false))))) else (if x2 < 42 then ((sacristanlaw11_awake.f k).bind fun t161 => (some t161)) else (if x10 = x149004 then ((sacristanlaw11_awake.f k).bind fun t162 => (some t162)) else (some false)))) else (some false)) else (some false)) else (if x2 > 0 then (if x10 < x149004 then (if x10 = (wrap64 (2 * x8)) then (if (wrap64 (2 * x8)) ≤ x149004 then (if x2 < 42 then ((sacristanlaw11_awake.f k).bind fun t163 => (some t163)) else (if x10 = x149004 then ((sacristanlaw11_awake.f k).bind fun t164 => (some t164)) else (some false))) else (if x2 < 42 then ((sacristanlaw11_awake.f k).bind fun t165 => (some t165)) else (if x10 = x149004 then ((sacristanlaw11_awake.f k).bind fun t166 => (some t166)) else (some false)))) else (some false)) else (if (wrap64 (2 * x8)) ≤ x149004 then (if x10 = (wrap64 (2 * x8)) then (if x2 < 42 then ((sacristanlaw11_awake.f k).bind fun t167 => (some t167)) else (if x10 = x149004 then ((sacristanlaw11_awake.f k).bind fun t168 => (some t168)) else (some false))) else (some false)) else (if x2 < 42 then ((sacristanlaw11_awake.f k).bind fun t169 => (some t169)) else (if x10 = x149004 then ((sacristanlaw11_awake.f k).bind fun t170 => (some t170)) else (some false))))) else (if x2 < 42 then ((sacristanlaw11_awake.f k).bind fun t171 => (some t171)) else (if x10 = x149004 then ((sacristanlaw11_awake.f k).bind fun t172 => (some t172)) else (some false)))))
def sacristanlaw11_DelayGrows.f (k : Nat) (a0 : Int) (a1 : Int) (a2 : Int) : Option (Bool) := (sacristanlaw11_valid.f a0 a1 0 0).bind fun bt143 => ((delay_After.f bt143.1 bt143.2.1 bt143.2.2.1 bt143.2.2.2.1 bt143.2.2.2.2 (Int.tmod (wrap64 ((Int.tmod a2 64) + 64)) 64)).bind fun bt149 => ((delay_After.f bt143.1 bt143.2.1 bt143.2.2.1 bt143.2.2.2.1 bt143.2.2.2.2 (wrap64 ((Int.tmod (wrap64 ((Int.tmod a2 64) + 64)) 64) + 1))).bind fun bt151 => (if bt149.2 = 0 then (if bt151.2 = 0 then (if bt149.1 < bt143.2.2.2.1 then (sacristanlaw11_DelayGrows.j0 k (Int.tmod (wrap64 ((Int.tmod a2 64) + 64)) 64) bt149.1 bt151.1 true bt143.1 bt143.2.1 bt143.2.2.1 bt143.2.2.2.1 bt143.2.2.2.2) else (if bt149.1 > bt143.2.2.2.2 then (sacristanlaw11_DelayGrows.j0 k (Int.tmod (wrap64 ((Int.tmod a2 64) + 64)) 64) bt149.1 bt151.1 true bt143.1 bt143.2.1 bt143.2.2.1 bt143.2.2.2.1 bt143.2.2.2.2) else (if bt151.1 < bt149.1 then (sacristanlaw11_DelayGrows.j0 k (Int.tmod (wrap64 ((Int.tmod a2 64) + 64)) 64) bt149.1 bt151.1 true bt143.1 bt143.2.1 bt143.2.2.1 bt143.2.2.2.1 bt143.2.2.2.2) else (if bt151.1 > (wrap64 (2 * bt149.1)) then (sacristanlaw11_DelayGrows.j0 k (Int.tmod (wrap64 ((Int.tmod a2 64) + 64)) 64) bt149.1 bt151.1 true bt143.1 bt143.2.1 bt143.2.2.1 bt143.2.2.2.1 bt143.2.2.2.2) else (sacristanlaw11_DelayGrows.j0 k (Int.tmod (wrap64 ((Int.tmod a2 64) + 64)) 64) bt149.1 bt151.1 (decide (bt151.1 > bt143.2.2.2.2)) bt143.1 bt143.2.1 bt143.2.2.1 bt143.2.2.2.1 bt143.2.2.2.2))))) else (sacristanlaw11_DelayGrows.j0 k (Int.tmod (wrap64 ((Int.tmod a2 64) + 64)) 64) bt149.1 bt151.1 true bt143.1 bt143.2.1 bt143.2.2.1 bt143.2.2.2.1 bt143.2.2.2.2)) else (sacristanlaw11_DelayGrows.j0 k (Int.tmod (wrap64 ((Int.tmod a2 64) + 64)) 64) bt149.1 bt151.1 true bt143.1 bt143.2.1 bt143.2.2.1 bt143.2.2.2.1 bt143.2.2.2.2))))
theorem sacristanlaw11_DelayGrows.mono_l : ∀ k, (∀ y0 y1 y2 y3 y4 y5 y6 y7 y8, LeO (sacristanlaw11_DelayGrows.j0 k y0 y1 y2 y3 y4 y5 y6 y7 y8) (sacristanlaw11_DelayGrows.j0 (k + 1) y0 y1 y2 y3 y4 y5 y6 y7 y8))
  | 0 => fun _ _ _ _ _ _ _ _ _ r h => by simp [sacristanlaw11_DelayGrows.j0] at h
  | k + 1 => by
    have ih0 := sacristanlaw11_DelayGrows.mono_l k
    · intro y0 y1 y2 y3 y4 y5 y6 y7 y8
      unfold sacristanlaw11_DelayGrows.j0
      repeat' first
      | (with_reducible exact ih0 _ _ _ _ _ _ _ _ _)
      | (with_reducible exact sacristanlaw11_awake.mono _)
      | (with_reducible exact LeO.refl _)
      | (with_reducible exact LeO.none _)
      | (with_reducible refine LeO.ite ?_ ?_)
      | (with_reducible refine LeO.bind ?_ (fun _ => ?_))
      | exact ih0 _ _ _ _ _ _ _ _ _
      | exact sacristanlaw11_awake.mono _
      | exact LeO.none _
      | refine LeO.ite ?_ ?_
      | refine LeO.bind ?_ (fun _ => ?_)
theorem sacristanlaw11_DelayGrows.mono : ∀ a0 a1 a2 k, LeO (sacristanlaw11_DelayGrows.f k a0 a1 a2) (sacristanlaw11_DelayGrows.f (k + 1) a0 a1 a2) := by
  intro a0 a1 a2 k
  have ih0 := sacristanlaw11_DelayGrows.mono_l k
  unfold sacristanlaw11_DelayGrows.f
  repeat' first
      | (with_reducible exact ih0 _ _ _ _ _ _ _ _ _)
      | (with_reducible exact sacristanlaw11_awake.mono _)
      | (with_reducible exact LeO.refl _)
      | (with_reducible exact LeO.none _)
      | (with_reducible refine LeO.ite ?_ ?_)
      | (with_reducible refine LeO.bind ?_ (fun _ => ?_))
      | exact ih0 _ _ _ _ _ _ _ _ _
      | exact sacristanlaw11_awake.mono _
      | exact LeO.none _
      | refine LeO.ite ?_ ?_
      | refine LeO.bind ?_ (fun _ => ?_)
set_option maxHeartbeats 8000000 in
set_option maxRecDepth 100000 in
theorem sacristanlaw11_DelayGrows.calls (k : Nat) (a0 : Int) (a1 : Int) (a2 : Int) (r : Bool) (w : World) (h : sacristanlaw11_DelayGrows.f k a0 a1 a2 = some r) (hr_ : r = true) :
    Calls Try.prog 5 #[.int .i64 a0, .int .i64 a1, .int .i64 a2] w fun e w' => e = .returned (.bool r) ∧ Below w.heap.size w w' := by
  have HR_ := Aside0.mk hr_
  clear hr_
  have hu23 := Try.underlying23
  have HB := Aside0.mk (Below.refl w.heap.size w)
  have H : ((sacristanlaw11_valid.f a0 a1 0 0).bind fun bt143 => ((delay_After.f bt143.1 bt143.2.1 bt143.2.2.1 bt143.2.2.2.1 bt143.2.2.2.2 (Int.tmod (wrap64 ((Int.tmod a2 64) + 64)) 64)).bind fun bt149 => ((delay_After.f bt143.1 bt143.2.1 bt143.2.2.1 bt143.2.2.2.1 bt143.2.2.2.2 (wrap64 ((Int.tmod (wrap64 ((Int.tmod a2 64) + 64)) 64) + 1))).bind fun bt151 => (if bt149.2 = 0 then (if bt151.2 = 0 then (if bt149.1 < bt143.2.2.2.1 then (sacristanlaw11_DelayGrows.j0 k (Int.tmod (wrap64 ((Int.tmod a2 64) + 64)) 64) bt149.1 bt151.1 true bt143.1 bt143.2.1 bt143.2.2.1 bt143.2.2.2.1 bt143.2.2.2.2) else (if bt149.1 > bt143.2.2.2.2 then (sacristanlaw11_DelayGrows.j0 k (Int.tmod (wrap64 ((Int.tmod a2 64) + 64)) 64) bt149.1 bt151.1 true bt143.1 bt143.2.1 bt143.2.2.1 bt143.2.2.2.1 bt143.2.2.2.2) else (if bt151.1 < bt149.1 then (sacristanlaw11_DelayGrows.j0 k (Int.tmod (wrap64 ((Int.tmod a2 64) + 64)) 64) bt149.1 bt151.1 true bt143.1 bt143.2.1 bt143.2.2.1 bt143.2.2.2.1 bt143.2.2.2.2) else (if bt151.1 > (wrap64 (2 * bt149.1)) then (sacristanlaw11_DelayGrows.j0 k (Int.tmod (wrap64 ((Int.tmod a2 64) + 64)) 64) bt149.1 bt151.1 true bt143.1 bt143.2.1 bt143.2.2.1 bt143.2.2.2.1 bt143.2.2.2.2) else (sacristanlaw11_DelayGrows.j0 k (Int.tmod (wrap64 ((Int.tmod a2 64) + 64)) 64) bt149.1 bt151.1 (decide (bt151.1 > bt143.2.2.2.2)) bt143.1 bt143.2.1 bt143.2.2.1 bt143.2.2.2.1 bt143.2.2.2.2))))) else (sacristanlaw11_DelayGrows.j0 k (Int.tmod (wrap64 ((Int.tmod a2 64) + 64)) 64) bt149.1 bt151.1 true bt143.1 bt143.2.1 bt143.2.2.1 bt143.2.2.2.1 bt143.2.2.2.2)) else (sacristanlaw11_DelayGrows.j0 k (Int.tmod (wrap64 ((Int.tmod a2 64) + 64)) 64) bt149.1 bt151.1 true bt143.1 bt143.2.1 bt143.2.2.1 bt143.2.2.2.1 bt143.2.2.2.2))))) = some r := h
  clear h
  replace H := Option.bind_eq_some_iff.mp H
  obtain ⟨⟨t143, t144, t145, t146, t147⟩, A40, H⟩ := H
  replace H : ((delay_After.f t143 t144 t145 t146 t147 (Int.tmod (wrap64 ((Int.tmod a2 64) + 64)) 64)).bind fun bt149 => ((delay_After.f t143 t144 t145 t146 t147 (wrap64 ((Int.tmod (wrap64 ((Int.tmod a2 64) + 64)) 64) + 1))).bind fun bt151 => (if bt149.2 = 0 then (if bt151.2 = 0 then (if bt149.1 < t146 then (sacristanlaw11_DelayGrows.j0 k (Int.tmod (wrap64 ((Int.tmod a2 64) + 64)) 64) bt149.1 bt151.1 true t143 t144 t145 t146 t147) else (if bt149.1 > t147 then (sacristanlaw11_DelayGrows.j0 k (Int.tmod (wrap64 ((Int.tmod a2 64) + 64)) 64) bt149.1 bt151.1 true t143 t144 t145 t146 t147) else (if bt151.1 < bt149.1 then (sacristanlaw11_DelayGrows.j0 k (Int.tmod (wrap64 ((Int.tmod a2 64) + 64)) 64) bt149.1 bt151.1 true t143 t144 t145 t146 t147) else (if bt151.1 > (wrap64 (2 * bt149.1)) then (sacristanlaw11_DelayGrows.j0 k (Int.tmod (wrap64 ((Int.tmod a2 64) + 64)) 64) bt149.1 bt151.1 true t143 t144 t145 t146 t147) else (sacristanlaw11_DelayGrows.j0 k (Int.tmod (wrap64 ((Int.tmod a2 64) + 64)) 64) bt149.1 bt151.1 (decide (bt151.1 > t147)) t143 t144 t145 t146 t147))))) else (sacristanlaw11_DelayGrows.j0 k (Int.tmod (wrap64 ((Int.tmod a2 64) + 64)) 64) bt149.1 bt151.1 true t143 t144 t145 t146 t147)) else (sacristanlaw11_DelayGrows.j0 k (Int.tmod (wrap64 ((Int.tmod a2 64) + 64)) 64) bt149.1 bt151.1 true t143 t144 t145 t146 t147)))) = some r := H
  have A4 := Aside0.mk A40
  clear A40
  replace H := Option.bind_eq_some_iff.mp H
  obtain ⟨⟨t149, t150⟩, A50, H⟩ := H
  replace H : ((delay_After.f t143 t144 t145 t146 t147 (wrap64 ((Int.tmod (wrap64 ((Int.tmod a2 64) + 64)) 64) + 1))).bind fun bt151 => (if t150 = 0 then (if bt151.2 = 0 then (if t149 < t146 then (sacristanlaw11_DelayGrows.j0 k (Int.tmod (wrap64 ((Int.tmod a2 64) + 64)) 64) t149 bt151.1 true t143 t144 t145 t146 t147) else (if t149 > t147 then (sacristanlaw11_DelayGrows.j0 k (Int.tmod (wrap64 ((Int.tmod a2 64) + 64)) 64) t149 bt151.1 true t143 t144 t145 t146 t147) else (if bt151.1 < t149 then (sacristanlaw11_DelayGrows.j0 k (Int.tmod (wrap64 ((Int.tmod a2 64) + 64)) 64) t149 bt151.1 true t143 t144 t145 t146 t147) else (if bt151.1 > (wrap64 (2 * t149)) then (sacristanlaw11_DelayGrows.j0 k (Int.tmod (wrap64 ((Int.tmod a2 64) + 64)) 64) t149 bt151.1 true t143 t144 t145 t146 t147) else (sacristanlaw11_DelayGrows.j0 k (Int.tmod (wrap64 ((Int.tmod a2 64) + 64)) 64) t149 bt151.1 (decide (bt151.1 > t147)) t143 t144 t145 t146 t147))))) else (sacristanlaw11_DelayGrows.j0 k (Int.tmod (wrap64 ((Int.tmod a2 64) + 64)) 64) t149 bt151.1 true t143 t144 t145 t146 t147)) else (sacristanlaw11_DelayGrows.j0 k (Int.tmod (wrap64 ((Int.tmod a2 64) + 64)) 64) t149 bt151.1 true t143 t144 t145 t146 t147))) = some r := H
  have A5 := Aside0.mk A50
  clear A50
  replace H := Option.bind_eq_some_iff.mp H
  obtain ⟨⟨t151, t152⟩, A60, H⟩ := H
  replace H : (if t150 = 0 then (if t152 = 0 then (if t149 < t146 then (sacristanlaw11_DelayGrows.j0 k (Int.tmod (wrap64 ((Int.tmod a2 64) + 64)) 64) t149 t151 true t143 t144 t145 t146 t147) else (if t149 > t147 then (sacristanlaw11_DelayGrows.j0 k (Int.tmod (wrap64 ((Int.tmod a2 64) + 64)) 64) t149 t151 true t143 t144 t145 t146 t147) else (if t151 < t149 then (sacristanlaw11_DelayGrows.j0 k (Int.tmod (wrap64 ((Int.tmod a2 64) + 64)) 64) t149 t151 true t143 t144 t145 t146 t147) else (if t151 > (wrap64 (2 * t149)) then (sacristanlaw11_DelayGrows.j0 k (Int.tmod (wrap64 ((Int.tmod a2 64) + 64)) 64) t149 t151 true t143 t144 t145 t146 t147) else (sacristanlaw11_DelayGrows.j0 k (Int.tmod (wrap64 ((Int.tmod a2 64) + 64)) 64) t149 t151 (decide (t151 > t147)) t143 t144 t145 t146 t147))))) else (sacristanlaw11_DelayGrows.j0 k (Int.tmod (wrap64 ((Int.tmod a2 64) + 64)) 64) t149 t151 true t143 t144 t145 t146 t147)) else (sacristanlaw11_DelayGrows.j0 k (Int.tmod (wrap64 ((Int.tmod a2 64) + 64)) 64) t149 t151 true t143 t144 t145 t146 t147)) = some r := H
  have A6 := Aside0.mk A60
  clear A60
  have HC7 := Aside0.mk H
  clear H
  go_enter Try.func5, Try.ntmps5
  go_upto_region 5 with (first | ((with_reducible refine gate_callee (f := 19) rfl ?_); refine goesL_ (some 14) rfl rfl Try.func19 (by kernel_rfl) rfl #[.int .i64 a0, .int .i64 a1, .int .i64 0, .int .i64 0] rfl (by (try simp only [List.map_toArray, List.map_cons, List.map_nil]); first | done | rfl | (simp only [List.length_drop, List.length_take]; rfl)) ?_; (with_reducible refine (sacristanlaw11_valid.calls a0 a1 0 0 t143 t144 t145 t146 t147 _ A4.out).mono ?_); rintro e w8 ⟨rfl, hb⟩; refine ⟨_, rfl, ?_⟩; have n0_ := Aside0.mk (below_step (w := w) (by repeat (first | (with_reducible first | exact HB.out | apply below_alloc | apply pw_below_drewN | apply below_drew1) | exact HB.out)) hb); clear HB; have HB := n0_; clear n0_; (try clear hb); (try clear hb2); (try clear hk); (try clear hi)) | ((with_reducible refine gate_dst (N := 7) rfl ?_); refine box_event ?hg (N := 7) ?hd (cs := #[.bool false, .int .i64 0, .int .i64 0, .int .i64 0, .int .i64 0]) (t := 23) ?hr ?_; (case hd => rfl); (case hg => rfl); (case hr => first | (go_simp; done) | (go_simp; rfl)); intro gb148 hg w9 hbox hb; have n0_ := Aside0.mk (below_step (w := w) (by repeat (first | (with_reducible first | exact HB.out | apply below_alloc | apply pw_below_drewN | apply below_drew1) | exact HB.out)) hb); have n1_ := Aside0.mk (hbox); have n2_ := Aside0.mk ((by rw [hg]; exact (below_size (by repeat (first | (with_reducible first | exact HB.out | apply below_alloc | apply pw_below_drewN | apply below_drew1) | exact HB.out))) : w.heap.size ≤ gb148)); have n3_ := Aside0.mk ((by rw [hg]; exact (below_size (by repeat (first | (with_reducible first | exact HB.out | apply below_alloc | apply pw_below_drewN | apply below_drew1) | exact HB.out))) : w.heap.size ≤ gb148)); clear HB; have HB := n0_; have BK148 := n1_; have GW148 := n2_; have GE148 := n3_; clear n0_ n1_ n2_ n3_; clear hb hbox hg; have hcz10_0 : w9.cell? ⟨gb148, 0, none⟩ = some (.bool false) := (blk_cell BK148.out 0).trans rfl; have hcz10_1 : w9.cell? ⟨gb148, 1, none⟩ = some (.int .i64 0) := (blk_cell BK148.out 1).trans rfl; have hcz10_2 : w9.cell? ⟨gb148, 2, none⟩ = some (.int .i64 0) := (blk_cell BK148.out 2).trans rfl; have hcz10_3 : w9.cell? ⟨gb148, 3, none⟩ = some (.int .i64 0) := (blk_cell BK148.out 3).trans rfl; have hcz10_4 : w9.cell? ⟨gb148, 4, none⟩ = some (.int .i64 0) := (blk_cell BK148.out 4).trans rfl; have hfz10_0 := blk_frozen BK148.out 0; have hfz10_1 := blk_frozen BK148.out 1; have hfz10_2 := blk_frozen BK148.out 2; have hfz10_3 := blk_frozen BK148.out 3; have hfz10_4 := blk_frozen BK148.out 4) | ((with_reducible refine gate_callee (f := 14) rfl ?_); refine goesL_ (some 22) rfl rfl Try.func14 (by kernel_rfl) rfl #[.agg #[.bool t143, .int .i64 t144, .int .i64 t145, .int .i64 t146, .int .i64 t147], .int .i64 (Int.tmod (wrap64 ((Int.tmod a2 64) + 64)) 64)] rfl (by (try simp only [List.map_toArray, List.map_cons, List.map_nil]); first | done | rfl | (simp only [List.length_drop, List.length_take]; rfl)) ?_; (with_reducible refine (delay_After.calls t143 t144 t145 t146 t147 (Int.tmod (wrap64 ((Int.tmod a2 64) + 64)) 64) t149 t150 _ A5.out).mono ?_); rintro e w11 ⟨rfl, hb⟩; refine ⟨_, rfl, ?_⟩; have n0_ := Aside0.mk (blk_below (g := gb148) (o := .cells #[.bool t143, .int .i64 t144, .int .i64 t145, .int .i64 t146, .int .i64 t147] 23 (0, 0)) (by (with_reducible repeat (first | refine blk_drewN ?_ _ | refine blk_drew ?_ | refine blk_alloc ?_ _)); refine blk_put (cs := #[.bool t143, .int .i64 t144, .int .i64 t145, .int .i64 t146, .int .i64 0]) ?_ 4 _ rfl; (with_reducible repeat (first | refine blk_drewN ?_ _ | refine blk_drew ?_ | refine blk_alloc ?_ _)); refine blk_put (cs := #[.bool t143, .int .i64 t144, .int .i64 t145, .int .i64 0, .int .i64 0]) ?_ 3 _ rfl; (with_reducible repeat (first | refine blk_drewN ?_ _ | refine blk_drew ?_ | refine blk_alloc ?_ _)); refine blk_put (cs := #[.bool t143, .int .i64 t144, .int .i64 0, .int .i64 0, .int .i64 0]) ?_ 2 _ rfl; (with_reducible repeat (first | refine blk_drewN ?_ _ | refine blk_drew ?_ | refine blk_alloc ?_ _)); refine blk_put (cs := #[.bool t143, .int .i64 0, .int .i64 0, .int .i64 0, .int .i64 0]) ?_ 1 _ rfl; (with_reducible repeat (first | refine blk_drewN ?_ _ | refine blk_drew ?_ | refine blk_alloc ?_ _)); refine blk_put (cs := #[.bool false, .int .i64 0, .int .i64 0, .int .i64 0, .int .i64 0]) ?_ 0 _ rfl; (with_reducible repeat (first | refine blk_drewN ?_ _ | refine blk_drew ?_ | refine blk_alloc ?_ _)); exact BK148.out) hb); have n1_ := Aside0.mk (below_step (w := w) (by repeat (first | (with_reducible first | exact HB.out | apply below_alloc | apply pw_below_drewN | apply below_drew1 | refine below_set ?_ GE148.out) | exact HB.out)) hb); clear BK148; clear HB; have BK148 := n0_; have HB := n1_; clear n0_ n1_; (try clear hb); (try clear hb2); (try clear hk); (try clear hi); have hcz12_0 : w11.cell? ⟨gb148, 0, none⟩ = some (.bool t143) := (blk_cell BK148.out 0).trans rfl; have hcz12_1 : w11.cell? ⟨gb148, 1, none⟩ = some (.int .i64 t144) := (blk_cell BK148.out 1).trans rfl; have hcz12_2 : w11.cell? ⟨gb148, 2, none⟩ = some (.int .i64 t145) := (blk_cell BK148.out 2).trans rfl; have hcz12_3 : w11.cell? ⟨gb148, 3, none⟩ = some (.int .i64 t146) := (blk_cell BK148.out 3).trans rfl; have hcz12_4 : w11.cell? ⟨gb148, 4, none⟩ = some (.int .i64 t147) := (blk_cell BK148.out 4).trans rfl; have hfz12_0 := blk_frozen BK148.out 0; have hfz12_1 := blk_frozen BK148.out 1; have hfz12_2 := blk_frozen BK148.out 2; have hfz12_3 := blk_frozen BK148.out 3; have hfz12_4 := blk_frozen BK148.out 4) | ((with_reducible refine gate_callee (f := 14) rfl ?_); refine goesL_ (some 29) rfl rfl Try.func14 (by kernel_rfl) rfl #[.agg #[.bool t143, .int .i64 t144, .int .i64 t145, .int .i64 t146, .int .i64 t147], .int .i64 (wrap64 ((Int.tmod (wrap64 ((Int.tmod a2 64) + 64)) 64) + 1))] rfl (by (try simp only [List.map_toArray, List.map_cons, List.map_nil]); first | done | rfl | (simp only [List.length_drop, List.length_take]; rfl)) ?_; (with_reducible refine (delay_After.calls t143 t144 t145 t146 t147 (wrap64 ((Int.tmod (wrap64 ((Int.tmod a2 64) + 64)) 64) + 1)) t151 t152 _ A6.out).mono ?_); rintro e w13 ⟨rfl, hb⟩; refine ⟨_, rfl, ?_⟩; have n0_ := Aside0.mk (blk_below (g := gb148) (o := .cells #[.bool t143, .int .i64 t144, .int .i64 t145, .int .i64 t146, .int .i64 t147] 23 (0, 0)) (by (with_reducible repeat (first | refine blk_drewN ?_ _ | refine blk_drew ?_ | refine blk_alloc ?_ _)); exact BK148.out) hb); have n1_ := Aside0.mk (below_step (w := w) (by repeat (first | (with_reducible first | exact HB.out | apply below_alloc | apply pw_below_drewN | apply below_drew1 | refine below_set ?_ GE148.out) | exact HB.out)) hb); clear BK148; clear HB; have BK148 := n0_; have HB := n1_; clear n0_ n1_; (try clear hb); (try clear hb2); (try clear hk); (try clear hi)))
  (try simp only [Act.put, List.setIfInBounds_toArray, List.set_cons_zero, List.set_cons_succ])
  go_cut [66] (fun v66 wc => ∃ (kq : Nat) (x66_6 : Bool), v66 = .bool x66_6 ∧ Aside0 (sacristanlaw11_DelayGrows.j0 kq (Int.tmod (wrap64 ((Int.tmod a2 64) + 64)) 64) t149 t151 x66_6 t143 t144 t145 t146 t147 = some r) ∧ Aside0 (kq ≤ k) ∧ Aside0 (wc.heap[gb148]? = some (.cells #[.bool t143, .int .i64 t144, .int .i64 t145, .int .i64 t146, .int .i64 t147] 23 (0, 0))) ∧ Aside0 (Below w.heap.size w wc))
  case first =>
    have H := HC7.out
    clear HC7
    by_cases c14 : t150 = 0
    · rw [if_pos c14] at H
      have c14b0 : (t150 == 0) = true := beq_iff_eq.mpr c14
      have c14b1 : (t150 != 0) = false := bne_eq_false_iff_eq.mpr c14
      clear c14
      (first | rw [c14b0] | (simp only [i64_w, i32_w]; rw [c14b0]) | skip)
      by_cases c15 : t152 = 0
      · rw [if_pos c15] at H
        have c15b0 : (t152 == 0) = true := beq_iff_eq.mpr c15
        have c15b1 : (t152 != 0) = false := bne_eq_false_iff_eq.mpr c15
        clear c15
        by_cases c16 : t149 < t146
        · rw [if_pos c16] at H
          have c16b0 : decide (t149 < t146) = true := decide_eq_true c16
          clear c16
          have H' := Aside0.mk H
          clear H
          have hcz17_0 : w13.cell? ⟨gb148, 0, none⟩ = some (.bool t143) := (blk_cell BK148.out 0).trans rfl
          have hcz17_1 : w13.cell? ⟨gb148, 1, none⟩ = some (.int .i64 t144) := (blk_cell BK148.out 1).trans rfl
          have hcz17_2 : w13.cell? ⟨gb148, 2, none⟩ = some (.int .i64 t145) := (blk_cell BK148.out 2).trans rfl
          have hcz17_3 : w13.cell? ⟨gb148, 3, none⟩ = some (.int .i64 t146) := (blk_cell BK148.out 3).trans rfl
          have hcz17_4 : w13.cell? ⟨gb148, 4, none⟩ = some (.int .i64 t147) := (blk_cell BK148.out 4).trans rfl
          have hfz17_0 := blk_frozen BK148.out 0
          have hfz17_1 := blk_frozen BK148.out 1
          have hfz17_2 := blk_frozen BK148.out 2
          have hfz17_3 := blk_frozen BK148.out 3
          have hfz17_4 := blk_frozen BK148.out 4
          go_wp2
          go_meet
          case rel => exact ⟨_, (true), (by first | rfl | (simp; done) | (simp [*]; done)), H', ⟨by first | omega | exact Nat.le_refl _⟩, ⟨by (with_reducible repeat (first | refine blk_drewN ?_ _ | refine blk_drew ?_ | refine blk_alloc ?_ _)); exact BK148.out⟩, ⟨by repeat (first | (with_reducible first | exact HB.out | apply below_alloc | apply pw_below_drewN | apply below_drew1 | refine below_set ?_ GE148.out) | exact HB.out)⟩⟩
        · rw [if_neg c16] at H
          have c16b0 : decide (t149 < t146) = false := decide_eq_false c16
          clear c16
          by_cases c18 : t149 > t147
          · rw [if_pos c18] at H
            have c18b0 : decide (t147 < t149) = true := decide_eq_true c18
            clear c18
            have H' := Aside0.mk H
            clear H
            have hcz19_0 : w13.cell? ⟨gb148, 0, none⟩ = some (.bool t143) := (blk_cell BK148.out 0).trans rfl
            have hcz19_1 : w13.cell? ⟨gb148, 1, none⟩ = some (.int .i64 t144) := (blk_cell BK148.out 1).trans rfl
            have hcz19_2 : w13.cell? ⟨gb148, 2, none⟩ = some (.int .i64 t145) := (blk_cell BK148.out 2).trans rfl
            have hcz19_3 : w13.cell? ⟨gb148, 3, none⟩ = some (.int .i64 t146) := (blk_cell BK148.out 3).trans rfl
            have hcz19_4 : w13.cell? ⟨gb148, 4, none⟩ = some (.int .i64 t147) := (blk_cell BK148.out 4).trans rfl
            have hfz19_0 := blk_frozen BK148.out 0
            have hfz19_1 := blk_frozen BK148.out 1
            have hfz19_2 := blk_frozen BK148.out 2
            have hfz19_3 := blk_frozen BK148.out 3
            have hfz19_4 := blk_frozen BK148.out 4
            go_wp2
            go_meet
            case rel => exact ⟨_, (true), (by first | rfl | (simp; done) | (simp [*]; done)), H', ⟨by first | omega | exact Nat.le_refl _⟩, ⟨by (with_reducible repeat (first | refine blk_drewN ?_ _ | refine blk_drew ?_ | refine blk_alloc ?_ _)); exact BK148.out⟩, ⟨by repeat (first | (with_reducible first | exact HB.out | apply below_alloc | apply pw_below_drewN | apply below_drew1 | refine below_set ?_ GE148.out) | exact HB.out)⟩⟩
          · rw [if_neg c18] at H
            have c18b0 : decide (t147 < t149) = false := decide_eq_false c18
            clear c18
            by_cases c20 : t151 < t149
            · rw [if_pos c20] at H
              have c20b0 : decide (t151 < t149) = true := decide_eq_true c20
              clear c20
              have H' := Aside0.mk H
              clear H
              have hcz21_0 : w13.cell? ⟨gb148, 0, none⟩ = some (.bool t143) := (blk_cell BK148.out 0).trans rfl
              have hcz21_1 : w13.cell? ⟨gb148, 1, none⟩ = some (.int .i64 t144) := (blk_cell BK148.out 1).trans rfl
              have hcz21_2 : w13.cell? ⟨gb148, 2, none⟩ = some (.int .i64 t145) := (blk_cell BK148.out 2).trans rfl
              have hcz21_3 : w13.cell? ⟨gb148, 3, none⟩ = some (.int .i64 t146) := (blk_cell BK148.out 3).trans rfl
              have hcz21_4 : w13.cell? ⟨gb148, 4, none⟩ = some (.int .i64 t147) := (blk_cell BK148.out 4).trans rfl
              have hfz21_0 := blk_frozen BK148.out 0
              have hfz21_1 := blk_frozen BK148.out 1
              have hfz21_2 := blk_frozen BK148.out 2
              have hfz21_3 := blk_frozen BK148.out 3
              have hfz21_4 := blk_frozen BK148.out 4
              go_wp2
              go_meet
              case rel => exact ⟨_, (true), (by first | rfl | (simp; done) | (simp [*]; done)), H', ⟨by first | omega | exact Nat.le_refl _⟩, ⟨by (with_reducible repeat (first | refine blk_drewN ?_ _ | refine blk_drew ?_ | refine blk_alloc ?_ _)); exact BK148.out⟩, ⟨by repeat (first | (with_reducible first | exact HB.out | apply below_alloc | apply pw_below_drewN | apply below_drew1 | refine below_set ?_ GE148.out) | exact HB.out)⟩⟩
            · rw [if_neg c20] at H
              have c20b0 : decide (t151 < t149) = false := decide_eq_false c20
              clear c20
              by_cases c22 : t151 > (wrap64 (2 * t149))
              · rw [if_pos c22] at H
                have c22b0 : decide ((wrap64 (2 * t149)) < t151) = true := decide_eq_true c22
                clear c22
                have H' := Aside0.mk H
                clear H
                have hcz23_0 : w13.cell? ⟨gb148, 0, none⟩ = some (.bool t143) := (blk_cell BK148.out 0).trans rfl
                have hcz23_1 : w13.cell? ⟨gb148, 1, none⟩ = some (.int .i64 t144) := (blk_cell BK148.out 1).trans rfl
                have hcz23_2 : w13.cell? ⟨gb148, 2, none⟩ = some (.int .i64 t145) := (blk_cell BK148.out 2).trans rfl
                have hcz23_3 : w13.cell? ⟨gb148, 3, none⟩ = some (.int .i64 t146) := (blk_cell BK148.out 3).trans rfl
                have hcz23_4 : w13.cell? ⟨gb148, 4, none⟩ = some (.int .i64 t147) := (blk_cell BK148.out 4).trans rfl
                have hfz23_0 := blk_frozen BK148.out 0
                have hfz23_1 := blk_frozen BK148.out 1
                have hfz23_2 := blk_frozen BK148.out 2
                have hfz23_3 := blk_frozen BK148.out 3
                have hfz23_4 := blk_frozen BK148.out 4
                go_wp2
                go_meet
                case rel => exact ⟨_, (true), (by first | rfl | (simp; done) | (simp [*]; done)), H', ⟨by first | omega | exact Nat.le_refl _⟩, ⟨by (with_reducible repeat (first | refine blk_drewN ?_ _ | refine blk_drew ?_ | refine blk_alloc ?_ _)); exact BK148.out⟩, ⟨by repeat (first | (with_reducible first | exact HB.out | apply below_alloc | apply pw_below_drewN | apply below_drew1 | refine below_set ?_ GE148.out) | exact HB.out)⟩⟩
              · rw [if_neg c22] at H
                have c22b0 : decide ((wrap64 (2 * t149)) < t151) = false := decide_eq_false c22
                clear c22
                have H' := Aside0.mk H
                clear H
                have hcz24_0 : w13.cell? ⟨gb148, 0, none⟩ = some (.bool t143) := (blk_cell BK148.out 0).trans rfl
                have hcz24_1 : w13.cell? ⟨gb148, 1, none⟩ = some (.int .i64 t144) := (blk_cell BK148.out 1).trans rfl
                have hcz24_2 : w13.cell? ⟨gb148, 2, none⟩ = some (.int .i64 t145) := (blk_cell BK148.out 2).trans rfl
                have hcz24_3 : w13.cell? ⟨gb148, 3, none⟩ = some (.int .i64 t146) := (blk_cell BK148.out 3).trans rfl
                have hcz24_4 : w13.cell? ⟨gb148, 4, none⟩ = some (.int .i64 t147) := (blk_cell BK148.out 4).trans rfl
                have hfz24_0 := blk_frozen BK148.out 0
                have hfz24_1 := blk_frozen BK148.out 1
                have hfz24_2 := blk_frozen BK148.out 2
                have hfz24_3 := blk_frozen BK148.out 3
                have hfz24_4 := blk_frozen BK148.out 4
                go_wp2
                go_meet
                case rel => exact ⟨_, (decide (t151 > t147)), (by first | rfl | (simp; done) | (simp [*]; done)), H', ⟨by first | omega | exact Nat.le_refl _⟩, ⟨by (with_reducible repeat (first | refine blk_drewN ?_ _ | refine blk_drew ?_ | refine blk_alloc ?_ _)); exact BK148.out⟩, ⟨by repeat (first | (with_reducible first | exact HB.out | apply below_alloc | apply pw_below_drewN | apply below_drew1 | refine below_set ?_ GE148.out) | exact HB.out)⟩⟩
      · rw [if_neg c15] at H
        have c15b0 : (t152 == 0) = false := beq_eq_false_iff_ne.mpr c15
        have c15b1 : (t152 != 0) = true := bne_iff_ne.mpr c15
        have H' := Aside0.mk H
        clear H
        go_wp2
        go_meet
        case rel => exact ⟨_, (true), (by first | rfl | (simp; done) | (simp [*]; done)), H', ⟨by first | omega | exact Nat.le_refl _⟩, ⟨by (with_reducible repeat (first | refine blk_drewN ?_ _ | refine blk_drew ?_ | refine blk_alloc ?_ _)); exact BK148.out⟩, ⟨by repeat (first | (with_reducible first | exact HB.out | apply below_alloc | apply pw_below_drewN | apply below_drew1 | refine below_set ?_ GE148.out) | exact HB.out)⟩⟩
    · rw [if_neg c14] at H
      have c14b0 : (t150 == 0) = false := beq_eq_false_iff_ne.mpr c14
      have c14b1 : (t150 != 0) = true := bne_iff_ne.mpr c14
      (first | rw [c14b0] | (simp only [i64_w, i32_w]; rw [c14b0]) | skip)
      have H' := Aside0.mk H
      clear H
      go_wp2
      go_meet
      case rel => exact ⟨_, (true), (by first | rfl | (simp; done) | (simp [*]; done)), H', ⟨by first | omega | exact Nat.le_refl _⟩, ⟨by (with_reducible repeat (first | refine blk_drewN ?_ _ | refine blk_drew ?_ | refine blk_alloc ?_ _)); exact BK148.out⟩, ⟨by repeat (first | (with_reducible first | exact HB.out | apply below_alloc | apply pw_below_drewN | apply below_drew1 | refine below_set ?_ GE148.out) | exact HB.out)⟩⟩
  case rest =>
    clear HC7
    try clear c1
    try clear c2
    try clear p2
    try clear c5
    try clear p6
    try clear c14
    try clear c14b0
    try clear c14b1
    try clear c15
    try clear c15b0
    try clear c15b1
    try clear c16
    try clear c16b0
    try clear c18
    try clear c18b0
    try clear c19
    try clear c20
    try clear c20b0
    try clear c22
    try clear c22b0
    try clear hcz10_0
    try clear hcz10_1
    try clear hcz10_2
    try clear hcz10_3
    try clear hcz10_4
    try clear hcz12_0
    try clear hcz12_1
    try clear hcz12_2
    try clear hcz12_3
    try clear hcz12_4
    try clear hcz17_0
    try clear hcz17_1
    try clear hcz17_2
    try clear hcz17_3
    try clear hcz17_4
    try clear hcz19_0
    try clear hcz19_1
    try clear hcz19_2
    try clear hcz19_3
    try clear hcz19_4
    try clear hcz21_0
    try clear hcz21_1
    try clear hcz21_2
    try clear hcz21_3
    try clear hcz21_4
    try clear hcz23_0
    try clear hcz23_1
    try clear hcz23_2
    try clear hcz23_3
    try clear hcz23_4
    try clear hcz24_0
    try clear hcz24_1
    try clear hcz24_2
    try clear hcz24_3
    try clear hcz24_4
    try clear hfz10_0
    try clear hfz10_1
    try clear hfz10_2
    try clear hfz10_3
    try clear hfz10_4
    try clear hfz12_0
    try clear hfz12_1
    try clear hfz12_2
    try clear hfz12_3
    try clear hfz12_4
    try clear hfz17_0
    try clear hfz17_1
    try clear hfz17_2
    try clear hfz17_3
    try clear hfz17_4
    try clear hfz19_0
    try clear hfz19_1
    try clear hfz19_2
    try clear hfz19_3
    try clear hfz19_4
    try clear hfz21_0
    try clear hfz21_1
    try clear hfz21_2
    try clear hfz21_3
    try clear hfz21_4
    try clear hfz23_0
    try clear hfz23_1
    try clear hfz23_2
    try clear hfz23_3
    try clear hfz23_4
    try clear hfz24_0
    try clear hfz24_1
    try clear hfz24_2
    try clear hfz24_3
    try clear hfz24_4
    obtain ⟨kq, x66_6, rfl, HA, HJ6, BK148, HB⟩ := hcut
    cases kq with
    | zero => exact absurd HA.out (by simp [sacristanlaw11_DelayGrows.j0])
    | succ kj6 =>
      have H := HA.out
      clear HA
      simp only [sacristanlaw11_DelayGrows.j0] at H
      by_cases c25 : x66_6 = true
      · subst c25
        have H1 : (some false) = some r := by rw [if_pos rfl] at H; exact H
        clear H
        have H := H1
        clear H1
        obtain rfl := Option.some.inj H
        exact absurd HR_.out (by simp)
      · replace c25 := Bool.eq_false_iff.mpr c25
        subst c25
        have H1 : (if (Int.tmod (wrap64 ((Int.tmod a2 64) + 64)) 64) = 0 then (if t149 = t146 then (if t151 = t146 then (if (Int.tmod (wrap64 ((Int.tmod a2 64) + 64)) 64) > 0 then (if t151 < t147 then (if t151 = (wrap64 (2 * t149)) then (if (wrap64 (2 * t149)) ≤ t147 then (if (Int.tmod (wrap64 ((Int.tmod a2 64) + 64)) 64) < 42 then ((sacristanlaw11_awake.f kj6).bind fun t153 => (some t153)) else (if t151 = t147 then ((sacristanlaw11_awake.f kj6).bind fun t154 => (some t154)) else (some false))) else (if (Int.tmod (wrap64 ((Int.tmod a2 64) + 64)) 64) < 42 then ((sacristanlaw11_awake.f kj6).bind fun t155 => (some t155)) else (if t151 = t147 then ((sacristanlaw11_awake.f kj6).bind fun t156 => (some t156)) else (some false)))) else (some false)) else (if (wrap64 (2 * t149)) ≤ t147 then (if t151 = (wrap64 (2 * t149)) then (if (Int.tmod (wrap64 ((Int.tmod a2 64) + 64)) 64) < 42 then ((sacristanlaw11_awake.f kj6).bind fun t157 => (some t157)) else (if t151 = t147 then ((sacristanlaw11_awake.f kj6).bind fun t158 => (some t158)) else (some false))) else (some false)) else (if (Int.tmod (wrap64 ((Int.tmod a2 64) + 64)) 64) < 42 then ((sacristanlaw11_awake.f kj6).bind fun t159 => (some t159)) else (if t151 = t147 then ((sacristanlaw11_awake.f kj6).bind fun t160 => (some t160)) else (some false))))) else (if (Int.tmod (wrap64 ((Int.tmod a2 64) + 64)) 64) < 42 then ((sacristanlaw11_awake.f kj6).bind fun t161 => (some t161)) else (if t151 = t147 then ((sacristanlaw11_awake.f kj6).bind fun t162 => (some t162)) else (some false)))) else (some false)) else (some false)) else (if (Int.tmod (wrap64 ((Int.tmod a2 64) + 64)) 64) > 0 then (if t151 < t147 then (if t151 = (wrap64 (2 * t149)) then (if (wrap64 (2 * t149)) ≤ t147 then (if (Int.tmod (wrap64 ((Int.tmod a2 64) + 64)) 64) < 42 then ((sacristanlaw11_awake.f kj6).bind fun t163 => (some t163)) else (if t151 = t147 then ((sacristanlaw11_awake.f kj6).bind fun t164 => (some t164)) else (some false))) else (if (Int.tmod (wrap64 ((Int.tmod a2 64) + 64)) 64) < 42 then ((sacristanlaw11_awake.f kj6).bind fun t165 => (some t165)) else (if t151 = t147 then ((sacristanlaw11_awake.f kj6).bind fun t166 => (some t166)) else (some false)))) else (some false)) else (if (wrap64 (2 * t149)) ≤ t147 then (if t151 = (wrap64 (2 * t149)) then (if (Int.tmod (wrap64 ((Int.tmod a2 64) + 64)) 64) < 42 then ((sacristanlaw11_awake.f kj6).bind fun t167 => (some t167)) else (if t151 = t147 then ((sacristanlaw11_awake.f kj6).bind fun t168 => (some t168)) else (some false))) else (some false)) else (if (Int.tmod (wrap64 ((Int.tmod a2 64) + 64)) 64) < 42 then ((sacristanlaw11_awake.f kj6).bind fun t169 => (some t169)) else (if t151 = t147 then ((sacristanlaw11_awake.f kj6).bind fun t170 => (some t170)) else (some false))))) else (if (Int.tmod (wrap64 ((Int.tmod a2 64) + 64)) 64) < 42 then ((sacristanlaw11_awake.f kj6).bind fun t171 => (some t171)) else (if t151 = t147 then ((sacristanlaw11_awake.f kj6).bind fun t172 => (some t172)) else (some false))))) = some r := by rw [if_neg (show ¬ (false = true) by decide)] at H; exact H
        clear H
        have H := H1
        clear H1
        by_cases c26 : (Int.tmod (wrap64 ((Int.tmod a2 64) + 64)) 64) = 0
        · rw [if_pos c26] at H
          have c26b0 : ((Int.tmod (wrap64 ((Int.tmod a2 64) + 64)) 64) == 0) = true := beq_iff_eq.mpr c26
          have c26b1 : ((Int.tmod (wrap64 ((Int.tmod a2 64) + 64)) 64) != 0) = false := bne_eq_false_iff_eq.mpr c26
          clear c26
          by_cases c27 : t149 = t146
          · rw [if_pos c27] at H
            have c27b0 : (t149 == t146) = true := beq_iff_eq.mpr c27
            have c27b1 : (t149 != t146) = false := bne_eq_false_iff_eq.mpr c27
            clear c27
            by_cases c28 : t151 = t146
            · rw [if_pos c28] at H
              have c28b0 : (t151 == t146) = true := beq_iff_eq.mpr c28
              have c28b1 : (t151 != t146) = false := bne_eq_false_iff_eq.mpr c28
              clear c28
              by_cases c29 : (Int.tmod (wrap64 ((Int.tmod a2 64) + 64)) 64) > 0
              · rw [if_pos c29] at H
                have c29b0 : decide (0 < (Int.tmod (wrap64 ((Int.tmod a2 64) + 64)) 64)) = true := decide_eq_true c29
                clear c29
                by_cases c30 : t151 < t147
                · rw [if_pos c30] at H
                  have c30b0 : decide (t151 < t147) = true := decide_eq_true c30
                  clear c30
                  by_cases c31 : t151 = (wrap64 (2 * t149))
                  · rw [if_pos c31] at H
                    have c31b0 : (t151 == (wrap64 (2 * t149))) = true := beq_iff_eq.mpr c31
                    have c31b1 : (t151 != (wrap64 (2 * t149))) = false := bne_eq_false_iff_eq.mpr c31
                    clear c31
                    by_cases c32 : (wrap64 (2 * t149)) ≤ t147
                    · rw [if_pos c32] at H
                      have c32b0 : decide ((wrap64 (2 * t149)) ≤ t147) = true := decide_eq_true c32
                      clear c32
                      by_cases c33 : (Int.tmod (wrap64 ((Int.tmod a2 64) + 64)) 64) < 42
                      · rw [if_pos c33] at H
                        have c33b0 : decide ((Int.tmod (wrap64 ((Int.tmod a2 64) + 64)) 64) < 42) = true := decide_eq_true c33
                        clear c33
                        replace H := Option.bind_eq_some_iff.mp H
                        obtain ⟨t153, A340, H⟩ := H
                        replace H : (some t153) = some r := H
                        have A34 := Aside0.mk A340
                        clear A340
                        obtain rfl := Option.some.inj H
                        have hcz35_0 : wc.cell? ⟨gb148, 0, none⟩ = some (.bool t143) := (blk_cell BK148.out 0).trans rfl
                        have hcz35_1 : wc.cell? ⟨gb148, 1, none⟩ = some (.int .i64 t144) := (blk_cell BK148.out 1).trans rfl
                        have hcz35_2 : wc.cell? ⟨gb148, 2, none⟩ = some (.int .i64 t145) := (blk_cell BK148.out 2).trans rfl
                        have hcz35_3 : wc.cell? ⟨gb148, 3, none⟩ = some (.int .i64 t146) := (blk_cell BK148.out 3).trans rfl
                        have hcz35_4 : wc.cell? ⟨gb148, 4, none⟩ = some (.int .i64 t147) := (blk_cell BK148.out 4).trans rfl
                        have hfz35_0 := blk_frozen BK148.out 0
                        have hfz35_1 := blk_frozen BK148.out 1
                        have hfz35_2 := blk_frozen BK148.out 2
                        have hfz35_3 := blk_frozen BK148.out 3
                        have hfz35_4 := blk_frozen BK148.out 4
                        go_wp2_with (first | (go_at_call 18; (with_reducible refine (sacristanlaw11_awake.calls kj6  t153 _ A34.out (by first | rfl | exact HR_.out)).mono ?_); (try clear A34); rintro e w36 ⟨rfl, hb⟩; have n0_ := Aside0.mk (blk_below (g := gb148) (o := .cells #[.bool t143, .int .i64 t144, .int .i64 t145, .int .i64 t146, .int .i64 t147] 23 (0, 0)) (by (with_reducible repeat (first | refine blk_drewN ?_ _ | refine blk_drew ?_ | refine blk_alloc ?_ _)); exact BK148.out) hb); have n1_ := Aside0.mk (below_step (w := w) (by repeat (first | (with_reducible first | exact HB.out | apply below_alloc | apply pw_below_drewN | apply below_drew1 | refine below_set ?_ GE148.out) | exact HB.out)) hb); clear BK148; clear HB; have BK148 := n0_; have HB := n1_; clear n0_ n1_; (try clear hb); (try clear hb2); (try clear hk); (try clear hi)))
                        go_ret
                        exact ⟨by first | rfl | (simp [errW_none, errW_some] <;> rfl) | (simp [*, errW_none, errW_some] <;> rfl), by repeat (first | (with_reducible first | exact HB.out | apply below_alloc | apply pw_below_drewN | apply below_drew1 | refine below_set ?_ GE148.out) | exact HB.out)⟩
                      · rw [if_neg c33] at H
                        have c33b0 : decide ((Int.tmod (wrap64 ((Int.tmod a2 64) + 64)) 64) < 42) = false := decide_eq_false c33
                        clear c33
                        by_cases c37 : t151 = t147
                        · rw [if_pos c37] at H
                          have c37b0 : (t151 == t147) = true := beq_iff_eq.mpr c37
                          have c37b1 : (t151 != t147) = false := bne_eq_false_iff_eq.mpr c37
                          clear c37
                          replace H := Option.bind_eq_some_iff.mp H
                          obtain ⟨t154, A380, H⟩ := H
                          replace H : (some t154) = some r := H
                          have A38 := Aside0.mk A380
                          clear A380
                          obtain rfl := Option.some.inj H
                          have hcz39_0 : wc.cell? ⟨gb148, 0, none⟩ = some (.bool t143) := (blk_cell BK148.out 0).trans rfl
                          have hcz39_1 : wc.cell? ⟨gb148, 1, none⟩ = some (.int .i64 t144) := (blk_cell BK148.out 1).trans rfl
                          have hcz39_2 : wc.cell? ⟨gb148, 2, none⟩ = some (.int .i64 t145) := (blk_cell BK148.out 2).trans rfl
                          have hcz39_3 : wc.cell? ⟨gb148, 3, none⟩ = some (.int .i64 t146) := (blk_cell BK148.out 3).trans rfl
                          have hcz39_4 : wc.cell? ⟨gb148, 4, none⟩ = some (.int .i64 t147) := (blk_cell BK148.out 4).trans rfl
                          have hfz39_0 := blk_frozen BK148.out 0
                          have hfz39_1 := blk_frozen BK148.out 1
                          have hfz39_2 := blk_frozen BK148.out 2
                          have hfz39_3 := blk_frozen BK148.out 3
                          have hfz39_4 := blk_frozen BK148.out 4
                          go_wp2_with (first | (go_at_call 18; (with_reducible refine (sacristanlaw11_awake.calls kj6  t154 _ A38.out (by first | rfl | exact HR_.out)).mono ?_); (try clear A38); rintro e w40 ⟨rfl, hb⟩; have n0_ := Aside0.mk (blk_below (g := gb148) (o := .cells #[.bool t143, .int .i64 t144, .int .i64 t145, .int .i64 t146, .int .i64 t147] 23 (0, 0)) (by (with_reducible repeat (first | refine blk_drewN ?_ _ | refine blk_drew ?_ | refine blk_alloc ?_ _)); exact BK148.out) hb); have n1_ := Aside0.mk (below_step (w := w) (by repeat (first | (with_reducible first | exact HB.out | apply below_alloc | apply pw_below_drewN | apply below_drew1 | refine below_set ?_ GE148.out) | exact HB.out)) hb); clear BK148; clear HB; have BK148 := n0_; have HB := n1_; clear n0_ n1_; (try clear hb); (try clear hb2); (try clear hk); (try clear hi)))
                          go_ret
                          exact ⟨by first | rfl | (simp [errW_none, errW_some] <;> rfl) | (simp [*, errW_none, errW_some] <;> rfl), by repeat (first | (with_reducible first | exact HB.out | apply below_alloc | apply pw_below_drewN | apply below_drew1 | refine below_set ?_ GE148.out) | exact HB.out)⟩
                        · rw [if_neg c37] at H
                          have c37b0 : (t151 == t147) = false := beq_eq_false_iff_ne.mpr c37
                          have c37b1 : (t151 != t147) = true := bne_iff_ne.mpr c37
                          obtain rfl := Option.some.inj H
                          exact absurd HR_.out (by simp)
                    · rw [if_neg c32] at H
                      have c32b0 : decide ((wrap64 (2 * t149)) ≤ t147) = false := decide_eq_false c32
                      clear c32
                      by_cases c41 : (Int.tmod (wrap64 ((Int.tmod a2 64) + 64)) 64) < 42
                      · rw [if_pos c41] at H
                        have c41b0 : decide ((Int.tmod (wrap64 ((Int.tmod a2 64) + 64)) 64) < 42) = true := decide_eq_true c41
                        clear c41
                        replace H := Option.bind_eq_some_iff.mp H
                        obtain ⟨t155, A420, H⟩ := H
                        replace H : (some t155) = some r := H
                        have A42 := Aside0.mk A420
                        clear A420
                        obtain rfl := Option.some.inj H
                        have hcz43_0 : wc.cell? ⟨gb148, 0, none⟩ = some (.bool t143) := (blk_cell BK148.out 0).trans rfl
                        have hcz43_1 : wc.cell? ⟨gb148, 1, none⟩ = some (.int .i64 t144) := (blk_cell BK148.out 1).trans rfl
                        have hcz43_2 : wc.cell? ⟨gb148, 2, none⟩ = some (.int .i64 t145) := (blk_cell BK148.out 2).trans rfl
                        have hcz43_3 : wc.cell? ⟨gb148, 3, none⟩ = some (.int .i64 t146) := (blk_cell BK148.out 3).trans rfl
                        have hcz43_4 : wc.cell? ⟨gb148, 4, none⟩ = some (.int .i64 t147) := (blk_cell BK148.out 4).trans rfl
                        have hfz43_0 := blk_frozen BK148.out 0
                        have hfz43_1 := blk_frozen BK148.out 1
                        have hfz43_2 := blk_frozen BK148.out 2
                        have hfz43_3 := blk_frozen BK148.out 3
                        have hfz43_4 := blk_frozen BK148.out 4
                        go_wp2_with (first | (go_at_call 18; (with_reducible refine (sacristanlaw11_awake.calls kj6  t155 _ A42.out (by first | rfl | exact HR_.out)).mono ?_); (try clear A42); rintro e w44 ⟨rfl, hb⟩; have n0_ := Aside0.mk (blk_below (g := gb148) (o := .cells #[.bool t143, .int .i64 t144, .int .i64 t145, .int .i64 t146, .int .i64 t147] 23 (0, 0)) (by (with_reducible repeat (first | refine blk_drewN ?_ _ | refine blk_drew ?_ | refine blk_alloc ?_ _)); exact BK148.out) hb); have n1_ := Aside0.mk (below_step (w := w) (by repeat (first | (with_reducible first | exact HB.out | apply below_alloc | apply pw_below_drewN | apply below_drew1 | refine below_set ?_ GE148.out) | exact HB.out)) hb); clear BK148; clear HB; have BK148 := n0_; have HB := n1_; clear n0_ n1_; (try clear hb); (try clear hb2); (try clear hk); (try clear hi)))
                        go_ret
                        exact ⟨by first | rfl | (simp [errW_none, errW_some] <;> rfl) | (simp [*, errW_none, errW_some] <;> rfl), by repeat (first | (with_reducible first | exact HB.out | apply below_alloc | apply pw_below_drewN | apply below_drew1 | refine below_set ?_ GE148.out) | exact HB.out)⟩
                      · rw [if_neg c41] at H
                        have c41b0 : decide ((Int.tmod (wrap64 ((Int.tmod a2 64) + 64)) 64) < 42) = false := decide_eq_false c41
                        clear c41
                        by_cases c45 : t151 = t147
                        · rw [if_pos c45] at H
                          have c45b0 : (t151 == t147) = true := beq_iff_eq.mpr c45
                          have c45b1 : (t151 != t147) = false := bne_eq_false_iff_eq.mpr c45
                          clear c45
                          replace H := Option.bind_eq_some_iff.mp H
                          obtain ⟨t156, A460, H⟩ := H
                          replace H : (some t156) = some r := H
                          have A46 := Aside0.mk A460
                          clear A460
                          obtain rfl := Option.some.inj H
                          have hcz47_0 : wc.cell? ⟨gb148, 0, none⟩ = some (.bool t143) := (blk_cell BK148.out 0).trans rfl
                          have hcz47_1 : wc.cell? ⟨gb148, 1, none⟩ = some (.int .i64 t144) := (blk_cell BK148.out 1).trans rfl
                          have hcz47_2 : wc.cell? ⟨gb148, 2, none⟩ = some (.int .i64 t145) := (blk_cell BK148.out 2).trans rfl
                          have hcz47_3 : wc.cell? ⟨gb148, 3, none⟩ = some (.int .i64 t146) := (blk_cell BK148.out 3).trans rfl
                          have hcz47_4 : wc.cell? ⟨gb148, 4, none⟩ = some (.int .i64 t147) := (blk_cell BK148.out 4).trans rfl
                          have hfz47_0 := blk_frozen BK148.out 0
                          have hfz47_1 := blk_frozen BK148.out 1
                          have hfz47_2 := blk_frozen BK148.out 2
                          have hfz47_3 := blk_frozen BK148.out 3
                          have hfz47_4 := blk_frozen BK148.out 4
                          go_wp2_with (first | (go_at_call 18; (with_reducible refine (sacristanlaw11_awake.calls kj6  t156 _ A46.out (by first | rfl | exact HR_.out)).mono ?_); (try clear A46); rintro e w48 ⟨rfl, hb⟩; have n0_ := Aside0.mk (blk_below (g := gb148) (o := .cells #[.bool t143, .int .i64 t144, .int .i64 t145, .int .i64 t146, .int .i64 t147] 23 (0, 0)) (by (with_reducible repeat (first | refine blk_drewN ?_ _ | refine blk_drew ?_ | refine blk_alloc ?_ _)); exact BK148.out) hb); have n1_ := Aside0.mk (below_step (w := w) (by repeat (first | (with_reducible first | exact HB.out | apply below_alloc | apply pw_below_drewN | apply below_drew1 | refine below_set ?_ GE148.out) | exact HB.out)) hb); clear BK148; clear HB; have BK148 := n0_; have HB := n1_; clear n0_ n1_; (try clear hb); (try clear hb2); (try clear hk); (try clear hi)))
                          go_ret
                          exact ⟨by first | rfl | (simp [errW_none, errW_some] <;> rfl) | (simp [*, errW_none, errW_some] <;> rfl), by repeat (first | (with_reducible first | exact HB.out | apply below_alloc | apply pw_below_drewN | apply below_drew1 | refine below_set ?_ GE148.out) | exact HB.out)⟩
                        · rw [if_neg c45] at H
                          have c45b0 : (t151 == t147) = false := beq_eq_false_iff_ne.mpr c45
                          have c45b1 : (t151 != t147) = true := bne_iff_ne.mpr c45
                          obtain rfl := Option.some.inj H
                          exact absurd HR_.out (by simp)
                  · rw [if_neg c31] at H
                    have c31b0 : (t151 == (wrap64 (2 * t149))) = false := beq_eq_false_iff_ne.mpr c31
                    have c31b1 : (t151 != (wrap64 (2 * t149))) = true := bne_iff_ne.mpr c31
                    obtain rfl := Option.some.inj H
                    exact absurd HR_.out (by simp)
                · rw [if_neg c30] at H
                  have c30b0 : decide (t151 < t147) = false := decide_eq_false c30
                  clear c30
                  by_cases c49 : (wrap64 (2 * t149)) ≤ t147
                  · rw [if_pos c49] at H
                    have c49b0 : decide ((wrap64 (2 * t149)) ≤ t147) = true := decide_eq_true c49
                    clear c49
                    by_cases c50 : t151 = (wrap64 (2 * t149))
                    · rw [if_pos c50] at H
                      have c50b0 : (t151 == (wrap64 (2 * t149))) = true := beq_iff_eq.mpr c50
                      have c50b1 : (t151 != (wrap64 (2 * t149))) = false := bne_eq_false_iff_eq.mpr c50
                      clear c50
                      by_cases c51 : (Int.tmod (wrap64 ((Int.tmod a2 64) + 64)) 64) < 42
                      · rw [if_pos c51] at H
                        have c51b0 : decide ((Int.tmod (wrap64 ((Int.tmod a2 64) + 64)) 64) < 42) = true := decide_eq_true c51
                        clear c51
                        replace H := Option.bind_eq_some_iff.mp H
                        obtain ⟨t157, A520, H⟩ := H
                        replace H : (some t157) = some r := H
                        have A52 := Aside0.mk A520
                        clear A520
                        obtain rfl := Option.some.inj H
                        have hcz53_0 : wc.cell? ⟨gb148, 0, none⟩ = some (.bool t143) := (blk_cell BK148.out 0).trans rfl
                        have hcz53_1 : wc.cell? ⟨gb148, 1, none⟩ = some (.int .i64 t144) := (blk_cell BK148.out 1).trans rfl
                        have hcz53_2 : wc.cell? ⟨gb148, 2, none⟩ = some (.int .i64 t145) := (blk_cell BK148.out 2).trans rfl
                        have hcz53_3 : wc.cell? ⟨gb148, 3, none⟩ = some (.int .i64 t146) := (blk_cell BK148.out 3).trans rfl
                        have hcz53_4 : wc.cell? ⟨gb148, 4, none⟩ = some (.int .i64 t147) := (blk_cell BK148.out 4).trans rfl
                        have hfz53_0 := blk_frozen BK148.out 0
                        have hfz53_1 := blk_frozen BK148.out 1
                        have hfz53_2 := blk_frozen BK148.out 2
                        have hfz53_3 := blk_frozen BK148.out 3
                        have hfz53_4 := blk_frozen BK148.out 4
                        go_wp2_with (first | (go_at_call 18; (with_reducible refine (sacristanlaw11_awake.calls kj6  t157 _ A52.out (by first | rfl | exact HR_.out)).mono ?_); (try clear A52); rintro e w54 ⟨rfl, hb⟩; have n0_ := Aside0.mk (blk_below (g := gb148) (o := .cells #[.bool t143, .int .i64 t144, .int .i64 t145, .int .i64 t146, .int .i64 t147] 23 (0, 0)) (by (with_reducible repeat (first | refine blk_drewN ?_ _ | refine blk_drew ?_ | refine blk_alloc ?_ _)); exact BK148.out) hb); have n1_ := Aside0.mk (below_step (w := w) (by repeat (first | (with_reducible first | exact HB.out | apply below_alloc | apply pw_below_drewN | apply below_drew1 | refine below_set ?_ GE148.out) | exact HB.out)) hb); clear BK148; clear HB; have BK148 := n0_; have HB := n1_; clear n0_ n1_; (try clear hb); (try clear hb2); (try clear hk); (try clear hi)))
                        go_ret
                        exact ⟨by first | rfl | (simp [errW_none, errW_some] <;> rfl) | (simp [*, errW_none, errW_some] <;> rfl), by repeat (first | (with_reducible first | exact HB.out | apply below_alloc | apply pw_below_drewN | apply below_drew1 | refine below_set ?_ GE148.out) | exact HB.out)⟩
                      · rw [if_neg c51] at H
                        have c51b0 : decide ((Int.tmod (wrap64 ((Int.tmod a2 64) + 64)) 64) < 42) = false := decide_eq_false c51
                        clear c51
                        by_cases c55 : t151 = t147
                        · rw [if_pos c55] at H
                          have c55b0 : (t151 == t147) = true := beq_iff_eq.mpr c55
                          have c55b1 : (t151 != t147) = false := bne_eq_false_iff_eq.mpr c55
                          clear c55
                          replace H := Option.bind_eq_some_iff.mp H
                          obtain ⟨t158, A560, H⟩ := H
                          replace H : (some t158) = some r := H
                          have A56 := Aside0.mk A560
                          clear A560
                          obtain rfl := Option.some.inj H
                          have hcz57_0 : wc.cell? ⟨gb148, 0, none⟩ = some (.bool t143) := (blk_cell BK148.out 0).trans rfl
                          have hcz57_1 : wc.cell? ⟨gb148, 1, none⟩ = some (.int .i64 t144) := (blk_cell BK148.out 1).trans rfl
                          have hcz57_2 : wc.cell? ⟨gb148, 2, none⟩ = some (.int .i64 t145) := (blk_cell BK148.out 2).trans rfl
                          have hcz57_3 : wc.cell? ⟨gb148, 3, none⟩ = some (.int .i64 t146) := (blk_cell BK148.out 3).trans rfl
                          have hcz57_4 : wc.cell? ⟨gb148, 4, none⟩ = some (.int .i64 t147) := (blk_cell BK148.out 4).trans rfl
                          have hfz57_0 := blk_frozen BK148.out 0
                          have hfz57_1 := blk_frozen BK148.out 1
                          have hfz57_2 := blk_frozen BK148.out 2
                          have hfz57_3 := blk_frozen BK148.out 3
                          have hfz57_4 := blk_frozen BK148.out 4
                          go_wp2_with (first | (go_at_call 18; (with_reducible refine (sacristanlaw11_awake.calls kj6  t158 _ A56.out (by first | rfl | exact HR_.out)).mono ?_); (try clear A56); rintro e w58 ⟨rfl, hb⟩; have n0_ := Aside0.mk (blk_below (g := gb148) (o := .cells #[.bool t143, .int .i64 t144, .int .i64 t145, .int .i64 t146, .int .i64 t147] 23 (0, 0)) (by (with_reducible repeat (first | refine blk_drewN ?_ _ | refine blk_drew ?_ | refine blk_alloc ?_ _)); exact BK148.out) hb); have n1_ := Aside0.mk (below_step (w := w) (by repeat (first | (with_reducible first | exact HB.out | apply below_alloc | apply pw_below_drewN | apply below_drew1 | refine below_set ?_ GE148.out) | exact HB.out)) hb); clear BK148; clear HB; have BK148 := n0_; have HB := n1_; clear n0_ n1_; (try clear hb); (try clear hb2); (try clear hk); (try clear hi)))
                          go_ret
                          exact ⟨by first | rfl | (simp [errW_none, errW_some] <;> rfl) | (simp [*, errW_none, errW_some] <;> rfl), by repeat (first | (with_reducible first | exact HB.out | apply below_alloc | apply pw_below_drewN | apply below_drew1 | refine below_set ?_ GE148.out) | exact HB.out)⟩
                        · rw [if_neg c55] at H
                          have c55b0 : (t151 == t147) = false := beq_eq_false_iff_ne.mpr c55
                          have c55b1 : (t151 != t147) = true := bne_iff_ne.mpr c55
                          obtain rfl := Option.some.inj H
                          exact absurd HR_.out (by simp)
                    · rw [if_neg c50] at H
                      have c50b0 : (t151 == (wrap64 (2 * t149))) = false := beq_eq_false_iff_ne.mpr c50
                      have c50b1 : (t151 != (wrap64 (2 * t149))) = true := bne_iff_ne.mpr c50
                      obtain rfl := Option.some.inj H
                      exact absurd HR_.out (by simp)
                  · rw [if_neg c49] at H
                    have c49b0 : decide ((wrap64 (2 * t149)) ≤ t147) = false := decide_eq_false c49
                    clear c49
                    by_cases c59 : (Int.tmod (wrap64 ((Int.tmod a2 64) + 64)) 64) < 42
                    · rw [if_pos c59] at H
                      have c59b0 : decide ((Int.tmod (wrap64 ((Int.tmod a2 64) + 64)) 64) < 42) = true := decide_eq_true c59
                      clear c59
                      replace H := Option.bind_eq_some_iff.mp H
                      obtain ⟨t159, A600, H⟩ := H
                      replace H : (some t159) = some r := H
                      have A60 := Aside0.mk A600
                      clear A600
                      obtain rfl := Option.some.inj H
                      have hcz61_0 : wc.cell? ⟨gb148, 0, none⟩ = some (.bool t143) := (blk_cell BK148.out 0).trans rfl
                      have hcz61_1 : wc.cell? ⟨gb148, 1, none⟩ = some (.int .i64 t144) := (blk_cell BK148.out 1).trans rfl
                      have hcz61_2 : wc.cell? ⟨gb148, 2, none⟩ = some (.int .i64 t145) := (blk_cell BK148.out 2).trans rfl
                      have hcz61_3 : wc.cell? ⟨gb148, 3, none⟩ = some (.int .i64 t146) := (blk_cell BK148.out 3).trans rfl
                      have hcz61_4 : wc.cell? ⟨gb148, 4, none⟩ = some (.int .i64 t147) := (blk_cell BK148.out 4).trans rfl
                      have hfz61_0 := blk_frozen BK148.out 0
                      have hfz61_1 := blk_frozen BK148.out 1
                      have hfz61_2 := blk_frozen BK148.out 2
                      have hfz61_3 := blk_frozen BK148.out 3
                      have hfz61_4 := blk_frozen BK148.out 4
                      go_wp2_with (first | (go_at_call 18; (with_reducible refine (sacristanlaw11_awake.calls kj6  t159 _ A60.out (by first | rfl | exact HR_.out)).mono ?_); (try clear A60); rintro e w62 ⟨rfl, hb⟩; have n0_ := Aside0.mk (blk_below (g := gb148) (o := .cells #[.bool t143, .int .i64 t144, .int .i64 t145, .int .i64 t146, .int .i64 t147] 23 (0, 0)) (by (with_reducible repeat (first | refine blk_drewN ?_ _ | refine blk_drew ?_ | refine blk_alloc ?_ _)); exact BK148.out) hb); have n1_ := Aside0.mk (below_step (w := w) (by repeat (first | (with_reducible first | exact HB.out | apply below_alloc | apply pw_below_drewN | apply below_drew1 | refine below_set ?_ GE148.out) | exact HB.out)) hb); clear BK148; clear HB; have BK148 := n0_; have HB := n1_; clear n0_ n1_; (try clear hb); (try clear hb2); (try clear hk); (try clear hi)))
                      go_ret
                      exact ⟨by first | rfl | (simp [errW_none, errW_some] <;> rfl) | (simp [*, errW_none, errW_some] <;> rfl), by repeat (first | (with_reducible first | exact HB.out | apply below_alloc | apply pw_below_drewN | apply below_drew1 | refine below_set ?_ GE148.out) | exact HB.out)⟩
                    · rw [if_neg c59] at H
                      have c59b0 : decide ((Int.tmod (wrap64 ((Int.tmod a2 64) + 64)) 64) < 42) = false := decide_eq_false c59
                      clear c59
                      by_cases c63 : t151 = t147
                      · rw [if_pos c63] at H
                        have c63b0 : (t151 == t147) = true := beq_iff_eq.mpr c63
                        have c63b1 : (t151 != t147) = false := bne_eq_false_iff_eq.mpr c63
                        clear c63
                        replace H := Option.bind_eq_some_iff.mp H
                        obtain ⟨t160, A640, H⟩ := H
                        replace H : (some t160) = some r := H
                        have A64 := Aside0.mk A640
                        clear A640
                        obtain rfl := Option.some.inj H
                        have hcz65_0 : wc.cell? ⟨gb148, 0, none⟩ = some (.bool t143) := (blk_cell BK148.out 0).trans rfl
                        have hcz65_1 : wc.cell? ⟨gb148, 1, none⟩ = some (.int .i64 t144) := (blk_cell BK148.out 1).trans rfl
                        have hcz65_2 : wc.cell? ⟨gb148, 2, none⟩ = some (.int .i64 t145) := (blk_cell BK148.out 2).trans rfl
                        have hcz65_3 : wc.cell? ⟨gb148, 3, none⟩ = some (.int .i64 t146) := (blk_cell BK148.out 3).trans rfl
                        have hcz65_4 : wc.cell? ⟨gb148, 4, none⟩ = some (.int .i64 t147) := (blk_cell BK148.out 4).trans rfl
                        have hfz65_0 := blk_frozen BK148.out 0
                        have hfz65_1 := blk_frozen BK148.out 1
                        have hfz65_2 := blk_frozen BK148.out 2
                        have hfz65_3 := blk_frozen BK148.out 3
                        have hfz65_4 := blk_frozen BK148.out 4
                        go_wp2_with (first | (go_at_call 18; (with_reducible refine (sacristanlaw11_awake.calls kj6  t160 _ A64.out (by first | rfl | exact HR_.out)).mono ?_); (try clear A64); rintro e w66 ⟨rfl, hb⟩; have n0_ := Aside0.mk (blk_below (g := gb148) (o := .cells #[.bool t143, .int .i64 t144, .int .i64 t145, .int .i64 t146, .int .i64 t147] 23 (0, 0)) (by (with_reducible repeat (first | refine blk_drewN ?_ _ | refine blk_drew ?_ | refine blk_alloc ?_ _)); exact BK148.out) hb); have n1_ := Aside0.mk (below_step (w := w) (by repeat (first | (with_reducible first | exact HB.out | apply below_alloc | apply pw_below_drewN | apply below_drew1 | refine below_set ?_ GE148.out) | exact HB.out)) hb); clear BK148; clear HB; have BK148 := n0_; have HB := n1_; clear n0_ n1_; (try clear hb); (try clear hb2); (try clear hk); (try clear hi)))
                        go_ret
                        exact ⟨by first | rfl | (simp [errW_none, errW_some] <;> rfl) | (simp [*, errW_none, errW_some] <;> rfl), by repeat (first | (with_reducible first | exact HB.out | apply below_alloc | apply pw_below_drewN | apply below_drew1 | refine below_set ?_ GE148.out) | exact HB.out)⟩
                      · rw [if_neg c63] at H
                        have c63b0 : (t151 == t147) = false := beq_eq_false_iff_ne.mpr c63
                        have c63b1 : (t151 != t147) = true := bne_iff_ne.mpr c63
                        obtain rfl := Option.some.inj H
                        exact absurd HR_.out (by simp)
              · rw [if_neg c29] at H
                have c29b0 : decide (0 < (Int.tmod (wrap64 ((Int.tmod a2 64) + 64)) 64)) = false := decide_eq_false c29
                clear c29
                by_cases c67 : (Int.tmod (wrap64 ((Int.tmod a2 64) + 64)) 64) < 42
                · rw [if_pos c67] at H
                  have c67b0 : decide ((Int.tmod (wrap64 ((Int.tmod a2 64) + 64)) 64) < 42) = true := decide_eq_true c67
                  clear c67
                  replace H := Option.bind_eq_some_iff.mp H
                  obtain ⟨t161, A680, H⟩ := H
                  replace H : (some t161) = some r := H
                  have A68 := Aside0.mk A680
                  clear A680
                  obtain rfl := Option.some.inj H
                  have hcz69_0 : wc.cell? ⟨gb148, 0, none⟩ = some (.bool t143) := (blk_cell BK148.out 0).trans rfl
                  have hcz69_1 : wc.cell? ⟨gb148, 1, none⟩ = some (.int .i64 t144) := (blk_cell BK148.out 1).trans rfl
                  have hcz69_2 : wc.cell? ⟨gb148, 2, none⟩ = some (.int .i64 t145) := (blk_cell BK148.out 2).trans rfl
                  have hcz69_3 : wc.cell? ⟨gb148, 3, none⟩ = some (.int .i64 t146) := (blk_cell BK148.out 3).trans rfl
                  have hcz69_4 : wc.cell? ⟨gb148, 4, none⟩ = some (.int .i64 t147) := (blk_cell BK148.out 4).trans rfl
                  have hfz69_0 := blk_frozen BK148.out 0
                  have hfz69_1 := blk_frozen BK148.out 1
                  have hfz69_2 := blk_frozen BK148.out 2
                  have hfz69_3 := blk_frozen BK148.out 3
                  have hfz69_4 := blk_frozen BK148.out 4
                  go_wp2_with (first | (go_at_call 18; (with_reducible refine (sacristanlaw11_awake.calls kj6  t161 _ A68.out (by first | rfl | exact HR_.out)).mono ?_); (try clear A68); rintro e w70 ⟨rfl, hb⟩; have n0_ := Aside0.mk (blk_below (g := gb148) (o := .cells #[.bool t143, .int .i64 t144, .int .i64 t145, .int .i64 t146, .int .i64 t147] 23 (0, 0)) (by (with_reducible repeat (first | refine blk_drewN ?_ _ | refine blk_drew ?_ | refine blk_alloc ?_ _)); exact BK148.out) hb); have n1_ := Aside0.mk (below_step (w := w) (by repeat (first | (with_reducible first | exact HB.out | apply below_alloc | apply pw_below_drewN | apply below_drew1 | refine below_set ?_ GE148.out) | exact HB.out)) hb); clear BK148; clear HB; have BK148 := n0_; have HB := n1_; clear n0_ n1_; (try clear hb); (try clear hb2); (try clear hk); (try clear hi)))
                  go_ret
                  exact ⟨by first | rfl | (simp [errW_none, errW_some] <;> rfl) | (simp [*, errW_none, errW_some] <;> rfl), by repeat (first | (with_reducible first | exact HB.out | apply below_alloc | apply pw_below_drewN | apply below_drew1 | refine below_set ?_ GE148.out) | exact HB.out)⟩
                · rw [if_neg c67] at H
                  have c67b0 : decide ((Int.tmod (wrap64 ((Int.tmod a2 64) + 64)) 64) < 42) = false := decide_eq_false c67
                  clear c67
                  by_cases c71 : t151 = t147
                  · rw [if_pos c71] at H
                    have c71b0 : (t151 == t147) = true := beq_iff_eq.mpr c71
                    have c71b1 : (t151 != t147) = false := bne_eq_false_iff_eq.mpr c71
                    clear c71
                    replace H := Option.bind_eq_some_iff.mp H
                    obtain ⟨t162, A720, H⟩ := H
                    replace H : (some t162) = some r := H
                    have A72 := Aside0.mk A720
                    clear A720
                    obtain rfl := Option.some.inj H
                    have hcz73_0 : wc.cell? ⟨gb148, 0, none⟩ = some (.bool t143) := (blk_cell BK148.out 0).trans rfl
                    have hcz73_1 : wc.cell? ⟨gb148, 1, none⟩ = some (.int .i64 t144) := (blk_cell BK148.out 1).trans rfl
                    have hcz73_2 : wc.cell? ⟨gb148, 2, none⟩ = some (.int .i64 t145) := (blk_cell BK148.out 2).trans rfl
                    have hcz73_3 : wc.cell? ⟨gb148, 3, none⟩ = some (.int .i64 t146) := (blk_cell BK148.out 3).trans rfl
                    have hcz73_4 : wc.cell? ⟨gb148, 4, none⟩ = some (.int .i64 t147) := (blk_cell BK148.out 4).trans rfl
                    have hfz73_0 := blk_frozen BK148.out 0
                    have hfz73_1 := blk_frozen BK148.out 1
                    have hfz73_2 := blk_frozen BK148.out 2
                    have hfz73_3 := blk_frozen BK148.out 3
                    have hfz73_4 := blk_frozen BK148.out 4
                    go_wp2_with (first | (go_at_call 18; (with_reducible refine (sacristanlaw11_awake.calls kj6  t162 _ A72.out (by first | rfl | exact HR_.out)).mono ?_); (try clear A72); rintro e w74 ⟨rfl, hb⟩; have n0_ := Aside0.mk (blk_below (g := gb148) (o := .cells #[.bool t143, .int .i64 t144, .int .i64 t145, .int .i64 t146, .int .i64 t147] 23 (0, 0)) (by (with_reducible repeat (first | refine blk_drewN ?_ _ | refine blk_drew ?_ | refine blk_alloc ?_ _)); exact BK148.out) hb); have n1_ := Aside0.mk (below_step (w := w) (by repeat (first | (with_reducible first | exact HB.out | apply below_alloc | apply pw_below_drewN | apply below_drew1 | refine below_set ?_ GE148.out) | exact HB.out)) hb); clear BK148; clear HB; have BK148 := n0_; have HB := n1_; clear n0_ n1_; (try clear hb); (try clear hb2); (try clear hk); (try clear hi)))
                    go_ret
                    exact ⟨by first | rfl | (simp [errW_none, errW_some] <;> rfl) | (simp [*, errW_none, errW_some] <;> rfl), by repeat (first | (with_reducible first | exact HB.out | apply below_alloc | apply pw_below_drewN | apply below_drew1 | refine below_set ?_ GE148.out) | exact HB.out)⟩
                  · rw [if_neg c71] at H
                    have c71b0 : (t151 == t147) = false := beq_eq_false_iff_ne.mpr c71
                    have c71b1 : (t151 != t147) = true := bne_iff_ne.mpr c71
                    obtain rfl := Option.some.inj H
                    exact absurd HR_.out (by simp)
            · rw [if_neg c28] at H
              have c28b0 : (t151 == t146) = false := beq_eq_false_iff_ne.mpr c28
              have c28b1 : (t151 != t146) = true := bne_iff_ne.mpr c28
              obtain rfl := Option.some.inj H
              exact absurd HR_.out (by simp)
          · rw [if_neg c27] at H
            have c27b0 : (t149 == t146) = false := beq_eq_false_iff_ne.mpr c27
            have c27b1 : (t149 != t146) = true := bne_iff_ne.mpr c27
            obtain rfl := Option.some.inj H
            exact absurd HR_.out (by simp)
        · rw [if_neg c26] at H
          have c26b0 : ((Int.tmod (wrap64 ((Int.tmod a2 64) + 64)) 64) == 0) = false := beq_eq_false_iff_ne.mpr c26
          have c26b1 : ((Int.tmod (wrap64 ((Int.tmod a2 64) + 64)) 64) != 0) = true := bne_iff_ne.mpr c26
          by_cases c75 : (Int.tmod (wrap64 ((Int.tmod a2 64) + 64)) 64) > 0
          · rw [if_pos c75] at H
            have c75b0 : decide (0 < (Int.tmod (wrap64 ((Int.tmod a2 64) + 64)) 64)) = true := decide_eq_true c75
            clear c75
            by_cases c76 : t151 < t147
            · rw [if_pos c76] at H
              have c76b0 : decide (t151 < t147) = true := decide_eq_true c76
              clear c76
              by_cases c77 : t151 = (wrap64 (2 * t149))
              · rw [if_pos c77] at H
                have c77b0 : (t151 == (wrap64 (2 * t149))) = true := beq_iff_eq.mpr c77
                have c77b1 : (t151 != (wrap64 (2 * t149))) = false := bne_eq_false_iff_eq.mpr c77
                clear c77
                by_cases c78 : (wrap64 (2 * t149)) ≤ t147
                · rw [if_pos c78] at H
                  have c78b0 : decide ((wrap64 (2 * t149)) ≤ t147) = true := decide_eq_true c78
                  clear c78
                  by_cases c79 : (Int.tmod (wrap64 ((Int.tmod a2 64) + 64)) 64) < 42
                  · rw [if_pos c79] at H
                    have c79b0 : decide ((Int.tmod (wrap64 ((Int.tmod a2 64) + 64)) 64) < 42) = true := decide_eq_true c79
                    clear c79
                    replace H := Option.bind_eq_some_iff.mp H
                    obtain ⟨t163, A800, H⟩ := H
                    replace H : (some t163) = some r := H
                    have A80 := Aside0.mk A800
                    clear A800
                    obtain rfl := Option.some.inj H
                    have hcz81_0 : wc.cell? ⟨gb148, 0, none⟩ = some (.bool t143) := (blk_cell BK148.out 0).trans rfl
                    have hcz81_1 : wc.cell? ⟨gb148, 1, none⟩ = some (.int .i64 t144) := (blk_cell BK148.out 1).trans rfl
                    have hcz81_2 : wc.cell? ⟨gb148, 2, none⟩ = some (.int .i64 t145) := (blk_cell BK148.out 2).trans rfl
                    have hcz81_3 : wc.cell? ⟨gb148, 3, none⟩ = some (.int .i64 t146) := (blk_cell BK148.out 3).trans rfl
                    have hcz81_4 : wc.cell? ⟨gb148, 4, none⟩ = some (.int .i64 t147) := (blk_cell BK148.out 4).trans rfl
                    have hfz81_0 := blk_frozen BK148.out 0
                    have hfz81_1 := blk_frozen BK148.out 1
                    have hfz81_2 := blk_frozen BK148.out 2
                    have hfz81_3 := blk_frozen BK148.out 3
                    have hfz81_4 := blk_frozen BK148.out 4
                    go_wp2_with (first | (go_at_call 18; (with_reducible refine (sacristanlaw11_awake.calls kj6  t163 _ A80.out (by first | rfl | exact HR_.out)).mono ?_); (try clear A80); rintro e w82 ⟨rfl, hb⟩; have n0_ := Aside0.mk (blk_below (g := gb148) (o := .cells #[.bool t143, .int .i64 t144, .int .i64 t145, .int .i64 t146, .int .i64 t147] 23 (0, 0)) (by (with_reducible repeat (first | refine blk_drewN ?_ _ | refine blk_drew ?_ | refine blk_alloc ?_ _)); exact BK148.out) hb); have n1_ := Aside0.mk (below_step (w := w) (by repeat (first | (with_reducible first | exact HB.out | apply below_alloc | apply pw_below_drewN | apply below_drew1 | refine below_set ?_ GE148.out) | exact HB.out)) hb); clear BK148; clear HB; have BK148 := n0_; have HB := n1_; clear n0_ n1_; (try clear hb); (try clear hb2); (try clear hk); (try clear hi)))
                    go_ret
                    exact ⟨by first | rfl | (simp [errW_none, errW_some] <;> rfl) | (simp [*, errW_none, errW_some] <;> rfl), by repeat (first | (with_reducible first | exact HB.out | apply below_alloc | apply pw_below_drewN | apply below_drew1 | refine below_set ?_ GE148.out) | exact HB.out)⟩
                  · rw [if_neg c79] at H
                    have c79b0 : decide ((Int.tmod (wrap64 ((Int.tmod a2 64) + 64)) 64) < 42) = false := decide_eq_false c79
                    clear c79
                    by_cases c83 : t151 = t147
                    · rw [if_pos c83] at H
                      have c83b0 : (t151 == t147) = true := beq_iff_eq.mpr c83
                      have c83b1 : (t151 != t147) = false := bne_eq_false_iff_eq.mpr c83
                      clear c83
                      replace H := Option.bind_eq_some_iff.mp H
                      obtain ⟨t164, A840, H⟩ := H
                      replace H : (some t164) = some r := H
                      have A84 := Aside0.mk A840
                      clear A840
                      obtain rfl := Option.some.inj H
                      have hcz85_0 : wc.cell? ⟨gb148, 0, none⟩ = some (.bool t143) := (blk_cell BK148.out 0).trans rfl
                      have hcz85_1 : wc.cell? ⟨gb148, 1, none⟩ = some (.int .i64 t144) := (blk_cell BK148.out 1).trans rfl
                      have hcz85_2 : wc.cell? ⟨gb148, 2, none⟩ = some (.int .i64 t145) := (blk_cell BK148.out 2).trans rfl
                      have hcz85_3 : wc.cell? ⟨gb148, 3, none⟩ = some (.int .i64 t146) := (blk_cell BK148.out 3).trans rfl
                      have hcz85_4 : wc.cell? ⟨gb148, 4, none⟩ = some (.int .i64 t147) := (blk_cell BK148.out 4).trans rfl
                      have hfz85_0 := blk_frozen BK148.out 0
                      have hfz85_1 := blk_frozen BK148.out 1
                      have hfz85_2 := blk_frozen BK148.out 2
                      have hfz85_3 := blk_frozen BK148.out 3
                      have hfz85_4 := blk_frozen BK148.out 4
                      go_wp2_with (first | (go_at_call 18; (with_reducible refine (sacristanlaw11_awake.calls kj6  t164 _ A84.out (by first | rfl | exact HR_.out)).mono ?_); (try clear A84); rintro e w86 ⟨rfl, hb⟩; have n0_ := Aside0.mk (blk_below (g := gb148) (o := .cells #[.bool t143, .int .i64 t144, .int .i64 t145, .int .i64 t146, .int .i64 t147] 23 (0, 0)) (by (with_reducible repeat (first | refine blk_drewN ?_ _ | refine blk_drew ?_ | refine blk_alloc ?_ _)); exact BK148.out) hb); have n1_ := Aside0.mk (below_step (w := w) (by repeat (first | (with_reducible first | exact HB.out | apply below_alloc | apply pw_below_drewN | apply below_drew1 | refine below_set ?_ GE148.out) | exact HB.out)) hb); clear BK148; clear HB; have BK148 := n0_; have HB := n1_; clear n0_ n1_; (try clear hb); (try clear hb2); (try clear hk); (try clear hi)))
                      go_ret
                      exact ⟨by first | rfl | (simp [errW_none, errW_some] <;> rfl) | (simp [*, errW_none, errW_some] <;> rfl), by repeat (first | (with_reducible first | exact HB.out | apply below_alloc | apply pw_below_drewN | apply below_drew1 | refine below_set ?_ GE148.out) | exact HB.out)⟩
                    · rw [if_neg c83] at H
                      have c83b0 : (t151 == t147) = false := beq_eq_false_iff_ne.mpr c83
                      have c83b1 : (t151 != t147) = true := bne_iff_ne.mpr c83
                      obtain rfl := Option.some.inj H
                      exact absurd HR_.out (by simp)
                · rw [if_neg c78] at H
                  have c78b0 : decide ((wrap64 (2 * t149)) ≤ t147) = false := decide_eq_false c78
                  clear c78
                  by_cases c87 : (Int.tmod (wrap64 ((Int.tmod a2 64) + 64)) 64) < 42
                  · rw [if_pos c87] at H
                    have c87b0 : decide ((Int.tmod (wrap64 ((Int.tmod a2 64) + 64)) 64) < 42) = true := decide_eq_true c87
                    clear c87
                    replace H := Option.bind_eq_some_iff.mp H
                    obtain ⟨t165, A880, H⟩ := H
                    replace H : (some t165) = some r := H
                    have A88 := Aside0.mk A880
                    clear A880
                    obtain rfl := Option.some.inj H
                    have hcz89_0 : wc.cell? ⟨gb148, 0, none⟩ = some (.bool t143) := (blk_cell BK148.out 0).trans rfl
                    have hcz89_1 : wc.cell? ⟨gb148, 1, none⟩ = some (.int .i64 t144) := (blk_cell BK148.out 1).trans rfl
                    have hcz89_2 : wc.cell? ⟨gb148, 2, none⟩ = some (.int .i64 t145) := (blk_cell BK148.out 2).trans rfl
                    have hcz89_3 : wc.cell? ⟨gb148, 3, none⟩ = some (.int .i64 t146) := (blk_cell BK148.out 3).trans rfl
                    have hcz89_4 : wc.cell? ⟨gb148, 4, none⟩ = some (.int .i64 t147) := (blk_cell BK148.out 4).trans rfl
                    have hfz89_0 := blk_frozen BK148.out 0
                    have hfz89_1 := blk_frozen BK148.out 1
                    have hfz89_2 := blk_frozen BK148.out 2
                    have hfz89_3 := blk_frozen BK148.out 3
                    have hfz89_4 := blk_frozen BK148.out 4
                    go_wp2_with (first | (go_at_call 18; (with_reducible refine (sacristanlaw11_awake.calls kj6  t165 _ A88.out (by first | rfl | exact HR_.out)).mono ?_); (try clear A88); rintro e w90 ⟨rfl, hb⟩; have n0_ := Aside0.mk (blk_below (g := gb148) (o := .cells #[.bool t143, .int .i64 t144, .int .i64 t145, .int .i64 t146, .int .i64 t147] 23 (0, 0)) (by (with_reducible repeat (first | refine blk_drewN ?_ _ | refine blk_drew ?_ | refine blk_alloc ?_ _)); exact BK148.out) hb); have n1_ := Aside0.mk (below_step (w := w) (by repeat (first | (with_reducible first | exact HB.out | apply below_alloc | apply pw_below_drewN | apply below_drew1 | refine below_set ?_ GE148.out) | exact HB.out)) hb); clear BK148; clear HB; have BK148 := n0_; have HB := n1_; clear n0_ n1_; (try clear hb); (try clear hb2); (try clear hk); (try clear hi)))
                    go_ret
                    exact ⟨by first | rfl | (simp [errW_none, errW_some] <;> rfl) | (simp [*, errW_none, errW_some] <;> rfl), by repeat (first | (with_reducible first | exact HB.out | apply below_alloc | apply pw_below_drewN | apply below_drew1 | refine below_set ?_ GE148.out) | exact HB.out)⟩
                  · rw [if_neg c87] at H
                    have c87b0 : decide ((Int.tmod (wrap64 ((Int.tmod a2 64) + 64)) 64) < 42) = false := decide_eq_false c87
                    clear c87
                    by_cases c91 : t151 = t147
                    · rw [if_pos c91] at H
                      have c91b0 : (t151 == t147) = true := beq_iff_eq.mpr c91
                      have c91b1 : (t151 != t147) = false := bne_eq_false_iff_eq.mpr c91
                      clear c91
                      replace H := Option.bind_eq_some_iff.mp H
                      obtain ⟨t166, A920, H⟩ := H
                      replace H : (some t166) = some r := H
                      have A92 := Aside0.mk A920
                      clear A920
                      obtain rfl := Option.some.inj H
                      have hcz93_0 : wc.cell? ⟨gb148, 0, none⟩ = some (.bool t143) := (blk_cell BK148.out 0).trans rfl
                      have hcz93_1 : wc.cell? ⟨gb148, 1, none⟩ = some (.int .i64 t144) := (blk_cell BK148.out 1).trans rfl
                      have hcz93_2 : wc.cell? ⟨gb148, 2, none⟩ = some (.int .i64 t145) := (blk_cell BK148.out 2).trans rfl
                      have hcz93_3 : wc.cell? ⟨gb148, 3, none⟩ = some (.int .i64 t146) := (blk_cell BK148.out 3).trans rfl
                      have hcz93_4 : wc.cell? ⟨gb148, 4, none⟩ = some (.int .i64 t147) := (blk_cell BK148.out 4).trans rfl
                      have hfz93_0 := blk_frozen BK148.out 0
                      have hfz93_1 := blk_frozen BK148.out 1
                      have hfz93_2 := blk_frozen BK148.out 2
                      have hfz93_3 := blk_frozen BK148.out 3
                      have hfz93_4 := blk_frozen BK148.out 4
                      go_wp2_with (first | (go_at_call 18; (with_reducible refine (sacristanlaw11_awake.calls kj6  t166 _ A92.out (by first | rfl | exact HR_.out)).mono ?_); (try clear A92); rintro e w94 ⟨rfl, hb⟩; have n0_ := Aside0.mk (blk_below (g := gb148) (o := .cells #[.bool t143, .int .i64 t144, .int .i64 t145, .int .i64 t146, .int .i64 t147] 23 (0, 0)) (by (with_reducible repeat (first | refine blk_drewN ?_ _ | refine blk_drew ?_ | refine blk_alloc ?_ _)); exact BK148.out) hb); have n1_ := Aside0.mk (below_step (w := w) (by repeat (first | (with_reducible first | exact HB.out | apply below_alloc | apply pw_below_drewN | apply below_drew1 | refine below_set ?_ GE148.out) | exact HB.out)) hb); clear BK148; clear HB; have BK148 := n0_; have HB := n1_; clear n0_ n1_; (try clear hb); (try clear hb2); (try clear hk); (try clear hi)))
                      go_ret
                      exact ⟨by first | rfl | (simp [errW_none, errW_some] <;> rfl) | (simp [*, errW_none, errW_some] <;> rfl), by repeat (first | (with_reducible first | exact HB.out | apply below_alloc | apply pw_below_drewN | apply below_drew1 | refine below_set ?_ GE148.out) | exact HB.out)⟩
                    · rw [if_neg c91] at H
                      have c91b0 : (t151 == t147) = false := beq_eq_false_iff_ne.mpr c91
                      have c91b1 : (t151 != t147) = true := bne_iff_ne.mpr c91
                      obtain rfl := Option.some.inj H
                      exact absurd HR_.out (by simp)
              · rw [if_neg c77] at H
                have c77b0 : (t151 == (wrap64 (2 * t149))) = false := beq_eq_false_iff_ne.mpr c77
                have c77b1 : (t151 != (wrap64 (2 * t149))) = true := bne_iff_ne.mpr c77
                obtain rfl := Option.some.inj H
                exact absurd HR_.out (by simp)
            · rw [if_neg c76] at H
              have c76b0 : decide (t151 < t147) = false := decide_eq_false c76
              clear c76
              by_cases c95 : (wrap64 (2 * t149)) ≤ t147
              · rw [if_pos c95] at H
                have c95b0 : decide ((wrap64 (2 * t149)) ≤ t147) = true := decide_eq_true c95
                clear c95
                by_cases c96 : t151 = (wrap64 (2 * t149))
                · rw [if_pos c96] at H
                  have c96b0 : (t151 == (wrap64 (2 * t149))) = true := beq_iff_eq.mpr c96
                  have c96b1 : (t151 != (wrap64 (2 * t149))) = false := bne_eq_false_iff_eq.mpr c96
                  clear c96
                  by_cases c97 : (Int.tmod (wrap64 ((Int.tmod a2 64) + 64)) 64) < 42
                  · rw [if_pos c97] at H
                    have c97b0 : decide ((Int.tmod (wrap64 ((Int.tmod a2 64) + 64)) 64) < 42) = true := decide_eq_true c97
                    clear c97
                    replace H := Option.bind_eq_some_iff.mp H
                    obtain ⟨t167, A980, H⟩ := H
                    replace H : (some t167) = some r := H
                    have A98 := Aside0.mk A980
                    clear A980
                    obtain rfl := Option.some.inj H
                    have hcz99_0 : wc.cell? ⟨gb148, 0, none⟩ = some (.bool t143) := (blk_cell BK148.out 0).trans rfl
                    have hcz99_1 : wc.cell? ⟨gb148, 1, none⟩ = some (.int .i64 t144) := (blk_cell BK148.out 1).trans rfl
                    have hcz99_2 : wc.cell? ⟨gb148, 2, none⟩ = some (.int .i64 t145) := (blk_cell BK148.out 2).trans rfl
                    have hcz99_3 : wc.cell? ⟨gb148, 3, none⟩ = some (.int .i64 t146) := (blk_cell BK148.out 3).trans rfl
                    have hcz99_4 : wc.cell? ⟨gb148, 4, none⟩ = some (.int .i64 t147) := (blk_cell BK148.out 4).trans rfl
                    have hfz99_0 := blk_frozen BK148.out 0
                    have hfz99_1 := blk_frozen BK148.out 1
                    have hfz99_2 := blk_frozen BK148.out 2
                    have hfz99_3 := blk_frozen BK148.out 3
                    have hfz99_4 := blk_frozen BK148.out 4
                    go_wp2_with (first | (go_at_call 18; (with_reducible refine (sacristanlaw11_awake.calls kj6  t167 _ A98.out (by first | rfl | exact HR_.out)).mono ?_); (try clear A98); rintro e w100 ⟨rfl, hb⟩; have n0_ := Aside0.mk (blk_below (g := gb148) (o := .cells #[.bool t143, .int .i64 t144, .int .i64 t145, .int .i64 t146, .int .i64 t147] 23 (0, 0)) (by (with_reducible repeat (first | refine blk_drewN ?_ _ | refine blk_drew ?_ | refine blk_alloc ?_ _)); exact BK148.out) hb); have n1_ := Aside0.mk (below_step (w := w) (by repeat (first | (with_reducible first | exact HB.out | apply below_alloc | apply pw_below_drewN | apply below_drew1 | refine below_set ?_ GE148.out) | exact HB.out)) hb); clear BK148; clear HB; have BK148 := n0_; have HB := n1_; clear n0_ n1_; (try clear hb); (try clear hb2); (try clear hk); (try clear hi)))
                    go_ret
                    exact ⟨by first | rfl | (simp [errW_none, errW_some] <;> rfl) | (simp [*, errW_none, errW_some] <;> rfl), by repeat (first | (with_reducible first | exact HB.out | apply below_alloc | apply pw_below_drewN | apply below_drew1 | refine below_set ?_ GE148.out) | exact HB.out)⟩
                  · rw [if_neg c97] at H
                    have c97b0 : decide ((Int.tmod (wrap64 ((Int.tmod a2 64) + 64)) 64) < 42) = false := decide_eq_false c97
                    clear c97
                    by_cases c101 : t151 = t147
                    · rw [if_pos c101] at H
                      have c101b0 : (t151 == t147) = true := beq_iff_eq.mpr c101
                      have c101b1 : (t151 != t147) = false := bne_eq_false_iff_eq.mpr c101
                      clear c101
                      replace H := Option.bind_eq_some_iff.mp H
                      obtain ⟨t168, A1020, H⟩ := H
                      replace H : (some t168) = some r := H
                      have A102 := Aside0.mk A1020
                      clear A1020
                      obtain rfl := Option.some.inj H
                      have hcz103_0 : wc.cell? ⟨gb148, 0, none⟩ = some (.bool t143) := (blk_cell BK148.out 0).trans rfl
                      have hcz103_1 : wc.cell? ⟨gb148, 1, none⟩ = some (.int .i64 t144) := (blk_cell BK148.out 1).trans rfl
                      have hcz103_2 : wc.cell? ⟨gb148, 2, none⟩ = some (.int .i64 t145) := (blk_cell BK148.out 2).trans rfl
                      have hcz103_3 : wc.cell? ⟨gb148, 3, none⟩ = some (.int .i64 t146) := (blk_cell BK148.out 3).trans rfl
                      have hcz103_4 : wc.cell? ⟨gb148, 4, none⟩ = some (.int .i64 t147) := (blk_cell BK148.out 4).trans rfl
                      have hfz103_0 := blk_frozen BK148.out 0
                      have hfz103_1 := blk_frozen BK148.out 1
                      have hfz103_2 := blk_frozen BK148.out 2
                      have hfz103_3 := blk_frozen BK148.out 3
                      have hfz103_4 := blk_frozen BK148.out 4
                      go_wp2_with (first | (go_at_call 18; (with_reducible refine (sacristanlaw11_awake.calls kj6  t168 _ A102.out (by first | rfl | exact HR_.out)).mono ?_); (try clear A102); rintro e w104 ⟨rfl, hb⟩; have n0_ := Aside0.mk (blk_below (g := gb148) (o := .cells #[.bool t143, .int .i64 t144, .int .i64 t145, .int .i64 t146, .int .i64 t147] 23 (0, 0)) (by (with_reducible repeat (first | refine blk_drewN ?_ _ | refine blk_drew ?_ | refine blk_alloc ?_ _)); exact BK148.out) hb); have n1_ := Aside0.mk (below_step (w := w) (by repeat (first | (with_reducible first | exact HB.out | apply below_alloc | apply pw_below_drewN | apply below_drew1 | refine below_set ?_ GE148.out) | exact HB.out)) hb); clear BK148; clear HB; have BK148 := n0_; have HB := n1_; clear n0_ n1_; (try clear hb); (try clear hb2); (try clear hk); (try clear hi)))
                      go_ret
                      exact ⟨by first | rfl | (simp [errW_none, errW_some] <;> rfl) | (simp [*, errW_none, errW_some] <;> rfl), by repeat (first | (with_reducible first | exact HB.out | apply below_alloc | apply pw_below_drewN | apply below_drew1 | refine below_set ?_ GE148.out) | exact HB.out)⟩
                    · rw [if_neg c101] at H
                      have c101b0 : (t151 == t147) = false := beq_eq_false_iff_ne.mpr c101
                      have c101b1 : (t151 != t147) = true := bne_iff_ne.mpr c101
                      obtain rfl := Option.some.inj H
                      exact absurd HR_.out (by simp)
                · rw [if_neg c96] at H
                  have c96b0 : (t151 == (wrap64 (2 * t149))) = false := beq_eq_false_iff_ne.mpr c96
                  have c96b1 : (t151 != (wrap64 (2 * t149))) = true := bne_iff_ne.mpr c96
                  obtain rfl := Option.some.inj H
                  exact absurd HR_.out (by simp)
              · rw [if_neg c95] at H
                have c95b0 : decide ((wrap64 (2 * t149)) ≤ t147) = false := decide_eq_false c95
                clear c95
                by_cases c105 : (Int.tmod (wrap64 ((Int.tmod a2 64) + 64)) 64) < 42
                · rw [if_pos c105] at H
                  have c105b0 : decide ((Int.tmod (wrap64 ((Int.tmod a2 64) + 64)) 64) < 42) = true := decide_eq_true c105
                  clear c105
                  replace H := Option.bind_eq_some_iff.mp H
                  obtain ⟨t169, A1060, H⟩ := H
                  replace H : (some t169) = some r := H
                  have A106 := Aside0.mk A1060
                  clear A1060
                  obtain rfl := Option.some.inj H
                  have hcz107_0 : wc.cell? ⟨gb148, 0, none⟩ = some (.bool t143) := (blk_cell BK148.out 0).trans rfl
                  have hcz107_1 : wc.cell? ⟨gb148, 1, none⟩ = some (.int .i64 t144) := (blk_cell BK148.out 1).trans rfl
                  have hcz107_2 : wc.cell? ⟨gb148, 2, none⟩ = some (.int .i64 t145) := (blk_cell BK148.out 2).trans rfl
                  have hcz107_3 : wc.cell? ⟨gb148, 3, none⟩ = some (.int .i64 t146) := (blk_cell BK148.out 3).trans rfl
                  have hcz107_4 : wc.cell? ⟨gb148, 4, none⟩ = some (.int .i64 t147) := (blk_cell BK148.out 4).trans rfl
                  have hfz107_0 := blk_frozen BK148.out 0
                  have hfz107_1 := blk_frozen BK148.out 1
                  have hfz107_2 := blk_frozen BK148.out 2
                  have hfz107_3 := blk_frozen BK148.out 3
                  have hfz107_4 := blk_frozen BK148.out 4
                  go_wp2_with (first | (go_at_call 18; (with_reducible refine (sacristanlaw11_awake.calls kj6  t169 _ A106.out (by first | rfl | exact HR_.out)).mono ?_); (try clear A106); rintro e w108 ⟨rfl, hb⟩; have n0_ := Aside0.mk (blk_below (g := gb148) (o := .cells #[.bool t143, .int .i64 t144, .int .i64 t145, .int .i64 t146, .int .i64 t147] 23 (0, 0)) (by (with_reducible repeat (first | refine blk_drewN ?_ _ | refine blk_drew ?_ | refine blk_alloc ?_ _)); exact BK148.out) hb); have n1_ := Aside0.mk (below_step (w := w) (by repeat (first | (with_reducible first | exact HB.out | apply below_alloc | apply pw_below_drewN | apply below_drew1 | refine below_set ?_ GE148.out) | exact HB.out)) hb); clear BK148; clear HB; have BK148 := n0_; have HB := n1_; clear n0_ n1_; (try clear hb); (try clear hb2); (try clear hk); (try clear hi)))
                  go_ret
                  exact ⟨by first | rfl | (simp [errW_none, errW_some] <;> rfl) | (simp [*, errW_none, errW_some] <;> rfl), by repeat (first | (with_reducible first | exact HB.out | apply below_alloc | apply pw_below_drewN | apply below_drew1 | refine below_set ?_ GE148.out) | exact HB.out)⟩
                · rw [if_neg c105] at H
                  have c105b0 : decide ((Int.tmod (wrap64 ((Int.tmod a2 64) + 64)) 64) < 42) = false := decide_eq_false c105
                  clear c105
                  by_cases c109 : t151 = t147
                  · rw [if_pos c109] at H
                    have c109b0 : (t151 == t147) = true := beq_iff_eq.mpr c109
                    have c109b1 : (t151 != t147) = false := bne_eq_false_iff_eq.mpr c109
                    clear c109
                    replace H := Option.bind_eq_some_iff.mp H
                    obtain ⟨t170, A1100, H⟩ := H
                    replace H : (some t170) = some r := H
                    have A110 := Aside0.mk A1100
                    clear A1100
                    obtain rfl := Option.some.inj H
                    have hcz111_0 : wc.cell? ⟨gb148, 0, none⟩ = some (.bool t143) := (blk_cell BK148.out 0).trans rfl
                    have hcz111_1 : wc.cell? ⟨gb148, 1, none⟩ = some (.int .i64 t144) := (blk_cell BK148.out 1).trans rfl
                    have hcz111_2 : wc.cell? ⟨gb148, 2, none⟩ = some (.int .i64 t145) := (blk_cell BK148.out 2).trans rfl
                    have hcz111_3 : wc.cell? ⟨gb148, 3, none⟩ = some (.int .i64 t146) := (blk_cell BK148.out 3).trans rfl
                    have hcz111_4 : wc.cell? ⟨gb148, 4, none⟩ = some (.int .i64 t147) := (blk_cell BK148.out 4).trans rfl
                    have hfz111_0 := blk_frozen BK148.out 0
                    have hfz111_1 := blk_frozen BK148.out 1
                    have hfz111_2 := blk_frozen BK148.out 2
                    have hfz111_3 := blk_frozen BK148.out 3
                    have hfz111_4 := blk_frozen BK148.out 4
                    go_wp2_with (first | (go_at_call 18; (with_reducible refine (sacristanlaw11_awake.calls kj6  t170 _ A110.out (by first | rfl | exact HR_.out)).mono ?_); (try clear A110); rintro e w112 ⟨rfl, hb⟩; have n0_ := Aside0.mk (blk_below (g := gb148) (o := .cells #[.bool t143, .int .i64 t144, .int .i64 t145, .int .i64 t146, .int .i64 t147] 23 (0, 0)) (by (with_reducible repeat (first | refine blk_drewN ?_ _ | refine blk_drew ?_ | refine blk_alloc ?_ _)); exact BK148.out) hb); have n1_ := Aside0.mk (below_step (w := w) (by repeat (first | (with_reducible first | exact HB.out | apply below_alloc | apply pw_below_drewN | apply below_drew1 | refine below_set ?_ GE148.out) | exact HB.out)) hb); clear BK148; clear HB; have BK148 := n0_; have HB := n1_; clear n0_ n1_; (try clear hb); (try clear hb2); (try clear hk); (try clear hi)))
                    go_ret
                    exact ⟨by first | rfl | (simp [errW_none, errW_some] <;> rfl) | (simp [*, errW_none, errW_some] <;> rfl), by repeat (first | (with_reducible first | exact HB.out | apply below_alloc | apply pw_below_drewN | apply below_drew1 | refine below_set ?_ GE148.out) | exact HB.out)⟩
                  · rw [if_neg c109] at H
                    have c109b0 : (t151 == t147) = false := beq_eq_false_iff_ne.mpr c109
                    have c109b1 : (t151 != t147) = true := bne_iff_ne.mpr c109
                    obtain rfl := Option.some.inj H
                    exact absurd HR_.out (by simp)
          · rw [if_neg c75] at H
            have c75b0 : decide (0 < (Int.tmod (wrap64 ((Int.tmod a2 64) + 64)) 64)) = false := decide_eq_false c75
            clear c75
            by_cases c113 : (Int.tmod (wrap64 ((Int.tmod a2 64) + 64)) 64) < 42
            · rw [if_pos c113] at H
              have c113b0 : decide ((Int.tmod (wrap64 ((Int.tmod a2 64) + 64)) 64) < 42) = true := decide_eq_true c113
              clear c113
              replace H := Option.bind_eq_some_iff.mp H
              obtain ⟨t171, A1140, H⟩ := H
              replace H : (some t171) = some r := H
              have A114 := Aside0.mk A1140
              clear A1140
              obtain rfl := Option.some.inj H
              go_wp2_with (first | (go_at_call 18; (with_reducible refine (sacristanlaw11_awake.calls kj6  t171 _ A114.out (by first | rfl | exact HR_.out)).mono ?_); (try clear A114); rintro e w115 ⟨rfl, hb⟩; have n0_ := Aside0.mk (blk_below (g := gb148) (o := .cells #[.bool t143, .int .i64 t144, .int .i64 t145, .int .i64 t146, .int .i64 t147] 23 (0, 0)) (by (with_reducible repeat (first | refine blk_drewN ?_ _ | refine blk_drew ?_ | refine blk_alloc ?_ _)); exact BK148.out) hb); have n1_ := Aside0.mk (below_step (w := w) (by repeat (first | (with_reducible first | exact HB.out | apply below_alloc | apply pw_below_drewN | apply below_drew1 | refine below_set ?_ GE148.out) | exact HB.out)) hb); clear BK148; clear HB; have BK148 := n0_; have HB := n1_; clear n0_ n1_; (try clear hb); (try clear hb2); (try clear hk); (try clear hi)))
              go_ret
              exact ⟨by first | rfl | (simp [errW_none, errW_some] <;> rfl) | (simp [*, errW_none, errW_some] <;> rfl), by repeat (first | (with_reducible first | exact HB.out | apply below_alloc | apply pw_below_drewN | apply below_drew1 | refine below_set ?_ GE148.out) | exact HB.out)⟩
            · rw [if_neg c113] at H
              have c113b0 : decide ((Int.tmod (wrap64 ((Int.tmod a2 64) + 64)) 64) < 42) = false := decide_eq_false c113
              clear c113
              by_cases c116 : t151 = t147
              · rw [if_pos c116] at H
                have c116b0 : (t151 == t147) = true := beq_iff_eq.mpr c116
                have c116b1 : (t151 != t147) = false := bne_eq_false_iff_eq.mpr c116
                clear c116
                replace H := Option.bind_eq_some_iff.mp H
                obtain ⟨t172, A1170, H⟩ := H
                replace H : (some t172) = some r := H
                have A117 := Aside0.mk A1170
                clear A1170
                obtain rfl := Option.some.inj H
                have hcz118_0 : wc.cell? ⟨gb148, 0, none⟩ = some (.bool t143) := (blk_cell BK148.out 0).trans rfl
                have hcz118_1 : wc.cell? ⟨gb148, 1, none⟩ = some (.int .i64 t144) := (blk_cell BK148.out 1).trans rfl
                have hcz118_2 : wc.cell? ⟨gb148, 2, none⟩ = some (.int .i64 t145) := (blk_cell BK148.out 2).trans rfl
                have hcz118_3 : wc.cell? ⟨gb148, 3, none⟩ = some (.int .i64 t146) := (blk_cell BK148.out 3).trans rfl
                have hcz118_4 : wc.cell? ⟨gb148, 4, none⟩ = some (.int .i64 t147) := (blk_cell BK148.out 4).trans rfl
                have hfz118_0 := blk_frozen BK148.out 0
                have hfz118_1 := blk_frozen BK148.out 1
                have hfz118_2 := blk_frozen BK148.out 2
                have hfz118_3 := blk_frozen BK148.out 3
                have hfz118_4 := blk_frozen BK148.out 4
                go_wp2_with (first | (go_at_call 18; (with_reducible refine (sacristanlaw11_awake.calls kj6  t172 _ A117.out (by first | rfl | exact HR_.out)).mono ?_); (try clear A117); rintro e w119 ⟨rfl, hb⟩; have n0_ := Aside0.mk (blk_below (g := gb148) (o := .cells #[.bool t143, .int .i64 t144, .int .i64 t145, .int .i64 t146, .int .i64 t147] 23 (0, 0)) (by (with_reducible repeat (first | refine blk_drewN ?_ _ | refine blk_drew ?_ | refine blk_alloc ?_ _)); exact BK148.out) hb); have n1_ := Aside0.mk (below_step (w := w) (by repeat (first | (with_reducible first | exact HB.out | apply below_alloc | apply pw_below_drewN | apply below_drew1 | refine below_set ?_ GE148.out) | exact HB.out)) hb); clear BK148; clear HB; have BK148 := n0_; have HB := n1_; clear n0_ n1_; (try clear hb); (try clear hb2); (try clear hk); (try clear hi)))
                go_ret
                exact ⟨by first | rfl | (simp [errW_none, errW_some] <;> rfl) | (simp [*, errW_none, errW_some] <;> rfl), by repeat (first | (with_reducible first | exact HB.out | apply below_alloc | apply pw_below_drewN | apply below_drew1 | refine below_set ?_ GE148.out) | exact HB.out)⟩
              · rw [if_neg c116] at H
                have c116b0 : (t151 == t147) = false := beq_eq_false_iff_ne.mpr c116
                have c116b1 : (t151 != t147) = true := bne_iff_ne.mpr c116
                obtain rfl := Option.some.inj H
                exact absurd HR_.out (by simp)

/-- THE ONE PURE STATEMENT of sacristanlaw11_DelayGrows: yours. -/
def sacristanlaw11_DelayGrows.Pure : Prop := ∀ (a0 : Int) (a1 : Int) (a2 : Int), (Lit.int .i64 a0).wf = true → (Lit.int .i64 a1).wf = true → (Lit.int .i64 a2).wf = true → ∃ k, sacristanlaw11_DelayGrows.f k a0 a1 a2 = some true
theorem sacristanlaw11_DelayGrows.walk (P : sacristanlaw11_DelayGrows.Pure) (a0 : Int) (a1 : Int) (a2 : Int) (w : World) (w0 : (Lit.int .i64 a0).wf = true) (w1 : (Lit.int .i64 a1).wf = true) (w2 : (Lit.int .i64 a2).wf = true) :
    Calls Try.prog 5 #[.int .i64 a0, .int .i64 a1, .int .i64 a2] w fun e w' => e = .returned (.bool true) ∧ Below w.heap.size w w' := by
  obtain ⟨k, h⟩ := P a0 a1 a2 w0 w1 w2
  refine (sacristanlaw11_DelayGrows.calls k a0 a1 a2 true w h rfl).mono ?_
  rintro e w' ⟨rfl, hd⟩
  exact ⟨rfl, hd⟩

end Go.Proofs.Ytcdlfnoagghpmaa.D
