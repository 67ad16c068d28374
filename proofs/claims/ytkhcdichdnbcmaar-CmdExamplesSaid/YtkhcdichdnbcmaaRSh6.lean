/- Texts of this session, merged (wip/gen/shake.py). -/
import Derived.Test.YtkhcdichdnbcmaaRProg
import Derived.Laws.BitsAllLaws
import Derived.Test.YtkhcdichdnbcmaaRSh2
import Derived.Test.YtkhcdichdnbcmaaRSh3
import Derived.Test.YtkhcdichdnbcmaaRSh4
import Derived.Test.YtkhcdichdnbcmaaRSh5
section
section
namespace Go.Proofs.YtkhcdichdnbcmaaR
open Go.RowKit
set_option linter.unusedSimpArgs false
theorem wpList_storeS {P : Program} {ops : Array Oper} {rest : List Oper} {o : Oper} {a : Act} {Q : Exit → Act → World → Prop} (w : World) (hg : o.guard = none) (x v : Operand) (t : TypeId) (hop : o.op = Op.store t x v) (b : Nat) (i0 i1 i2 i3 : Int) (A4 : Option Addr) (n4 c4 : Nat) (A5 : Option Addr) (n5 c5 : Nat) {cs : Array Value} (hcs : cs.size = 6) (hsz : ∀ W : World, (sizeOf t).run P W = .ok 6 W)
  (hx : a.eval x = .pointer (some ⟨b, 0, none⟩)) (hv : a.eval v = .agg #[.int .i64 i0, .int .i64 i1, .int .i64 i2, .int .i64 i3, .slice A4 n4 c4, .slice A5 n5 c5]) (hb : w.heap[b]? = some (.cells cs t (0, 0)))
  (hK : wpList P ops Q rest (a.put o.dst undef) ((((((w.setCell ⟨b, 0, none⟩ (.int .i64 i0)).setCell ⟨b, 1, none⟩ (.int .i64 i1)).setCell ⟨b, 2, none⟩ (.int .i64 i2)).setCell ⟨b, 3, none⟩ (.int .i64 i3)).setCell ⟨b, 4, none⟩ (.slice A4 n4 c4)).setCell ⟨b, 5, none⟩ (.slice A5 n5 c5))) :
  wpList P ops Q (o :: rest) a w := by
 have hc := vcell hb
 have hf := vfree hb
 have c : ∀ j, j < 6 → ∃ u, cs[j]? = some u := fun j hj => ⟨cs[j], Array.getElem?_eq_getElem (by omega)⟩
 obtain ⟨u0, e0⟩ := c 0 (by omega)
 obtain ⟨u1, e1⟩ := c 1 (by omega)
 obtain ⟨u2, e2⟩ := c 2 (by omega)
 obtain ⟨u3, e3⟩ := c 3 (by omega)
 obtain ⟨u4, e4⟩ := c 4 (by omega)
 obtain ⟨u5, e5⟩ := c 5 (by omega)
 clear hb c hcs
 refine wpList_plain hg fun K' hK' => ?_
 unfold Oper.wp
 have hs : (storeCells ⟨b, 0, none⟩ [.int .i64 i0, .int .i64 i1, .int .i64 i2, .int .i64 i3, .slice A4 n4 c4, .slice A5 n5 c5]).run P w = .ok () ((((((w.setCell ⟨b, 0, none⟩ (.int .i64 i0)).setCell ⟨b, 1, none⟩ (.int .i64 i1)).setCell ⟨b, 2, none⟩ (.int .i64 i2)).setCell ⟨b, 3, none⟩ (.int .i64 i3)).setCell ⟨b, 4, none⟩ (.slice A4 n4 c4)).setCell ⟨b, 5, none⟩ (.slice A5 n5 c5)) := by
  simp [go_sem, hc, hf, e0, e1, e2, e3, e4, e5]
 have hop' : (execOp a.eval o).run P w = Result.ok Next.skip ((((((w.setCell ⟨b, 0, none⟩ (.int .i64 i0)).setCell ⟨b, 1, none⟩ (.int .i64 i1)).setCell ⟨b, 2, none⟩ (.int .i64 i2)).setCell ⟨b, 3, none⟩ (.int .i64 i3)).setCell ⟨b, 4, none⟩ (.slice A4 n4 c4)).setCell ⟨b, 5, none⟩ (.slice A5 n5 c5)) := by
  simp [execOp, hop, hx, hv, hsz, Result.andThen]
  simp [Instr.storeAt, go_sem, hsz, hc, hf, e0, e1, e2, e3, e4, e5, Value.cells, Result.andThen]
 show Oper.upon P o a K' Q ((execOp a.eval o).run P w)
 rw [hop']
 simp only [Oper.upon]
 exact hK' _ _ hK
theorem sizeS (W : World) : (sizeOf 27).run Try.prog W = .ok 6 W := by kernel_rfl
end Go.Proofs.YtkhcdichdnbcmaaR
end
section
namespace Go.Proofs.YtkhcdichdnbcmaaR.C
open Go.RowKit Go.Proofs.YtkhcdichdnbcmaaR.Ext Go.Proofs.YtkhcdichdnbcmaaRW.PrintWords Go.Proofs.YtkhcdichdnbcmaaRW.PrintLast Go.Proofs.YtkhcdichdnbcmaaRW.PrintMore
attribute [local go_sem] max2_int min2_int max_two min_two max_three min_three max_four min_four   -- for this text's walks alone
set_option linter.unusedVariables false
set_option linter.unusedSimpArgs false
mutual
def sacristanref13_Reader_Spec.j0 : Nat → Int → ByteArray → Bool → Int → Int → Int → Int → Option (Int × Int × Int × Int × List Int × (List (S90)) × ByteArray × Bool)
 | 0, _, _, _, _, _, _, _ => none
 | k + 1, x4, x1000, x1001, x186000, x186001, x186002, x186003 => sacristanref13_Reader_Spec.l0 k x4 0 x1000 x1001 x186000 x186001 x186002 x186003 ([] : List Int)
def sacristanref13_Reader_Spec.j2 : Nat → ByteArray → Bool → Int → Int → Int → Int → List Int → Option (Int × Int × Int × Int × List Int × (List (S90)) × ByteArray × Bool)
 | 0, _, _, _, _, _, _, _ => none
 | k + 1, x1000, x1001, x186000, x186001, x186002, x186003, x186004 => (sacristanref13_Reader_Num.f k x1000 x1001).bind fun bt204 => (if bt204.2.2 = true then (sacristanref13_Reader_Spec.j3 k bt204.1 bt204.2.1 true x186000 x186001 x186002 x186003 x186004) else (sacristanref13_Reader_Spec.j3 k bt204.1 bt204.2.1 (decide (bt204.1 > 4)) x186000 x186001 x186002 x186003 x186004))
def sacristanref13_Reader_Spec.j3 : Nat → Int → ByteArray → Bool → Int → Int → Int → Int → List Int → Option (Int × Int × Int × Int × List Int × (List (S90)) × ByteArray × Bool)
 | 0, _, _, _, _, _, _, _, _ => none
 | k + 1, x4, x1000, x1001, x186000, x186001, x186002, x186003, x186004 => sacristanref13_Reader_Spec.l1 k x4 0 x1000 x1001 x186000 x186001 x186002 x186003 x186004 ([] : List (S90))
def sacristanref13_Reader_Spec.l1 : Nat → Int → Int → ByteArray → Bool → Int → Int → Int → Int → List Int → List (S90) → Option (Int × Int × Int × Int × List Int × (List (S90)) × ByteArray × Bool)
 | 0, _, _, _, _, _, _, _, _, _, _ => none
 | k + 1, x4, x6, x1000, x1001, x186000, x186001, x186002, x186003, x186004, x186005 => if x6 < x4 then (sacristanref13_Reader_Spec.j5 k x4 x6 (!x1001) x1000 x1001 x186000 x186001 x186002 x186003 x186004 x186005) else (sacristanref13_Reader_Spec.j5 k x4 x6 false x1000 x1001 x186000 x186001 x186002 x186003 x186004 x186005)
def sacristanref13_Reader_Spec.j5 : Nat → Int → Int → Bool → ByteArray → Bool → Int → Int → Int → Int → List Int → List (S90) → Option (Int × Int × Int × Int × List Int × (List (S90)) × ByteArray × Bool)
 | 0, _, _, _, _, _, _, _, _, _, _, _ => none
 | k + 1, x4, x6, x78, x1000, x1001, x186000, x186001, x186002, x186003, x186004, x186005 => if x78 = true then ((sacristanref13_Reader_Num.f k x1000 x1001).bind fun bt209 => (if bt209.2.2 = true then (sacristanref13_Reader_Spec.j6 k x4 x6 bt209.1 bt209.2.1 true x186000 x186001 x186002 x186003 x186004 x186005) else (sacristanref13_Reader_Spec.j6 k x4 x6 bt209.1 bt209.2.1 (decide (bt209.1 > 1)) x186000 x186001 x186002 x186003 x186004 x186005))) else (if x1001 = true then (some (x186000, x186001, x186002, x186003, x186004, x186005, x1000, true)) else ((sacristanref13_Check.f k x186000 x186001 x186002 x186003 x186004 x186005).bind fun t207 => (some (x186000, x186001, x186002, x186003, x186004, x186005, x1000, (t207 != 0)))))
def sacristanref13_Reader_Spec.j6 : Nat → Int → Int → Int → ByteArray → Bool → Int → Int → Int → Int → List Int → List (S90) → Option (Int × Int × Int × Int × List Int × (List (S90)) × ByteArray × Bool)
 | 0, _, _, _, _, _, _, _, _, _, _, _ => none
 | k + 1, x4, x6, x8, x1000, x1001, x186000, x186001, x186002, x186003, x186004, x186005 => (sacristanref13_Reader_Num.f k x1000 x1001).bind fun bt212 => ((sacristanref13_Reader_Num.f k bt212.2.1 bt212.2.2).bind fun bt215 => ((sacristanref13_Reader_Num.f k bt215.2.1 bt215.2.2).bind fun bt218 => ((sacristanref13_Reader_Num.f k bt218.2.1 bt218.2.2).bind fun bt221 => ((sacristanref13_Reader_Num.f k bt221.2.1 bt221.2.2).bind fun bt224 => (if x186005.length < 2932031007402 then (sacristanref13_Reader_Spec.l1 k x4 (wrap64 (x6 + 1)) bt224.2.1 bt224.2.2 x186000 x186001 x186002 x186003 x186004 (x186005 ++ [(⟨(⟨(x8 == 1), bt212.1, bt215.1, bt218.1, bt221.1⟩ : S88), bt224.1⟩ : S90)])) else (none))))))
def sacristanref13_Reader_Spec.l0 : Nat → Int → Int → ByteArray → Bool → Int → Int → Int → Int → List Int → Option (Int × Int × Int × Int × List Int × (List (S90)) × ByteArray × Bool)
 | 0, _, _, _, _, _, _, _, _, _ => none
 | k + 1, x4, x5, x1000, x1001, x186000, x186001, x186002, x186003, x186004 => if x5 < x4 then (if x1001 = true then (sacristanref13_Reader_Spec.j2 k x1000 x1001 x186000 x186001 x186002 x186003 x186004) else ((sacristanref13_Reader_Num.f k x1000 x1001).bind fun bt198 => (if x186004.length < 17592186044416 then (sacristanref13_Reader_Spec.l0 k x4 (wrap64 (x5 + 1)) bt198.2.1 bt198.2.2 x186000 x186001 x186002 x186003 (x186004 ++ [bt198.1])) else (none)))) else (sacristanref13_Reader_Spec.j2 k x1000 x1001 x186000 x186001 x186002 x186003 x186004)
end
def sacristanref13_Reader_Spec.f (k : Nat) (s0_0 : ByteArray) (s0_1 : Bool) : Option (Int × Int × Int × Int × List Int × (List (S90)) × ByteArray × Bool) := (sacristanref13_Reader_Num.f k s0_0 s0_1).bind fun bt182 => ((sacristanref13_Reader_Num.f k bt182.2.1 bt182.2.2).bind fun bt186 => ((sacristanref13_Reader_Num.f k bt186.2.1 bt186.2.2).bind fun bt189 => ((sacristanref13_Reader_Num.f k bt189.2.1 bt189.2.2).bind fun bt192 => ((sacristanref13_Reader_Num.f k bt192.2.1 bt192.2.2).bind fun bt195 => (if bt195.2.2 = true then (sacristanref13_Reader_Spec.j0 k bt195.1 bt195.2.1 true bt182.1 bt186.1 bt189.1 bt192.1) else (sacristanref13_Reader_Spec.j0 k bt195.1 bt195.2.1 (decide (bt195.1 > 8)) bt182.1 bt186.1 bt189.1 bt192.1))))))
def sacristanref13_Reader_Spec.T10 : Bool × List (List Nat × List Nat) := (true, [([], []), ([0], [0]), ([], []), ([2], [2]), ([3], [3]), ([1, 4, 3], [1, 4]), ([0, 1, 2, 3, 4, 5], []), ([6, 5, 5, 0, 1, 2, 3, 4, 5], [5, 6])])
def sacristanref13_Reader_Spec.B10 : List Nat := [0, 1, 0, 4, 12, 31, 63, 127]
theorem sacristanref13_Reader_Spec.tab10 : rtab .any (opsOf Try.f46 10) = sacristanref13_Reader_Spec.T10 := by kernel_rfl
theorem sacristanref13_Reader_Spec.bits10 : waitsOk sacristanref13_Reader_Spec.T10.2 sacristanref13_Reader_Spec.B10 = true := by kernel_rfl
set_option maxHeartbeats 8000000 in
set_option maxRecDepth 100000 in
theorem sacristanref13_Reader_Spec.calls (k : Nat) (g : Nat) (s0_0 : ByteArray) (s0_1 : Bool) (r1 : Int) (r2 : Int) (r3 : Int) (r4 : Int) (r5 : List Int) (r6 : List (S90)) (r7 : ByteArray) (r8 : Bool) (w0 w : World) (hI : IsS84 w0 w g s0_0 s0_1) (hB : Below w0.heap.size w0 w) (h : sacristanref13_Reader_Spec.f k s0_0 s0_1 = some (r1, r2, r3, r4, r5, r6, r7, r8)) :
  Calls Try.prog 46 #[.pointer (some ⟨g, 0, none⟩)] w fun e w' => ∃ v4_ v5_ : Value, e = .returned (.agg #[.int .i64 r1, .int .i64 r2, .int .i64 r3, .int .i64 r4, v4_, v5_]) ∧ Kd.R (Kd.int .i64) 3 w' w.heap.size (fun _ => True) v4_ r5 ∧ Kd.R k90 90 w' w.heap.size (fun _ => True) v5_ r6 ∧ IsS84 w0 w' g r7 r8 ∧ Below w0.heap.size w0 w' ∧ KeepBut w w' g none := by
 have hu27 := Try.underlying27
 have hu90 := Try.underlying90
 have HI0 := Aside0.mk hI
 have HK := Aside0.mk (KeepBut.refl w g none)
 have HL := Aside0.mk hB.size
 clear hI
 have HW0 := Aside0.mk hB.size
 have HB := Aside0.mk hB
 clear hB
 have H : ((sacristanref13_Reader_Num.f k s0_0 s0_1).bind fun bt182 => ((sacristanref13_Reader_Num.f k bt182.2.1 bt182.2.2).bind fun bt186 => ((sacristanref13_Reader_Num.f k bt186.2.1 bt186.2.2).bind fun bt189 => ((sacristanref13_Reader_Num.f k bt189.2.1 bt189.2.2).bind fun bt192 => ((sacristanref13_Reader_Num.f k bt192.2.1 bt192.2.2).bind fun bt195 => (if bt195.2.2 = true then (sacristanref13_Reader_Spec.j0 k bt195.1 bt195.2.1 true bt182.1 bt186.1 bt189.1 bt192.1) else (sacristanref13_Reader_Spec.j0 k bt195.1 bt195.2.1 (decide (bt195.1 > 8)) bt182.1 bt186.1 bt189.1 bt192.1))))))) = some (r1, r2, r3, r4, r5, r6, r7, r8) := h
 clear h
 replace H := Option.bind_eq_some_iff.mp H
 obtain ⟨⟨t182, t183, t184⟩, A20, H⟩ := H
 replace H : ((sacristanref13_Reader_Num.f k t183 t184).bind fun bt186 => ((sacristanref13_Reader_Num.f k bt186.2.1 bt186.2.2).bind fun bt189 => ((sacristanref13_Reader_Num.f k bt189.2.1 bt189.2.2).bind fun bt192 => ((sacristanref13_Reader_Num.f k bt192.2.1 bt192.2.2).bind fun bt195 => (if bt195.2.2 = true then (sacristanref13_Reader_Spec.j0 k bt195.1 bt195.2.1 true t182 bt186.1 bt189.1 bt192.1) else (sacristanref13_Reader_Spec.j0 k bt195.1 bt195.2.1 (decide (bt195.1 > 8)) t182 bt186.1 bt189.1 bt192.1)))))) = some (r1, r2, r3, r4, r5, r6, r7, r8) := H
 have A2 := Aside0.mk A20
 clear A20
 replace H := Option.bind_eq_some_iff.mp H
 obtain ⟨⟨t186, t187, t188⟩, A30, H⟩ := H
 replace H : ((sacristanref13_Reader_Num.f k t187 t188).bind fun bt189 => ((sacristanref13_Reader_Num.f k bt189.2.1 bt189.2.2).bind fun bt192 => ((sacristanref13_Reader_Num.f k bt192.2.1 bt192.2.2).bind fun bt195 => (if bt195.2.2 = true then (sacristanref13_Reader_Spec.j0 k bt195.1 bt195.2.1 true t182 t186 bt189.1 bt192.1) else (sacristanref13_Reader_Spec.j0 k bt195.1 bt195.2.1 (decide (bt195.1 > 8)) t182 t186 bt189.1 bt192.1))))) = some (r1, r2, r3, r4, r5, r6, r7, r8) := H
 have A3 := Aside0.mk A30
 clear A30
 replace H := Option.bind_eq_some_iff.mp H
 obtain ⟨⟨t189, t190, t191⟩, A40, H⟩ := H
 replace H : ((sacristanref13_Reader_Num.f k t190 t191).bind fun bt192 => ((sacristanref13_Reader_Num.f k bt192.2.1 bt192.2.2).bind fun bt195 => (if bt195.2.2 = true then (sacristanref13_Reader_Spec.j0 k bt195.1 bt195.2.1 true t182 t186 t189 bt192.1) else (sacristanref13_Reader_Spec.j0 k bt195.1 bt195.2.1 (decide (bt195.1 > 8)) t182 t186 t189 bt192.1)))) = some (r1, r2, r3, r4, r5, r6, r7, r8) := H
 have A4 := Aside0.mk A40
 clear A40
 replace H := Option.bind_eq_some_iff.mp H
 obtain ⟨⟨t192, t193, t194⟩, A50, H⟩ := H
 replace H : ((sacristanref13_Reader_Num.f k t193 t194).bind fun bt195 => (if bt195.2.2 = true then (sacristanref13_Reader_Spec.j0 k bt195.1 bt195.2.1 true t182 t186 t189 t192) else (sacristanref13_Reader_Spec.j0 k bt195.1 bt195.2.1 (decide (bt195.1 > 8)) t182 t186 t189 t192))) = some (r1, r2, r3, r4, r5, r6, r7, r8) := H
 have A5 := Aside0.mk A50
 clear A50
 replace H := Option.bind_eq_some_iff.mp H
 obtain ⟨⟨t195, t196, t197⟩, A60, H⟩ := H
 replace H : (if t197 = true then (sacristanref13_Reader_Spec.j0 k t195 t196 true t182 t186 t189 t192) else (sacristanref13_Reader_Spec.j0 k t195 t196 (decide (t195 > 8)) t182 t186 t189 t192)) = some (r1, r2, r3, r4, r5, r6, r7, r8) := H
 have A6 := Aside0.mk A60
 clear A60
 have HC7 := Aside0.mk H
 clear H
 go_enter Try.func46, Try.ntmps46
 go_upto_region 6 with (first | ((with_reducible refine gate_dst (N := 2) rfl ?_); refine box_event ?hg (N := 2) ?hd (cs := #[.int .i64 0, .int .i64 0, .int .i64 0, .int .i64 0, .slice none 0 0, .slice none 0 0]) (t := 27) ?hr ?_; (case hd => rfl); (case hg => rfl); (case hr => first | (go_simp; done) | (go_simp; rfl)); intro gb181 hg w8 hbox hb; have n0_ := Aside0.mk (IsS84.below (by repeat (first | (with_reducible first | exact HI0.out | apply IsS84.alloc | apply IsS84.drewN | apply IsS84.drew | apply IsS84.set_0 | apply IsS84.set_1) | exact HI0.out)) hb); have n1_ := Aside0.mk (KeepBut.trans (by repeat (first | (with_reducible first | exact HK.out | apply KeepBut.set_ | apply keep_drewN | apply keep_drew | apply keep_alloc) | exact HK.out)) (KeepBut.of_below hb g none) (.inl rfl)); have n2_ := Aside0.mk (below_step (by repeat (first | (with_reducible first | exact HB.out | apply below_alloc | apply pw_below_drewN | apply below_drew1 | refine below_set ?_ (IsS84.ge HI0.out)) | exact HB.out)) hb); have n3_ := Aside0.mk (hbox); have n4_ := Aside0.mk ((by rw [hg]; exact (keep_size (w := w) (g := g) (row := none) (by repeat (first | (with_reducible first | exact HK.out | apply KeepBut.set_ | apply keep_drewN | apply keep_drew | apply keep_alloc) | exact HK.out))) : w.heap.size ≤ gb181)); have n5_ := Aside0.mk ((Nat.le_trans HW0.out (by rw [hg]; exact (keep_size (w := w) (g := g) (row := none) (by repeat (first | (with_reducible first | exact HK.out | apply KeepBut.set_ | apply keep_drewN | apply keep_drew | apply keep_alloc) | exact HK.out))) : w.heap.size ≤ gb181) : w0.heap.size ≤ gb181)); have n6_ := Aside0.mk ((by rw [hg]; exact Nat.ne_of_lt (IsS84.lt (show IsS84 w0 _ g s0_0 s0_1 from by repeat (first | (with_reducible first | exact HI0.out | apply IsS84.alloc | apply IsS84.drewN | apply IsS84.drew | apply IsS84.set_0 | apply IsS84.set_1) | exact HI0.out))) : g ≠ gb181)); have n7_ := Aside0.mk ((by rw [hg]; exact Nat.ne_of_gt (IsS84.lt (show IsS84 w0 _ g s0_0 s0_1 from by repeat (first | (with_reducible first | exact HI0.out | apply IsS84.alloc | apply IsS84.drewN | apply IsS84.drew | apply IsS84.set_0 | apply IsS84.set_1) | exact HI0.out))) : gb181 ≠ g)); clear HI0; clear HK; clear HB; have HI0 := n0_; have HK := n1_; have HB := n2_; have BK181 := n3_; have GW181 := n4_; have GE181 := n5_; have NB0_181 := n6_; have NB181_0 := n7_; clear n0_ n1_ n2_ n3_ n4_ n5_ n6_ n7_; clear hb hbox hg) | ((with_reducible refine gate_callee (f := 45) rfl ?_); refine goesL_ (some 10) rfl rfl Try.func45 (by kernel_rfl) rfl #[.pointer (some ⟨g, 0, none⟩)] rfl (by (try simp only [List.map_toArray, List.map_cons, List.map_nil]); first | done | rfl | (simp only [List.length_drop, List.length_take]; rfl)) ?_; (with_reducible refine (sacristanref13_Reader_Num.calls k g s0_0 s0_1 t182 t183 t184 w0 _ ?side1 ?side2 A2.out).mono ?_); (case side1 => repeat (first | (with_reducible first | exact HI0.out | apply IsS84.alloc | apply IsS84.drewN | apply IsS84.drew | apply IsS84.set_0 | apply IsS84.set_1 | refine IsS84.far ?_ NB0_181.out _) | exact HI0.out)); (case side2 => repeat (first | (with_reducible first | exact HB.out | apply below_alloc | apply pw_below_drewN | apply below_drew1 | refine below_set ?_ (IsS84.ge HI0.out) | refine below_set ?_ GE181.out) | exact HB.out)); rintro e w9 ⟨rfl, hi, hb, hk⟩; refine ⟨_, rfl, ?_⟩; have n0_ := Aside0.mk (KeepBut.blk hk (g' := gb181) (o := .cells #[.int .i64 0, .int .i64 0, .int .i64 0, .int .i64 0, .slice none 0 0, .slice none 0 0] 27 (0, 0)) (by (with_reducible repeat (first | refine blk_drewN ?_ _ | refine blk_drew ?_ | refine blk_alloc ?_ _)); exact BK181.out) NB181_0.out (by simp)); have n1_ := Aside0.mk (KeepBut.trans (by repeat (first | (with_reducible first | exact HK.out | apply KeepBut.set_ | apply keep_drewN | apply keep_drew | apply keep_alloc | refine keep_far ?_ GW181.out _) | exact HK.out)) hk (.inl rfl)); have n2_ := Aside0.mk (hb); have n3_ := Aside0.mk (hi); clear BK181; clear HK; clear HB; clear HI0; have BK181 := n0_; have HK := n1_; have HB := n2_; have HI0 := n3_; clear n0_ n1_ n2_ n3_; (try clear hb); (try clear hb2); (try clear hk); (try clear hi)) | ((with_reducible refine gate_dst (N := 3) rfl ?_); refine box_event ?hg (N := 3) ?hd (cs := #[.int .i64 0, .int .i64 0, .int .i64 0, .int .i64 0, .slice none 0 0, .slice none 0 0]) (t := 27) ?hr ?_; (case hd => rfl); (case hg => rfl); (case hr => first | (go_simp; done) | (go_simp; rfl)); intro gb185 hg w10 hbox hb; have n0_ := Aside0.mk (IsS84.below (by repeat (first | (with_reducible first | exact HI0.out | apply IsS84.alloc | apply IsS84.drewN | apply IsS84.drew | apply IsS84.set_0 | apply IsS84.set_1 | refine IsS84.far ?_ NB0_181.out _) | exact HI0.out)) hb); have n1_ := Aside0.mk (blk_below (g := gb181) (o := .cells #[.int .i64 0, .int .i64 0, .int .i64 0, .int .i64 0, .slice none 0 0, .slice none 0 0] 27 (0, 0)) (by (with_reducible repeat (first | refine blk_drewN ?_ _ | refine blk_drew ?_ | refine blk_alloc ?_ _)); exact BK181.out) hb); have n2_ := Aside0.mk (KeepBut.trans (by repeat (first | (with_reducible first | exact HK.out | apply KeepBut.set_ | apply keep_drewN | apply keep_drew | apply keep_alloc | refine keep_far ?_ GW181.out _) | exact HK.out)) (KeepBut.of_below hb g none) (.inl rfl)); have n3_ := Aside0.mk (below_step (by repeat (first | (with_reducible first | exact HB.out | apply below_alloc | apply pw_below_drewN | apply below_drew1 | refine below_set ?_ (IsS84.ge HI0.out) | refine below_set ?_ GE181.out) | exact HB.out)) hb); have n4_ := Aside0.mk (hbox); have n5_ := Aside0.mk ((by rw [hg]; exact (keep_size (w := w) (g := g) (row := none) (by repeat (first | (with_reducible first | exact HK.out | apply KeepBut.set_ | apply keep_drewN | apply keep_drew | apply keep_alloc | refine keep_far ?_ GW181.out _) | exact HK.out))) : w.heap.size ≤ gb185)); have n6_ := Aside0.mk ((Nat.le_trans HW0.out (by rw [hg]; exact (keep_size (w := w) (g := g) (row := none) (by repeat (first | (with_reducible first | exact HK.out | apply KeepBut.set_ | apply keep_drewN | apply keep_drew | apply keep_alloc | refine keep_far ?_ GW181.out _) | exact HK.out))) : w.heap.size ≤ gb185) : w0.heap.size ≤ gb185)); have n7_ := Aside0.mk ((by rw [hg]; exact Nat.ne_of_lt (blk_lt (g := gb181) (o := .cells #[.int .i64 0, .int .i64 0, .int .i64 0, .int .i64 0, .slice none 0 0, .slice none 0 0] 27 (0, 0)) (by (with_reducible repeat (first | refine blk_drewN ?_ _ | refine blk_drew ?_ | refine blk_alloc ?_ _)); exact BK181.out)) : gb181 ≠ gb185)); have n8_ := Aside0.mk ((by rw [hg]; exact Nat.ne_of_gt (blk_lt (g := gb181) (o := .cells #[.int .i64 0, .int .i64 0, .int .i64 0, .int .i64 0, .slice none 0 0, .slice none 0 0] 27 (0, 0)) (by (with_reducible repeat (first | refine blk_drewN ?_ _ | refine blk_drew ?_ | refine blk_alloc ?_ _)); exact BK181.out)) : gb185 ≠ gb181)); have n9_ := Aside0.mk ((by rw [hg]; exact Nat.ne_of_lt (IsS84.lt (show IsS84 w0 _ g t183 t184 from by repeat (first | (with_reducible first | exact HI0.out | apply IsS84.alloc | apply IsS84.drewN | apply IsS84.drew | apply IsS84.set_0 | apply IsS84.set_1 | refine IsS84.far ?_ NB0_181.out _) | exact HI0.out))) : g ≠ gb185)); have n10_ := Aside0.mk ((by rw [hg]; exact Nat.ne_of_gt (IsS84.lt (show IsS84 w0 _ g t183 t184 from by repeat (first | (with_reducible first | exact HI0.out | apply IsS84.alloc | apply IsS84.drewN | apply IsS84.drew | apply IsS84.set_0 | apply IsS84.set_1 | refine IsS84.far ?_ NB0_181.out _) | exact HI0.out))) : gb185 ≠ g)); clear HI0; clear BK181; clear HK; clear HB; have HI0 := n0_; have BK181 := n1_; have HK := n2_; have HB := n3_; have BK185 := n4_; have GW185 := n5_; have GE185 := n6_; have NB181_185 := n7_; have NB185_181 := n8_; have NB0_185 := n9_; have NB185_0 := n10_; clear n0_ n1_ n2_ n3_ n4_ n5_ n6_ n7_ n8_ n9_ n10_; clear hb hbox hg; have hnb11 := NB185_181.out; have hnc11 := NB181_185.out; have hnb12 := NB185_0.out; have hnc12 := NB0_185.out; have hcz13_0 : w10.cell? ⟨gb185, 0, none⟩ = some (.int .i64 0) := (blk_cell BK185.out 0).trans rfl; have hcz13_1 : w10.cell? ⟨gb185, 1, none⟩ = some (.int .i64 0) := (blk_cell BK185.out 1).trans rfl; have hcz13_2 : w10.cell? ⟨gb185, 2, none⟩ = some (.int .i64 0) := (blk_cell BK185.out 2).trans rfl; have hcz13_3 : w10.cell? ⟨gb185, 3, none⟩ = some (.int .i64 0) := (blk_cell BK185.out 3).trans rfl; have hcz13_4 : w10.cell? ⟨gb185, 4, none⟩ = some (.slice none 0 0) := (blk_cell BK185.out 4).trans rfl; have hcz13_5 : w10.cell? ⟨gb185, 5, none⟩ = some (.slice none 0 0) := (blk_cell BK185.out 5).trans rfl; have hfz13_0 := blk_frozen BK185.out 0; have hfz13_1 := blk_frozen BK185.out 1; have hfz13_2 := blk_frozen BK185.out 2; have hfz13_3 := blk_frozen BK185.out 3; have hfz13_4 := blk_frozen BK185.out 4; have hfz13_5 := blk_frozen BK185.out 5) | ((with_reducible refine gate_callee (f := 45) rfl ?_); refine goesL_ (some 13) rfl rfl Try.func45 (by kernel_rfl) rfl #[.pointer (some ⟨g, 0, none⟩)] rfl (by (try simp only [List.map_toArray, List.map_cons, List.map_nil]); first | done | rfl | (simp only [List.length_drop, List.length_take]; rfl)) ?_; (with_reducible refine (sacristanref13_Reader_Num.calls k g t183 t184 t186 t187 t188 w0 _ ?side1 ?side2 A3.out).mono ?_); (case side1 => repeat (first | (with_reducible first | exact HI0.out | apply IsS84.alloc | apply IsS84.drewN | apply IsS84.drew | apply IsS84.set_0 | apply IsS84.set_1 | refine IsS84.far ?_ NB0_181.out _ | refine IsS84.far ?_ NB0_185.out _) | exact HI0.out)); (case side2 => repeat (first | (with_reducible first | exact HB.out | apply below_alloc | apply pw_below_drewN | apply below_drew1 | refine below_set ?_ (IsS84.ge HI0.out) | refine below_set ?_ GE181.out | refine below_set ?_ GE185.out) | exact HB.out)); rintro e w14 ⟨rfl, hi, hb, hk⟩; refine ⟨_, rfl, ?_⟩; have n0_ := Aside0.mk (KeepBut.blk hk (g' := gb181) (o := .cells #[.int .i64 0, .int .i64 0, .int .i64 0, .int .i64 0, .slice none 0 0, .slice none 0 0] 27 (0, 0)) (by (with_reducible repeat (first | refine blk_drewN ?_ _ | refine blk_drew ?_ | refine blk_alloc ?_ _)); refine blk_far ?_ NB181_185.out _; (with_reducible repeat (first | refine blk_drewN ?_ _ | refine blk_drew ?_ | refine blk_alloc ?_ _)); refine blk_far ?_ NB181_185.out _; (with_reducible repeat (first | refine blk_drewN ?_ _ | refine blk_drew ?_ | refine blk_alloc ?_ _)); refine blk_far ?_ NB181_185.out _; (with_reducible repeat (first | refine blk_drewN ?_ _ | refine blk_drew ?_ | refine blk_alloc ?_ _)); refine blk_far ?_ NB181_185.out _; (with_reducible repeat (first | refine blk_drewN ?_ _ | refine blk_drew ?_ | refine blk_alloc ?_ _)); refine blk_far ?_ NB181_185.out _; (with_reducible repeat (first | refine blk_drewN ?_ _ | refine blk_drew ?_ | refine blk_alloc ?_ _)); refine blk_far ?_ NB181_185.out _; (with_reducible repeat (first | refine blk_drewN ?_ _ | refine blk_drew ?_ | refine blk_alloc ?_ _)); exact BK181.out) NB181_0.out (by simp)); have n1_ := Aside0.mk (KeepBut.blk hk (g' := gb185) (o := .cells #[.int .i64 t182, .int .i64 0, .int .i64 0, .int .i64 0, .slice none 0 0, .slice none 0 0] 27 (0, 0)) (by (with_reducible repeat (first | refine blk_drewN ?_ _ | refine blk_drew ?_ | refine blk_alloc ?_ _)); refine blk_put (cs := #[.int .i64 t182, .int .i64 0, .int .i64 0, .int .i64 0, .slice none 0 0, .slice none 0 0]) ?_ 5 _ rfl; (with_reducible repeat (first | refine blk_drewN ?_ _ | refine blk_drew ?_ | refine blk_alloc ?_ _)); refine blk_put (cs := #[.int .i64 t182, .int .i64 0, .int .i64 0, .int .i64 0, .slice none 0 0, .slice none 0 0]) ?_ 4 _ rfl; (with_reducible repeat (first | refine blk_drewN ?_ _ | refine blk_drew ?_ | refine blk_alloc ?_ _)); refine blk_put (cs := #[.int .i64 t182, .int .i64 0, .int .i64 0, .int .i64 0, .slice none 0 0, .slice none 0 0]) ?_ 3 _ rfl; (with_reducible repeat (first | refine blk_drewN ?_ _ | refine blk_drew ?_ | refine blk_alloc ?_ _)); refine blk_put (cs := #[.int .i64 t182, .int .i64 0, .int .i64 0, .int .i64 0, .slice none 0 0, .slice none 0 0]) ?_ 2 _ rfl; (with_reducible repeat (first | refine blk_drewN ?_ _ | refine blk_drew ?_ | refine blk_alloc ?_ _)); refine blk_put (cs := #[.int .i64 t182, .int .i64 0, .int .i64 0, .int .i64 0, .slice none 0 0, .slice none 0 0]) ?_ 1 _ rfl; (with_reducible repeat (first | refine blk_drewN ?_ _ | refine blk_drew ?_ | refine blk_alloc ?_ _)); refine blk_put (cs := #[.int .i64 0, .int .i64 0, .int .i64 0, .int .i64 0, .slice none 0 0, .slice none 0 0]) ?_ 0 _ rfl; (with_reducible repeat (first | refine blk_drewN ?_ _ | refine blk_drew ?_ | refine blk_alloc ?_ _)); exact BK185.out) NB185_0.out (by simp)); have n2_ := Aside0.mk (KeepBut.trans (by repeat (first | (with_reducible first | exact HK.out | apply KeepBut.set_ | apply keep_drewN | apply keep_drew | apply keep_alloc | refine keep_far ?_ GW181.out _ | refine keep_far ?_ GW185.out _) | exact HK.out)) hk (.inl rfl)); have n3_ := Aside0.mk (hb); have n4_ := Aside0.mk (hi); clear BK181; clear BK185; clear HK; clear HB; clear HI0; have BK181 := n0_; have BK185 := n1_; have HK := n2_; have HB := n3_; have HI0 := n4_; clear n0_ n1_ n2_ n3_ n4_; (try clear hb); (try clear hb2); (try clear hk); (try clear hi); have hcz15_0 : w14.cell? ⟨gb185, 0, none⟩ = some (.int .i64 t182) := (blk_cell BK185.out 0).trans rfl; have hcz15_1 : w14.cell? ⟨gb185, 1, none⟩ = some (.int .i64 0) := (blk_cell BK185.out 1).trans rfl; have hcz15_2 : w14.cell? ⟨gb185, 2, none⟩ = some (.int .i64 0) := (blk_cell BK185.out 2).trans rfl; have hcz15_3 : w14.cell? ⟨gb185, 3, none⟩ = some (.int .i64 0) := (blk_cell BK185.out 3).trans rfl; have hcz15_4 : w14.cell? ⟨gb185, 4, none⟩ = some (.slice none 0 0) := (blk_cell BK185.out 4).trans rfl; have hcz15_5 : w14.cell? ⟨gb185, 5, none⟩ = some (.slice none 0 0) := (blk_cell BK185.out 5).trans rfl; have hfz15_0 := blk_frozen BK185.out 0; have hfz15_1 := blk_frozen BK185.out 1; have hfz15_2 := blk_frozen BK185.out 2; have hfz15_3 := blk_frozen BK185.out 3; have hfz15_4 := blk_frozen BK185.out 4; have hfz15_5 := blk_frozen BK185.out 5) | ((with_reducible refine gate_callee (f := 45) rfl ?_); refine goesL_ (some 17) rfl rfl Try.func45 (by kernel_rfl) rfl #[.pointer (some ⟨g, 0, none⟩)] rfl (by (try simp only [List.map_toArray, List.map_cons, List.map_nil]); first | done | rfl | (simp only [List.length_drop, List.length_take]; rfl)) ?_; (with_reducible refine (sacristanref13_Reader_Num.calls k g t187 t188 t189 t190 t191 w0 _ ?side1 ?side2 A4.out).mono ?_); (case side1 => repeat (first | (with_reducible first | exact HI0.out | apply IsS84.alloc | apply IsS84.drewN | apply IsS84.drew | apply IsS84.set_0 | apply IsS84.set_1 | refine IsS84.far ?_ NB0_181.out _ | refine IsS84.far ?_ NB0_185.out _) | exact HI0.out)); (case side2 => repeat (first | (with_reducible first | exact HB.out | apply below_alloc | apply pw_below_drewN | apply below_drew1 | refine below_set ?_ (IsS84.ge HI0.out) | refine below_set ?_ GE181.out | refine below_set ?_ GE185.out) | exact HB.out)); rintro e w16 ⟨rfl, hi, hb, hk⟩; refine ⟨_, rfl, ?_⟩; have n0_ := Aside0.mk (KeepBut.blk hk (g' := gb181) (o := .cells #[.int .i64 0, .int .i64 0, .int .i64 0, .int .i64 0, .slice none 0 0, .slice none 0 0] 27 (0, 0)) (by (with_reducible repeat (first | refine blk_drewN ?_ _ | refine blk_drew ?_ | refine blk_alloc ?_ _)); refine blk_far ?_ NB181_185.out _; (with_reducible repeat (first | refine blk_drewN ?_ _ | refine blk_drew ?_ | refine blk_alloc ?_ _)); exact BK181.out) NB181_0.out (by simp)); have n1_ := Aside0.mk (KeepBut.blk hk (g' := gb185) (o := .cells #[.int .i64 t182, .int .i64 t186, .int .i64 0, .int .i64 0, .slice none 0 0, .slice none 0 0] 27 (0, 0)) (by (with_reducible repeat (first | refine blk_drewN ?_ _ | refine blk_drew ?_ | refine blk_alloc ?_ _)); refine blk_put (cs := #[.int .i64 t182, .int .i64 0, .int .i64 0, .int .i64 0, .slice none 0 0, .slice none 0 0]) ?_ 1 _ rfl; (with_reducible repeat (first | refine blk_drewN ?_ _ | refine blk_drew ?_ | refine blk_alloc ?_ _)); exact BK185.out) NB185_0.out (by simp)); have n2_ := Aside0.mk (KeepBut.trans (by repeat (first | (with_reducible first | exact HK.out | apply KeepBut.set_ | apply keep_drewN | apply keep_drew | apply keep_alloc | refine keep_far ?_ GW181.out _ | refine keep_far ?_ GW185.out _) | exact HK.out)) hk (.inl rfl)); have n3_ := Aside0.mk (hb); have n4_ := Aside0.mk (hi); clear BK181; clear BK185; clear HK; clear HB; clear HI0; have BK181 := n0_; have BK185 := n1_; have HK := n2_; have HB := n3_; have HI0 := n4_; clear n0_ n1_ n2_ n3_ n4_; (try clear hb); (try clear hb2); (try clear hk); (try clear hi); have hcz17_0 : w16.cell? ⟨gb185, 0, none⟩ = some (.int .i64 t182) := (blk_cell BK185.out 0).trans rfl; have hcz17_1 : w16.cell? ⟨gb185, 1, none⟩ = some (.int .i64 t186) := (blk_cell BK185.out 1).trans rfl; have hcz17_2 : w16.cell? ⟨gb185, 2, none⟩ = some (.int .i64 0) := (blk_cell BK185.out 2).trans rfl; have hcz17_3 : w16.cell? ⟨gb185, 3, none⟩ = some (.int .i64 0) := (blk_cell BK185.out 3).trans rfl; have hcz17_4 : w16.cell? ⟨gb185, 4, none⟩ = some (.slice none 0 0) := (blk_cell BK185.out 4).trans rfl; have hcz17_5 : w16.cell? ⟨gb185, 5, none⟩ = some (.slice none 0 0) := (blk_cell BK185.out 5).trans rfl; have hfz17_0 := blk_frozen BK185.out 0; have hfz17_1 := blk_frozen BK185.out 1; have hfz17_2 := blk_frozen BK185.out 2; have hfz17_3 := blk_frozen BK185.out 3; have hfz17_4 := blk_frozen BK185.out 4; have hfz17_5 := blk_frozen BK185.out 5) | ((with_reducible refine gate_callee (f := 45) rfl ?_); refine goesL_ (some 21) rfl rfl Try.func45 (by kernel_rfl) rfl #[.pointer (some ⟨g, 0, none⟩)] rfl (by (try simp only [List.map_toArray, List.map_cons, List.map_nil]); first | done | rfl | (simp only [List.length_drop, List.length_take]; rfl)) ?_; (with_reducible refine (sacristanref13_Reader_Num.calls k g t190 t191 t192 t193 t194 w0 _ ?side1 ?side2 A5.out).mono ?_); (case side1 => repeat (first | (with_reducible first | exact HI0.out | apply IsS84.alloc | apply IsS84.drewN | apply IsS84.drew | apply IsS84.set_0 | apply IsS84.set_1 | refine IsS84.far ?_ NB0_181.out _ | refine IsS84.far ?_ NB0_185.out _) | exact HI0.out)); (case side2 => repeat (first | (with_reducible first | exact HB.out | apply below_alloc | apply pw_below_drewN | apply below_drew1 | refine below_set ?_ (IsS84.ge HI0.out) | refine below_set ?_ GE181.out | refine below_set ?_ GE185.out) | exact HB.out)); rintro e w18 ⟨rfl, hi, hb, hk⟩; refine ⟨_, rfl, ?_⟩; have n0_ := Aside0.mk (KeepBut.blk hk (g' := gb181) (o := .cells #[.int .i64 0, .int .i64 0, .int .i64 0, .int .i64 0, .slice none 0 0, .slice none 0 0] 27 (0, 0)) (by (with_reducible repeat (first | refine blk_drewN ?_ _ | refine blk_drew ?_ | refine blk_alloc ?_ _)); refine blk_far ?_ NB181_185.out _; (with_reducible repeat (first | refine blk_drewN ?_ _ | refine blk_drew ?_ | refine blk_alloc ?_ _)); exact BK181.out) NB181_0.out (by simp)); have n1_ := Aside0.mk (KeepBut.blk hk (g' := gb185) (o := .cells #[.int .i64 t182, .int .i64 t186, .int .i64 t189, .int .i64 0, .slice none 0 0, .slice none 0 0] 27 (0, 0)) (by (with_reducible repeat (first | refine blk_drewN ?_ _ | refine blk_drew ?_ | refine blk_alloc ?_ _)); refine blk_put (cs := #[.int .i64 t182, .int .i64 t186, .int .i64 0, .int .i64 0, .slice none 0 0, .slice none 0 0]) ?_ 2 _ rfl; (with_reducible repeat (first | refine blk_drewN ?_ _ | refine blk_drew ?_ | refine blk_alloc ?_ _)); exact BK185.out) NB185_0.out (by simp)); have n2_ := Aside0.mk (KeepBut.trans (by repeat (first | (with_reducible first | exact HK.out | apply KeepBut.set_ | apply keep_drewN | apply keep_drew | apply keep_alloc | refine keep_far ?_ GW181.out _ | refine keep_far ?_ GW185.out _) | exact HK.out)) hk (.inl rfl)); have n3_ := Aside0.mk (hb); have n4_ := Aside0.mk (hi); clear BK181; clear BK185; clear HK; clear HB; clear HI0; have BK181 := n0_; have BK185 := n1_; have HK := n2_; have HB := n3_; have HI0 := n4_; clear n0_ n1_ n2_ n3_ n4_; (try clear hb); (try clear hb2); (try clear hk); (try clear hi); have hcz19_0 : w18.cell? ⟨gb185, 0, none⟩ = some (.int .i64 t182) := (blk_cell BK185.out 0).trans rfl; have hcz19_1 : w18.cell? ⟨gb185, 1, none⟩ = some (.int .i64 t186) := (blk_cell BK185.out 1).trans rfl; have hcz19_2 : w18.cell? ⟨gb185, 2, none⟩ = some (.int .i64 t189) := (blk_cell BK185.out 2).trans rfl; have hcz19_3 : w18.cell? ⟨gb185, 3, none⟩ = some (.int .i64 0) := (blk_cell BK185.out 3).trans rfl; have hcz19_4 : w18.cell? ⟨gb185, 4, none⟩ = some (.slice none 0 0) := (blk_cell BK185.out 4).trans rfl; have hcz19_5 : w18.cell? ⟨gb185, 5, none⟩ = some (.slice none 0 0) := (blk_cell BK185.out 5).trans rfl; have hfz19_0 := blk_frozen BK185.out 0; have hfz19_1 := blk_frozen BK185.out 1; have hfz19_2 := blk_frozen BK185.out 2; have hfz19_3 := blk_frozen BK185.out 3; have hfz19_4 := blk_frozen BK185.out 4; have hfz19_5 := blk_frozen BK185.out 5) | ((with_reducible refine gate_callee (f := 45) rfl ?_); refine goesL_ (some 25) rfl rfl Try.func45 (by kernel_rfl) rfl #[.pointer (some ⟨g, 0, none⟩)] rfl (by (try simp only [List.map_toArray, List.map_cons, List.map_nil]); first | done | rfl | (simp only [List.length_drop, List.length_take]; rfl)) ?_; (with_reducible refine (sacristanref13_Reader_Num.calls k g t193 t194 t195 t196 t197 w0 _ ?side1 ?side2 A6.out).mono ?_); (case side1 => repeat (first | (with_reducible first | exact HI0.out | apply IsS84.alloc | apply IsS84.drewN | apply IsS84.drew | apply IsS84.set_0 | apply IsS84.set_1 | refine IsS84.far ?_ NB0_181.out _ | refine IsS84.far ?_ NB0_185.out _) | exact HI0.out)); (case side2 => repeat (first | (with_reducible first | exact HB.out | apply below_alloc | apply pw_below_drewN | apply below_drew1 | refine below_set ?_ (IsS84.ge HI0.out) | refine below_set ?_ GE181.out | refine below_set ?_ GE185.out) | exact HB.out)); rintro e w20 ⟨rfl, hi, hb, hk⟩; refine ⟨_, rfl, ?_⟩; have n0_ := Aside0.mk (KeepBut.blk hk (g' := gb181) (o := .cells #[.int .i64 0, .int .i64 0, .int .i64 0, .int .i64 0, .slice none 0 0, .slice none 0 0] 27 (0, 0)) (by (with_reducible repeat (first | refine blk_drewN ?_ _ | refine blk_drew ?_ | refine blk_alloc ?_ _)); refine blk_far ?_ NB181_185.out _; (with_reducible repeat (first | refine blk_drewN ?_ _ | refine blk_drew ?_ | refine blk_alloc ?_ _)); exact BK181.out) NB181_0.out (by simp)); have n1_ := Aside0.mk (KeepBut.blk hk (g' := gb185) (o := .cells #[.int .i64 t182, .int .i64 t186, .int .i64 t189, .int .i64 t192, .slice none 0 0, .slice none 0 0] 27 (0, 0)) (by (with_reducible repeat (first | refine blk_drewN ?_ _ | refine blk_drew ?_ | refine blk_alloc ?_ _)); refine blk_put (cs := #[.int .i64 t182, .int .i64 t186, .int .i64 t189, .int .i64 0, .slice none 0 0, .slice none 0 0]) ?_ 3 _ rfl; (with_reducible repeat (first | refine blk_drewN ?_ _ | refine blk_drew ?_ | refine blk_alloc ?_ _)); exact BK185.out) NB185_0.out (by simp)); have n2_ := Aside0.mk (KeepBut.trans (by repeat (first | (with_reducible first | exact HK.out | apply KeepBut.set_ | apply keep_drewN | apply keep_drew | apply keep_alloc | refine keep_far ?_ GW181.out _ | refine keep_far ?_ GW185.out _) | exact HK.out)) hk (.inl rfl)); have n3_ := Aside0.mk (hb); have n4_ := Aside0.mk (hi); clear BK181; clear BK185; clear HK; clear HB; clear HI0; have BK181 := n0_; have BK185 := n1_; have HK := n2_; have HB := n3_; have HI0 := n4_; clear n0_ n1_ n2_ n3_ n4_; (try clear hb); (try clear hb2); (try clear hk); (try clear hi)))
 (try simp only [Act.put, List.setIfInBounds_toArray, List.set_cons_zero, List.set_cons_succ])
 go_cut [] (fun wc => ∃ (kq : Nat) (x1001_6 : Bool), Aside0 (sacristanref13_Reader_Spec.j0 kq t195 t196 x1001_6 t182 t186 t189 t192 = some (r1, r2, r3, r4, r5, r6, r7, r8)) ∧ Aside0 (kq ≤ k) ∧ Aside0 (wc.heap[gb181]? = some (.cells #[.int .i64 0, .int .i64 0, .int .i64 0, .int .i64 0, (.slice none 0 0), (.slice none 0 0)] 27 (0, 0))) ∧ Aside0 (wc.heap[gb185]? = some (.cells #[.int .i64 t182, .int .i64 t186, .int .i64 t189, .int .i64 t192, (.slice none 0 0), (.slice none 0 0)] 27 (0, 0))) ∧ Aside0 (IsS84 w0 wc g t196 x1001_6) ∧ Aside0 (KeepBut w wc g none) ∧ Aside0 (Below w0.heap.size w0 wc))
 case first =>
  have H := HC7.out
  clear HC7
  by_cases c21 : t197 = true
  ·subst c21
   have H1 : (sacristanref13_Reader_Spec.j0 k t195 t196 true t182 t186 t189 t192) = some (r1, r2, r3, r4, r5, r6, r7, r8) := by rw [if_pos rfl] at H; exact H
   clear H
   have H := H1
   clear H1
   have H' := Aside0.mk H
   clear H
   obtain ⟨HGz22, hgz22⟩ := HI0.out
   have hcz22_0 := cellS84_0 HGz22
   have hcz22_1 := cellS84_1 HGz22
   have hfz22_0 := blk_frozen HGz22 0
   have hfz22_1 := blk_frozen HGz22 1
   clear HGz22 hgz22
   go_wp2
   go_meet
   case rel => exact ⟨_, (true), H', ⟨by first | omega | exact Nat.le_refl _⟩, ⟨by (with_reducible repeat (first | refine blk_drewN ?_ _ | refine blk_drew ?_ | refine blk_alloc ?_ _)); refine blk_far ?_ NB181_0.out _; (with_reducible repeat (first | refine blk_drewN ?_ _ | refine blk_drew ?_ | refine blk_alloc ?_ _)); exact BK181.out⟩, ⟨by (with_reducible repeat (first | refine blk_drewN ?_ _ | refine blk_drew ?_ | refine blk_alloc ?_ _)); refine blk_far ?_ NB185_0.out _; (with_reducible repeat (first | refine blk_drewN ?_ _ | refine blk_drew ?_ | refine blk_alloc ?_ _)); exact BK185.out⟩, ⟨by repeat (first | (with_reducible first | exact HI0.out | apply IsS84.alloc | apply IsS84.drewN | apply IsS84.drew | apply IsS84.set_0 | apply IsS84.set_1 | refine IsS84.far ?_ NB0_181.out _ | refine IsS84.far ?_ NB0_185.out _) | exact HI0.out)⟩, ⟨by repeat (first | (with_reducible first | exact HK.out | apply KeepBut.set_ | apply keep_drewN | apply keep_drew | apply keep_alloc | refine keep_far ?_ GW181.out _ | refine keep_far ?_ GW185.out _) | exact HK.out)⟩, ⟨by repeat (first | (with_reducible first | exact HB.out | apply below_alloc | apply pw_below_drewN | apply below_drew1 | refine below_set ?_ (IsS84.ge HI0.out) | refine below_set ?_ GE181.out | refine below_set ?_ GE185.out) | exact HB.out)⟩⟩
  ·replace c21 := Bool.eq_false_iff.mpr c21
   subst c21
   have H1 : (sacristanref13_Reader_Spec.j0 k t195 t196 (decide (t195 > 8)) t182 t186 t189 t192) = some (r1, r2, r3, r4, r5, r6, r7, r8) := by rw [if_neg (show ¬ (false = true) by decide)] at H; exact H
   clear H
   have H := H1
   clear H1
   have H' := Aside0.mk H
   clear H
   obtain ⟨HGz23, hgz23⟩ := HI0.out
   have hcz23_0 := cellS84_0 HGz23
   have hcz23_1 := cellS84_1 HGz23
   have hfz23_0 := blk_frozen HGz23 0
   have hfz23_1 := blk_frozen HGz23 1
   clear HGz23 hgz23
   go_wp2
   go_meet
   case rel => exact ⟨_, (decide (t195 > 8)), H', ⟨by first | omega | exact Nat.le_refl _⟩, ⟨by (with_reducible repeat (first | refine blk_drewN ?_ _ | refine blk_drew ?_ | refine blk_alloc ?_ _)); refine blk_far ?_ NB181_0.out _; (with_reducible repeat (first | refine blk_drewN ?_ _ | refine blk_drew ?_ | refine blk_alloc ?_ _)); exact BK181.out⟩, ⟨by (with_reducible repeat (first | refine blk_drewN ?_ _ | refine blk_drew ?_ | refine blk_alloc ?_ _)); refine blk_far ?_ NB185_0.out _; (with_reducible repeat (first | refine blk_drewN ?_ _ | refine blk_drew ?_ | refine blk_alloc ?_ _)); exact BK185.out⟩, ⟨by repeat (first | (with_reducible first | exact HI0.out | apply IsS84.alloc | apply IsS84.drewN | apply IsS84.drew | apply IsS84.set_0 | apply IsS84.set_1 | refine IsS84.far ?_ NB0_181.out _ | refine IsS84.far ?_ NB0_185.out _) | exact HI0.out)⟩, ⟨by repeat (first | (with_reducible first | exact HK.out | apply KeepBut.set_ | apply keep_drewN | apply keep_drew | apply keep_alloc | refine keep_far ?_ GW181.out _ | refine keep_far ?_ GW185.out _) | exact HK.out)⟩, ⟨by repeat (first | (with_reducible first | exact HB.out | apply below_alloc | apply pw_below_drewN | apply below_drew1 | refine below_set ?_ (IsS84.ge HI0.out) | refine below_set ?_ GE181.out | refine below_set ?_ GE185.out) | exact HB.out)⟩⟩
 case rest =>
  clear HC7
  try clear c1
  try clear c2
  try clear p2
  try clear c4
  try clear c11
  try clear c12
  try clear c21
  try clear hcz13_0
  try clear hcz13_1
  try clear hcz13_2
  try clear hcz13_3
  try clear hcz13_4
  try clear hcz13_5
  try clear hcz15_0
  try clear hcz15_1
  try clear hcz15_2
  try clear hcz15_3
  try clear hcz15_4
  try clear hcz15_5
  try clear hcz17_0
  try clear hcz17_1
  try clear hcz17_2
  try clear hcz17_3
  try clear hcz17_4
  try clear hcz17_5
  try clear hcz19_0
  try clear hcz19_1
  try clear hcz19_2
  try clear hcz19_3
  try clear hcz19_4
  try clear hcz19_5
  try clear hcz22_0
  try clear hcz22_1
  try clear hcz23_0
  try clear hcz23_1
  try clear hfz13_0
  try clear hfz13_1
  try clear hfz13_2
  try clear hfz13_3
  try clear hfz13_4
  try clear hfz13_5
  try clear hfz15_0
  try clear hfz15_1
  try clear hfz15_2
  try clear hfz15_3
  try clear hfz15_4
  try clear hfz15_5
  try clear hfz17_0
  try clear hfz17_1
  try clear hfz17_2
  try clear hfz17_3
  try clear hfz17_4
  try clear hfz17_5
  try clear hfz19_0
  try clear hfz19_1
  try clear hfz19_2
  try clear hfz19_3
  try clear hfz19_4
  try clear hfz19_5
  try clear hfz22_0
  try clear hfz22_1
  try clear hfz23_0
  try clear hfz23_1
  obtain ⟨kq, x1001_6, HA, HJ6, BK181, BK185, HI0, HK, HB⟩ := hcut
  cases kq with
  | zero => exact absurd HA.out (by simp [sacristanref13_Reader_Spec.j0])
  | succ kj6 =>
   have H := HA.out
   clear HA
   simp only [sacristanref13_Reader_Spec.j0] at H
   have HC24 := Aside0.mk H
   clear H
   go_upto_block 0 with (fail)
   go_cut [] (fun wc => ∃ (kq : Nat) (x1000_23 : ByteArray) (x1001_23 : Bool) (x186004_23 : List Int) (u186004 : Value), Aside0 (sacristanref13_Reader_Spec.j2 kq x1000_23 x1001_23 t182 t186 t189 t192 x186004_23 = some (r1, r2, r3, r4, r5, r6, r7, r8)) ∧ Aside0 (kq ≤ kj6) ∧ Aside0 (Kd.R (Kd.int .i64) 3 wc w.heap.size (fun _ => True) u186004 x186004_23) ∧ Aside0 (wc.heap[gb181]? = some (.cells #[.int .i64 0, .int .i64 0, .int .i64 0, .int .i64 0, (.slice none 0 0), (.slice none 0 0)] 27 (0, 0))) ∧ Aside0 (wc.heap[gb185]? = some (.cells #[.int .i64 t182, .int .i64 t186, .int .i64 t189, .int .i64 t192, u186004, (.slice none 0 0)] 27 (0, 0))) ∧ Aside0 (IsS84 w0 wc g x1000_23 x1001_23) ∧ Aside0 (KeepBut w wc g none) ∧ Aside0 (Below w0.heap.size w0 wc))
   case first =>
    have H := HC24.out
    clear HC24
    have H' := Aside0.mk H
    clear H
    go_wp2
    go_loopg [5] kj6 (fun kq v5 w' => ∃ (x5_2 : Int) (x1000_2 : ByteArray) (x1001_2 : Bool) (x186004_2 : List Int) (u186004 : Value), v5 = .int .i64 x5_2 ∧ Aside0 (sacristanref13_Reader_Spec.l0 kq t195 x5_2 x1000_2 x1001_2 t182 t186 t189 t192 x186004_2 = some (r1, r2, r3, r4, r5, r6, r7, r8)) ∧ Aside0 (kq ≤ kj6) ∧ Aside0 (Kd.R (Kd.int .i64) 3 w' w.heap.size (fun _ => True) u186004 x186004_2) ∧ Aside0 (w'.heap[gb181]? = some (.cells #[.int .i64 0, .int .i64 0, .int .i64 0, .int .i64 0, (.slice none 0 0), (.slice none 0 0)] 27 (0, 0))) ∧ Aside0 (w'.heap[gb185]? = some (.cells #[.int .i64 t182, .int .i64 t186, .int .i64 t189, .int .i64 t192, u186004, (.slice none 0 0)] 27 (0, 0))) ∧ Aside0 (IsS84 w0 w' g x1000_2 x1001_2) ∧ Aside0 (KeepBut w w' g none) ∧ Aside0 (Below w0.heap.size w0 w'))
    case atStart => exact ⟨(0), (t196), (x1001_6), (([] : List Int)), (.slice none 0 0), (by first | rfl | (simp; done) | (simp [*]; done)), H', ⟨Nat.le_refl _⟩, ⟨by first | exact Kd.R_nil _ _ _ _ _ | exact Kd.N_nil _ _ _ _ _ | exact Kd.V_nil _ _ _ _ _ | exact Kd.Q_nil _ _ _ _ _ | exact Kd.S_nil _ _ _ _ _⟩, ⟨by (with_reducible repeat (first | refine blk_drewN ?_ _ | refine blk_drew ?_ | refine blk_alloc ?_ _)); exact BK181.out⟩, ⟨by (with_reducible repeat (first | refine blk_drewN ?_ _ | refine blk_drew ?_ | refine blk_alloc ?_ _)); exact BK185.out⟩, ⟨by repeat (first | (with_reducible first | exact HI0.out | apply IsS84.alloc | apply IsS84.drewN | apply IsS84.drew | apply IsS84.set_0 | apply IsS84.set_1 | refine IsS84.far ?_ NB0_181.out _ | refine IsS84.far ?_ NB0_185.out _) | exact HI0.out)⟩, ⟨by repeat (first | (with_reducible first | exact HK.out | apply KeepBut.set_ | apply keep_drewN | apply keep_drew | apply keep_alloc | refine keep_far ?_ GW181.out _ | refine keep_far ?_ GW185.out _) | exact HK.out)⟩, ⟨by repeat (first | (with_reducible first | exact HB.out | apply below_alloc | apply pw_below_drewN | apply below_drew1 | refine below_set ?_ (IsS84.ge HI0.out) | refine below_set ?_ GE181.out | refine below_set ?_ GE185.out) | exact HB.out)⟩⟩
    case round =>
     clear H'
     try clear c1
     try clear c2
     try clear p2
     try clear c4
     try clear c11
     try clear c12
     try clear c21
     try clear hcz13_0
     try clear hcz13_1
     try clear hcz13_2
     try clear hcz13_3
     try clear hcz13_4
     try clear hcz13_5
     try clear hcz15_0
     try clear hcz15_1
     try clear hcz15_2
     try clear hcz15_3
     try clear hcz15_4
     try clear hcz15_5
     try clear hcz17_0
     try clear hcz17_1
     try clear hcz17_2
     try clear hcz17_3
     try clear hcz17_4
     try clear hcz17_5
     try clear hcz19_0
     try clear hcz19_1
     try clear hcz19_2
     try clear hcz19_3
     try clear hcz19_4
     try clear hcz19_5
     try clear hcz22_0
     try clear hcz22_1
     try clear hcz23_0
     try clear hcz23_1
     try clear hfz13_0
     try clear hfz13_1
     try clear hfz13_2
     try clear hfz13_3
     try clear hfz13_4
     try clear hfz13_5
     try clear hfz15_0
     try clear hfz15_1
     try clear hfz15_2
     try clear hfz15_3
     try clear hfz15_4
     try clear hfz15_5
     try clear hfz17_0
     try clear hfz17_1
     try clear hfz17_2
     try clear hfz17_3
     try clear hfz17_4
     try clear hfz17_5
     try clear hfz19_0
     try clear hfz19_1
     try clear hfz19_2
     try clear hfz19_3
     try clear hfz19_4
     try clear hfz19_5
     try clear hfz22_0
     try clear hfz22_1
     try clear hfz23_0
     try clear hfz23_1
     try clear p2
     obtain ⟨x5_2, x1000_2, x1001_2, x186004_2, u186004, rfl, HA, HK2, HO_186004, BK181, BK185, HI0, HK, HB⟩ := hrel
     cases gk with
     | zero => exact absurd HA.out (by simp [sacristanref13_Reader_Spec.l0])
     | succ k2 =>
      have H := HA.out
      clear HA
      simp only [sacristanref13_Reader_Spec.l0] at H
      by_cases c25 : x5_2 < t195
      ·rw [if_pos c25] at H
       have c25b0 : decide (x5_2 < t195) = true := decide_eq_true c25
       clear c25
       (first | rw [c25b0] | (simp only [i64_w, i32_w]; rw [c25b0]) | skip)
       by_cases c26 : x1001_2 = true
       ·subst c26
        have H1 : (sacristanref13_Reader_Spec.j2 k2 x1000_2 true t182 t186 t189 t192 x186004_2) = some (r1, r2, r3, r4, r5, r6, r7, r8) := by rw [if_pos rfl] at H; exact H
        clear H
        have H := H1
        clear H1
        have H' := Aside0.mk H
        clear H
        obtain ⟨HGz27, hgz27⟩ := HI0.out
        have hcz27_0 := cellS84_0 HGz27
        have hcz27_1 := cellS84_1 HGz27
        have hfz27_0 := blk_frozen HGz27 0
        have hfz27_1 := blk_frozen HGz27 1
        clear HGz27 hgz27
        go_wp2
        go_meet
        case rel => exact ⟨_, (x1000_2), (true), (x186004_2), (u186004), H', ⟨by have := HJ6.out; have := HK2.out; first | omega | exact Nat.le_refl _⟩, ⟨by (with_reducible repeat (first | apply Kd.R_alloc | apply Kd.R_drewN | apply Kd.R_drew)); exact HO_186004.out⟩, ⟨by (with_reducible repeat (first | refine blk_drewN ?_ _ | refine blk_drew ?_ | refine blk_alloc ?_ _)); exact BK181.out⟩, ⟨by (with_reducible repeat (first | refine blk_drewN ?_ _ | refine blk_drew ?_ | refine blk_alloc ?_ _)); exact BK185.out⟩, ⟨by repeat (first | (with_reducible first | exact HI0.out | apply IsS84.alloc | apply IsS84.drewN | apply IsS84.drew | apply IsS84.set_0 | apply IsS84.set_1 | refine IsS84.far ?_ NB0_181.out _ | refine IsS84.far ?_ NB0_185.out _) | exact HI0.out)⟩, ⟨by repeat (first | (with_reducible first | exact HK.out | apply KeepBut.set_ | apply keep_drewN | apply keep_drew | apply keep_alloc | refine keep_far ?_ GW181.out _ | refine keep_far ?_ GW185.out _) | exact HK.out)⟩, ⟨by repeat (first | (with_reducible first | exact HB.out | apply below_alloc | apply pw_below_drewN | apply below_drew1 | refine below_set ?_ (IsS84.ge HI0.out) | refine below_set ?_ GE181.out | refine below_set ?_ GE185.out) | exact HB.out)⟩⟩
       ·replace c26 := Bool.eq_false_iff.mpr c26
        subst c26
        have H1 : ((sacristanref13_Reader_Num.f k2 x1000_2 false).bind fun bt198 => (if x186004_2.length < 17592186044416 then (sacristanref13_Reader_Spec.l0 k2 t195 (wrap64 (x5_2 + 1)) bt198.2.1 bt198.2.2 t182 t186 t189 t192 (x186004_2 ++ [bt198.1])) else (none))) = some (r1, r2, r3, r4, r5, r6, r7, r8) := by rw [if_neg (show ¬ (false = true) by decide)] at H; exact H
        clear H
        have H := H1
        clear H1
        replace H := Option.bind_eq_some_iff.mp H
        obtain ⟨⟨t198, t199, t200⟩, A280, H⟩ := H
        replace H : (if x186004_2.length < 17592186044416 then (sacristanref13_Reader_Spec.l0 k2 t195 (wrap64 (x5_2 + 1)) t199 t200 t182 t186 t189 t192 (x186004_2 ++ [t198])) else (none)) = some (r1, r2, r3, r4, r5, r6, r7, r8) := H
        have A28 := Aside0.mk A280
        clear A280
        by_cases c29 : x186004_2.length < 17592186044416
        ·rw [if_pos c29] at H
         have LMc29 := Aside0.mk c29
         clear c29
         obtain ⟨y201, hy201⟩ : ∃ y_ : List Int, y_ = (x186004_2 ++ [t198]) := ⟨_, rfl⟩
         replace H : (sacristanref13_Reader_Spec.l0 k2 t195 (wrap64 (x5_2 + 1)) t199 t200 t182 t186 t189 t192 y201) = some (r1, r2, r3, r4, r5, r6, r7, r8) := by first | (rw [hy201]; with_reducible exact H) | (have H2_ := (Option.bind_some _ _).symm.trans H; rw [hy201]; with_reducible exact H2_) | (have H2_ := (Option.bind_some _ _).symm.trans H; with_reducible exact H2_) | with_reducible exact H | (rw [hy201]; exact H) | exact H
         have Ny201 := Aside0.mk hy201
         clear hy201
         have H' := Aside0.mk H
         clear H
         obtain ⟨HGz30, hgz30⟩ := HI0.out
         have hcz30_0 := cellS84_0 HGz30
         have hcz30_1 := cellS84_1 HGz30
         have hfz30_0 := blk_frozen HGz30 0
         have hfz30_1 := blk_frozen HGz30 1
         clear HGz30 hgz30
         try go_wp2
         have n0_ := Aside0.mk (Kd.R_drew HO_186004.out)
         have n1_ := Aside0.mk (blk_drew BK181.out)
         have n2_ := Aside0.mk (blk_drew BK185.out)
         have n3_ := Aside0.mk (IsS84.drew HI0.out)
         have n4_ := Aside0.mk (keep_drew HK.out)
         have n5_ := Aside0.mk (below_drew1 HB.out)
         clear HO_186004
         clear BK181
         clear BK185
         clear HI0
         clear HK
         clear HB
         have HO_186004 := n0_
         have BK181 := n1_
         have BK185 := n2_
         have HI0 := n3_
         have HK := n4_
         have HB := n5_
         clear n0_ n1_ n2_ n3_ n4_ n5_
         refine start_ (n := 8) (S := fun w' => w'.cell? ⟨gb185, 0, none⟩ = some (.int .i64 t182) ∧ w'.cell? ⟨gb185, 1, none⟩ = some (.int .i64 t186) ∧ w'.cell? ⟨gb185, 2, none⟩ = some (.int .i64 t189) ∧ w'.cell? ⟨gb185, 3, none⟩ = some (.int .i64 t192) ∧ w'.cell? ⟨gb185, 4, none⟩ = some (u186004) ∧ w'.cell? ⟨gb185, 5, none⟩ = some (.slice none 0 0)) (ds := [7]) #[false, false, false, false, false, false, false, false] (by kernel_rfl) rfl rfl ⟨(blk_cell BK185.out 0).trans rfl, (blk_cell BK185.out 1).trans rfl, (blk_cell BK185.out 2).trans rfl, (blk_cell BK185.out 3).trans rfl, (blk_cell BK185.out 4).trans rfl, (blk_cell BK185.out 5).trans rfl⟩ (fun hHeld => ?_); refine with_tabW sacristanref13_Reader_Spec.tab10 sacristanref13_Reader_Spec.bits10 (fun HT_ HW_ => ?_)
         generalize wr.drew = w31 at HO_186004 BK181 BK185 HI0 HK HB hHeld ⊢
         refine pure_ (i := 0) (N := some 49) (v := ?_) (a' := ?_) #[true, false, false, false, false, false, false, false] rfl rfl (any_of HT_.out (by kernel_rfl)) (fun _ _ _ h => h) (Or.inl ⟨by rfl, ?_⟩) ?_ ?_
         rotate_left
         ·intro w'
          go_simp
          with_reducible rfl
         rotate_left
         ·simp only [Act.put, List.setIfInBounds_toArray, List.set_cons_zero, List.set_cons_succ, i64_w, i32_w]
          rfl
         refine pure_ (i := 2) (N := some 51) (v := ?_) (a' := ?_) #[true, false, true, false, false, false, false, false] rfl rfl (any_of HT_.out (by kernel_rfl)) (fun _ _ _ h => h) (Or.inl ⟨by rfl, ?_⟩) ?_ ?_
         rotate_left
         ·intro w'
          go_simp
          with_reducible rfl
         rotate_left
         ·simp only [Act.put, List.setIfInBounds_toArray, List.set_cons_zero, List.set_cons_succ, i64_w, i32_w]
          rfl
         refine take_ (i := 1) (N := some 50) (v := ?_) (a' := ?_) #[true, true, true, false, false, false, false, false] rfl rfl (take_ofW HT_.out HW_.out (by kernel_rfl)) (fun _ _ _ h => h) (Or.inl ⟨by rfl, ?_⟩) hHeld ?_ ?_
         rotate_left
         ·rintro w' ⟨s0, s1, s2, s3, s4, s5⟩
          go_simp
          with_reducible rfl
         rotate_left
         ·simp only [Act.put, List.setIfInBounds_toArray, List.set_cons_zero, List.set_cons_succ, i64_w, i32_w]
          rfl
         refine one_ (i := 3) (N := some 52) #[true, true, true, true, false, false, false, false] rfl rfl (one_of HT_.out (by kernel_rfl)) (by decide) (fun K hK => ?_)
         refine goes_ Try.func45 (by kernel_rfl) rfl #[.pointer (some ⟨g, 0, none⟩)] (by rfl) rfl rfl (by (try simp only [List.map_toArray, List.map_cons, List.map_nil]); first | done | rfl | (simp only [List.length_drop, List.length_take]; rfl)) ?_
         with_reducible refine (sacristanref13_Reader_Num.calls k2 g x1000_2 false t198 t199 t200 w0 _ ?side1 ?side2 A28.out).mono ?_
         (case side1 => repeat (first | (with_reducible first | exact HI0.out | apply IsS84.alloc | apply IsS84.drewN | apply IsS84.drew | apply IsS84.set_0 | apply IsS84.set_1 | refine IsS84.far ?_ NB0_181.out _ | refine IsS84.far ?_ NB0_185.out _) | exact HI0.out))
         (case side2 => repeat (first | (with_reducible first | exact HB.out | apply below_alloc | apply pw_below_drewN | apply below_drew1 | refine below_set ?_ (IsS84.ge HI0.out) | refine below_set ?_ GE181.out | refine below_set ?_ GE185.out) | exact HB.out))
         rintro e w32 ⟨rfl, hi, hb, hk⟩
         refine ⟨_, rfl, ?_⟩
         have n0_ := Aside0.mk (Kd.R_mono (Kd.R_keep (IsS84.apart (show IsS84 w0 _ g x1000_2 false from by repeat (first | (with_reducible first | exact HI0.out | apply IsS84.alloc | apply IsS84.drewN | apply IsS84.drew | apply IsS84.set_0 | apply IsS84.set_1 | refine IsS84.far ?_ NB0_181.out _ | refine IsS84.far ?_ NB0_185.out _) | exact HI0.out)) (by (with_reducible repeat (first | apply Kd.R_alloc | apply Kd.R_drewN | apply Kd.R_drew)); exact HO_186004.out) (by decide)) hk (fun _ h => h.2)) (fun _ h => h.1))
         have n1_ := Aside0.mk (KeepBut.blk hk (g' := gb181) (o := .cells #[.int .i64 0, .int .i64 0, .int .i64 0, .int .i64 0, .slice none 0 0, .slice none 0 0] 27 (0, 0)) (by (with_reducible repeat (first | refine blk_drewN ?_ _ | refine blk_drew ?_ | refine blk_alloc ?_ _)); exact BK181.out) NB181_0.out (by simp))
         have n2_ := Aside0.mk (KeepBut.blk hk (g' := gb185) (o := .cells #[.int .i64 t182, .int .i64 t186, .int .i64 t189, .int .i64 t192, u186004, .slice none 0 0] 27 (0, 0)) (by (with_reducible repeat (first | refine blk_drewN ?_ _ | refine blk_drew ?_ | refine blk_alloc ?_ _)); exact BK185.out) NB185_0.out (by simp))
         have n3_ := Aside0.mk (KeepBut.trans (by repeat (first | (with_reducible first | exact HK.out | apply KeepBut.set_ | apply keep_drewN | apply keep_drew | apply keep_alloc | refine keep_far ?_ GW181.out _ | refine keep_far ?_ GW185.out _) | exact HK.out)) hk (.inl rfl))
         have n4_ := Aside0.mk (hb)
         have n5_ := Aside0.mk (hi)
         clear HO_186004
         clear BK181
         clear BK185
         clear HK
         clear HB
         clear HI0
         have HO_186004 := n0_
         have BK181 := n1_
         have BK185 := n2_
         have HK := n3_
         have HB := n4_
         have HI0 := n5_
         clear n0_ n1_ n2_ n3_ n4_ n5_
         (try clear hb)
         (try clear hb2)
         (try clear hk)
         (try clear hi)
         refine hK.out _ _ ⟨(blk_cell BK185.out 0).trans rfl, (blk_cell BK185.out 1).trans rfl, (blk_cell BK185.out 2).trans rfl, (blk_cell BK185.out 3).trans rfl, (blk_cell BK185.out 4).trans rfl, (blk_cell BK185.out 5).trans rfl⟩ (fun hHeld => ?_)
         clear hK K
         refine norm_ (a' := ?_) ?_ ?_
         rotate_left
         ·show Act.put _ (some 52) _ = _
          simp only [Act.put, List.setIfInBounds_toArray, List.set_cons_zero, List.set_cons_succ, i64_w, i32_w]
          rfl
         refine one_ (i := 4) (N := some 53) #[true, true, true, true, true, false, false, false] rfl rfl (one_of HT_.out (by kernel_rfl)) (by decide) (fun K hK => ?_)
         refine value_ (w1 := ?_) (v := ?_) (by rfl) rfl ?_ ?_
         rotate_left 2
         ·go_simp
          constructor
          ·rfl
          ·rfl
         refine hK.out _ _ ⟨(blk_cell (blk_alloc BK185.out _) 0).trans rfl, (blk_cell (blk_alloc BK185.out _) 1).trans rfl, (blk_cell (blk_alloc BK185.out _) 2).trans rfl, (blk_cell (blk_alloc BK185.out _) 3).trans rfl, (blk_cell (blk_alloc BK185.out _) 4).trans rfl, (blk_cell (blk_alloc BK185.out _) 5).trans rfl⟩ (fun hHeld => ?_)
         clear hK K
         refine norm_ (a' := ?_) ?_ ?_
         rotate_left
         ·show Act.put _ (some 53) _ = _
          simp only [Act.put, List.setIfInBounds_toArray, List.set_cons_zero, List.set_cons_succ, i64_w, i32_w]
          rfl
         refine one_ (i := 5) (N := some 54) #[true, true, true, true, true, true, false, false] rfl rfl (one_of HT_.out (by kernel_rfl)) (by decide) (fun K hK => ?_)
         refine Kd.R_append_step (Kd.int .i64) w.heap.size (by rfl) (.tmp 50) (.tmp 53) 24 3 (.int .i64 0) 8 rfl Try.underlying24 info3 rfl (by decide) (by omega) u186004 x186004_2 t198 [.int .i64 t198] (fun _ => True) (fun _ => False) rfl rfl ?aP (fun _ hk => hk.elim) ?aF ?aO (Below.refl _ _) ?aS ?aL ?_
         (case aP => exact rfl)
         (case aF => exact (fun _ _ => trivial))
         (case aO => exact (by (with_reducible repeat (first | apply Kd.R_alloc | apply Kd.R_drewN | apply Kd.R_drew)); exact HO_186004.out))
         (case aS => exact (keep_size (w := w) (g := g) (row := none) (by repeat (first | (with_reducible first | exact HK.out | apply KeepBut.set_ | apply keep_drewN | apply keep_drew | apply keep_alloc | refine keep_far ?_ GW181.out _ | refine keep_far ?_ GW185.out _) | exact HK.out))))
         (case aL => have := LMc29.out; omega)
         intro v202 w33 ho hb hg hat
         rw [← Ny201.out] at ho
         have n0_ := Aside0.mk (blk_grown (g := gb181) (o := .cells #[.int .i64 0, .int .i64 0, .int .i64 0, .int .i64 0, .slice none 0 0, .slice none 0 0] 27 (0, 0)) (by (with_reducible repeat (first | refine blk_drewN ?_ _ | refine blk_drew ?_ | refine blk_alloc ?_ _)); exact BK181.out) hg (Kd.R_ne HO_186004.out BK181.out (by decide)))
         have n1_ := Aside0.mk (blk_grown (g := gb185) (o := .cells #[.int .i64 t182, .int .i64 t186, .int .i64 t189, .int .i64 t192, u186004, .slice none 0 0] 27 (0, 0)) (by (with_reducible repeat (first | refine blk_drewN ?_ _ | refine blk_drew ?_ | refine blk_alloc ?_ _)); exact BK185.out) hg (Kd.R_ne HO_186004.out BK185.out (by decide)))
         have n2_ := Aside0.mk (IsS84.grown (by repeat (first | (with_reducible first | exact HI0.out | apply IsS84.alloc | apply IsS84.drewN | apply IsS84.drew | apply IsS84.set_0 | apply IsS84.set_1 | refine IsS84.far ?_ NB0_181.out _ | refine IsS84.far ?_ NB0_185.out _) | exact HI0.out)) hg (IsS84.own_ne HI0.out HO_186004.out (by decide)))
         have n3_ := Aside0.mk (below_weaken (by repeat (first | (with_reducible first | exact HB.out | apply below_alloc | apply pw_below_drewN | apply below_drew1 | refine below_set ?_ (IsS84.ge HI0.out) | refine below_set ?_ GE181.out | refine below_set ?_ GE185.out) | exact HB.out)) HL.out hb)
         have n4_ := Aside0.mk (KeepBut.trans (by repeat (first | (with_reducible first | exact HK.out | apply KeepBut.set_ | apply keep_drewN | apply keep_drew | apply keep_alloc | refine keep_far ?_ GW181.out _ | refine keep_far ?_ GW185.out _) | exact HK.out)) (KeepBut.of_grown hg g) (Kd.R_base2 HO_186004.out))
         have n5_ := Aside0.mk (ho)
         clear BK181
         clear BK185
         clear HI0
         clear HB
         clear HK
         clear HO_186004
         have BK181 := n0_
         have BK185 := n1_
         have HI0 := n2_
         have HB := n3_
         have HK := n4_
         have HO203 := n5_
         clear n0_ n1_ n2_ n3_ n4_ n5_
         clear ho hb hg hat
         obtain ⟨Ao34, co34, eo34⟩ := Kd.R_slice HO203.out
         (first | subst eo34 | (injection eo34 with f1_ f2_ f3_; have f4_ := f1_.symm; have f5_ := f3_.symm; clear f1_ f2_ f3_; subst f4_; subst f5_))
         refine hK.out _ _ ⟨(blk_cell BK185.out 0).trans rfl, (blk_cell BK185.out 1).trans rfl, (blk_cell BK185.out 2).trans rfl, (blk_cell BK185.out 3).trans rfl, (blk_cell BK185.out 4).trans rfl, (blk_cell BK185.out 5).trans rfl⟩ (fun hHeld => ?_)
         clear hK K
         refine norm_ (a' := ?_) ?_ ?_
         rotate_left
         ·show Act.put _ (some 54) _ = _
          simp only [Act.put, List.setIfInBounds_toArray, List.set_cons_zero, List.set_cons_succ, i64_w, i32_w]
          rfl
         refine pure_ (i := 6) (N := some 55) (v := ?_) (a' := ?_) #[true, true, true, true, true, true, true, false] rfl rfl (any_of HT_.out (by kernel_rfl)) (fun _ _ _ h => h) (Or.inl ⟨by rfl, ?_⟩) ?_ ?_
         rotate_left
         ·intro w'
          go_simp
          with_reducible rfl
         rotate_left
         ·simp only [Act.put, List.setIfInBounds_toArray, List.set_cons_zero, List.set_cons_succ, i64_w, i32_w]
          rfl
         refine last_ (i := 7) (N := none) #[true, true, true, true, true, true, true, true] rfl rfl (one_of HT_.out (by kernel_rfl)) (by decide) (fun K hK => ?_)
         have hs35 : w33.cell? ⟨gb185, 4, none⟩ = some (u186004) := (blk_cell BK185.out 4).trans rfl
         have hfs35 := blk_frozen BK185.out 4
         have hns35_0 := NB181_185.out
         have hms35_0 := NB185_181.out
         refine skip_ (w1 := ?_) (by rfl) rfl ?_ ?_
         rotate_left
         ·go_simp
          rfl
         refine hK.out _ _ ?_
         clear hK K
         refine done_ (done_of HT_.out (by kernel_rfl)) ?_
         try go_wp2
         go_roundg k2
         case measure => have := HJ6.out; have := HK2.out; omega
         case rel => exact ⟨(wrap64 (x5_2 + 1)), (t199), (t200), (y201), (.slice Ao34 y201.length co34), (by first | rfl | (simp; done) | (simp [*]; done)), H', ⟨by have := HJ6.out; have := HK2.out; omega⟩, ⟨by (with_reducible repeat (first | apply Kd.R_alloc | apply Kd.R_drewN | apply Kd.R_drew)); exact Kd.R_mono (Kd.R_far (p := ⟨gb185, 4, none⟩) (Kd.R_types HO203.out BK185.out (by decide)) (fun _ hk => hk.2) (.slice Ao34 y201.length co34)) (fun _ hk => trivial)⟩, ⟨by (with_reducible repeat (first | refine blk_drewN ?_ _ | refine blk_drew ?_ | refine blk_alloc ?_ _)); refine blk_far ?_ NB181_185.out _; (with_reducible repeat (first | refine blk_drewN ?_ _ | refine blk_drew ?_ | refine blk_alloc ?_ _)); exact BK181.out⟩, ⟨by (with_reducible repeat (first | refine blk_drewN ?_ _ | refine blk_drew ?_ | refine blk_alloc ?_ _)); refine blk_put (cs := #[.int .i64 t182, .int .i64 t186, .int .i64 t189, .int .i64 t192, u186004, .slice none 0 0]) ?_ 4 _ rfl; (with_reducible repeat (first | refine blk_drewN ?_ _ | refine blk_drew ?_ | refine blk_alloc ?_ _)); exact BK185.out⟩, ⟨by repeat (first | (with_reducible first | exact HI0.out | apply IsS84.alloc | apply IsS84.drewN | apply IsS84.drew | apply IsS84.set_0 | apply IsS84.set_1 | refine IsS84.far ?_ NB0_181.out _ | refine IsS84.far ?_ NB0_185.out _) | exact HI0.out)⟩, ⟨by repeat (first | (with_reducible first | exact HK.out | apply KeepBut.set_ | apply keep_drewN | apply keep_drew | apply keep_alloc | refine keep_far ?_ GW181.out _ | refine keep_far ?_ GW185.out _) | exact HK.out)⟩, ⟨by repeat (first | (with_reducible first | exact HB.out | apply below_alloc | apply pw_below_drewN | apply below_drew1 | refine below_set ?_ (IsS84.ge HI0.out) | refine below_set ?_ GE181.out | refine below_set ?_ GE185.out) | exact HB.out)⟩⟩
        ·rw [if_neg c29] at H
         exact absurd H (by simp)
      ·rw [if_neg c25] at H
       have c25b0 : decide (x5_2 < t195) = false := decide_eq_false c25
       clear c25
       (first | rw [c25b0] | (simp only [i64_w, i32_w]; rw [c25b0]) | skip)
       have H' := Aside0.mk H
       clear H
       go_wp2
       go_meet
       case rel => exact ⟨_, (x1000_2), (x1001_2), (x186004_2), (u186004), H', ⟨by have := HJ6.out; have := HK2.out; first | omega | exact Nat.le_refl _⟩, ⟨by (with_reducible repeat (first | apply Kd.R_alloc | apply Kd.R_drewN | apply Kd.R_drew)); exact HO_186004.out⟩, ⟨by (with_reducible repeat (first | refine blk_drewN ?_ _ | refine blk_drew ?_ | refine blk_alloc ?_ _)); exact BK181.out⟩, ⟨by (with_reducible repeat (first | refine blk_drewN ?_ _ | refine blk_drew ?_ | refine blk_alloc ?_ _)); exact BK185.out⟩, ⟨by repeat (first | (with_reducible first | exact HI0.out | apply IsS84.alloc | apply IsS84.drewN | apply IsS84.drew | apply IsS84.set_0 | apply IsS84.set_1 | refine IsS84.far ?_ NB0_181.out _ | refine IsS84.far ?_ NB0_185.out _) | exact HI0.out)⟩, ⟨by repeat (first | (with_reducible first | exact HK.out | apply KeepBut.set_ | apply keep_drewN | apply keep_drew | apply keep_alloc | refine keep_far ?_ GW181.out _ | refine keep_far ?_ GW185.out _) | exact HK.out)⟩, ⟨by repeat (first | (with_reducible first | exact HB.out | apply below_alloc | apply pw_below_drewN | apply below_drew1 | refine below_set ?_ (IsS84.ge HI0.out) | refine below_set ?_ GE181.out | refine below_set ?_ GE185.out) | exact HB.out)⟩⟩
   case rest =>
    clear HC24
    try clear c1
    try clear c2
    try clear p2
    try clear c4
    try clear p6
    try clear c11
    try clear c12
    try clear c21
    try clear c25
    try clear c25b0
    try clear c26
    try clear c29
    try clear hcz13_0
    try clear hcz13_1
    try clear hcz13_2
    try clear hcz13_3
    try clear hcz13_4
    try clear hcz13_5
    try clear hcz15_0
    try clear hcz15_1
    try clear hcz15_2
    try clear hcz15_3
    try clear hcz15_4
    try clear hcz15_5
    try clear hcz17_0
    try clear hcz17_1
    try clear hcz17_2
    try clear hcz17_3
    try clear hcz17_4
    try clear hcz17_5
    try clear hcz19_0
    try clear hcz19_1
    try clear hcz19_2
    try clear hcz19_3
    try clear hcz19_4
    try clear hcz19_5
    try clear hcz22_0
    try clear hcz22_1
    try clear hcz23_0
    try clear hcz23_1
    try clear hcz27_0
    try clear hcz27_1
    try clear hcz30_0
    try clear hcz30_1
    try clear hfz13_0
    try clear hfz13_1
    try clear hfz13_2
    try clear hfz13_3
    try clear hfz13_4
    try clear hfz13_5
    try clear hfz15_0
    try clear hfz15_1
    try clear hfz15_2
    try clear hfz15_3
    try clear hfz15_4
    try clear hfz15_5
    try clear hfz17_0
    try clear hfz17_1
    try clear hfz17_2
    try clear hfz17_3
    try clear hfz17_4
    try clear hfz17_5
    try clear hfz19_0
    try clear hfz19_1
    try clear hfz19_2
    try clear hfz19_3
    try clear hfz19_4
    try clear hfz19_5
    try clear hfz22_0
    try clear hfz22_1
    try clear hfz23_0
    try clear hfz23_1
    try clear hfz27_0
    try clear hfz27_1
    try clear hfz30_0
    try clear hfz30_1
    try clear p2
    obtain ⟨kq, x1000_23, x1001_23, x186004_23, u186004, HA, HJ23, HO_186004, BK181, BK185, HI0, HK, HB⟩ := hcut
    cases kq with
    | zero => exact absurd HA.out (by simp [sacristanref13_Reader_Spec.j2])
    | succ kj23 =>
     have H := HA.out
     clear HA
     simp only [sacristanref13_Reader_Spec.j2] at H
     replace H := Option.bind_eq_some_iff.mp H
     obtain ⟨⟨t204, t205, t206⟩, A360, H⟩ := H
     replace H : (if t206 = true then (sacristanref13_Reader_Spec.j3 kj23 t204 t205 true t182 t186 t189 t192 x186004_23) else (sacristanref13_Reader_Spec.j3 kj23 t204 t205 (decide (t204 > 4)) t182 t186 t189 t192 x186004_23)) = some (r1, r2, r3, r4, r5, r6, r7, r8) := H
     have A36 := Aside0.mk A360
     clear A360
     have HC37 := Aside0.mk H
     clear H
     go_upto_region 12 with (first | ((with_reducible refine gate_callee (f := 45) rfl ?_); refine goesL_ (some 57) rfl rfl Try.func45 (by kernel_rfl) rfl #[.pointer (some ⟨g, 0, none⟩)] rfl (by (try simp only [List.map_toArray, List.map_cons, List.map_nil]); first | done | rfl | (simp only [List.length_drop, List.length_take]; rfl)) ?_; (with_reducible refine (sacristanref13_Reader_Num.calls kj23 g x1000_23 x1001_23 t204 t205 t206 w0 _ ?side1 ?side2 A36.out).mono ?_); (case side1 => repeat (first | (with_reducible first | exact HI0.out | apply IsS84.alloc | apply IsS84.drewN | apply IsS84.drew | apply IsS84.set_0 | apply IsS84.set_1 | refine IsS84.far ?_ NB0_181.out _ | refine IsS84.far ?_ NB0_185.out _) | exact HI0.out)); (case side2 => repeat (first | (with_reducible first | exact HB.out | apply below_alloc | apply pw_below_drewN | apply below_drew1 | refine below_set ?_ (IsS84.ge HI0.out) | refine below_set ?_ GE181.out | refine below_set ?_ GE185.out) | exact HB.out)); rintro e w38 ⟨rfl, hi, hb, hk⟩; refine ⟨_, rfl, ?_⟩; have n0_ := Aside0.mk (Kd.R_mono (Kd.R_keep (IsS84.apart (show IsS84 w0 _ g x1000_23 x1001_23 from by repeat (first | (with_reducible first | exact HI0.out | apply IsS84.alloc | apply IsS84.drewN | apply IsS84.drew | apply IsS84.set_0 | apply IsS84.set_1 | refine IsS84.far ?_ NB0_181.out _ | refine IsS84.far ?_ NB0_185.out _) | exact HI0.out)) (by (with_reducible repeat (first | apply Kd.R_alloc | apply Kd.R_drewN | apply Kd.R_drew)); exact HO_186004.out) (by decide)) hk (fun _ h => h.2)) (fun _ h => h.1)); have n1_ := Aside0.mk (KeepBut.blk hk (g' := gb181) (o := .cells #[.int .i64 0, .int .i64 0, .int .i64 0, .int .i64 0, .slice none 0 0, .slice none 0 0] 27 (0, 0)) (by (with_reducible repeat (first | refine blk_drewN ?_ _ | refine blk_drew ?_ | refine blk_alloc ?_ _)); exact BK181.out) NB181_0.out (by simp)); have n2_ := Aside0.mk (KeepBut.blk hk (g' := gb185) (o := .cells #[.int .i64 t182, .int .i64 t186, .int .i64 t189, .int .i64 t192, u186004, .slice none 0 0] 27 (0, 0)) (by (with_reducible repeat (first | refine blk_drewN ?_ _ | refine blk_drew ?_ | refine blk_alloc ?_ _)); exact BK185.out) NB185_0.out (by simp)); have n3_ := Aside0.mk (KeepBut.trans (by repeat (first | (with_reducible first | exact HK.out | apply KeepBut.set_ | apply keep_drewN | apply keep_drew | apply keep_alloc | refine keep_far ?_ GW181.out _ | refine keep_far ?_ GW185.out _) | exact HK.out)) hk (.inl rfl)); have n4_ := Aside0.mk (hb); have n5_ := Aside0.mk (hi); clear HO_186004; clear BK181; clear BK185; clear HK; clear HB; clear HI0; have HO_186004 := n0_; have BK181 := n1_; have BK185 := n2_; have HK := n3_; have HB := n4_; have HI0 := n5_; clear n0_ n1_ n2_ n3_ n4_ n5_; (try clear hb); (try clear hb2); (try clear hk); (try clear hi)))
     (try simp only [Act.put, List.setIfInBounds_toArray, List.set_cons_zero, List.set_cons_succ])
     go_cut [] (fun wc => ∃ (kq : Nat) (x1001_36 : Bool), Aside0 (sacristanref13_Reader_Spec.j3 kq t204 t205 x1001_36 t182 t186 t189 t192 x186004_23 = some (r1, r2, r3, r4, r5, r6, r7, r8)) ∧ Aside0 (kq ≤ kj23) ∧ Aside0 (Kd.R (Kd.int .i64) 3 wc w.heap.size (fun _ => True) u186004 x186004_23) ∧ Aside0 (wc.heap[gb181]? = some (.cells #[.int .i64 0, .int .i64 0, .int .i64 0, .int .i64 0, (.slice none 0 0), (.slice none 0 0)] 27 (0, 0))) ∧ Aside0 (wc.heap[gb185]? = some (.cells #[.int .i64 t182, .int .i64 t186, .int .i64 t189, .int .i64 t192, u186004, (.slice none 0 0)] 27 (0, 0))) ∧ Aside0 (IsS84 w0 wc g t205 x1001_36) ∧ Aside0 (KeepBut w wc g none) ∧ Aside0 (Below w0.heap.size w0 wc))
     case first =>
      have H := HC37.out
      clear HC37
      by_cases c39 : t206 = true
      ·subst c39
       have H1 : (sacristanref13_Reader_Spec.j3 kj23 t204 t205 true t182 t186 t189 t192 x186004_23) = some (r1, r2, r3, r4, r5, r6, r7, r8) := by rw [if_pos rfl] at H; exact H
       clear H
       have H := H1
       clear H1
       have H' := Aside0.mk H
       clear H
       obtain ⟨HGz40, hgz40⟩ := HI0.out
       have hcz40_0 := cellS84_0 HGz40
       have hcz40_1 := cellS84_1 HGz40
       have hfz40_0 := blk_frozen HGz40 0
       have hfz40_1 := blk_frozen HGz40 1
       clear HGz40 hgz40
       go_wp2
       go_meet
       case rel => exact ⟨_, (true), H', ⟨by have := HJ6.out; have := HJ23.out; first | omega | exact Nat.le_refl _⟩, ⟨by (with_reducible repeat (first | apply Kd.R_alloc | apply Kd.R_drewN | apply Kd.R_drew)); exact Kd.R_mono (Kd.R_far (p := ⟨g, 1, none⟩) (IsS84.apart HI0.out HO_186004.out (by decide)) (fun _ hk => hk.2) (.bool true)) (fun _ hk => trivial)⟩, ⟨by (with_reducible repeat (first | refine blk_drewN ?_ _ | refine blk_drew ?_ | refine blk_alloc ?_ _)); refine blk_far ?_ NB181_0.out _; (with_reducible repeat (first | refine blk_drewN ?_ _ | refine blk_drew ?_ | refine blk_alloc ?_ _)); exact BK181.out⟩, ⟨by (with_reducible repeat (first | refine blk_drewN ?_ _ | refine blk_drew ?_ | refine blk_alloc ?_ _)); refine blk_far ?_ NB185_0.out _; (with_reducible repeat (first | refine blk_drewN ?_ _ | refine blk_drew ?_ | refine blk_alloc ?_ _)); exact BK185.out⟩, ⟨by repeat (first | (with_reducible first | exact HI0.out | apply IsS84.alloc | apply IsS84.drewN | apply IsS84.drew | apply IsS84.set_0 | apply IsS84.set_1 | refine IsS84.far ?_ NB0_181.out _ | refine IsS84.far ?_ NB0_185.out _) | exact HI0.out)⟩, ⟨by repeat (first | (with_reducible first | exact HK.out | apply KeepBut.set_ | apply keep_drewN | apply keep_drew | apply keep_alloc | refine keep_far ?_ GW181.out _ | refine keep_far ?_ GW185.out _) | exact HK.out)⟩, ⟨by repeat (first | (with_reducible first | exact HB.out | apply below_alloc | apply pw_below_drewN | apply below_drew1 | refine below_set ?_ (IsS84.ge HI0.out) | refine below_set ?_ GE181.out | refine below_set ?_ GE185.out) | exact HB.out)⟩⟩
      ·replace c39 := Bool.eq_false_iff.mpr c39
       subst c39
       have H1 : (sacristanref13_Reader_Spec.j3 kj23 t204 t205 (decide (t204 > 4)) t182 t186 t189 t192 x186004_23) = some (r1, r2, r3, r4, r5, r6, r7, r8) := by rw [if_neg (show ¬ (false = true) by decide)] at H; exact H
       clear H
       have H := H1
       clear H1
       have H' := Aside0.mk H
       clear H
       obtain ⟨HGz41, hgz41⟩ := HI0.out
       have hcz41_0 := cellS84_0 HGz41
       have hcz41_1 := cellS84_1 HGz41
       have hfz41_0 := blk_frozen HGz41 0
       have hfz41_1 := blk_frozen HGz41 1
       clear HGz41 hgz41
       go_wp2
       go_meet
       case rel => exact ⟨_, (decide (t204 > 4)), H', ⟨by have := HJ6.out; have := HJ23.out; first | omega | exact Nat.le_refl _⟩, ⟨by (with_reducible repeat (first | apply Kd.R_alloc | apply Kd.R_drewN | apply Kd.R_drew)); exact Kd.R_mono (Kd.R_far (p := ⟨g, 1, none⟩) (IsS84.apart HI0.out HO_186004.out (by decide)) (fun _ hk => hk.2) (.bool (decide (t204 > 4)))) (fun _ hk => trivial)⟩, ⟨by (with_reducible repeat (first | refine blk_drewN ?_ _ | refine blk_drew ?_ | refine blk_alloc ?_ _)); refine blk_far ?_ NB181_0.out _; (with_reducible repeat (first | refine blk_drewN ?_ _ | refine blk_drew ?_ | refine blk_alloc ?_ _)); exact BK181.out⟩, ⟨by (with_reducible repeat (first | refine blk_drewN ?_ _ | refine blk_drew ?_ | refine blk_alloc ?_ _)); refine blk_far ?_ NB185_0.out _; (with_reducible repeat (first | refine blk_drewN ?_ _ | refine blk_drew ?_ | refine blk_alloc ?_ _)); exact BK185.out⟩, ⟨by repeat (first | (with_reducible first | exact HI0.out | apply IsS84.alloc | apply IsS84.drewN | apply IsS84.drew | apply IsS84.set_0 | apply IsS84.set_1 | refine IsS84.far ?_ NB0_181.out _ | refine IsS84.far ?_ NB0_185.out _) | exact HI0.out)⟩, ⟨by repeat (first | (with_reducible first | exact HK.out | apply KeepBut.set_ | apply keep_drewN | apply keep_drew | apply keep_alloc | refine keep_far ?_ GW181.out _ | refine keep_far ?_ GW185.out _) | exact HK.out)⟩, ⟨by repeat (first | (with_reducible first | exact HB.out | apply below_alloc | apply pw_below_drewN | apply below_drew1 | refine below_set ?_ (IsS84.ge HI0.out) | refine below_set ?_ GE181.out | refine below_set ?_ GE185.out) | exact HB.out)⟩⟩
     case rest =>
      clear HC37
      try clear c1
      try clear c2
      try clear p2
      try clear c3
      try clear c4
      try clear p6
      try clear c11
      try clear c12
      try clear c21
      try clear c25
      try clear c25b0
      try clear c26
      try clear c29
      try clear c39
      try clear hcz13_0
      try clear hcz13_1
      try clear hcz13_2
      try clear hcz13_3
      try clear hcz13_4
      try clear hcz13_5
      try clear hcz15_0
      try clear hcz15_1
      try clear hcz15_2
      try clear hcz15_3
      try clear hcz15_4
      try clear hcz15_5
      try clear hcz17_0
      try clear hcz17_1
      try clear hcz17_2
      try clear hcz17_3
      try clear hcz17_4
      try clear hcz17_5
      try clear hcz19_0
      try clear hcz19_1
      try clear hcz19_2
      try clear hcz19_3
      try clear hcz19_4
      try clear hcz19_5
      try clear hcz22_0
      try clear hcz22_1
      try clear hcz23_0
      try clear hcz23_1
      try clear hcz27_0
      try clear hcz27_1
      try clear hcz30_0
      try clear hcz30_1
      try clear hcz40_0
      try clear hcz40_1
      try clear hcz41_0
      try clear hcz41_1
      try clear hfz13_0
      try clear hfz13_1
      try clear hfz13_2
      try clear hfz13_3
      try clear hfz13_4
      try clear hfz13_5
      try clear hfz15_0
      try clear hfz15_1
      try clear hfz15_2
      try clear hfz15_3
      try clear hfz15_4
      try clear hfz15_5
      try clear hfz17_0
      try clear hfz17_1
      try clear hfz17_2
      try clear hfz17_3
      try clear hfz17_4
      try clear hfz17_5
      try clear hfz19_0
      try clear hfz19_1
      try clear hfz19_2
      try clear hfz19_3
      try clear hfz19_4
      try clear hfz19_5
      try clear hfz22_0
      try clear hfz22_1
      try clear hfz23_0
      try clear hfz23_1
      try clear hfz27_0
      try clear hfz27_1
      try clear hfz30_0
      try clear hfz30_1
      try clear hfz40_0
      try clear hfz40_1
      try clear hfz41_0
      try clear hfz41_1
      try clear p2
      try clear p6
      obtain ⟨kq, x1001_36, HA, HJ36, HO_186004, BK181, BK185, HI0, HK, HB⟩ := hcut
      cases kq with
      | zero => exact absurd HA.out (by simp [sacristanref13_Reader_Spec.j3])
      | succ kj36 =>
       have H := HA.out
       clear HA
       simp only [sacristanref13_Reader_Spec.j3] at H
       have H' := Aside0.mk H
       clear H
       go_wp2
       go_loopg [6] kj36 (fun kq v6 w' => ∃ (x6_4 : Int) (x1000_4 : ByteArray) (x1001_4 : Bool) (x186005_4 : List (S90)) (u186005 : Value), v6 = .int .i64 x6_4 ∧ Aside0 (sacristanref13_Reader_Spec.l1 kq t204 x6_4 x1000_4 x1001_4 t182 t186 t189 t192 x186004_23 x186005_4 = some (r1, r2, r3, r4, r5, r6, r7, r8)) ∧ Aside0 (kq ≤ kj36) ∧ Aside0 (Kd.R (Kd.int .i64) 3 w' w.heap.size (fun _ => True) u186004 x186004_23) ∧ Aside0 (Kd.R k90 90 w' w.heap.size (fun _ => True) u186005 x186005_4) ∧ Aside0 (w'.heap[gb181]? = some (.cells #[.int .i64 0, .int .i64 0, .int .i64 0, .int .i64 0, (.slice none 0 0), (.slice none 0 0)] 27 (0, 0))) ∧ Aside0 (w'.heap[gb185]? = some (.cells #[.int .i64 t182, .int .i64 t186, .int .i64 t189, .int .i64 t192, u186004, u186005] 27 (0, 0))) ∧ Aside0 (IsS84 w0 w' g x1000_4 x1001_4) ∧ Aside0 (KeepBut w w' g none) ∧ Aside0 (Below w0.heap.size w0 w'))
       case atStart => exact ⟨(0), (t205), (x1001_36), (([] : List (S90))), (.slice none 0 0), (by first | rfl | (simp; done) | (simp [*]; done)), H', ⟨Nat.le_refl _⟩, ⟨by (with_reducible repeat (first | apply Kd.R_alloc | apply Kd.R_drewN | apply Kd.R_drew)); exact HO_186004.out⟩, ⟨by first | exact Kd.R_nil _ _ _ _ _ | exact Kd.N_nil _ _ _ _ _ | exact Kd.V_nil _ _ _ _ _ | exact Kd.Q_nil _ _ _ _ _ | exact Kd.S_nil _ _ _ _ _⟩, ⟨by (with_reducible repeat (first | refine blk_drewN ?_ _ | refine blk_drew ?_ | refine blk_alloc ?_ _)); exact BK181.out⟩, ⟨by (with_reducible repeat (first | refine blk_drewN ?_ _ | refine blk_drew ?_ | refine blk_alloc ?_ _)); exact BK185.out⟩, ⟨by repeat (first | (with_reducible first | exact HI0.out | apply IsS84.alloc | apply IsS84.drewN | apply IsS84.drew | apply IsS84.set_0 | apply IsS84.set_1 | refine IsS84.far ?_ NB0_181.out _ | refine IsS84.far ?_ NB0_185.out _) | exact HI0.out)⟩, ⟨by repeat (first | (with_reducible first | exact HK.out | apply KeepBut.set_ | apply keep_drewN | apply keep_drew | apply keep_alloc | refine keep_far ?_ GW181.out _ | refine keep_far ?_ GW185.out _) | exact HK.out)⟩, ⟨by repeat (first | (with_reducible first | exact HB.out | apply below_alloc | apply pw_below_drewN | apply below_drew1 | refine below_set ?_ (IsS84.ge HI0.out) | refine below_set ?_ GE181.out | refine below_set ?_ GE185.out) | exact HB.out)⟩⟩
       case round =>
        clear H'
        try clear c1
        try clear c2
        try clear p2
        try clear c3
        try clear c4
        try clear p6
        try clear c11
        try clear c12
        try clear c21
        try clear c25
        try clear c25b0
        try clear c26
        try clear c29
        try clear c39
        try clear hcz13_0
        try clear hcz13_1
        try clear hcz13_2
        try clear hcz13_3
        try clear hcz13_4
        try clear hcz13_5
        try clear hcz15_0
        try clear hcz15_1
        try clear hcz15_2
        try clear hcz15_3
        try clear hcz15_4
        try clear hcz15_5
        try clear hcz17_0
        try clear hcz17_1
        try clear hcz17_2
        try clear hcz17_3
        try clear hcz17_4
        try clear hcz17_5
        try clear hcz19_0
        try clear hcz19_1
        try clear hcz19_2
        try clear hcz19_3
        try clear hcz19_4
        try clear hcz19_5
        try clear hcz22_0
        try clear hcz22_1
        try clear hcz23_0
        try clear hcz23_1
        try clear hcz27_0
        try clear hcz27_1
        try clear hcz30_0
        try clear hcz30_1
        try clear hcz40_0
        try clear hcz40_1
        try clear hcz41_0
        try clear hcz41_1
        try clear hfz13_0
        try clear hfz13_1
        try clear hfz13_2
        try clear hfz13_3
        try clear hfz13_4
        try clear hfz13_5
        try clear hfz15_0
        try clear hfz15_1
        try clear hfz15_2
        try clear hfz15_3
        try clear hfz15_4
        try clear hfz15_5
        try clear hfz17_0
        try clear hfz17_1
        try clear hfz17_2
        try clear hfz17_3
        try clear hfz17_4
        try clear hfz17_5
        try clear hfz19_0
        try clear hfz19_1
        try clear hfz19_2
        try clear hfz19_3
        try clear hfz19_4
        try clear hfz19_5
        try clear hfz22_0
        try clear hfz22_1
        try clear hfz23_0
        try clear hfz23_1
        try clear hfz27_0
        try clear hfz27_1
        try clear hfz30_0
        try clear hfz30_1
        try clear hfz40_0
        try clear hfz40_1
        try clear hfz41_0
        try clear hfz41_1
        try clear p2
        try clear p6
        obtain ⟨x6_4, x1000_4, x1001_4, x186005_4, u186005, rfl, HA, HK4, HO_186004, HO_186005, BK181, BK185, HI0, HK, HB⟩ := hrel
        cases gk with
        | zero => exact absurd HA.out (by simp [sacristanref13_Reader_Spec.l1])
        | succ k4 =>
         have H := HA.out
         clear HA
         simp only [sacristanref13_Reader_Spec.l1] at H
         have HC42 := Aside0.mk H
         clear H
         go_upto_region 14 with (fail)
         go_cut [78] (fun v78 wc => ∃ (kq : Nat) (x78_41 : Bool), v78 = .bool x78_41 ∧ Aside0 (sacristanref13_Reader_Spec.j5 kq t204 x6_4 x78_41 x1000_4 x1001_4 t182 t186 t189 t192 x186004_23 x186005_4 = some (r1, r2, r3, r4, r5, r6, r7, r8)) ∧ Aside0 (kq ≤ k4) ∧ Aside0 (Kd.R (Kd.int .i64) 3 wc w.heap.size (fun _ => True) u186004 x186004_23) ∧ Aside0 (Kd.R k90 90 wc w.heap.size (fun _ => True) u186005 x186005_4) ∧ Aside0 (wc.heap[gb181]? = some (.cells #[.int .i64 0, .int .i64 0, .int .i64 0, .int .i64 0, (.slice none 0 0), (.slice none 0 0)] 27 (0, 0))) ∧ Aside0 (wc.heap[gb185]? = some (.cells #[.int .i64 t182, .int .i64 t186, .int .i64 t189, .int .i64 t192, u186004, u186005] 27 (0, 0))) ∧ Aside0 (IsS84 w0 wc g x1000_4 x1001_4) ∧ Aside0 (KeepBut w wc g none) ∧ Aside0 (Below w0.heap.size w0 wc))
         case first =>
          have H := HC42.out
          clear HC42
          by_cases c43 : x6_4 < t204
          ·rw [if_pos c43] at H
           have c43b0 : decide (x6_4 < t204) = true := decide_eq_true c43
           clear c43
           (first | rw [c43b0] | (simp only [i64_w, i32_w]; rw [c43b0]) | skip)
           have H' := Aside0.mk H
           clear H
           obtain ⟨HGz44, hgz44⟩ := HI0.out
           have hcz44_0 := cellS84_0 HGz44
           have hcz44_1 := cellS84_1 HGz44
           have hfz44_0 := blk_frozen HGz44 0
           have hfz44_1 := blk_frozen HGz44 1
           clear HGz44 hgz44
           go_wp2
           go_meet
           case rel => exact ⟨_, (!x1001_4), (by first | rfl | (simp; done) | (simp [*]; done)), H', ⟨by have := HJ6.out; have := HJ23.out; have := HJ36.out; have := HK4.out; first | omega | exact Nat.le_refl _⟩, ⟨by (with_reducible repeat (first | apply Kd.R_alloc | apply Kd.R_drewN | apply Kd.R_drew)); exact HO_186004.out⟩, ⟨by (with_reducible repeat (first | apply Kd.R_alloc | apply Kd.R_drewN | apply Kd.R_drew)); exact HO_186005.out⟩, ⟨by (with_reducible repeat (first | refine blk_drewN ?_ _ | refine blk_drew ?_ | refine blk_alloc ?_ _)); exact BK181.out⟩, ⟨by (with_reducible repeat (first | refine blk_drewN ?_ _ | refine blk_drew ?_ | refine blk_alloc ?_ _)); exact BK185.out⟩, ⟨by repeat (first | (with_reducible first | exact HI0.out | apply IsS84.alloc | apply IsS84.drewN | apply IsS84.drew | apply IsS84.set_0 | apply IsS84.set_1 | refine IsS84.far ?_ NB0_181.out _ | refine IsS84.far ?_ NB0_185.out _) | exact HI0.out)⟩, ⟨by repeat (first | (with_reducible first | exact HK.out | apply KeepBut.set_ | apply keep_drewN | apply keep_drew | apply keep_alloc | refine keep_far ?_ GW181.out _ | refine keep_far ?_ GW185.out _) | exact HK.out)⟩, ⟨by repeat (first | (with_reducible first | exact HB.out | apply below_alloc | apply pw_below_drewN | apply below_drew1 | refine below_set ?_ (IsS84.ge HI0.out) | refine below_set ?_ GE181.out | refine below_set ?_ GE185.out) | exact HB.out)⟩⟩
          ·rw [if_neg c43] at H
           have c43b0 : decide (x6_4 < t204) = false := decide_eq_false c43
           clear c43
           (first | rw [c43b0] | (simp only [i64_w, i32_w]; rw [c43b0]) | skip)
           have H' := Aside0.mk H
           clear H
           go_wp2
           go_meet
           case rel => exact ⟨_, (false), (by first | rfl | (simp; done) | (simp [*]; done)), H', ⟨by have := HJ6.out; have := HJ23.out; have := HJ36.out; have := HK4.out; first | omega | exact Nat.le_refl _⟩, ⟨by (with_reducible repeat (first | apply Kd.R_alloc | apply Kd.R_drewN | apply Kd.R_drew)); exact HO_186004.out⟩, ⟨by (with_reducible repeat (first | apply Kd.R_alloc | apply Kd.R_drewN | apply Kd.R_drew)); exact HO_186005.out⟩, ⟨by (with_reducible repeat (first | refine blk_drewN ?_ _ | refine blk_drew ?_ | refine blk_alloc ?_ _)); exact BK181.out⟩, ⟨by (with_reducible repeat (first | refine blk_drewN ?_ _ | refine blk_drew ?_ | refine blk_alloc ?_ _)); exact BK185.out⟩, ⟨by repeat (first | (with_reducible first | exact HI0.out | apply IsS84.alloc | apply IsS84.drewN | apply IsS84.drew | apply IsS84.set_0 | apply IsS84.set_1 | refine IsS84.far ?_ NB0_181.out _ | refine IsS84.far ?_ NB0_185.out _) | exact HI0.out)⟩, ⟨by repeat (first | (with_reducible first | exact HK.out | apply KeepBut.set_ | apply keep_drewN | apply keep_drew | apply keep_alloc | refine keep_far ?_ GW181.out _ | refine keep_far ?_ GW185.out _) | exact HK.out)⟩, ⟨by repeat (first | (with_reducible first | exact HB.out | apply below_alloc | apply pw_below_drewN | apply below_drew1 | refine below_set ?_ (IsS84.ge HI0.out) | refine below_set ?_ GE181.out | refine below_set ?_ GE185.out) | exact HB.out)⟩⟩
         case rest =>
          clear HC42
          try clear c1
          try clear c2
          try clear p2
          try clear c3
          try clear c4
          try clear p6
          try clear c11
          try clear c12
          try clear c21
          try clear c25
          try clear c25b0
          try clear c26
          try clear c29
          try clear c39
          try clear c43
          try clear c43b0
          try clear hcz13_0
          try clear hcz13_1
          try clear hcz13_2
          try clear hcz13_3
          try clear hcz13_4
          try clear hcz13_5
          try clear hcz15_0
          try clear hcz15_1
          try clear hcz15_2
          try clear hcz15_3
          try clear hcz15_4
          try clear hcz15_5
          try clear hcz17_0
          try clear hcz17_1
          try clear hcz17_2
          try clear hcz17_3
          try clear hcz17_4
          try clear hcz17_5
          try clear hcz19_0
          try clear hcz19_1
          try clear hcz19_2
          try clear hcz19_3
          try clear hcz19_4
          try clear hcz19_5
          try clear hcz22_0
          try clear hcz22_1
          try clear hcz23_0
          try clear hcz23_1
          try clear hcz27_0
          try clear hcz27_1
          try clear hcz30_0
          try clear hcz30_1
          try clear hcz40_0
          try clear hcz40_1
          try clear hcz41_0
          try clear hcz41_1
          try clear hcz44_0
          try clear hcz44_1
          try clear hfz13_0
          try clear hfz13_1
          try clear hfz13_2
          try clear hfz13_3
          try clear hfz13_4
          try clear hfz13_5
          try clear hfz15_0
          try clear hfz15_1
          try clear hfz15_2
          try clear hfz15_3
          try clear hfz15_4
          try clear hfz15_5
          try clear hfz17_0
          try clear hfz17_1
          try clear hfz17_2
          try clear hfz17_3
          try clear hfz17_4
          try clear hfz17_5
          try clear hfz19_0
          try clear hfz19_1
          try clear hfz19_2
          try clear hfz19_3
          try clear hfz19_4
          try clear hfz19_5
          try clear hfz22_0
          try clear hfz22_1
          try clear hfz23_0
          try clear hfz23_1
          try clear hfz27_0
          try clear hfz27_1
          try clear hfz30_0
          try clear hfz30_1
          try clear hfz40_0
          try clear hfz40_1
          try clear hfz41_0
          try clear hfz41_1
          try clear hfz44_0
          try clear hfz44_1
          try clear p2
          try clear p6
          obtain ⟨kq, x78_41, rfl, HA, HJ41, HO_186004, HO_186005, BK181, BK185, HI0, HK, HB⟩ := hcut
          cases kq with
          | zero => exact absurd HA.out (by simp [sacristanref13_Reader_Spec.j5])
          | succ kj41 =>
           have H := HA.out
           clear HA
           simp only [sacristanref13_Reader_Spec.j5] at H
           by_cases c45 : x78_41 = true
           ·subst c45
            have H1 : ((sacristanref13_Reader_Num.f kj41 x1000_4 x1001_4).bind fun bt209 => (if bt209.2.2 = true then (sacristanref13_Reader_Spec.j6 kj41 t204 x6_4 bt209.1 bt209.2.1 true t182 t186 t189 t192 x186004_23 x186005_4) else (sacristanref13_Reader_Spec.j6 kj41 t204 x6_4 bt209.1 bt209.2.1 (decide (bt209.1 > 1)) t182 t186 t189 t192 x186004_23 x186005_4))) = some (r1, r2, r3, r4, r5, r6, r7, r8) := by rw [if_pos rfl] at H; exact H
            clear H
            have H := H1
            clear H1
            replace H := Option.bind_eq_some_iff.mp H
            obtain ⟨⟨t209, t210, t211⟩, A460, H⟩ := H
            replace H : (if t211 = true then (sacristanref13_Reader_Spec.j6 kj41 t204 x6_4 t209 t210 true t182 t186 t189 t192 x186004_23 x186005_4) else (sacristanref13_Reader_Spec.j6 kj41 t204 x6_4 t209 t210 (decide (t209 > 1)) t182 t186 t189 t192 x186004_23 x186005_4)) = some (r1, r2, r3, r4, r5, r6, r7, r8) := H
            have A46 := Aside0.mk A460
            clear A460
            have HC47 := Aside0.mk H
            clear H
            go_upto_region 18 with (first | ((with_reducible refine gate_dst (N := 7) rfl ?_); refine box_event ?hg (N := 7) ?hd (cs := #[.bool false, .int .i64 0, .int .i64 0, .int .i64 0, .int .i64 0, .int .i64 0]) (t := 90) ?hr ?_; (case hd => rfl); (case hg => rfl); (case hr => first | (go_simp; done) | (go_simp; rfl)); intro gb208 hg w48 hbox hb; have n0_ := Aside0.mk (Kd.R_below (by (with_reducible repeat (first | apply Kd.R_alloc | apply Kd.R_drewN | apply Kd.R_drew)); exact HO_186004.out) hb); have n1_ := Aside0.mk (Kd.R_below (Kd.R_elderB (by (with_reducible repeat (first | apply Kd.R_alloc | apply Kd.R_drewN | apply Kd.R_drew)); exact HO_186005.out) gb208 (Nat.le_of_eq hg.symm)) hb); have n2_ := Aside0.mk (blk_below (g := gb181) (o := .cells #[.int .i64 0, .int .i64 0, .int .i64 0, .int .i64 0, .slice none 0 0, .slice none 0 0] 27 (0, 0)) (by (with_reducible repeat (first | refine blk_drewN ?_ _ | refine blk_drew ?_ | refine blk_alloc ?_ _)); exact BK181.out) hb); have n3_ := Aside0.mk (blk_below (g := gb185) (o := .cells #[.int .i64 t182, .int .i64 t186, .int .i64 t189, .int .i64 t192, u186004, u186005] 27 (0, 0)) (by (with_reducible repeat (first | refine blk_drewN ?_ _ | refine blk_drew ?_ | refine blk_alloc ?_ _)); exact BK185.out) hb); have n4_ := Aside0.mk (IsS84.below (by repeat (first | (with_reducible first | exact HI0.out | apply IsS84.alloc | apply IsS84.drewN | apply IsS84.drew | apply IsS84.set_0 | apply IsS84.set_1 | refine IsS84.far ?_ NB0_181.out _ | refine IsS84.far ?_ NB0_185.out _) | exact HI0.out)) hb); have n5_ := Aside0.mk (KeepBut.trans (by repeat (first | (with_reducible first | exact HK.out | apply KeepBut.set_ | apply keep_drewN | apply keep_drew | apply keep_alloc | refine keep_far ?_ GW181.out _ | refine keep_far ?_ GW185.out _) | exact HK.out)) (KeepBut.of_below hb g none) (.inl rfl)); have n6_ := Aside0.mk (below_step (by repeat (first | (with_reducible first | exact HB.out | apply below_alloc | apply pw_below_drewN | apply below_drew1 | refine below_set ?_ (IsS84.ge HI0.out) | refine below_set ?_ GE181.out | refine below_set ?_ GE185.out) | exact HB.out)) hb); have n7_ := Aside0.mk (hbox); have n8_ := Aside0.mk ((by rw [hg]; exact (keep_size (w := w) (g := g) (row := none) (by repeat (first | (with_reducible first | exact HK.out | apply KeepBut.set_ | apply keep_drewN | apply keep_drew | apply keep_alloc | refine keep_far ?_ GW181.out _ | refine keep_far ?_ GW185.out _) | exact HK.out))) : w.heap.size ≤ gb208)); have n9_ := Aside0.mk ((Nat.le_trans HW0.out (by rw [hg]; exact (keep_size (w := w) (g := g) (row := none) (by repeat (first | (with_reducible first | exact HK.out | apply KeepBut.set_ | apply keep_drewN | apply keep_drew | apply keep_alloc | refine keep_far ?_ GW181.out _ | refine keep_far ?_ GW185.out _) | exact HK.out))) : w.heap.size ≤ gb208) : w0.heap.size ≤ gb208)); have n10_ := Aside0.mk ((by rw [hg]; exact Nat.ne_of_lt (blk_lt (g := gb181) (o := .cells #[.int .i64 0, .int .i64 0, .int .i64 0, .int .i64 0, .slice none 0 0, .slice none 0 0] 27 (0, 0)) (by (with_reducible repeat (first | refine blk_drewN ?_ _ | refine blk_drew ?_ | refine blk_alloc ?_ _)); exact BK181.out)) : gb181 ≠ gb208)); have n11_ := Aside0.mk ((by rw [hg]; exact Nat.ne_of_gt (blk_lt (g := gb181) (o := .cells #[.int .i64 0, .int .i64 0, .int .i64 0, .int .i64 0, .slice none 0 0, .slice none 0 0] 27 (0, 0)) (by (with_reducible repeat (first | refine blk_drewN ?_ _ | refine blk_drew ?_ | refine blk_alloc ?_ _)); exact BK181.out)) : gb208 ≠ gb181)); have n12_ := Aside0.mk ((by rw [hg]; exact Nat.ne_of_lt (blk_lt (g := gb185) (o := .cells #[.int .i64 t182, .int .i64 t186, .int .i64 t189, .int .i64 t192, u186004, u186005] 27 (0, 0)) (by (with_reducible repeat (first | refine blk_drewN ?_ _ | refine blk_drew ?_ | refine blk_alloc ?_ _)); exact BK185.out)) : gb185 ≠ gb208)); have n13_ := Aside0.mk ((by rw [hg]; exact Nat.ne_of_gt (blk_lt (g := gb185) (o := .cells #[.int .i64 t182, .int .i64 t186, .int .i64 t189, .int .i64 t192, u186004, u186005] 27 (0, 0)) (by (with_reducible repeat (first | refine blk_drewN ?_ _ | refine blk_drew ?_ | refine blk_alloc ?_ _)); exact BK185.out)) : gb208 ≠ gb185)); have n14_ := Aside0.mk ((by rw [hg]; exact Nat.ne_of_lt (IsS84.lt (show IsS84 w0 _ g x1000_4 x1001_4 from by repeat (first | (with_reducible first | exact HI0.out | apply IsS84.alloc | apply IsS84.drewN | apply IsS84.drew | apply IsS84.set_0 | apply IsS84.set_1 | refine IsS84.far ?_ NB0_181.out _ | refine IsS84.far ?_ NB0_185.out _) | exact HI0.out))) : g ≠ gb208)); have n15_ := Aside0.mk ((by rw [hg]; exact Nat.ne_of_gt (IsS84.lt (show IsS84 w0 _ g x1000_4 x1001_4 from by repeat (first | (with_reducible first | exact HI0.out | apply IsS84.alloc | apply IsS84.drewN | apply IsS84.drew | apply IsS84.set_0 | apply IsS84.set_1 | refine IsS84.far ?_ NB0_181.out _ | refine IsS84.far ?_ NB0_185.out _) | exact HI0.out))) : gb208 ≠ g)); clear HO_186004; clear HO_186005; clear BK181; clear BK185; clear HI0; clear HK; clear HB; have HO_186004 := n0_; have HO_186005 := n1_; have BK181 := n2_; have BK185 := n3_; have HI0 := n4_; have HK := n5_; have HB := n6_; have BK208 := n7_; have GW208 := n8_; have GE208 := n9_; have NB181_208 := n10_; have NB208_181 := n11_; have NB185_208 := n12_; have NB208_185 := n13_; have NB0_208 := n14_; have NB208_0 := n15_; clear n0_ n1_ n2_ n3_ n4_ n5_ n6_ n7_ n8_ n9_ n10_ n11_ n12_ n13_ n14_ n15_; clear hb hbox hg; have hnb49 := NB208_181.out; have hnc49 := NB181_208.out; have hnb50 := NB208_185.out; have hnc50 := NB185_208.out; have hnb51 := NB208_0.out; have hnc51 := NB0_208.out; have hcz52_0 : w48.cell? ⟨gb208, 0, none⟩ = some (.bool false) := (blk_cell BK208.out 0).trans rfl; have hcz52_1 : w48.cell? ⟨gb208, 1, none⟩ = some (.int .i64 0) := (blk_cell BK208.out 1).trans rfl; have hcz52_2 : w48.cell? ⟨gb208, 2, none⟩ = some (.int .i64 0) := (blk_cell BK208.out 2).trans rfl; have hcz52_3 : w48.cell? ⟨gb208, 3, none⟩ = some (.int .i64 0) := (blk_cell BK208.out 3).trans rfl; have hcz52_4 : w48.cell? ⟨gb208, 4, none⟩ = some (.int .i64 0) := (blk_cell BK208.out 4).trans rfl; have hcz52_5 : w48.cell? ⟨gb208, 5, none⟩ = some (.int .i64 0) := (blk_cell BK208.out 5).trans rfl; have hfz52_0 := blk_frozen BK208.out 0; have hfz52_1 := blk_frozen BK208.out 1; have hfz52_2 := blk_frozen BK208.out 2; have hfz52_3 := blk_frozen BK208.out 3; have hfz52_4 := blk_frozen BK208.out 4; have hfz52_5 := blk_frozen BK208.out 5) | ((with_reducible refine gate_callee (f := 45) rfl ?_); refine goesL_ (some 83) rfl rfl Try.func45 (by kernel_rfl) rfl #[.pointer (some ⟨g, 0, none⟩)] rfl (by (try simp only [List.map_toArray, List.map_cons, List.map_nil]); first | done | rfl | (simp only [List.length_drop, List.length_take]; rfl)) ?_; (with_reducible refine (sacristanref13_Reader_Num.calls kj41 g x1000_4 x1001_4 t209 t210 t211 w0 _ ?side1 ?side2 A46.out).mono ?_); (case side1 => repeat (first | (with_reducible first | exact HI0.out | apply IsS84.alloc | apply IsS84.drewN | apply IsS84.drew | apply IsS84.set_0 | apply IsS84.set_1 | refine IsS84.far ?_ NB0_181.out _ | refine IsS84.far ?_ NB0_185.out _ | refine IsS84.far ?_ NB0_208.out _) | exact HI0.out)); (case side2 => repeat (first | (with_reducible first | exact HB.out | apply below_alloc | apply pw_below_drewN | apply below_drew1 | refine below_set ?_ (IsS84.ge HI0.out) | refine below_set ?_ GE181.out | refine below_set ?_ GE185.out | refine below_set ?_ GE208.out) | exact HB.out)); rintro e w53 ⟨rfl, hi, hb, hk⟩; refine ⟨_, rfl, ?_⟩; have n0_ := Aside0.mk (Kd.R_mono (Kd.R_keep (IsS84.apart (show IsS84 w0 _ g x1000_4 x1001_4 from by repeat (first | (with_reducible first | exact HI0.out | apply IsS84.alloc | apply IsS84.drewN | apply IsS84.drew | apply IsS84.set_0 | apply IsS84.set_1 | refine IsS84.far ?_ NB0_181.out _ | refine IsS84.far ?_ NB0_185.out _ | refine IsS84.far ?_ NB0_208.out _) | exact HI0.out)) (by (with_reducible repeat (first | apply Kd.R_alloc | apply Kd.R_drewN | apply Kd.R_drew)); exact (Kd.R_mono (Kd.R_far (p := ⟨gb208, 5, none⟩) (Kd.R_far (p := ⟨gb208, 4, none⟩) (Kd.R_far (p := ⟨gb208, 3, none⟩) (Kd.R_far (p := ⟨gb208, 2, none⟩) (Kd.R_far (p := ⟨gb208, 1, none⟩) (Kd.R_far (p := ⟨gb208, 0, none⟩) (Kd.R_types HO_186004.out BK208.out (by decide)) (fun _ hk => hk.2) (.bool false)) (fun _ hk => hk.2) (.int .i64 0)) (fun _ hk => hk.2) (.int .i64 0)) (fun _ hk => hk.2) (.int .i64 0)) (fun _ hk => hk.2) (.int .i64 0)) (fun _ hk => hk.2) (.int .i64 0)) (fun _ h_ => h_.1))) (by decide)) hk (fun _ h => h.2)) (fun _ h => h.1)); have n1_ := Aside0.mk (Kd.R_mono (Kd.R_keep (IsS84.apart (show IsS84 w0 _ g x1000_4 x1001_4 from by repeat (first | (with_reducible first | exact HI0.out | apply IsS84.alloc | apply IsS84.drewN | apply IsS84.drew | apply IsS84.set_0 | apply IsS84.set_1 | refine IsS84.far ?_ NB0_181.out _ | refine IsS84.far ?_ NB0_185.out _ | refine IsS84.far ?_ NB0_208.out _) | exact HI0.out)) (by (with_reducible repeat (first | apply Kd.R_alloc | apply Kd.R_drewN | apply Kd.R_drew)); exact (Kd.R_mono (Kd.R_far (p := ⟨gb208, 5, none⟩) (Kd.R_far (p := ⟨gb208, 4, none⟩) (Kd.R_far (p := ⟨gb208, 3, none⟩) (Kd.R_far (p := ⟨gb208, 2, none⟩) (Kd.R_far (p := ⟨gb208, 1, none⟩) (Kd.R_far (p := ⟨gb208, 0, none⟩) (Kd.R_mono HO_186005.out (fun k_ hk => (⟨hk, hk.2⟩ : _ ∧ k_ ≠ gb208))) (fun _ hk => hk.2) (.bool false)) (fun _ hk => hk.2) (.int .i64 0)) (fun _ hk => hk.2) (.int .i64 0)) (fun _ hk => hk.2) (.int .i64 0)) (fun _ hk => hk.2) (.int .i64 0)) (fun _ hk => hk.2) (.int .i64 0)) (fun _ h_ => h_.1))) (by decide)) hk (fun _ h => h.2)) (fun _ h => h.1)); have n2_ := Aside0.mk (KeepBut.blk hk (g' := gb181) (o := .cells #[.int .i64 0, .int .i64 0, .int .i64 0, .int .i64 0, .slice none 0 0, .slice none 0 0] 27 (0, 0)) (by (with_reducible repeat (first | refine blk_drewN ?_ _ | refine blk_drew ?_ | refine blk_alloc ?_ _)); refine blk_far ?_ NB181_208.out _; (with_reducible repeat (first | refine blk_drewN ?_ _ | refine blk_drew ?_ | refine blk_alloc ?_ _)); refine blk_far ?_ NB181_208.out _; (with_reducible repeat (first | refine blk_drewN ?_ _ | refine blk_drew ?_ | refine blk_alloc ?_ _)); refine blk_far ?_ NB181_208.out _; (with_reducible repeat (first | refine blk_drewN ?_ _ | refine blk_drew ?_ | refine blk_alloc ?_ _)); refine blk_far ?_ NB181_208.out _; (with_reducible repeat (first | refine blk_drewN ?_ _ | refine blk_drew ?_ | refine blk_alloc ?_ _)); refine blk_far ?_ NB181_208.out _; (with_reducible repeat (first | refine blk_drewN ?_ _ | refine blk_drew ?_ | refine blk_alloc ?_ _)); refine blk_far ?_ NB181_208.out _; (with_reducible repeat (first | refine blk_drewN ?_ _ | refine blk_drew ?_ | refine blk_alloc ?_ _)); exact BK181.out) NB181_0.out (by simp)); have n3_ := Aside0.mk (KeepBut.blk hk (g' := gb185) (o := .cells #[.int .i64 t182, .int .i64 t186, .int .i64 t189, .int .i64 t192, u186004, u186005] 27 (0, 0)) (by (with_reducible repeat (first | refine blk_drewN ?_ _ | refine blk_drew ?_ | refine blk_alloc ?_ _)); refine blk_far ?_ NB185_208.out _; (with_reducible repeat (first | refine blk_drewN ?_ _ | refine blk_drew ?_ | refine blk_alloc ?_ _)); refine blk_far ?_ NB185_208.out _; (with_reducible repeat (first | refine blk_drewN ?_ _ | refine blk_drew ?_ | refine blk_alloc ?_ _)); refine blk_far ?_ NB185_208.out _; (with_reducible repeat (first | refine blk_drewN ?_ _ | refine blk_drew ?_ | refine blk_alloc ?_ _)); refine blk_far ?_ NB185_208.out _; (with_reducible repeat (first | refine blk_drewN ?_ _ | refine blk_drew ?_ | refine blk_alloc ?_ _)); refine blk_far ?_ NB185_208.out _; (with_reducible repeat (first | refine blk_drewN ?_ _ | refine blk_drew ?_ | refine blk_alloc ?_ _)); refine blk_far ?_ NB185_208.out _; (with_reducible repeat (first | refine blk_drewN ?_ _ | refine blk_drew ?_ | refine blk_alloc ?_ _)); exact BK185.out) NB185_0.out (by simp)); have n4_ := Aside0.mk (KeepBut.blk hk (g' := gb208) (o := .cells #[.bool false, .int .i64 0, .int .i64 0, .int .i64 0, .int .i64 0, .int .i64 0] 90 (0, 0)) (by (with_reducible repeat (first | refine blk_drewN ?_ _ | refine blk_drew ?_ | refine blk_alloc ?_ _)); refine blk_put (cs := #[.bool false, .int .i64 0, .int .i64 0, .int .i64 0, .int .i64 0, .int .i64 0]) ?_ 5 _ rfl; (with_reducible repeat (first | refine blk_drewN ?_ _ | refine blk_drew ?_ | refine blk_alloc ?_ _)); refine blk_put (cs := #[.bool false, .int .i64 0, .int .i64 0, .int .i64 0, .int .i64 0, .int .i64 0]) ?_ 4 _ rfl; (with_reducible repeat (first | refine blk_drewN ?_ _ | refine blk_drew ?_ | refine blk_alloc ?_ _)); refine blk_put (cs := #[.bool false, .int .i64 0, .int .i64 0, .int .i64 0, .int .i64 0, .int .i64 0]) ?_ 3 _ rfl; (with_reducible repeat (first | refine blk_drewN ?_ _ | refine blk_drew ?_ | refine blk_alloc ?_ _)); refine blk_put (cs := #[.bool false, .int .i64 0, .int .i64 0, .int .i64 0, .int .i64 0, .int .i64 0]) ?_ 2 _ rfl; (with_reducible repeat (first | refine blk_drewN ?_ _ | refine blk_drew ?_ | refine blk_alloc ?_ _)); refine blk_put (cs := #[.bool false, .int .i64 0, .int .i64 0, .int .i64 0, .int .i64 0, .int .i64 0]) ?_ 1 _ rfl; (with_reducible repeat (first | refine blk_drewN ?_ _ | refine blk_drew ?_ | refine blk_alloc ?_ _)); refine blk_put (cs := #[.bool false, .int .i64 0, .int .i64 0, .int .i64 0, .int .i64 0, .int .i64 0]) ?_ 0 _ rfl; (with_reducible repeat (first | refine blk_drewN ?_ _ | refine blk_drew ?_ | refine blk_alloc ?_ _)); exact BK208.out) NB208_0.out (by simp)); have n5_ := Aside0.mk (KeepBut.trans (by repeat (first | (with_reducible first | exact HK.out | apply KeepBut.set_ | apply keep_drewN | apply keep_drew | apply keep_alloc | refine keep_far ?_ GW181.out _ | refine keep_far ?_ GW185.out _ | refine keep_far ?_ GW208.out _) | exact HK.out)) hk (.inl rfl)); have n6_ := Aside0.mk (hb); have n7_ := Aside0.mk (hi); clear HO_186004; clear HO_186005; clear BK181; clear BK185; clear BK208; clear HK; clear HB; clear HI0; have HO_186004 := n0_; have HO_186005 := n1_; have BK181 := n2_; have BK185 := n3_; have BK208 := n4_; have HK := n5_; have HB := n6_; have HI0 := n7_; clear n0_ n1_ n2_ n3_ n4_ n5_ n6_ n7_; (try clear hb); (try clear hb2); (try clear hk); (try clear hi)))
            (try simp only [Act.put, List.setIfInBounds_toArray, List.set_cons_zero, List.set_cons_succ])
            go_cut [] (fun wc => ∃ (kq : Nat) (x1001_46 : Bool), Aside0 (sacristanref13_Reader_Spec.j6 kq t204 x6_4 t209 t210 x1001_46 t182 t186 t189 t192 x186004_23 x186005_4 = some (r1, r2, r3, r4, r5, r6, r7, r8)) ∧ Aside0 (kq ≤ kj41) ∧ Aside0 (Kd.R (Kd.int .i64) 3 wc w.heap.size (fun _ => True) u186004 x186004_23) ∧ Aside0 (Kd.R k90 90 wc w.heap.size (fun k_ => k_ ≠ gb208) u186005 x186005_4) ∧ Aside0 (wc.heap[gb181]? = some (.cells #[.int .i64 0, .int .i64 0, .int .i64 0, .int .i64 0, (.slice none 0 0), (.slice none 0 0)] 27 (0, 0))) ∧ Aside0 (wc.heap[gb185]? = some (.cells #[.int .i64 t182, .int .i64 t186, .int .i64 t189, .int .i64 t192, u186004, u186005] 27 (0, 0))) ∧ Aside0 (wc.heap[gb208]? = some (.cells #[.bool false, .int .i64 0, .int .i64 0, .int .i64 0, .int .i64 0, .int .i64 0] 90 (0, 0))) ∧ Aside0 (IsS84 w0 wc g t210 x1001_46) ∧ Aside0 (KeepBut w wc g none) ∧ Aside0 (Below w0.heap.size w0 wc))
            case first =>
             have H := HC47.out
             clear HC47
             by_cases c54 : t211 = true
             ·subst c54
              have H1 : (sacristanref13_Reader_Spec.j6 kj41 t204 x6_4 t209 t210 true t182 t186 t189 t192 x186004_23 x186005_4) = some (r1, r2, r3, r4, r5, r6, r7, r8) := by rw [if_pos rfl] at H; exact H
              clear H
              have H := H1
              clear H1
              have H' := Aside0.mk H
              clear H
              obtain ⟨HGz55, hgz55⟩ := HI0.out
              have hcz55_0 := cellS84_0 HGz55
              have hcz55_1 := cellS84_1 HGz55
              have hfz55_0 := blk_frozen HGz55 0
              have hfz55_1 := blk_frozen HGz55 1
              clear HGz55 hgz55
              go_wp2
              go_meet
              case rel => exact ⟨_, (true), H', ⟨by have := HJ6.out; have := HJ23.out; have := HJ36.out; have := HK4.out; have := HJ41.out; first | omega | exact Nat.le_refl _⟩, ⟨by (with_reducible repeat (first | apply Kd.R_alloc | apply Kd.R_drewN | apply Kd.R_drew)); exact Kd.R_mono (Kd.R_far (p := ⟨g, 1, none⟩) (IsS84.apart HI0.out HO_186004.out (by decide)) (fun _ hk => hk.2) (.bool true)) (fun _ hk => trivial)⟩, ⟨by (with_reducible repeat (first | apply Kd.R_alloc | apply Kd.R_drewN | apply Kd.R_drew)); exact Kd.R_mono (Kd.R_far (p := ⟨g, 1, none⟩) (IsS84.apart HI0.out HO_186005.out (by decide)) (fun _ hk => hk.2) (.bool true)) (fun _ hk => hk.1.2)⟩, ⟨by (with_reducible repeat (first | refine blk_drewN ?_ _ | refine blk_drew ?_ | refine blk_alloc ?_ _)); refine blk_far ?_ NB181_0.out _; (with_reducible repeat (first | refine blk_drewN ?_ _ | refine blk_drew ?_ | refine blk_alloc ?_ _)); exact BK181.out⟩, ⟨by (with_reducible repeat (first | refine blk_drewN ?_ _ | refine blk_drew ?_ | refine blk_alloc ?_ _)); refine blk_far ?_ NB185_0.out _; (with_reducible repeat (first | refine blk_drewN ?_ _ | refine blk_drew ?_ | refine blk_alloc ?_ _)); exact BK185.out⟩, ⟨by (with_reducible repeat (first | refine blk_drewN ?_ _ | refine blk_drew ?_ | refine blk_alloc ?_ _)); refine blk_far ?_ NB208_0.out _; (with_reducible repeat (first | refine blk_drewN ?_ _ | refine blk_drew ?_ | refine blk_alloc ?_ _)); exact BK208.out⟩, ⟨by repeat (first | (with_reducible first | exact HI0.out | apply IsS84.alloc | apply IsS84.drewN | apply IsS84.drew | apply IsS84.set_0 | apply IsS84.set_1 | refine IsS84.far ?_ NB0_181.out _ | refine IsS84.far ?_ NB0_185.out _ | refine IsS84.far ?_ NB0_208.out _) | exact HI0.out)⟩, ⟨by repeat (first | (with_reducible first | exact HK.out | apply KeepBut.set_ | apply keep_drewN | apply keep_drew | apply keep_alloc | refine keep_far ?_ GW181.out _ | refine keep_far ?_ GW185.out _ | refine keep_far ?_ GW208.out _) | exact HK.out)⟩, ⟨by repeat (first | (with_reducible first | exact HB.out | apply below_alloc | apply pw_below_drewN | apply below_drew1 | refine below_set ?_ (IsS84.ge HI0.out) | refine below_set ?_ GE181.out | refine below_set ?_ GE185.out | refine below_set ?_ GE208.out) | exact HB.out)⟩⟩
             ·replace c54 := Bool.eq_false_iff.mpr c54
              subst c54
              have H1 : (sacristanref13_Reader_Spec.j6 kj41 t204 x6_4 t209 t210 (decide (t209 > 1)) t182 t186 t189 t192 x186004_23 x186005_4) = some (r1, r2, r3, r4, r5, r6, r7, r8) := by rw [if_neg (show ¬ (false = true) by decide)] at H; exact H
              clear H
              have H := H1
              clear H1
              have H' := Aside0.mk H
              clear H
              obtain ⟨HGz56, hgz56⟩ := HI0.out
              have hcz56_0 := cellS84_0 HGz56
              have hcz56_1 := cellS84_1 HGz56
              have hfz56_0 := blk_frozen HGz56 0
              have hfz56_1 := blk_frozen HGz56 1
              clear HGz56 hgz56
              go_wp2
              go_meet
              case rel => exact ⟨_, (decide (t209 > 1)), H', ⟨by have := HJ6.out; have := HJ23.out; have := HJ36.out; have := HK4.out; have := HJ41.out; first | omega | exact Nat.le_refl _⟩, ⟨by (with_reducible repeat (first | apply Kd.R_alloc | apply Kd.R_drewN | apply Kd.R_drew)); exact Kd.R_mono (Kd.R_far (p := ⟨g, 1, none⟩) (IsS84.apart HI0.out HO_186004.out (by decide)) (fun _ hk => hk.2) (.bool (decide (t209 > 1)))) (fun _ hk => trivial)⟩, ⟨by (with_reducible repeat (first | apply Kd.R_alloc | apply Kd.R_drewN | apply Kd.R_drew)); exact Kd.R_mono (Kd.R_far (p := ⟨g, 1, none⟩) (IsS84.apart HI0.out HO_186005.out (by decide)) (fun _ hk => hk.2) (.bool (decide (t209 > 1)))) (fun _ hk => hk.1.2)⟩, ⟨by (with_reducible repeat (first | refine blk_drewN ?_ _ | refine blk_drew ?_ | refine blk_alloc ?_ _)); refine blk_far ?_ NB181_0.out _; (with_reducible repeat (first | refine blk_drewN ?_ _ | refine blk_drew ?_ | refine blk_alloc ?_ _)); exact BK181.out⟩, ⟨by (with_reducible repeat (first | refine blk_drewN ?_ _ | refine blk_drew ?_ | refine blk_alloc ?_ _)); refine blk_far ?_ NB185_0.out _; (with_reducible repeat (first | refine blk_drewN ?_ _ | refine blk_drew ?_ | refine blk_alloc ?_ _)); exact BK185.out⟩, ⟨by (with_reducible repeat (first | refine blk_drewN ?_ _ | refine blk_drew ?_ | refine blk_alloc ?_ _)); refine blk_far ?_ NB208_0.out _; (with_reducible repeat (first | refine blk_drewN ?_ _ | refine blk_drew ?_ | refine blk_alloc ?_ _)); exact BK208.out⟩, ⟨by repeat (first | (with_reducible first | exact HI0.out | apply IsS84.alloc | apply IsS84.drewN | apply IsS84.drew | apply IsS84.set_0 | apply IsS84.set_1 | refine IsS84.far ?_ NB0_181.out _ | refine IsS84.far ?_ NB0_185.out _ | refine IsS84.far ?_ NB0_208.out _) | exact HI0.out)⟩, ⟨by repeat (first | (with_reducible first | exact HK.out | apply KeepBut.set_ | apply keep_drewN | apply keep_drew | apply keep_alloc | refine keep_far ?_ GW181.out _ | refine keep_far ?_ GW185.out _ | refine keep_far ?_ GW208.out _) | exact HK.out)⟩, ⟨by repeat (first | (with_reducible first | exact HB.out | apply below_alloc | apply pw_below_drewN | apply below_drew1 | refine below_set ?_ (IsS84.ge HI0.out) | refine below_set ?_ GE181.out | refine below_set ?_ GE185.out | refine below_set ?_ GE208.out) | exact HB.out)⟩⟩
            case rest =>
             clear HC47
             try clear c1
             try clear c2
             try clear p2
             try clear c3
             try clear c4
             try clear c5
             try clear p6
             try clear c11
             try clear c12
             try clear c21
             try clear c25
             try clear c25b0
             try clear c26
             try clear c29
             try clear c39
             try clear c43
             try clear c43b0
             try clear c45
             try clear c49
             try clear c50
             try clear c51
             try clear c54
             try clear hcz13_0
             try clear hcz13_1
             try clear hcz13_2
             try clear hcz13_3
             try clear hcz13_4
             try clear hcz13_5
             try clear hcz15_0
             try clear hcz15_1
             try clear hcz15_2
             try clear hcz15_3
             try clear hcz15_4
             try clear hcz15_5
             try clear hcz17_0
             try clear hcz17_1
             try clear hcz17_2
             try clear hcz17_3
             try clear hcz17_4
             try clear hcz17_5
             try clear hcz19_0
             try clear hcz19_1
             try clear hcz19_2
             try clear hcz19_3
             try clear hcz19_4
             try clear hcz19_5
             try clear hcz22_0
             try clear hcz22_1
             try clear hcz23_0
             try clear hcz23_1
             try clear hcz27_0
             try clear hcz27_1
             try clear hcz30_0
             try clear hcz30_1
             try clear hcz40_0
             try clear hcz40_1
             try clear hcz41_0
             try clear hcz41_1
             try clear hcz44_0
             try clear hcz44_1
             try clear hcz52_0
             try clear hcz52_1
             try clear hcz52_2
             try clear hcz52_3
             try clear hcz52_4
             try clear hcz52_5
             try clear hcz55_0
             try clear hcz55_1
             try clear hcz56_0
             try clear hcz56_1
             try clear hfz13_0
             try clear hfz13_1
             try clear hfz13_2
             try clear hfz13_3
             try clear hfz13_4
             try clear hfz13_5
             try clear hfz15_0
             try clear hfz15_1
             try clear hfz15_2
             try clear hfz15_3
             try clear hfz15_4
             try clear hfz15_5
             try clear hfz17_0
             try clear hfz17_1
             try clear hfz17_2
             try clear hfz17_3
             try clear hfz17_4
             try clear hfz17_5
             try clear hfz19_0
             try clear hfz19_1
             try clear hfz19_2
             try clear hfz19_3
             try clear hfz19_4
             try clear hfz19_5
             try clear hfz22_0
             try clear hfz22_1
             try clear hfz23_0
             try clear hfz23_1
             try clear hfz27_0
             try clear hfz27_1
             try clear hfz30_0
             try clear hfz30_1
             try clear hfz40_0
             try clear hfz40_1
             try clear hfz41_0
             try clear hfz41_1
             try clear hfz44_0
             try clear hfz44_1
             try clear hfz52_0
             try clear hfz52_1
             try clear hfz52_2
             try clear hfz52_3
             try clear hfz52_4
             try clear hfz52_5
             try clear hfz55_0
             try clear hfz55_1
             try clear hfz56_0
             try clear hfz56_1
             try clear p2
             try clear p6
             obtain ⟨kq, x1001_46, HA, HJ46, HO_186004, HO_186005, BK181, BK185, BK208, HI0, HK, HB⟩ := hcut
             cases kq with
             | zero => exact absurd HA.out (by simp [sacristanref13_Reader_Spec.j6])
             | succ kj46 =>
              have H := HA.out
              clear HA
              simp only [sacristanref13_Reader_Spec.j6] at H
              replace H := Option.bind_eq_some_iff.mp H
              obtain ⟨⟨t212, t213, t214⟩, A570, H⟩ := H
              replace H : ((sacristanref13_Reader_Num.f kj46 t213 t214).bind fun bt215 => ((sacristanref13_Reader_Num.f kj46 bt215.2.1 bt215.2.2).bind fun bt218 => ((sacristanref13_Reader_Num.f kj46 bt218.2.1 bt218.2.2).bind fun bt221 => ((sacristanref13_Reader_Num.f kj46 bt221.2.1 bt221.2.2).bind fun bt224 => (if x186005_4.length < 2932031007402 then (sacristanref13_Reader_Spec.l1 kj46 t204 (wrap64 (x6_4 + 1)) bt224.2.1 bt224.2.2 t182 t186 t189 t192 x186004_23 (x186005_4 ++ [(⟨(⟨(t209 == 1), t212, bt215.1, bt218.1, bt221.1⟩ : S88), bt224.1⟩ : S90)])) else (none)))))) = some (r1, r2, r3, r4, r5, r6, r7, r8) := H
              have A57 := Aside0.mk A570
              clear A570
              replace H := Option.bind_eq_some_iff.mp H
              obtain ⟨⟨t215, t216, t217⟩, A580, H⟩ := H
              replace H : ((sacristanref13_Reader_Num.f kj46 t216 t217).bind fun bt218 => ((sacristanref13_Reader_Num.f kj46 bt218.2.1 bt218.2.2).bind fun bt221 => ((sacristanref13_Reader_Num.f kj46 bt221.2.1 bt221.2.2).bind fun bt224 => (if x186005_4.length < 2932031007402 then (sacristanref13_Reader_Spec.l1 kj46 t204 (wrap64 (x6_4 + 1)) bt224.2.1 bt224.2.2 t182 t186 t189 t192 x186004_23 (x186005_4 ++ [(⟨(⟨(t209 == 1), t212, t215, bt218.1, bt221.1⟩ : S88), bt224.1⟩ : S90)])) else (none))))) = some (r1, r2, r3, r4, r5, r6, r7, r8) := H
              have A58 := Aside0.mk A580
              clear A580
              replace H := Option.bind_eq_some_iff.mp H
              obtain ⟨⟨t218, t219, t220⟩, A590, H⟩ := H
              replace H : ((sacristanref13_Reader_Num.f kj46 t219 t220).bind fun bt221 => ((sacristanref13_Reader_Num.f kj46 bt221.2.1 bt221.2.2).bind fun bt224 => (if x186005_4.length < 2932031007402 then (sacristanref13_Reader_Spec.l1 kj46 t204 (wrap64 (x6_4 + 1)) bt224.2.1 bt224.2.2 t182 t186 t189 t192 x186004_23 (x186005_4 ++ [(⟨(⟨(t209 == 1), t212, t215, t218, bt221.1⟩ : S88), bt224.1⟩ : S90)])) else (none)))) = some (r1, r2, r3, r4, r5, r6, r7, r8) := H
              have A59 := Aside0.mk A590
              clear A590
              replace H := Option.bind_eq_some_iff.mp H
              obtain ⟨⟨t221, t222, t223⟩, A600, H⟩ := H
              replace H : ((sacristanref13_Reader_Num.f kj46 t222 t223).bind fun bt224 => (if x186005_4.length < 2932031007402 then (sacristanref13_Reader_Spec.l1 kj46 t204 (wrap64 (x6_4 + 1)) bt224.2.1 bt224.2.2 t182 t186 t189 t192 x186004_23 (x186005_4 ++ [(⟨(⟨(t209 == 1), t212, t215, t218, t221⟩ : S88), bt224.1⟩ : S90)])) else (none))) = some (r1, r2, r3, r4, r5, r6, r7, r8) := H
              have A60 := Aside0.mk A600
              clear A600
              replace H := Option.bind_eq_some_iff.mp H
              obtain ⟨⟨t224, t225, t226⟩, A610, H⟩ := H
              replace H : (if x186005_4.length < 2932031007402 then (sacristanref13_Reader_Spec.l1 kj46 t204 (wrap64 (x6_4 + 1)) t225 t226 t182 t186 t189 t192 x186004_23 (x186005_4 ++ [(⟨(⟨(t209 == 1), t212, t215, t218, t221⟩ : S88), t224⟩ : S90)])) else (none)) = some (r1, r2, r3, r4, r5, r6, r7, r8) := H
              have A61 := Aside0.mk A610
              clear A610
              by_cases c62 : x186005_4.length < 2932031007402
              ·rw [if_pos c62] at H
               have LMc62 := Aside0.mk c62
               clear c62
               obtain ⟨y227, hy227⟩ : ∃ y_ : List (S90), y_ = (x186005_4 ++ [(⟨(⟨(t209 == 1), t212, t215, t218, t221⟩ : S88), t224⟩ : S90)]) := ⟨_, rfl⟩
               replace H : (sacristanref13_Reader_Spec.l1 kj46 t204 (wrap64 (x6_4 + 1)) t225 t226 t182 t186 t189 t192 x186004_23 y227) = some (r1, r2, r3, r4, r5, r6, r7, r8) := by first | (rw [hy227]; with_reducible exact H) | (have H2_ := (Option.bind_some _ _).symm.trans H; rw [hy227]; with_reducible exact H2_) | (have H2_ := (Option.bind_some _ _).symm.trans H; with_reducible exact H2_) | with_reducible exact H | (rw [hy227]; exact H) | exact H
               have Ny227 := Aside0.mk hy227
               clear hy227
               have H' := Aside0.mk H
               clear H
               have hnb63 := NB208_181.out
               have hnc63 := NB181_208.out
               have hnb64 := NB208_185.out
               have hnc64 := NB185_208.out
               have hnb65 := NB208_0.out
               have hnc65 := NB0_208.out
               have hcz66_0 : wc.cell? ⟨gb208, 0, none⟩ = some (.bool false) := (blk_cell BK208.out 0).trans rfl
               have hcz66_1 : wc.cell? ⟨gb208, 1, none⟩ = some (.int .i64 0) := (blk_cell BK208.out 1).trans rfl
               have hcz66_2 : wc.cell? ⟨gb208, 2, none⟩ = some (.int .i64 0) := (blk_cell BK208.out 2).trans rfl
               have hcz66_3 : wc.cell? ⟨gb208, 3, none⟩ = some (.int .i64 0) := (blk_cell BK208.out 3).trans rfl
               have hcz66_4 : wc.cell? ⟨gb208, 4, none⟩ = some (.int .i64 0) := (blk_cell BK208.out 4).trans rfl
               have hcz66_5 : wc.cell? ⟨gb208, 5, none⟩ = some (.int .i64 0) := (blk_cell BK208.out 5).trans rfl
               have hfz66_0 := blk_frozen BK208.out 0
               have hfz66_1 := blk_frozen BK208.out 1
               have hfz66_2 := blk_frozen BK208.out 2
               have hfz66_3 := blk_frozen BK208.out 3
               have hfz66_4 := blk_frozen BK208.out 4
               have hfz66_5 := blk_frozen BK208.out 5
               go_upto_region 20 with fail
               go_upto_region 21 with (first | ((with_reducible refine gate_callee (f := 45) rfl ?_); refine goesL_ (some 100) rfl rfl Try.func45 (by kernel_rfl) rfl #[.pointer (some ⟨g, 0, none⟩)] rfl (by (try simp only [List.map_toArray, List.map_cons, List.map_nil]); first | done | rfl | (simp only [List.length_drop, List.length_take]; rfl)) ?_; (with_reducible refine (sacristanref13_Reader_Num.calls kj46 g t210 x1001_46 t212 t213 t214 w0 _ ?side1 ?side2 A57.out).mono ?_); (case side1 => repeat (first | (with_reducible first | exact HI0.out | apply IsS84.alloc | apply IsS84.drewN | apply IsS84.drew | apply IsS84.set_0 | apply IsS84.set_1 | refine IsS84.far ?_ NB0_181.out _ | refine IsS84.far ?_ NB0_185.out _ | refine IsS84.far ?_ NB0_208.out _) | exact HI0.out)); (case side2 => repeat (first | (with_reducible first | exact HB.out | apply below_alloc | apply pw_below_drewN | apply below_drew1 | refine below_set ?_ (IsS84.ge HI0.out) | refine below_set ?_ GE181.out | refine below_set ?_ GE185.out | refine below_set ?_ GE208.out) | exact HB.out)); rintro e w67 ⟨rfl, hi, hb, hk⟩; refine ⟨_, rfl, ?_⟩; have n0_ := Aside0.mk (Kd.R_mono (Kd.R_keep (IsS84.apart (show IsS84 w0 _ g t210 x1001_46 from by repeat (first | (with_reducible first | exact HI0.out | apply IsS84.alloc | apply IsS84.drewN | apply IsS84.drew | apply IsS84.set_0 | apply IsS84.set_1 | refine IsS84.far ?_ NB0_181.out _ | refine IsS84.far ?_ NB0_185.out _ | refine IsS84.far ?_ NB0_208.out _) | exact HI0.out)) (by (with_reducible repeat (first | apply Kd.R_alloc | apply Kd.R_drewN | apply Kd.R_drew)); exact (Kd.R_mono (Kd.R_far (p := ⟨gb208, 0, none⟩) (Kd.R_types HO_186004.out BK208.out (by decide)) (fun _ hk => hk.2) (.bool (t209 == 1))) (fun _ h_ => h_.1))) (by decide)) hk (fun _ h => h.2)) (fun _ h => h.1)); have n1_ := Aside0.mk (Kd.R_mono (Kd.R_keep (IsS84.apart (show IsS84 w0 _ g t210 x1001_46 from by repeat (first | (with_reducible first | exact HI0.out | apply IsS84.alloc | apply IsS84.drewN | apply IsS84.drew | apply IsS84.set_0 | apply IsS84.set_1 | refine IsS84.far ?_ NB0_181.out _ | refine IsS84.far ?_ NB0_185.out _ | refine IsS84.far ?_ NB0_208.out _) | exact HI0.out)) (by (with_reducible repeat (first | apply Kd.R_alloc | apply Kd.R_drewN | apply Kd.R_drew)); exact (Kd.R_mono (Kd.R_far (p := ⟨gb208, 0, none⟩) (Kd.R_mono HO_186005.out (fun k_ hk => (⟨hk, hk⟩ : _ ∧ k_ ≠ gb208))) (fun _ hk => hk.2) (.bool (t209 == 1))) (fun _ h_ => h_.1))) (by decide)) hk (fun _ h => h.2)) (fun _ h => h.1)); have n2_ := Aside0.mk (KeepBut.blk hk (g' := gb181) (o := .cells #[.int .i64 0, .int .i64 0, .int .i64 0, .int .i64 0, .slice none 0 0, .slice none 0 0] 27 (0, 0)) (by (with_reducible repeat (first | refine blk_drewN ?_ _ | refine blk_drew ?_ | refine blk_alloc ?_ _)); refine blk_far ?_ NB181_208.out _; (with_reducible repeat (first | refine blk_drewN ?_ _ | refine blk_drew ?_ | refine blk_alloc ?_ _)); exact BK181.out) NB181_0.out (by simp)); have n3_ := Aside0.mk (KeepBut.blk hk (g' := gb185) (o := .cells #[.int .i64 t182, .int .i64 t186, .int .i64 t189, .int .i64 t192, u186004, u186005] 27 (0, 0)) (by (with_reducible repeat (first | refine blk_drewN ?_ _ | refine blk_drew ?_ | refine blk_alloc ?_ _)); refine blk_far ?_ NB185_208.out _; (with_reducible repeat (first | refine blk_drewN ?_ _ | refine blk_drew ?_ | refine blk_alloc ?_ _)); exact BK185.out) NB185_0.out (by simp)); have n4_ := Aside0.mk (KeepBut.blk hk (g' := gb208) (o := .cells #[.bool (t209 == 1), .int .i64 0, .int .i64 0, .int .i64 0, .int .i64 0, .int .i64 0] 90 (0, 0)) (by (with_reducible repeat (first | refine blk_drewN ?_ _ | refine blk_drew ?_ | refine blk_alloc ?_ _)); refine blk_put (cs := #[.bool false, .int .i64 0, .int .i64 0, .int .i64 0, .int .i64 0, .int .i64 0]) ?_ 0 _ rfl; (with_reducible repeat (first | refine blk_drewN ?_ _ | refine blk_drew ?_ | refine blk_alloc ?_ _)); exact BK208.out) NB208_0.out (by simp)); have n5_ := Aside0.mk (KeepBut.trans (by repeat (first | (with_reducible first | exact HK.out | apply KeepBut.set_ | apply keep_drewN | apply keep_drew | apply keep_alloc | refine keep_far ?_ GW181.out _ | refine keep_far ?_ GW185.out _ | refine keep_far ?_ GW208.out _) | exact HK.out)) hk (.inl rfl)); have n6_ := Aside0.mk (hb); have n7_ := Aside0.mk (hi); clear HO_186004; clear HO_186005; clear BK181; clear BK185; clear BK208; clear HK; clear HB; clear HI0; have HO_186004 := n0_; have HO_186005 := n1_; have BK181 := n2_; have BK185 := n3_; have BK208 := n4_; have HK := n5_; have HB := n6_; have HI0 := n7_; clear n0_ n1_ n2_ n3_ n4_ n5_ n6_ n7_; (try clear hb); (try clear hb2); (try clear hk); (try clear hi); have hcz68_0 : w67.cell? ⟨gb208, 0, none⟩ = some (.bool (t209 == 1)) := (blk_cell BK208.out 0).trans rfl; have hcz68_1 : w67.cell? ⟨gb208, 1, none⟩ = some (.int .i64 0) := (blk_cell BK208.out 1).trans rfl; have hcz68_2 : w67.cell? ⟨gb208, 2, none⟩ = some (.int .i64 0) := (blk_cell BK208.out 2).trans rfl; have hcz68_3 : w67.cell? ⟨gb208, 3, none⟩ = some (.int .i64 0) := (blk_cell BK208.out 3).trans rfl; have hcz68_4 : w67.cell? ⟨gb208, 4, none⟩ = some (.int .i64 0) := (blk_cell BK208.out 4).trans rfl; have hcz68_5 : w67.cell? ⟨gb208, 5, none⟩ = some (.int .i64 0) := (blk_cell BK208.out 5).trans rfl; have hfz68_0 := blk_frozen BK208.out 0; have hfz68_1 := blk_frozen BK208.out 1; have hfz68_2 := blk_frozen BK208.out 2; have hfz68_3 := blk_frozen BK208.out 3; have hfz68_4 := blk_frozen BK208.out 4; have hfz68_5 := blk_frozen BK208.out 5))
               go_upto_region 22 with (first | ((with_reducible refine gate_callee (f := 45) rfl ?_); refine goesL_ (some 104) rfl rfl Try.func45 (by kernel_rfl) rfl #[.pointer (some ⟨g, 0, none⟩)] rfl (by (try simp only [List.map_toArray, List.map_cons, List.map_nil]); first | done | rfl | (simp only [List.length_drop, List.length_take]; rfl)) ?_; (with_reducible refine (sacristanref13_Reader_Num.calls kj46 g t213 t214 t215 t216 t217 w0 _ ?side1 ?side2 A58.out).mono ?_); (case side1 => repeat (first | (with_reducible first | exact HI0.out | apply IsS84.alloc | apply IsS84.drewN | apply IsS84.drew | apply IsS84.set_0 | apply IsS84.set_1 | refine IsS84.far ?_ NB0_181.out _ | refine IsS84.far ?_ NB0_185.out _ | refine IsS84.far ?_ NB0_208.out _) | exact HI0.out)); (case side2 => repeat (first | (with_reducible first | exact HB.out | apply below_alloc | apply pw_below_drewN | apply below_drew1 | refine below_set ?_ (IsS84.ge HI0.out) | refine below_set ?_ GE181.out | refine below_set ?_ GE185.out | refine below_set ?_ GE208.out) | exact HB.out)); rintro e w69 ⟨rfl, hi, hb, hk⟩; refine ⟨_, rfl, ?_⟩; have n0_ := Aside0.mk (Kd.R_mono (Kd.R_keep (IsS84.apart (show IsS84 w0 _ g t213 t214 from by repeat (first | (with_reducible first | exact HI0.out | apply IsS84.alloc | apply IsS84.drewN | apply IsS84.drew | apply IsS84.set_0 | apply IsS84.set_1 | refine IsS84.far ?_ NB0_181.out _ | refine IsS84.far ?_ NB0_185.out _ | refine IsS84.far ?_ NB0_208.out _) | exact HI0.out)) (by (with_reducible repeat (first | apply Kd.R_alloc | apply Kd.R_drewN | apply Kd.R_drew)); exact (Kd.R_mono (Kd.R_far (p := ⟨gb208, 1, none⟩) (Kd.R_types HO_186004.out BK208.out (by decide)) (fun _ hk => hk.2) (.int .i64 t212)) (fun _ h_ => h_.1))) (by decide)) hk (fun _ h => h.2)) (fun _ h => h.1)); have n1_ := Aside0.mk (Kd.R_mono (Kd.R_keep (IsS84.apart (show IsS84 w0 _ g t213 t214 from by repeat (first | (with_reducible first | exact HI0.out | apply IsS84.alloc | apply IsS84.drewN | apply IsS84.drew | apply IsS84.set_0 | apply IsS84.set_1 | refine IsS84.far ?_ NB0_181.out _ | refine IsS84.far ?_ NB0_185.out _ | refine IsS84.far ?_ NB0_208.out _) | exact HI0.out)) (by (with_reducible repeat (first | apply Kd.R_alloc | apply Kd.R_drewN | apply Kd.R_drew)); exact (Kd.R_mono (Kd.R_far (p := ⟨gb208, 1, none⟩) (Kd.R_mono HO_186005.out (fun k_ hk => (⟨hk, hk⟩ : _ ∧ k_ ≠ gb208))) (fun _ hk => hk.2) (.int .i64 t212)) (fun _ h_ => h_.1))) (by decide)) hk (fun _ h => h.2)) (fun _ h => h.1)); have n2_ := Aside0.mk (KeepBut.blk hk (g' := gb181) (o := .cells #[.int .i64 0, .int .i64 0, .int .i64 0, .int .i64 0, .slice none 0 0, .slice none 0 0] 27 (0, 0)) (by (with_reducible repeat (first | refine blk_drewN ?_ _ | refine blk_drew ?_ | refine blk_alloc ?_ _)); refine blk_far ?_ NB181_208.out _; (with_reducible repeat (first | refine blk_drewN ?_ _ | refine blk_drew ?_ | refine blk_alloc ?_ _)); exact BK181.out) NB181_0.out (by simp)); have n3_ := Aside0.mk (KeepBut.blk hk (g' := gb185) (o := .cells #[.int .i64 t182, .int .i64 t186, .int .i64 t189, .int .i64 t192, u186004, u186005] 27 (0, 0)) (by (with_reducible repeat (first | refine blk_drewN ?_ _ | refine blk_drew ?_ | refine blk_alloc ?_ _)); refine blk_far ?_ NB185_208.out _; (with_reducible repeat (first | refine blk_drewN ?_ _ | refine blk_drew ?_ | refine blk_alloc ?_ _)); exact BK185.out) NB185_0.out (by simp)); have n4_ := Aside0.mk (KeepBut.blk hk (g' := gb208) (o := .cells #[.bool (t209 == 1), .int .i64 t212, .int .i64 0, .int .i64 0, .int .i64 0, .int .i64 0] 90 (0, 0)) (by (with_reducible repeat (first | refine blk_drewN ?_ _ | refine blk_drew ?_ | refine blk_alloc ?_ _)); refine blk_put (cs := #[.bool (t209 == 1), .int .i64 0, .int .i64 0, .int .i64 0, .int .i64 0, .int .i64 0]) ?_ 1 _ rfl; (with_reducible repeat (first | refine blk_drewN ?_ _ | refine blk_drew ?_ | refine blk_alloc ?_ _)); exact BK208.out) NB208_0.out (by simp)); have n5_ := Aside0.mk (KeepBut.trans (by repeat (first | (with_reducible first | exact HK.out | apply KeepBut.set_ | apply keep_drewN | apply keep_drew | apply keep_alloc | refine keep_far ?_ GW181.out _ | refine keep_far ?_ GW185.out _ | refine keep_far ?_ GW208.out _) | exact HK.out)) hk (.inl rfl)); have n6_ := Aside0.mk (hb); have n7_ := Aside0.mk (hi); clear HO_186004; clear HO_186005; clear BK181; clear BK185; clear BK208; clear HK; clear HB; clear HI0; have HO_186004 := n0_; have HO_186005 := n1_; have BK181 := n2_; have BK185 := n3_; have BK208 := n4_; have HK := n5_; have HB := n6_; have HI0 := n7_; clear n0_ n1_ n2_ n3_ n4_ n5_ n6_ n7_; (try clear hb); (try clear hb2); (try clear hk); (try clear hi); have hcz70_0 : w69.cell? ⟨gb208, 0, none⟩ = some (.bool (t209 == 1)) := (blk_cell BK208.out 0).trans rfl; have hcz70_1 : w69.cell? ⟨gb208, 1, none⟩ = some (.int .i64 t212) := (blk_cell BK208.out 1).trans rfl; have hcz70_2 : w69.cell? ⟨gb208, 2, none⟩ = some (.int .i64 0) := (blk_cell BK208.out 2).trans rfl; have hcz70_3 : w69.cell? ⟨gb208, 3, none⟩ = some (.int .i64 0) := (blk_cell BK208.out 3).trans rfl; have hcz70_4 : w69.cell? ⟨gb208, 4, none⟩ = some (.int .i64 0) := (blk_cell BK208.out 4).trans rfl; have hcz70_5 : w69.cell? ⟨gb208, 5, none⟩ = some (.int .i64 0) := (blk_cell BK208.out 5).trans rfl; have hfz70_0 := blk_frozen BK208.out 0; have hfz70_1 := blk_frozen BK208.out 1; have hfz70_2 := blk_frozen BK208.out 2; have hfz70_3 := blk_frozen BK208.out 3; have hfz70_4 := blk_frozen BK208.out 4; have hfz70_5 := blk_frozen BK208.out 5))
               go_upto_region 23 with (first | ((with_reducible refine gate_callee (f := 45) rfl ?_); refine goesL_ (some 108) rfl rfl Try.func45 (by kernel_rfl) rfl #[.pointer (some ⟨g, 0, none⟩)] rfl (by (try simp only [List.map_toArray, List.map_cons, List.map_nil]); first | done | rfl | (simp only [List.length_drop, List.length_take]; rfl)) ?_; (with_reducible refine (sacristanref13_Reader_Num.calls kj46 g t216 t217 t218 t219 t220 w0 _ ?side1 ?side2 A59.out).mono ?_); (case side1 => repeat (first | (with_reducible first | exact HI0.out | apply IsS84.alloc | apply IsS84.drewN | apply IsS84.drew | apply IsS84.set_0 | apply IsS84.set_1 | refine IsS84.far ?_ NB0_181.out _ | refine IsS84.far ?_ NB0_185.out _ | refine IsS84.far ?_ NB0_208.out _) | exact HI0.out)); (case side2 => repeat (first | (with_reducible first | exact HB.out | apply below_alloc | apply pw_below_drewN | apply below_drew1 | refine below_set ?_ (IsS84.ge HI0.out) | refine below_set ?_ GE181.out | refine below_set ?_ GE185.out | refine below_set ?_ GE208.out) | exact HB.out)); rintro e w71 ⟨rfl, hi, hb, hk⟩; refine ⟨_, rfl, ?_⟩; have n0_ := Aside0.mk (Kd.R_mono (Kd.R_keep (IsS84.apart (show IsS84 w0 _ g t216 t217 from by repeat (first | (with_reducible first | exact HI0.out | apply IsS84.alloc | apply IsS84.drewN | apply IsS84.drew | apply IsS84.set_0 | apply IsS84.set_1 | refine IsS84.far ?_ NB0_181.out _ | refine IsS84.far ?_ NB0_185.out _ | refine IsS84.far ?_ NB0_208.out _) | exact HI0.out)) (by (with_reducible repeat (first | apply Kd.R_alloc | apply Kd.R_drewN | apply Kd.R_drew)); exact (Kd.R_mono (Kd.R_far (p := ⟨gb208, 2, none⟩) (Kd.R_types HO_186004.out BK208.out (by decide)) (fun _ hk => hk.2) (.int .i64 t215)) (fun _ h_ => h_.1))) (by decide)) hk (fun _ h => h.2)) (fun _ h => h.1)); have n1_ := Aside0.mk (Kd.R_mono (Kd.R_keep (IsS84.apart (show IsS84 w0 _ g t216 t217 from by repeat (first | (with_reducible first | exact HI0.out | apply IsS84.alloc | apply IsS84.drewN | apply IsS84.drew | apply IsS84.set_0 | apply IsS84.set_1 | refine IsS84.far ?_ NB0_181.out _ | refine IsS84.far ?_ NB0_185.out _ | refine IsS84.far ?_ NB0_208.out _) | exact HI0.out)) (by (with_reducible repeat (first | apply Kd.R_alloc | apply Kd.R_drewN | apply Kd.R_drew)); exact (Kd.R_mono (Kd.R_far (p := ⟨gb208, 2, none⟩) (Kd.R_mono HO_186005.out (fun k_ hk => (⟨hk, hk⟩ : _ ∧ k_ ≠ gb208))) (fun _ hk => hk.2) (.int .i64 t215)) (fun _ h_ => h_.1))) (by decide)) hk (fun _ h => h.2)) (fun _ h => h.1)); have n2_ := Aside0.mk (KeepBut.blk hk (g' := gb181) (o := .cells #[.int .i64 0, .int .i64 0, .int .i64 0, .int .i64 0, .slice none 0 0, .slice none 0 0] 27 (0, 0)) (by (with_reducible repeat (first | refine blk_drewN ?_ _ | refine blk_drew ?_ | refine blk_alloc ?_ _)); refine blk_far ?_ NB181_208.out _; (with_reducible repeat (first | refine blk_drewN ?_ _ | refine blk_drew ?_ | refine blk_alloc ?_ _)); exact BK181.out) NB181_0.out (by simp)); have n3_ := Aside0.mk (KeepBut.blk hk (g' := gb185) (o := .cells #[.int .i64 t182, .int .i64 t186, .int .i64 t189, .int .i64 t192, u186004, u186005] 27 (0, 0)) (by (with_reducible repeat (first | refine blk_drewN ?_ _ | refine blk_drew ?_ | refine blk_alloc ?_ _)); refine blk_far ?_ NB185_208.out _; (with_reducible repeat (first | refine blk_drewN ?_ _ | refine blk_drew ?_ | refine blk_alloc ?_ _)); exact BK185.out) NB185_0.out (by simp)); have n4_ := Aside0.mk (KeepBut.blk hk (g' := gb208) (o := .cells #[.bool (t209 == 1), .int .i64 t212, .int .i64 t215, .int .i64 0, .int .i64 0, .int .i64 0] 90 (0, 0)) (by (with_reducible repeat (first | refine blk_drewN ?_ _ | refine blk_drew ?_ | refine blk_alloc ?_ _)); refine blk_put (cs := #[.bool (t209 == 1), .int .i64 t212, .int .i64 0, .int .i64 0, .int .i64 0, .int .i64 0]) ?_ 2 _ rfl; (with_reducible repeat (first | refine blk_drewN ?_ _ | refine blk_drew ?_ | refine blk_alloc ?_ _)); exact BK208.out) NB208_0.out (by simp)); have n5_ := Aside0.mk (KeepBut.trans (by repeat (first | (with_reducible first | exact HK.out | apply KeepBut.set_ | apply keep_drewN | apply keep_drew | apply keep_alloc | refine keep_far ?_ GW181.out _ | refine keep_far ?_ GW185.out _ | refine keep_far ?_ GW208.out _) | exact HK.out)) hk (.inl rfl)); have n6_ := Aside0.mk (hb); have n7_ := Aside0.mk (hi); clear HO_186004; clear HO_186005; clear BK181; clear BK185; clear BK208; clear HK; clear HB; clear HI0; have HO_186004 := n0_; have HO_186005 := n1_; have BK181 := n2_; have BK185 := n3_; have BK208 := n4_; have HK := n5_; have HB := n6_; have HI0 := n7_; clear n0_ n1_ n2_ n3_ n4_ n5_ n6_ n7_; (try clear hb); (try clear hb2); (try clear hk); (try clear hi); have hcz72_0 : w71.cell? ⟨gb208, 0, none⟩ = some (.bool (t209 == 1)) := (blk_cell BK208.out 0).trans rfl; have hcz72_1 : w71.cell? ⟨gb208, 1, none⟩ = some (.int .i64 t212) := (blk_cell BK208.out 1).trans rfl; have hcz72_2 : w71.cell? ⟨gb208, 2, none⟩ = some (.int .i64 t215) := (blk_cell BK208.out 2).trans rfl; have hcz72_3 : w71.cell? ⟨gb208, 3, none⟩ = some (.int .i64 0) := (blk_cell BK208.out 3).trans rfl; have hcz72_4 : w71.cell? ⟨gb208, 4, none⟩ = some (.int .i64 0) := (blk_cell BK208.out 4).trans rfl; have hcz72_5 : w71.cell? ⟨gb208, 5, none⟩ = some (.int .i64 0) := (blk_cell BK208.out 5).trans rfl; have hfz72_0 := blk_frozen BK208.out 0; have hfz72_1 := blk_frozen BK208.out 1; have hfz72_2 := blk_frozen BK208.out 2; have hfz72_3 := blk_frozen BK208.out 3; have hfz72_4 := blk_frozen BK208.out 4; have hfz72_5 := blk_frozen BK208.out 5))
               go_upto_region 24 with (first | ((with_reducible refine gate_callee (f := 45) rfl ?_); refine goesL_ (some 112) rfl rfl Try.func45 (by kernel_rfl) rfl #[.pointer (some ⟨g, 0, none⟩)] rfl (by (try simp only [List.map_toArray, List.map_cons, List.map_nil]); first | done | rfl | (simp only [List.length_drop, List.length_take]; rfl)) ?_; (with_reducible refine (sacristanref13_Reader_Num.calls kj46 g t219 t220 t221 t222 t223 w0 _ ?side1 ?side2 A60.out).mono ?_); (case side1 => repeat (first | (with_reducible first | exact HI0.out | apply IsS84.alloc | apply IsS84.drewN | apply IsS84.drew | apply IsS84.set_0 | apply IsS84.set_1 | refine IsS84.far ?_ NB0_181.out _ | refine IsS84.far ?_ NB0_185.out _ | refine IsS84.far ?_ NB0_208.out _) | exact HI0.out)); (case side2 => repeat (first | (with_reducible first | exact HB.out | apply below_alloc | apply pw_below_drewN | apply below_drew1 | refine below_set ?_ (IsS84.ge HI0.out) | refine below_set ?_ GE181.out | refine below_set ?_ GE185.out | refine below_set ?_ GE208.out) | exact HB.out)); rintro e w73 ⟨rfl, hi, hb, hk⟩; refine ⟨_, rfl, ?_⟩; have n0_ := Aside0.mk (Kd.R_mono (Kd.R_keep (IsS84.apart (show IsS84 w0 _ g t219 t220 from by repeat (first | (with_reducible first | exact HI0.out | apply IsS84.alloc | apply IsS84.drewN | apply IsS84.drew | apply IsS84.set_0 | apply IsS84.set_1 | refine IsS84.far ?_ NB0_181.out _ | refine IsS84.far ?_ NB0_185.out _ | refine IsS84.far ?_ NB0_208.out _) | exact HI0.out)) (by (with_reducible repeat (first | apply Kd.R_alloc | apply Kd.R_drewN | apply Kd.R_drew)); exact (Kd.R_mono (Kd.R_far (p := ⟨gb208, 3, none⟩) (Kd.R_types HO_186004.out BK208.out (by decide)) (fun _ hk => hk.2) (.int .i64 t218)) (fun _ h_ => h_.1))) (by decide)) hk (fun _ h => h.2)) (fun _ h => h.1)); have n1_ := Aside0.mk (Kd.R_mono (Kd.R_keep (IsS84.apart (show IsS84 w0 _ g t219 t220 from by repeat (first | (with_reducible first | exact HI0.out | apply IsS84.alloc | apply IsS84.drewN | apply IsS84.drew | apply IsS84.set_0 | apply IsS84.set_1 | refine IsS84.far ?_ NB0_181.out _ | refine IsS84.far ?_ NB0_185.out _ | refine IsS84.far ?_ NB0_208.out _) | exact HI0.out)) (by (with_reducible repeat (first | apply Kd.R_alloc | apply Kd.R_drewN | apply Kd.R_drew)); exact (Kd.R_mono (Kd.R_far (p := ⟨gb208, 3, none⟩) (Kd.R_mono HO_186005.out (fun k_ hk => (⟨hk, hk⟩ : _ ∧ k_ ≠ gb208))) (fun _ hk => hk.2) (.int .i64 t218)) (fun _ h_ => h_.1))) (by decide)) hk (fun _ h => h.2)) (fun _ h => h.1)); have n2_ := Aside0.mk (KeepBut.blk hk (g' := gb181) (o := .cells #[.int .i64 0, .int .i64 0, .int .i64 0, .int .i64 0, .slice none 0 0, .slice none 0 0] 27 (0, 0)) (by (with_reducible repeat (first | refine blk_drewN ?_ _ | refine blk_drew ?_ | refine blk_alloc ?_ _)); refine blk_far ?_ NB181_208.out _; (with_reducible repeat (first | refine blk_drewN ?_ _ | refine blk_drew ?_ | refine blk_alloc ?_ _)); exact BK181.out) NB181_0.out (by simp)); have n3_ := Aside0.mk (KeepBut.blk hk (g' := gb185) (o := .cells #[.int .i64 t182, .int .i64 t186, .int .i64 t189, .int .i64 t192, u186004, u186005] 27 (0, 0)) (by (with_reducible repeat (first | refine blk_drewN ?_ _ | refine blk_drew ?_ | refine blk_alloc ?_ _)); refine blk_far ?_ NB185_208.out _; (with_reducible repeat (first | refine blk_drewN ?_ _ | refine blk_drew ?_ | refine blk_alloc ?_ _)); exact BK185.out) NB185_0.out (by simp)); have n4_ := Aside0.mk (KeepBut.blk hk (g' := gb208) (o := .cells #[.bool (t209 == 1), .int .i64 t212, .int .i64 t215, .int .i64 t218, .int .i64 0, .int .i64 0] 90 (0, 0)) (by (with_reducible repeat (first | refine blk_drewN ?_ _ | refine blk_drew ?_ | refine blk_alloc ?_ _)); refine blk_put (cs := #[.bool (t209 == 1), .int .i64 t212, .int .i64 t215, .int .i64 0, .int .i64 0, .int .i64 0]) ?_ 3 _ rfl; (with_reducible repeat (first | refine blk_drewN ?_ _ | refine blk_drew ?_ | refine blk_alloc ?_ _)); exact BK208.out) NB208_0.out (by simp)); have n5_ := Aside0.mk (KeepBut.trans (by repeat (first | (with_reducible first | exact HK.out | apply KeepBut.set_ | apply keep_drewN | apply keep_drew | apply keep_alloc | refine keep_far ?_ GW181.out _ | refine keep_far ?_ GW185.out _ | refine keep_far ?_ GW208.out _) | exact HK.out)) hk (.inl rfl)); have n6_ := Aside0.mk (hb); have n7_ := Aside0.mk (hi); clear HO_186004; clear HO_186005; clear BK181; clear BK185; clear BK208; clear HK; clear HB; clear HI0; have HO_186004 := n0_; have HO_186005 := n1_; have BK181 := n2_; have BK185 := n3_; have BK208 := n4_; have HK := n5_; have HB := n6_; have HI0 := n7_; clear n0_ n1_ n2_ n3_ n4_ n5_ n6_ n7_; (try clear hb); (try clear hb2); (try clear hk); (try clear hi); have hcz74_0 : w73.cell? ⟨gb208, 0, none⟩ = some (.bool (t209 == 1)) := (blk_cell BK208.out 0).trans rfl; have hcz74_1 : w73.cell? ⟨gb208, 1, none⟩ = some (.int .i64 t212) := (blk_cell BK208.out 1).trans rfl; have hcz74_2 : w73.cell? ⟨gb208, 2, none⟩ = some (.int .i64 t215) := (blk_cell BK208.out 2).trans rfl; have hcz74_3 : w73.cell? ⟨gb208, 3, none⟩ = some (.int .i64 t218) := (blk_cell BK208.out 3).trans rfl; have hcz74_4 : w73.cell? ⟨gb208, 4, none⟩ = some (.int .i64 0) := (blk_cell BK208.out 4).trans rfl; have hcz74_5 : w73.cell? ⟨gb208, 5, none⟩ = some (.int .i64 0) := (blk_cell BK208.out 5).trans rfl; have hfz74_0 := blk_frozen BK208.out 0; have hfz74_1 := blk_frozen BK208.out 1; have hfz74_2 := blk_frozen BK208.out 2; have hfz74_3 := blk_frozen BK208.out 3; have hfz74_4 := blk_frozen BK208.out 4; have hfz74_5 := blk_frozen BK208.out 5))
               go_upto_region 25 with (first | ((with_reducible refine gate_callee (f := 45) rfl ?_); refine goesL_ (some 116) rfl rfl Try.func45 (by kernel_rfl) rfl #[.pointer (some ⟨g, 0, none⟩)] rfl (by (try simp only [List.map_toArray, List.map_cons, List.map_nil]); first | done | rfl | (simp only [List.length_drop, List.length_take]; rfl)) ?_; (with_reducible refine (sacristanref13_Reader_Num.calls kj46 g t222 t223 t224 t225 t226 w0 _ ?side1 ?side2 A61.out).mono ?_); (case side1 => repeat (first | (with_reducible first | exact HI0.out | apply IsS84.alloc | apply IsS84.drewN | apply IsS84.drew | apply IsS84.set_0 | apply IsS84.set_1 | refine IsS84.far ?_ NB0_181.out _ | refine IsS84.far ?_ NB0_185.out _ | refine IsS84.far ?_ NB0_208.out _) | exact HI0.out)); (case side2 => repeat (first | (with_reducible first | exact HB.out | apply below_alloc | apply pw_below_drewN | apply below_drew1 | refine below_set ?_ (IsS84.ge HI0.out) | refine below_set ?_ GE181.out | refine below_set ?_ GE185.out | refine below_set ?_ GE208.out) | exact HB.out)); rintro e w75 ⟨rfl, hi, hb, hk⟩; refine ⟨_, rfl, ?_⟩; have n0_ := Aside0.mk (Kd.R_mono (Kd.R_keep (IsS84.apart (show IsS84 w0 _ g t222 t223 from by repeat (first | (with_reducible first | exact HI0.out | apply IsS84.alloc | apply IsS84.drewN | apply IsS84.drew | apply IsS84.set_0 | apply IsS84.set_1 | refine IsS84.far ?_ NB0_181.out _ | refine IsS84.far ?_ NB0_185.out _ | refine IsS84.far ?_ NB0_208.out _) | exact HI0.out)) (by (with_reducible repeat (first | apply Kd.R_alloc | apply Kd.R_drewN | apply Kd.R_drew)); exact (Kd.R_mono (Kd.R_far (p := ⟨gb208, 4, none⟩) (Kd.R_types HO_186004.out BK208.out (by decide)) (fun _ hk => hk.2) (.int .i64 t221)) (fun _ h_ => h_.1))) (by decide)) hk (fun _ h => h.2)) (fun _ h => h.1)); have n1_ := Aside0.mk (Kd.R_mono (Kd.R_keep (IsS84.apart (show IsS84 w0 _ g t222 t223 from by repeat (first | (with_reducible first | exact HI0.out | apply IsS84.alloc | apply IsS84.drewN | apply IsS84.drew | apply IsS84.set_0 | apply IsS84.set_1 | refine IsS84.far ?_ NB0_181.out _ | refine IsS84.far ?_ NB0_185.out _ | refine IsS84.far ?_ NB0_208.out _) | exact HI0.out)) (by (with_reducible repeat (first | apply Kd.R_alloc | apply Kd.R_drewN | apply Kd.R_drew)); exact (Kd.R_mono (Kd.R_far (p := ⟨gb208, 4, none⟩) (Kd.R_mono HO_186005.out (fun k_ hk => (⟨hk, hk⟩ : _ ∧ k_ ≠ gb208))) (fun _ hk => hk.2) (.int .i64 t221)) (fun _ h_ => h_.1))) (by decide)) hk (fun _ h => h.2)) (fun _ h => h.1)); have n2_ := Aside0.mk (KeepBut.blk hk (g' := gb181) (o := .cells #[.int .i64 0, .int .i64 0, .int .i64 0, .int .i64 0, .slice none 0 0, .slice none 0 0] 27 (0, 0)) (by (with_reducible repeat (first | refine blk_drewN ?_ _ | refine blk_drew ?_ | refine blk_alloc ?_ _)); refine blk_far ?_ NB181_208.out _; (with_reducible repeat (first | refine blk_drewN ?_ _ | refine blk_drew ?_ | refine blk_alloc ?_ _)); exact BK181.out) NB181_0.out (by simp)); have n3_ := Aside0.mk (KeepBut.blk hk (g' := gb185) (o := .cells #[.int .i64 t182, .int .i64 t186, .int .i64 t189, .int .i64 t192, u186004, u186005] 27 (0, 0)) (by (with_reducible repeat (first | refine blk_drewN ?_ _ | refine blk_drew ?_ | refine blk_alloc ?_ _)); refine blk_far ?_ NB185_208.out _; (with_reducible repeat (first | refine blk_drewN ?_ _ | refine blk_drew ?_ | refine blk_alloc ?_ _)); exact BK185.out) NB185_0.out (by simp)); have n4_ := Aside0.mk (KeepBut.blk hk (g' := gb208) (o := .cells #[.bool (t209 == 1), .int .i64 t212, .int .i64 t215, .int .i64 t218, .int .i64 t221, .int .i64 0] 90 (0, 0)) (by (with_reducible repeat (first | refine blk_drewN ?_ _ | refine blk_drew ?_ | refine blk_alloc ?_ _)); refine blk_put (cs := #[.bool (t209 == 1), .int .i64 t212, .int .i64 t215, .int .i64 t218, .int .i64 0, .int .i64 0]) ?_ 4 _ rfl; (with_reducible repeat (first | refine blk_drewN ?_ _ | refine blk_drew ?_ | refine blk_alloc ?_ _)); exact BK208.out) NB208_0.out (by simp)); have n5_ := Aside0.mk (KeepBut.trans (by repeat (first | (with_reducible first | exact HK.out | apply KeepBut.set_ | apply keep_drewN | apply keep_drew | apply keep_alloc | refine keep_far ?_ GW181.out _ | refine keep_far ?_ GW185.out _ | refine keep_far ?_ GW208.out _) | exact HK.out)) hk (.inl rfl)); have n6_ := Aside0.mk (hb); have n7_ := Aside0.mk (hi); clear HO_186004; clear HO_186005; clear BK181; clear BK185; clear BK208; clear HK; clear HB; clear HI0; have HO_186004 := n0_; have HO_186005 := n1_; have BK181 := n2_; have BK185 := n3_; have BK208 := n4_; have HK := n5_; have HB := n6_; have HI0 := n7_; clear n0_ n1_ n2_ n3_ n4_ n5_ n6_ n7_; (try clear hb); (try clear hb2); (try clear hk); (try clear hi); have hcz76_0 : w75.cell? ⟨gb208, 0, none⟩ = some (.bool (t209 == 1)) := (blk_cell BK208.out 0).trans rfl; have hcz76_1 : w75.cell? ⟨gb208, 1, none⟩ = some (.int .i64 t212) := (blk_cell BK208.out 1).trans rfl; have hcz76_2 : w75.cell? ⟨gb208, 2, none⟩ = some (.int .i64 t215) := (blk_cell BK208.out 2).trans rfl; have hcz76_3 : w75.cell? ⟨gb208, 3, none⟩ = some (.int .i64 t218) := (blk_cell BK208.out 3).trans rfl; have hcz76_4 : w75.cell? ⟨gb208, 4, none⟩ = some (.int .i64 t221) := (blk_cell BK208.out 4).trans rfl; have hcz76_5 : w75.cell? ⟨gb208, 5, none⟩ = some (.int .i64 0) := (blk_cell BK208.out 5).trans rfl; have hfz76_0 := blk_frozen BK208.out 0; have hfz76_1 := blk_frozen BK208.out 1; have hfz76_2 := blk_frozen BK208.out 2; have hfz76_3 := blk_frozen BK208.out 3; have hfz76_4 := blk_frozen BK208.out 4; have hfz76_5 := blk_frozen BK208.out 5; have hnb77 := NB185_181.out; have hnc77 := NB181_185.out; have hnb78 := NB185_0.out; have hnc78 := NB0_185.out; have hcz79_0 : w75.cell? ⟨gb185, 0, none⟩ = some (.int .i64 t182) := (blk_cell BK185.out 0).trans rfl; have hcz79_1 : w75.cell? ⟨gb185, 1, none⟩ = some (.int .i64 t186) := (blk_cell BK185.out 1).trans rfl; have hcz79_2 : w75.cell? ⟨gb185, 2, none⟩ = some (.int .i64 t189) := (blk_cell BK185.out 2).trans rfl; have hcz79_3 : w75.cell? ⟨gb185, 3, none⟩ = some (.int .i64 t192) := (blk_cell BK185.out 3).trans rfl; have hcz79_4 : w75.cell? ⟨gb185, 4, none⟩ = some (u186004) := (blk_cell BK185.out 4).trans rfl; have hcz79_5 : w75.cell? ⟨gb185, 5, none⟩ = some (u186005) := (blk_cell BK185.out 5).trans rfl; have hfz79_0 := blk_frozen BK185.out 0; have hfz79_1 := blk_frozen BK185.out 1; have hfz79_2 := blk_frozen BK185.out 2; have hfz79_3 := blk_frozen BK185.out 3; have hfz79_4 := blk_frozen BK185.out 4; have hfz79_5 := blk_frozen BK185.out 5))
               go_upto_region 15 with (first | ((with_reducible refine gate_builtin (b := .append) (xs := #[.tmp 119, .tmp 121]) rfl ?_); at_builtin; refine Kd.R_append k90 w.heap.size rfl (.tmp 119) (.tmp 121) 25 90 (.agg #[(.bool false), (.int .i64 0), (.int .i64 0), (.int .i64 0), (.int .i64 0), (.int .i64 0)]) 48 rfl Try.underlying25 info90 rfl (by decide) (by omega) u186005 x186005_4 (⟨(⟨(t209 == 1), t212, t215, t218, t221⟩ : S88), t224⟩ : S90) [.bool (t209 == 1), .int .i64 t212, .int .i64 t215, .int .i64 t218, .int .i64 t221, .int .i64 t224] (fun k_ => k_ ≠ gb208) (fun _ => False) rfl (by first | (go_simp; done) | (go_simp; rfl)) ?aP (fun _ hk => hk.elim) ?aF ?aO (Below.refl _ _) ?aS ?aL ?_; (case aP => exact k90_mkM _ _ _ (⟨(⟨(t209 == 1), t212, t215, t218, t221⟩ : S88), t224⟩ : S90)); (case aF => exact (fun k_ hk => Kd.freshB (g := gb208) (o := .cells #[.bool (t209 == 1), .int .i64 t212, .int .i64 t215, .int .i64 t218, .int .i64 t221, .int .i64 t224] 90 (0, 0)) (by (with_reducible repeat (first | refine blk_drewN ?_ _ | refine blk_drew ?_ | refine blk_alloc ?_ _)); refine blk_put (cs := #[.bool (t209 == 1), .int .i64 t212, .int .i64 t215, .int .i64 t218, .int .i64 t221, .int .i64 0]) ?_ 5 _ rfl; (with_reducible repeat (first | refine blk_drewN ?_ _ | refine blk_drew ?_ | refine blk_alloc ?_ _)); exact BK208.out) k_ hk)); (case aO => exact (by (with_reducible repeat (first | apply Kd.R_alloc | apply Kd.R_drewN | apply Kd.R_drew)); exact Kd.R_mono (Kd.R_far (p := ⟨gb208, 5, none⟩) (Kd.R_mono HO_186005.out (fun k_ hk => (⟨hk, hk⟩ : _ ∧ k_ ≠ gb208))) (fun _ hk => hk.2) (.int .i64 t224)) (fun _ hk => hk.1))); (case aS => exact (keep_size (w := w) (g := g) (row := none) (by repeat (first | (with_reducible first | exact HK.out | apply KeepBut.set_ | apply keep_drewN | apply keep_drew | apply keep_alloc | refine keep_far ?_ GW181.out _ | refine keep_far ?_ GW185.out _ | refine keep_far ?_ GW208.out _) | exact HK.out)))); (case aL => have := LMc62.out; omega); intro v228 w80 ho hb hg hat; rw [← Ny227.out] at ho; have n0_ := Aside0.mk (Kd.R_over' (by (with_reducible repeat (first | apply Kd.R_alloc | apply Kd.R_drewN | apply Kd.R_drew)); exact (Kd.R_mono (Kd.R_far (p := ⟨gb208, 5, none⟩) (Kd.R_types HO_186004.out BK208.out (by decide)) (fun _ hk => hk.2) (.int .i64 t224)) (fun _ h_ => h_.1))) (Kd.R_typed (by (with_reducible repeat (first | apply Kd.R_alloc | apply Kd.R_drewN | apply Kd.R_drew)); exact (Kd.R_mono (Kd.R_far (p := ⟨gb208, 5, none⟩) (Kd.R_mono HO_186005.out (fun k_ hk => (⟨hk, hk⟩ : _ ∧ k_ ≠ gb208))) (fun _ hk => hk.2) (.int .i64 t224)) (fun _ h_ => h_.1)))) (by decide) hg); have n1_ := Aside0.mk (blk_grown (g := gb181) (o := .cells #[.int .i64 0, .int .i64 0, .int .i64 0, .int .i64 0, .slice none 0 0, .slice none 0 0] 27 (0, 0)) (by (with_reducible repeat (first | refine blk_drewN ?_ _ | refine blk_drew ?_ | refine blk_alloc ?_ _)); refine blk_far ?_ NB181_208.out _; (with_reducible repeat (first | refine blk_drewN ?_ _ | refine blk_drew ?_ | refine blk_alloc ?_ _)); exact BK181.out) hg (Kd.R_ne HO_186005.out BK181.out (by decide))); have n2_ := Aside0.mk (blk_grown (g := gb185) (o := .cells #[.int .i64 t182, .int .i64 t186, .int .i64 t189, .int .i64 t192, u186004, u186005] 27 (0, 0)) (by (with_reducible repeat (first | refine blk_drewN ?_ _ | refine blk_drew ?_ | refine blk_alloc ?_ _)); refine blk_far ?_ NB185_208.out _; (with_reducible repeat (first | refine blk_drewN ?_ _ | refine blk_drew ?_ | refine blk_alloc ?_ _)); exact BK185.out) hg (Kd.R_ne HO_186005.out BK185.out (by decide))); have n3_ := Aside0.mk (blk_grown (g := gb208) (o := .cells #[.bool (t209 == 1), .int .i64 t212, .int .i64 t215, .int .i64 t218, .int .i64 t221, .int .i64 t224] 90 (0, 0)) (by (with_reducible repeat (first | refine blk_drewN ?_ _ | refine blk_drew ?_ | refine blk_alloc ?_ _)); refine blk_put (cs := #[.bool (t209 == 1), .int .i64 t212, .int .i64 t215, .int .i64 t218, .int .i64 t221, .int .i64 0]) ?_ 5 _ rfl; (with_reducible repeat (first | refine blk_drewN ?_ _ | refine blk_drew ?_ | refine blk_alloc ?_ _)); exact BK208.out) hg (Kd.R_away HO_186005.out (fun _ hk => hk))); have n4_ := Aside0.mk (IsS84.grown (IsS84.far HI0.out NB0_208.out (p := ⟨gb208, 5, none⟩) (.int .i64 t224)) hg (IsS84.own_ne HI0.out HO_186005.out (by decide))); have n5_ := Aside0.mk (below_weaken (below_set HB.out GE208.out (j := 5) (v := .int .i64 t224)) HL.out hb); have n6_ := Aside0.mk (KeepBut.trans (keep_far HK.out GW208.out (.int .i64 t224) (p := ⟨gb208, 5, none⟩)) (KeepBut.of_grown hg g) (Kd.R_base2 HO_186005.out)); have n7_ := Aside0.mk (ho); clear HO_186004; clear BK181; clear BK185; clear BK208; clear HI0; clear HB; clear HK; clear HO_186005; have HO_186004 := n0_; have BK181 := n1_; have BK185 := n2_; have BK208 := n3_; have HI0 := n4_; have HB := n5_; have HK := n6_; have HO229 := n7_; clear n0_ n1_ n2_ n3_ n4_ n5_ n6_ n7_; clear ho hb hg hat; obtain ⟨Ao81, co81, eo81⟩ := Kd.R_slice HO229.out; subst eo81; have hcz82_0 : w80.cell? ⟨gb185, 0, none⟩ = some (.int .i64 t182) := (blk_cell BK185.out 0).trans rfl; have hcz82_1 : w80.cell? ⟨gb185, 1, none⟩ = some (.int .i64 t186) := (blk_cell BK185.out 1).trans rfl; have hcz82_2 : w80.cell? ⟨gb185, 2, none⟩ = some (.int .i64 t189) := (blk_cell BK185.out 2).trans rfl; have hcz82_3 : w80.cell? ⟨gb185, 3, none⟩ = some (.int .i64 t192) := (blk_cell BK185.out 3).trans rfl; have hcz82_4 : w80.cell? ⟨gb185, 4, none⟩ = some (u186004) := (blk_cell BK185.out 4).trans rfl; have hcz82_5 : w80.cell? ⟨gb185, 5, none⟩ = some (u186005) := (blk_cell BK185.out 5).trans rfl; have hfz82_0 := blk_frozen BK185.out 0; have hfz82_1 := blk_frozen BK185.out 1; have hfz82_2 := blk_frozen BK185.out 2; have hfz82_3 := blk_frozen BK185.out 3; have hfz82_4 := blk_frozen BK185.out 4; have hfz82_5 := blk_frozen BK185.out 5))
               go_wp2
               go_roundg kj46
               case measure => have := HJ6.out; have := HJ23.out; have := HJ36.out; have := HK4.out; have := HJ41.out; have := HJ46.out; omega
               case rel => exact ⟨(wrap64 (x6_4 + 1)), (t225), (t226), (y227), (.slice Ao81 y227.length co81), (by first | rfl | (simp; done) | (simp [*]; done)), H', ⟨by have := HJ6.out; have := HJ23.out; have := HJ36.out; have := HK4.out; have := HJ41.out; have := HJ46.out; omega⟩, ⟨by (with_reducible repeat (first | apply Kd.R_alloc | apply Kd.R_drewN | apply Kd.R_drew)); exact Kd.R_mono (Kd.R_far (p := ⟨gb185, 5, none⟩) (Kd.R_types HO_186004.out BK185.out (by decide)) (fun _ hk => hk.2) (.slice Ao81 y227.length co81)) (fun _ hk => trivial)⟩, ⟨by (with_reducible repeat (first | apply Kd.R_alloc | apply Kd.R_drewN | apply Kd.R_drew)); exact Kd.R_mono (Kd.R_far (p := ⟨gb185, 5, none⟩) (Kd.R_types HO229.out BK185.out (by decide)) (fun _ hk => hk.2) (.slice Ao81 y227.length co81)) (fun _ hk => trivial)⟩, ⟨by (with_reducible repeat (first | refine blk_drewN ?_ _ | refine blk_drew ?_ | refine blk_alloc ?_ _)); refine blk_far ?_ NB181_185.out _; (with_reducible repeat (first | refine blk_drewN ?_ _ | refine blk_drew ?_ | refine blk_alloc ?_ _)); exact BK181.out⟩, ⟨by (with_reducible repeat (first | refine blk_drewN ?_ _ | refine blk_drew ?_ | refine blk_alloc ?_ _)); refine blk_put (cs := #[.int .i64 t182, .int .i64 t186, .int .i64 t189, .int .i64 t192, u186004, u186005]) ?_ 5 _ rfl; (with_reducible repeat (first | refine blk_drewN ?_ _ | refine blk_drew ?_ | refine blk_alloc ?_ _)); exact BK185.out⟩, ⟨by repeat (first | (with_reducible first | exact HI0.out | apply IsS84.alloc | apply IsS84.drewN | apply IsS84.drew | apply IsS84.set_0 | apply IsS84.set_1 | refine IsS84.far ?_ NB0_181.out _ | refine IsS84.far ?_ NB0_185.out _ | refine IsS84.far ?_ NB0_208.out _) | exact HI0.out)⟩, ⟨by repeat (first | (with_reducible first | exact HK.out | apply KeepBut.set_ | apply keep_drewN | apply keep_drew | apply keep_alloc | refine keep_far ?_ GW181.out _ | refine keep_far ?_ GW185.out _ | refine keep_far ?_ GW208.out _) | exact HK.out)⟩, ⟨by repeat (first | (with_reducible first | exact HB.out | apply below_alloc | apply pw_below_drewN | apply below_drew1 | refine below_set ?_ (IsS84.ge HI0.out) | refine below_set ?_ GE181.out | refine below_set ?_ GE185.out | refine below_set ?_ GE208.out) | exact HB.out)⟩⟩
              ·rw [if_neg c62] at H
               exact absurd H (by simp)
           ·replace c45 := Bool.eq_false_iff.mpr c45
            subst c45
            have H1 : (if x1001_4 = true then (some (t182, t186, t189, t192, x186004_23, x186005_4, x1000_4, true)) else ((sacristanref13_Check.f kj41 t182 t186 t189 t192 x186004_23 x186005_4).bind fun t207 => (some (t182, t186, t189, t192, x186004_23, x186005_4, x1000_4, (t207 != 0))))) = some (r1, r2, r3, r4, r5, r6, r7, r8) := by rw [if_neg (show ¬ (false = true) by decide)] at H; exact H
            clear H
            have H := H1
            clear H1
            by_cases c83 : x1001_4 = true
            ·subst c83
             have H1 : (some (t182, t186, t189, t192, x186004_23, x186005_4, x1000_4, true)) = some (r1, r2, r3, r4, r5, r6, r7, r8) := by rw [if_pos rfl] at H; exact H
             clear H
             have H := H1
             clear H1
             simp only [Option.some.injEq, Prod.mk.injEq] at H
             obtain ⟨rfl, rfl, rfl, rfl, rfl, rfl, rfl, rfl⟩ := H
             obtain ⟨HGz84, hgz84⟩ := HI0.out
             have hcz84_0 := cellS84_0 HGz84
             have hcz84_1 := cellS84_1 HGz84
             have hfz84_0 := blk_frozen HGz84 0
             have hfz84_1 := blk_frozen HGz84 1
             clear HGz84 hgz84
             have hnb85 := NB185_181.out
             have hnc85 := NB181_185.out
             have hnb86 := NB185_0.out
             have hnc86 := NB0_185.out
             have hcz87_0 : wc.cell? ⟨gb185, 0, none⟩ = some (.int .i64 t182) := (blk_cell BK185.out 0).trans rfl
             have hcz87_1 : wc.cell? ⟨gb185, 1, none⟩ = some (.int .i64 t186) := (blk_cell BK185.out 1).trans rfl
             have hcz87_2 : wc.cell? ⟨gb185, 2, none⟩ = some (.int .i64 t189) := (blk_cell BK185.out 2).trans rfl
             have hcz87_3 : wc.cell? ⟨gb185, 3, none⟩ = some (.int .i64 t192) := (blk_cell BK185.out 3).trans rfl
             have hcz87_4 : wc.cell? ⟨gb185, 4, none⟩ = some (u186004) := (blk_cell BK185.out 4).trans rfl
             have hcz87_5 : wc.cell? ⟨gb185, 5, none⟩ = some (u186005) := (blk_cell BK185.out 5).trans rfl
             have hfz87_0 := blk_frozen BK185.out 0
             have hfz87_1 := blk_frozen BK185.out 1
             have hfz87_2 := blk_frozen BK185.out 2
             have hfz87_3 := blk_frozen BK185.out 3
             have hfz87_4 := blk_frozen BK185.out 4
             have hfz87_5 := blk_frozen BK185.out 5
             have hnb88 := NB181_0.out
             have hnc88 := NB0_181.out
             have hcz89_0 : wc.cell? ⟨gb181, 0, none⟩ = some (.int .i64 0) := (blk_cell BK181.out 0).trans rfl
             have hcz89_1 : wc.cell? ⟨gb181, 1, none⟩ = some (.int .i64 0) := (blk_cell BK181.out 1).trans rfl
             have hcz89_2 : wc.cell? ⟨gb181, 2, none⟩ = some (.int .i64 0) := (blk_cell BK181.out 2).trans rfl
             have hcz89_3 : wc.cell? ⟨gb181, 3, none⟩ = some (.int .i64 0) := (blk_cell BK181.out 3).trans rfl
             have hcz89_4 : wc.cell? ⟨gb181, 4, none⟩ = some (.slice none 0 0) := (blk_cell BK181.out 4).trans rfl
             have hcz89_5 : wc.cell? ⟨gb181, 5, none⟩ = some (.slice none 0 0) := (blk_cell BK181.out 5).trans rfl
             have hfz89_0 := blk_frozen BK181.out 0
             have hfz89_1 := blk_frozen BK181.out 1
             have hfz89_2 := blk_frozen BK181.out 2
             have hfz89_3 := blk_frozen BK181.out 3
             have hfz89_4 := blk_frozen BK181.out 4
             have hfz89_5 := blk_frozen BK181.out 5
             obtain ⟨Ao90, co90, eo90⟩ := Kd.R_slice HO_186004.out
             subst eo90
             obtain ⟨Ao91, co91, eo91⟩ := Kd.R_slice HO_186005.out
             subst eo91
             rename_i b3 b2 b1 h1 h2 h3 h4 h5 b0 h6 h7
             refine b1 _ _ ?_
             clear b0 b1 b2 h1 h2 h3 h4 h5 h6 h7
             go_upto_region 26 with fail
             go_upto_region 27 with fail
             obtain ⟨wz, hwz⟩ : ∃ wz, wz = wc.setCell ⟨g, 1, none⟩ (.bool true) := ⟨_, rfl⟩
             have Z147 : wz.heap[gb185]? = some (.cells #[.int .i64 t182, .int .i64 t186, .int .i64 t189, .int .i64 t192, .slice Ao90 x186004_23.length co90, .slice Ao91 x186005_4.length co91] 27 (0, 0)) := by rw [hwz]; exact Go.Proofs.YtkhcdichdnbcmaaR.vfar BK185.out NB185_0.out
             have Z143 : wz.heap[gb181]? = some (.cells #[.int .i64 0, .int .i64 0, .int .i64 0, .int .i64 0, .slice none 0 0, .slice none 0 0] 27 (0, 0)) := by rw [hwz]; exact Go.Proofs.YtkhcdichdnbcmaaR.vfar BK181.out NB181_0.out
             have yy := Go.Proofs.YtkhcdichdnbcmaaR.vcell Z147
             have HZ143 := Aside0.mk Z143
             rw [← hwz]
             clear Z147 Z143
             clear hcz84_0 hcz84_1 hfz84_0 hfz84_1 hcz87_0 hfz87_0 hcz89_0 hfz89_0 hcz87_1 hfz87_1 hcz89_1 hfz89_1 hcz87_2 hfz87_2 hcz89_2 hfz89_2 hcz87_3 hfz87_3 hcz89_3 hfz89_3 hcz87_4 hfz87_4 hcz89_4 hfz89_4 hcz87_5 hfz87_5 hcz89_5 hfz89_5
             have HWZ := Aside0.mk hwz
             clear hwz
             go_wp2_with (first | (refine Go.Proofs.YtkhcdichdnbcmaaR.wpList_storeS _ rfl _ _ 27 rfl gb181 t182 t186 t189 t192 Ao90 x186004_23.length co90 Ao91 x186005_4.length co91 (cs := #[.int .i64 0, .int .i64 0, .int .i64 0, .int .i64 0, .slice none 0 0, .slice none 0 0]) rfl Go.Proofs.YtkhcdichdnbcmaaR.sizeS rfl rfl HZ143.out ?_; rename_i bK; refine wpList_nil ?_; refine bK _ _ ?_; have hwz := HWZ.out; subst hwz; clear HWZ; refine wp_ret ?_; (try simp only [Act.put, List.setIfInBounds_toArray, List.set_cons_zero, List.set_cons_succ]); refine bodyPost_ret (results_cell_row rfl _ _ gb181 27 #[.int .i64 t182, .int .i64 t186, .int .i64 t189, .int .i64 t192, .slice Ao90 x186004_23.length co90, .slice Ao91 x186005_4.length co91] (0, 0) _ rfl (by (with_reducible repeat (first | refine blk_drewN ?_ _ | refine blk_drew ?_ | refine blk_alloc ?_ _)); refine blk_put (cs := #[.int .i64 t182, .int .i64 t186, .int .i64 t189, .int .i64 t192, .slice Ao90 x186004_23.length co90, .slice none 0 0]) ?_ 5 _ rfl; (with_reducible repeat (first | refine blk_drewN ?_ _ | refine blk_drew ?_ | refine blk_alloc ?_ _)); refine blk_put (cs := #[.int .i64 t182, .int .i64 t186, .int .i64 t189, .int .i64 t192, .slice none 0 0, .slice none 0 0]) ?_ 4 _ rfl; (with_reducible repeat (first | refine blk_drewN ?_ _ | refine blk_drew ?_ | refine blk_alloc ?_ _)); refine blk_put (cs := #[.int .i64 t182, .int .i64 t186, .int .i64 t189, .int .i64 0, .slice none 0 0, .slice none 0 0]) ?_ 3 _ rfl; (with_reducible repeat (first | refine blk_drewN ?_ _ | refine blk_drew ?_ | refine blk_alloc ?_ _)); refine blk_put (cs := #[.int .i64 t182, .int .i64 t186, .int .i64 0, .int .i64 0, .slice none 0 0, .slice none 0 0]) ?_ 2 _ rfl; (with_reducible repeat (first | refine blk_drewN ?_ _ | refine blk_drew ?_ | refine blk_alloc ?_ _)); refine blk_put (cs := #[.int .i64 t182, .int .i64 0, .int .i64 0, .int .i64 0, .slice none 0 0, .slice none 0 0]) ?_ 1 _ rfl; (with_reducible repeat (first | refine blk_drewN ?_ _ | refine blk_drew ?_ | refine blk_alloc ?_ _)); refine blk_put (cs := #[.int .i64 0, .int .i64 0, .int .i64 0, .int .i64 0, .slice none 0 0, .slice none 0 0]) ?_ 0 _ rfl; (with_reducible repeat (first | refine blk_drewN ?_ _ | refine blk_drew ?_ | refine blk_alloc ?_ _)); refine blk_far ?_ NB181_0.out _; (with_reducible repeat (first | refine blk_drewN ?_ _ | refine blk_drew ?_ | refine blk_alloc ?_ _)); exact BK181.out) Try.underlying27 rfl (by kernel_rfl)) rfl ?_; exact ⟨_, _, by first | rfl | (simp [errW_none, errW_some] <;> rfl) | (simp [*, errW_none, errW_some] <;> rfl), by (with_reducible repeat (first | apply Kd.R_alloc | apply Kd.R_drewN | apply Kd.R_drew)); exact Kd.R_mono (Kd.R_far (p := ⟨gb181, 5, none⟩) (Kd.R_far (p := ⟨gb181, 4, none⟩) (Kd.R_far (p := ⟨gb181, 3, none⟩) (Kd.R_far (p := ⟨gb181, 2, none⟩) (Kd.R_far (p := ⟨gb181, 1, none⟩) (Kd.R_far (p := ⟨gb181, 0, none⟩) (Kd.R_far (p := ⟨g, 1, none⟩) (Kd.R_types (IsS84.apart HI0.out HO_186004.out (by decide)) BK181.out (by decide)) (fun _ hk => hk.1.2) (.bool true)) (fun _ hk => hk.2) (.int .i64 t182)) (fun _ hk => hk.2) (.int .i64 t186)) (fun _ hk => hk.2) (.int .i64 t189)) (fun _ hk => hk.2) (.int .i64 t192)) (fun _ hk => hk.2) (.slice Ao90 x186004_23.length co90)) (fun _ hk => hk.2) (.slice Ao91 x186005_4.length co91)) (fun _ hk => trivial), by (with_reducible repeat (first | apply Kd.R_alloc | apply Kd.R_drewN | apply Kd.R_drew)); exact Kd.R_mono (Kd.R_far (p := ⟨gb181, 5, none⟩) (Kd.R_far (p := ⟨gb181, 4, none⟩) (Kd.R_far (p := ⟨gb181, 3, none⟩) (Kd.R_far (p := ⟨gb181, 2, none⟩) (Kd.R_far (p := ⟨gb181, 1, none⟩) (Kd.R_far (p := ⟨gb181, 0, none⟩) (Kd.R_far (p := ⟨g, 1, none⟩) (Kd.R_types (IsS84.apart HI0.out HO_186005.out (by decide)) BK181.out (by decide)) (fun _ hk => hk.1.2) (.bool true)) (fun _ hk => hk.2) (.int .i64 t182)) (fun _ hk => hk.2) (.int .i64 t186)) (fun _ hk => hk.2) (.int .i64 t189)) (fun _ hk => hk.2) (.int .i64 t192)) (fun _ hk => hk.2) (.slice Ao90 x186004_23.length co90)) (fun _ hk => hk.2) (.slice Ao91 x186005_4.length co91)) (fun _ hk => trivial), by repeat (first | (with_reducible first | exact HI0.out | apply IsS84.alloc | apply IsS84.drewN | apply IsS84.drew | apply IsS84.set_0 | apply IsS84.set_1 | refine IsS84.far ?_ NB0_181.out _ | refine IsS84.far ?_ NB0_185.out _) | exact HI0.out), by repeat (first | (with_reducible first | exact HB.out | apply below_alloc | apply pw_below_drewN | apply below_drew1 | refine below_set ?_ (IsS84.ge HI0.out) | refine below_set ?_ GE181.out | refine below_set ?_ GE185.out) | exact HB.out), by repeat (first | (with_reducible first | exact HK.out | apply KeepBut.set_ | apply keep_drewN | apply keep_drew | apply keep_alloc | refine keep_far ?_ GW181.out _ | refine keep_far ?_ GW185.out _) | exact HK.out)⟩) | go_in)
            ·replace c83 := Bool.eq_false_iff.mpr c83
             subst c83
             have H1 : ((sacristanref13_Check.f kj41 t182 t186 t189 t192 x186004_23 x186005_4).bind fun t207 => (some (t182, t186, t189, t192, x186004_23, x186005_4, x1000_4, (t207 != 0)))) = some (r1, r2, r3, r4, r5, r6, r7, r8) := by rw [if_neg (show ¬ (false = true) by decide)] at H; exact H
             clear H
             have H := H1
             clear H1
             replace H := Option.bind_eq_some_iff.mp H
             obtain ⟨t207, A920, H⟩ := H
             replace H : (some (t182, t186, t189, t192, x186004_23, x186005_4, x1000_4, (t207 != 0))) = some (r1, r2, r3, r4, r5, r6, r7, r8) := H
             have A92 := Aside0.mk A920
             clear A920
             simp only [Option.some.injEq, Prod.mk.injEq] at H
             obtain ⟨rfl, rfl, rfl, rfl, rfl, rfl, rfl, rfl⟩ := H
             obtain ⟨HGz93, hgz93⟩ := HI0.out
             have hcz93_0 := cellS84_0 HGz93
             have hcz93_1 := cellS84_1 HGz93
             have hfz93_0 := blk_frozen HGz93 0
             have hfz93_1 := blk_frozen HGz93 1
             clear HGz93 hgz93
             have hnb94 := NB185_181.out
             have hnc94 := NB181_185.out
             have hnb95 := NB185_0.out
             have hnc95 := NB0_185.out
             have hcz96_0 : wc.cell? ⟨gb185, 0, none⟩ = some (.int .i64 t182) := (blk_cell BK185.out 0).trans rfl
             have hcz96_1 : wc.cell? ⟨gb185, 1, none⟩ = some (.int .i64 t186) := (blk_cell BK185.out 1).trans rfl
             have hcz96_2 : wc.cell? ⟨gb185, 2, none⟩ = some (.int .i64 t189) := (blk_cell BK185.out 2).trans rfl
             have hcz96_3 : wc.cell? ⟨gb185, 3, none⟩ = some (.int .i64 t192) := (blk_cell BK185.out 3).trans rfl
             have hcz96_4 : wc.cell? ⟨gb185, 4, none⟩ = some (u186004) := (blk_cell BK185.out 4).trans rfl
             have hcz96_5 : wc.cell? ⟨gb185, 5, none⟩ = some (u186005) := (blk_cell BK185.out 5).trans rfl
             have hfz96_0 := blk_frozen BK185.out 0
             have hfz96_1 := blk_frozen BK185.out 1
             have hfz96_2 := blk_frozen BK185.out 2
             have hfz96_3 := blk_frozen BK185.out 3
             have hfz96_4 := blk_frozen BK185.out 4
             have hfz96_5 := blk_frozen BK185.out 5
             obtain ⟨Ao97, co97, eo97⟩ := Kd.R_slice HO_186004.out
             subst eo97
             obtain ⟨Ao98, co98, eo98⟩ := Kd.R_slice HO_186005.out
             subst eo98
             rename_i b3 b2 b1 h1 h2 h3 h4 h5 b0 h6 h7
             refine b1 _ _ ?_
             clear b0 b1 b2 h1 h2 h3 h4 h5 h6 h7
             go_upto_region 26 with fail
             go_upto_region 27 with (first | (go_at_call 42; (with_reducible refine (sacristanref13_Check.calls kj41 t182 t186 t189 t192 _ _ x186004_23 _ _ x186005_4 t207 _ ?side1 ?side2 ?side3 ?side4 A92.out).mono ?_); (try clear A92); (case side1 => repeat (first | exact (Kd.R_reads' HO_186004.out).2.2 | (with_reducible refine Kd.C_alloc ?_ _) | (with_reducible refine Kd.C_drewN ?_ _) | (with_reducible refine Kd.C_drew ?_))); (case side2 => exact (Kd.R_reads' HO_186004.out).2.1); (case side3 => repeat (first | exact (Kd.R_reads' HO_186005.out).2.2 | (with_reducible refine Kd.C_alloc ?_ _) | (with_reducible refine Kd.C_drewN ?_ _) | (with_reducible refine Kd.C_drew ?_))); (case side4 => exact (Kd.R_reads' HO_186005.out).2.1); rintro e w99 ⟨rfl, hb⟩; have n0_ := Aside0.mk (Kd.R_below (by (with_reducible repeat (first | apply Kd.R_alloc | apply Kd.R_drewN | apply Kd.R_drew)); exact HO_186004.out) hb); have n1_ := Aside0.mk (Kd.R_below (by (with_reducible repeat (first | apply Kd.R_alloc | apply Kd.R_drewN | apply Kd.R_drew)); exact HO_186005.out) hb); have n2_ := Aside0.mk (blk_below (g := gb181) (o := .cells #[.int .i64 0, .int .i64 0, .int .i64 0, .int .i64 0, .slice none 0 0, .slice none 0 0] 27 (0, 0)) (by (with_reducible repeat (first | refine blk_drewN ?_ _ | refine blk_drew ?_ | refine blk_alloc ?_ _)); exact BK181.out) hb); have n3_ := Aside0.mk (blk_below (g := gb185) (o := .cells #[.int .i64 t182, .int .i64 t186, .int .i64 t189, .int .i64 t192, .slice Ao97 x186004_23.length co97, .slice Ao98 x186005_4.length co98] 27 (0, 0)) (by (with_reducible repeat (first | refine blk_drewN ?_ _ | refine blk_drew ?_ | refine blk_alloc ?_ _)); exact BK185.out) hb); have n4_ := Aside0.mk (IsS84.below (by repeat (first | (with_reducible first | exact HI0.out | apply IsS84.alloc | apply IsS84.drewN | apply IsS84.drew | apply IsS84.set_0 | apply IsS84.set_1 | refine IsS84.far ?_ NB0_181.out _ | refine IsS84.far ?_ NB0_185.out _) | exact HI0.out)) hb); have n5_ := Aside0.mk (KeepBut.trans (by repeat (first | (with_reducible first | exact HK.out | apply KeepBut.set_ | apply keep_drewN | apply keep_drew | apply keep_alloc | refine keep_far ?_ GW181.out _ | refine keep_far ?_ GW185.out _) | exact HK.out)) (KeepBut.of_below hb g none) (.inl rfl)); have n6_ := Aside0.mk (below_step (by repeat (first | (with_reducible first | exact HB.out | apply below_alloc | apply pw_below_drewN | apply below_drew1 | refine below_set ?_ (IsS84.ge HI0.out) | refine below_set ?_ GE181.out | refine below_set ?_ GE185.out) | exact HB.out)) hb); clear HO_186004; clear HO_186005; clear BK181; clear BK185; clear HI0; clear HK; clear HB; have HO_186004 := n0_; have HO_186005 := n1_; have BK181 := n2_; have BK185 := n3_; have HI0 := n4_; have HK := n5_; have HB := n6_; clear n0_ n1_ n2_ n3_ n4_ n5_ n6_; (try clear hb); (try clear hb2); (try clear hk); (try clear hi); obtain ⟨HGz100, hgz100⟩ := HI0.out; have hcz100_0 := cellS84_0 HGz100; have hcz100_1 := cellS84_1 HGz100; have hfz100_0 := blk_frozen HGz100 0; have hfz100_1 := blk_frozen HGz100 1; clear HGz100 hgz100; have hcz101_0 : w99.cell? ⟨gb185, 0, none⟩ = some (.int .i64 t182) := (blk_cell BK185.out 0).trans rfl; have hcz101_1 : w99.cell? ⟨gb185, 1, none⟩ = some (.int .i64 t186) := (blk_cell BK185.out 1).trans rfl; have hcz101_2 : w99.cell? ⟨gb185, 2, none⟩ = some (.int .i64 t189) := (blk_cell BK185.out 2).trans rfl; have hcz101_3 : w99.cell? ⟨gb185, 3, none⟩ = some (.int .i64 t192) := (blk_cell BK185.out 3).trans rfl; have hcz101_4 : w99.cell? ⟨gb185, 4, none⟩ = some (.slice Ao97 x186004_23.length co97) := (blk_cell BK185.out 4).trans rfl; have hcz101_5 : w99.cell? ⟨gb185, 5, none⟩ = some (.slice Ao98 x186005_4.length co98) := (blk_cell BK185.out 5).trans rfl; have hfz101_0 := blk_frozen BK185.out 0; have hfz101_1 := blk_frozen BK185.out 1; have hfz101_2 := blk_frozen BK185.out 2; have hfz101_3 := blk_frozen BK185.out 3; have hfz101_4 := blk_frozen BK185.out 4; have hfz101_5 := blk_frozen BK185.out 5; have hnb102 := NB181_0.out; have hnc102 := NB0_181.out; have hcz103_0 : w99.cell? ⟨gb181, 0, none⟩ = some (.int .i64 0) := (blk_cell BK181.out 0).trans rfl; have hcz103_1 : w99.cell? ⟨gb181, 1, none⟩ = some (.int .i64 0) := (blk_cell BK181.out 1).trans rfl; have hcz103_2 : w99.cell? ⟨gb181, 2, none⟩ = some (.int .i64 0) := (blk_cell BK181.out 2).trans rfl; have hcz103_3 : w99.cell? ⟨gb181, 3, none⟩ = some (.int .i64 0) := (blk_cell BK181.out 3).trans rfl; have hcz103_4 : w99.cell? ⟨gb181, 4, none⟩ = some (.slice none 0 0) := (blk_cell BK181.out 4).trans rfl; have hcz103_5 : w99.cell? ⟨gb181, 5, none⟩ = some (.slice none 0 0) := (blk_cell BK181.out 5).trans rfl; have hfz103_0 := blk_frozen BK181.out 0; have hfz103_1 := blk_frozen BK181.out 1; have hfz103_2 := blk_frozen BK181.out 2; have hfz103_3 := blk_frozen BK181.out 3; have hfz103_4 := blk_frozen BK181.out 4; have hfz103_5 := blk_frozen BK181.out 5))
             obtain ⟨wz, hwz⟩ : ∃ wz, wz = w99.setCell ⟨g, 1, none⟩ (.bool (t207 != 0)) := ⟨_, rfl⟩
             have Z147 : wz.heap[gb185]? = some (.cells #[.int .i64 t182, .int .i64 t186, .int .i64 t189, .int .i64 t192, .slice Ao97 x186004_23.length co97, .slice Ao98 x186005_4.length co98] 27 (0, 0)) := by rw [hwz]; exact Go.Proofs.YtkhcdichdnbcmaaR.vfar BK185.out NB185_0.out
             have Z143 : wz.heap[gb181]? = some (.cells #[.int .i64 0, .int .i64 0, .int .i64 0, .int .i64 0, .slice none 0 0, .slice none 0 0] 27 (0, 0)) := by rw [hwz]; exact Go.Proofs.YtkhcdichdnbcmaaR.vfar BK181.out NB181_0.out
             have yy := Go.Proofs.YtkhcdichdnbcmaaR.vcell Z147
             have HZ143 := Aside0.mk Z143
             rw [← hwz]
             clear Z147 Z143
             have HWZ := Aside0.mk hwz
             clear hwz
             go_wp2_with (first | (refine Go.Proofs.YtkhcdichdnbcmaaR.wpList_storeS _ rfl _ _ 27 rfl gb181 t182 t186 t189 t192 Ao97 x186004_23.length co97 Ao98 x186005_4.length co98 (cs := #[.int .i64 0, .int .i64 0, .int .i64 0, .int .i64 0, .slice none 0 0, .slice none 0 0]) rfl Go.Proofs.YtkhcdichdnbcmaaR.sizeS rfl rfl HZ143.out ?_; rename_i bK; refine wpList_nil ?_; refine bK _ _ ?_; have hwz := HWZ.out; subst hwz; clear HWZ; refine wp_ret ?_; (try simp only [Act.put, List.setIfInBounds_toArray, List.set_cons_zero, List.set_cons_succ]); refine bodyPost_ret (results_cell_row rfl _ _ gb181 27 #[.int .i64 t182, .int .i64 t186, .int .i64 t189, .int .i64 t192, .slice Ao97 x186004_23.length co97, .slice Ao98 x186005_4.length co98] (0, 0) _ rfl (by (with_reducible repeat (first | refine blk_drewN ?_ _ | refine blk_drew ?_ | refine blk_alloc ?_ _)); refine blk_put (cs := #[.int .i64 t182, .int .i64 t186, .int .i64 t189, .int .i64 t192, .slice Ao97 x186004_23.length co97, .slice none 0 0]) ?_ 5 _ rfl; (with_reducible repeat (first | refine blk_drewN ?_ _ | refine blk_drew ?_ | refine blk_alloc ?_ _)); refine blk_put (cs := #[.int .i64 t182, .int .i64 t186, .int .i64 t189, .int .i64 t192, .slice none 0 0, .slice none 0 0]) ?_ 4 _ rfl; (with_reducible repeat (first | refine blk_drewN ?_ _ | refine blk_drew ?_ | refine blk_alloc ?_ _)); refine blk_put (cs := #[.int .i64 t182, .int .i64 t186, .int .i64 t189, .int .i64 0, .slice none 0 0, .slice none 0 0]) ?_ 3 _ rfl; (with_reducible repeat (first | refine blk_drewN ?_ _ | refine blk_drew ?_ | refine blk_alloc ?_ _)); refine blk_put (cs := #[.int .i64 t182, .int .i64 t186, .int .i64 0, .int .i64 0, .slice none 0 0, .slice none 0 0]) ?_ 2 _ rfl; (with_reducible repeat (first | refine blk_drewN ?_ _ | refine blk_drew ?_ | refine blk_alloc ?_ _)); refine blk_put (cs := #[.int .i64 t182, .int .i64 0, .int .i64 0, .int .i64 0, .slice none 0 0, .slice none 0 0]) ?_ 1 _ rfl; (with_reducible repeat (first | refine blk_drewN ?_ _ | refine blk_drew ?_ | refine blk_alloc ?_ _)); refine blk_put (cs := #[.int .i64 0, .int .i64 0, .int .i64 0, .int .i64 0, .slice none 0 0, .slice none 0 0]) ?_ 0 _ rfl; (with_reducible repeat (first | refine blk_drewN ?_ _ | refine blk_drew ?_ | refine blk_alloc ?_ _)); refine blk_far ?_ NB181_0.out _; (with_reducible repeat (first | refine blk_drewN ?_ _ | refine blk_drew ?_ | refine blk_alloc ?_ _)); exact BK181.out) Try.underlying27 rfl (by kernel_rfl)) rfl ?_; exact ⟨_, _, by first | rfl | (simp [errW_none, errW_some] <;> rfl) | (simp [*, errW_none, errW_some] <;> rfl), by (with_reducible repeat (first | apply Kd.R_alloc | apply Kd.R_drewN | apply Kd.R_drew)); exact Kd.R_mono (Kd.R_far (p := ⟨gb181, 5, none⟩) (Kd.R_far (p := ⟨gb181, 4, none⟩) (Kd.R_far (p := ⟨gb181, 3, none⟩) (Kd.R_far (p := ⟨gb181, 2, none⟩) (Kd.R_far (p := ⟨gb181, 1, none⟩) (Kd.R_far (p := ⟨gb181, 0, none⟩) (Kd.R_far (p := ⟨g, 1, none⟩) (Kd.R_types (IsS84.apart HI0.out HO_186004.out (by decide)) BK181.out (by decide)) (fun _ hk => hk.1.2) (.bool (t207 != 0))) (fun _ hk => hk.2) (.int .i64 t182)) (fun _ hk => hk.2) (.int .i64 t186)) (fun _ hk => hk.2) (.int .i64 t189)) (fun _ hk => hk.2) (.int .i64 t192)) (fun _ hk => hk.2) (.slice Ao97 x186004_23.length co97)) (fun _ hk => hk.2) (.slice Ao98 x186005_4.length co98)) (fun _ hk => trivial), by (with_reducible repeat (first | apply Kd.R_alloc | apply Kd.R_drewN | apply Kd.R_drew)); exact Kd.R_mono (Kd.R_far (p := ⟨gb181, 5, none⟩) (Kd.R_far (p := ⟨gb181, 4, none⟩) (Kd.R_far (p := ⟨gb181, 3, none⟩) (Kd.R_far (p := ⟨gb181, 2, none⟩) (Kd.R_far (p := ⟨gb181, 1, none⟩) (Kd.R_far (p := ⟨gb181, 0, none⟩) (Kd.R_far (p := ⟨g, 1, none⟩) (Kd.R_types (IsS84.apart HI0.out HO_186005.out (by decide)) BK181.out (by decide)) (fun _ hk => hk.1.2) (.bool (t207 != 0))) (fun _ hk => hk.2) (.int .i64 t182)) (fun _ hk => hk.2) (.int .i64 t186)) (fun _ hk => hk.2) (.int .i64 t189)) (fun _ hk => hk.2) (.int .i64 t192)) (fun _ hk => hk.2) (.slice Ao97 x186004_23.length co97)) (fun _ hk => hk.2) (.slice Ao98 x186005_4.length co98)) (fun _ hk => trivial), by repeat (first | (with_reducible first | exact HI0.out | apply IsS84.alloc | apply IsS84.drewN | apply IsS84.drew | apply IsS84.set_0 | apply IsS84.set_1 | refine IsS84.far ?_ NB0_181.out _ | refine IsS84.far ?_ NB0_185.out _) | exact HI0.out), by repeat (first | (with_reducible first | exact HB.out | apply below_alloc | apply pw_below_drewN | apply below_drew1 | refine below_set ?_ (IsS84.ge HI0.out) | refine below_set ?_ GE181.out | refine below_set ?_ GE185.out) | exact HB.out), by repeat (first | (with_reducible first | exact HK.out | apply KeepBut.set_ | apply keep_drewN | apply keep_drew | apply keep_alloc | refine keep_far ?_ GW181.out _ | refine keep_far ?_ GW185.out _) | exact HK.out)⟩) | go_in)
end Go.Proofs.YtkhcdichdnbcmaaR.C
end
end
section
namespace Go.Proofs.YtkhcdichdnbcmaaR.PureR
open Go.RowKit Go.Proofs.YtkhcdichdnbcmaaR.Ext Go.Proofs.YtkhcdichdnbcmaaR.C Go.Proofs.YtkhcdichdnbcmaaRW.PrintWords Go.Proofs.YtkhcdichdnbcmaaRW.PrintLast
open Go.Proofs.YtkhcdichdnbcmaaR.Pk
set_option linter.unusedVariables false
set_option linter.unusedSimpArgs false
theorem mkB_data (s : ByteArray) : mkB s.data.toList = s := by
 show (⟨s.data.toList.toArray⟩ : ByteArray) = s
 rw [Array.toArray_toList]
theorem data_mkB (l : List UInt8) : (mkB l).data.toList = l := rfl
theorem mkB_size (l : List UInt8) : (mkB l).size = l.length := by
 show l.toArray.size = l.length
 simp
theorem mkB_append (a b : List UInt8) : mkB a ++ mkB b = mkB (a ++ b) := by
 apply ByteArray.ext
 rw [ByteArray.data_append]
 show a.toArray ++ b.toArray = (a ++ b).toArray
 simp
theorem mkB_extract (l : List UInt8) (i j : Nat) : (mkB l).extract i j = mkB ((l.take j).drop i) := by
 apply ByteArray.ext
 simp [mkB, ByteArray.data_extract, List.extract_eq_take_drop, List.drop_take]
theorem mkB_toList (l : List UInt8) : (mkB l).toList = l := by rw [ByteArray.toList_eq]; exact data_mkB l
theorem bt_mkB (l : List UInt8) (i : Nat) : bt (mkB l) i = (l.getD i 0).toNat := by
 unfold bt
 split
 ·rename_i h
  have hl : i < l.length := by simpa [mkB_size] using h
  simp [mkB, hl, ByteArray.getElem_eq_getElem_data]
 ·rename_i h
  have hl : l.length ≤ i := by simpa [mkB_size] using h
  simp [hl]
theorem vl_take_succ (l : List UInt8) (i : Nat) (h : i < l.length) : vl (l.take (i + 1)) = vl (l.take i) * 256 + (l.getD i 0).toNat := by
 rw [List.take_succ_eq_append_getElem h, vl_snoc]
 simp [h]
theorem vl_take_lt (l : List UInt8) (i : Nat) (hl : l.length ≤ 8) (hi : i < l.length) : vl (l.take i) < 72057594037927936 := by
 have h := vl_lt (l.take i)
 rw [List.length_take, Nat.min_eq_left (by omega)] at h
 have h2 : 256 ^ i ≤ 256 ^ 7 := Nat.pow_le_pow_right (by omega) (by omega)
 have h3 : (256 : Nat) ^ 7 = 72057594037927936 := by decide
 omega
def unvarR (l : List UInt8) : Int × ByteArray × Int := match unvarL l with | none => (0, mkB [], 4) | some (n, r) => ((n : Int), mkB r, 0)
theorem tdiv_256 (n : Nat) (hn : n < 18446744073709551616) : IntKind.u64.wrap (Int.tdiv (n : Int) 256) = ((n / 256 : Nat) : Int) := by
 rw [Int.tdiv_eq_ediv_of_nonneg (by omega), IntWalk.u64_in _ (by omega)]
 omega
theorem width_l0 (d : Nat) : ∀ (k n c : Nat), n < 18446744073709551616 → lw n ≤ d → d < k → c + d ≤ 1000 →
  sacristanref02_Width.l0 k n c = some ((c + (lw n - 1) : Nat) : Int) := by
 induction d with
 | zero =>
  intro k n c hn hd hk hc
  obtain ⟨k, rfl⟩ : ∃ m, k = m + 1 := ⟨k - 1, by omega⟩
  have : n = 0 := by
   have := (lw_le_iff n 0).1 hd
   simpa using this
  subst this
  simp only [sacristanref02_Width.l0]
  rw [if_neg (by omega), lw_zero]
  rfl
 | succ d ih =>
  intro k n c hn hd hk hc
  obtain ⟨k, rfl⟩ : ∃ m, k = m + 1 := ⟨k - 1, by omega⟩
  simp only [sacristanref02_Width.l0]
  by_cases h : n > 255
  ·have h1 : lw n = lw (n / 256) + 1 := lw_pos (by omega)
   have h2 : lw (n / 256) ≠ 0 := by rw [lw_pos (by omega)]; omega
   rw [if_pos (by omega), tdiv_256 n hn, show wrap64 ((c : Int) + 1) = ((c + 1 : Nat) : Int) from by unfold wrap64; omega]
   rw [ih k (n / 256) (c + 1) (by omega) (by omega) (by omega) (by omega)]
   congr 2
   omega
  ·have h1 : lw n ≤ 1 := (lw_le_iff n 1).2 (by omega)
   rw [if_neg (by omega)]
   congr 2
   omega
theorem width_eq (k : Nat) (hk : 10 ≤ k) (n : Nat) (hn : n < 18446744073709551616) : sacristanref02_Width.f k n = some ((1 + (lw n - 1) : Nat) : Int) := by
 unfold sacristanref02_Width.f
 exact width_l0 8 k n 1 hn (lw_le_8 hn) (by omega) (by omega)
theorem refbytes_l0 (i : Nat) : ∀ (k n : Nat) (xs : List Int), n < 18446744073709551616 → i ≤ xs.length → xs.length ≤ 100 → i < k →
  sacristanref02_bytes.l0 k n xs ((i : Int) - 1) = some (strOfNums (beB i n ++ xs.drop i)) := by
 induction i with
 | zero =>
  intro k n xs hn hi hx hk
  obtain ⟨k, rfl⟩ : ∃ m, k = m + 1 := ⟨k - 1, by omega⟩
  simp only [sacristanref02_bytes.l0]
  rw [if_neg (by omega)]
  rfl
 | succ i ih =>
  intro k n xs hn hi hx hk
  obtain ⟨k, rfl⟩ : ∃ m, k = m + 1 := ⟨k - 1, by omega⟩
  simp only [sacristanref02_bytes.l0]
  have e : (((i + 1 : Nat) : Int) - 1) = (i : Int) := by omega
  rw [e, if_pos (by omega), if_pos (by omega), if_pos (by omega), tdiv_256 n hn, Int.toNat_natCast]
  rw [show wrap64 ((i : Int) - 1) = (i : Int) - 1 from by unfold wrap64; omega]
  rw [ih k (n / 256) _ (by omega) (by simp; omega) (by simpa using hx) (by omega)]
  have e2 : Int.tmod (n : Int) 256 % 256 = (n : Int) % 256 := by rw [Int.tmod_eq_emod_of_nonneg (by omega)]; omega
  rw [e2, beB]
  congr 1
  rw [List.append_assoc]
  congr 2
  rw [List.drop_eq_getElem_cons (by simp; omega)]
  simp [List.drop_set_of_lt]
theorem refbytes_eq (k : Nat) (n w : Nat) (hn : n < 18446744073709551616) (hw : w ≤ 100) (hk : w < k) : sacristanref02_bytes.f k n w = some (mkB (be w n)) := by
 unfold sacristanref02_bytes.f
 rw [if_pos (by omega), if_pos (by omega), Int.toNat_natCast]
 rw [show wrap64 ((w : Int) - 1) = (w : Int) - 1 from by unfold wrap64; omega]
 rw [refbytes_l0 w k n _ hn (by simp) (by simp; omega) hk, List.drop_of_length_le (by simp), List.append_nil, beB_eq]
theorem rvar_eq (k : Nat) (hk : 20 ≤ k) (n : Nat) (hn : n < 18446744073709551616) : sacristanref02_Var.f k n = some (mkB (varL n)) := by
 unfold sacristanref02_Var.f varL
 have h8 := lw_le_8 hn
 by_cases h : n < 248
 ·rw [if_pos (by omega), if_pos h]
  have := refbytes_eq k n 1 hn (by omega) (by omega)
  rw [show ((1 : Nat) : Int) = 1 from rfl] at this
  rw [this, Option.bind_some]
  have e : be 1 n = [UInt8.ofNat n] := by simp [be, Nat.mod_eq_of_lt (show n < 256 by omega)]
  rw [e]
 ·have h1 : 1 ≤ lw n := by rw [lw_pos (by omega)]; omega
  rw [if_neg (by omega), if_neg h, width_eq k (by omega) n hn, Option.bind_some]
  rw [show 1 + (lw n - 1) = lw n by omega]
  rw [show wrap64 (247 + ((lw n : Nat) : Int)) = ((247 + lw n : Nat) : Int) from by unfold wrap64; omega, IntWalk.u64_in _ (by omega)]
  have := refbytes_eq k (247 + lw n) 1 (by omega) (by omega) (by omega)
  rw [show ((1 : Nat) : Int) = 1 from rfl] at this
  have e : be 1 (247 + lw n) = [UInt8.ofNat (247 + lw n)] := by simp [be, Nat.mod_eq_of_lt (show 247 + lw n < 256 by omega)]
  rw [this, Option.bind_some, Option.bind_some, refbytes_eq k n (lw n) hn (by omega) (by omega), Option.bind_some, mkB_size, mkB_size, be_length, be_length, if_pos (by omega), mkB_append, e]
  rfl
theorem rnumber_l0 (l : List UInt8) (hl : l.length ≤ 8) (d : Nat) : ∀ (k i : Nat), i + d = l.length → d < k →
  sacristanref02_Unfixed.l0 k (mkB l) (vl (l.take i)) i = some (((vl l : Nat) : Int), 0) := by
 induction d with
 | zero =>
  intro k i hi hk
  obtain ⟨k, rfl⟩ : ∃ m, k = m + 1 := ⟨k - 1, by omega⟩
  simp only [sacristanref02_Unfixed.l0]
  rw [if_neg (by rw [mkB_size]; omega), List.take_of_length_le (by omega)]
 | succ d ih =>
  intro k i hi hk
  obtain ⟨k, rfl⟩ : ∃ m, k = m + 1 := ⟨k - 1, by omega⟩
  simp only [sacristanref02_Unfixed.l0]
  have hlt := vl_take_lt l i hl (by omega)
  have hb : (l.getD i 0).toNat < 256 := UInt8.toNat_lt _
  rw [if_pos (by rw [mkB_size]; omega), if_pos (by omega), bt_mkB]
  rw [show IntKind.u64.wrap (((vl (l.take i) : Nat) : Int) * 256) = ((vl (l.take i) : Nat) : Int) * 256 from by rw [IntWalk.u64_in _ (by omega)]]
  rw [show IntKind.u64.wrap (((l.getD i 0).toNat : Nat) : Int) = (((l.getD i 0).toNat : Nat) : Int) from by rw [IntWalk.u64_in _ (by omega)]]
  rw [IntWalk.u64_in _ (by omega)]
  rw [show ((vl (l.take i) : Nat) : Int) * 256 + (((l.getD i 0).toNat : Nat) : Int) = ((vl (l.take i) * 256 + (l.getD i 0).toNat : Nat) : Int) by omega, ← vl_take_succ l i (by omega)]
  rw [show wrap64 ((i : Int) + 1) = ((i + 1 : Nat) : Int) from by unfold wrap64; omega]
  exact ih k (i + 1) (by omega) (by omega)
theorem runfixed_eq (k : Nat) (hk : 20 ≤ k) (l : List UInt8) : sacristanref02_Unfixed.f k (mkB l) = some (if l.length < 1 ∨ 8 < l.length then (0, 2) else (((vl l : Nat) : Int), 0)) := by
 obtain ⟨k, rfl⟩ : ∃ m, k = m + 1 := ⟨k - 1, by omega⟩
 unfold sacristanref02_Unfixed.f
 rw [mkB_size]
 by_cases h1 : l.length < 1
 ·rw [if_pos (by omega), if_pos (.inl h1)]; simp only [sacristanref02_Unfixed.j0]; rfl
 ·rw [if_neg (by omega)]
  simp only [sacristanref02_Unfixed.j0]
  by_cases h2 : 8 < l.length
  ·rw [if_pos (by simp; omega), if_pos (.inr h2)]
  ·rw [if_neg (by simp; omega), if_neg (by omega)]
   exact rnumber_l0 l (by omega) l.length k 0 (by omega) (by omega)
theorem runvar_eq (k : Nat) (hk : 30 ≤ k) (l : List UInt8) (hl : l.length ≤ 140737488351232) : sacristanref02_Unvar.f k (mkB l) = some (unvarR l) := by
 unfold sacristanref02_Unvar.f
 rw [mkB_size]
 cases l with
 | nil => rfl
 | cons c t =>
  have hc := c.toNat_lt
  have hb : bt (mkB (c :: t)) 0 = c.toNat := bt_mkB _ 0
  rw [if_neg (by simp <;> omega), if_pos (by simp <;> omega), hb]
  have hu : unvarL (c :: t) = if c.toNat < 248 then some (c.toNat, t) else
   if t.length < c.toNat - 247 then none else
   if vl (t.take (c.toNat - 247)) < 248 ∨ lw (vl (t.take (c.toNat - 247))) ≠ c.toNat - 247 then none else
   some (vl (t.take (c.toNat - 247)), t.drop (c.toNat - 247)) := rfl
  unfold unvarR
  rw [hu]
  by_cases h1 : c.toNat < 248
  ·have hv : varL c.toNat = [c] := by simp [varL, h1]
   rw [if_neg (by omega), if_pos h1, IntWalk.u64_in _ (by omega), rvar_eq k (by omega) _ (by omega), Option.bind_some, if_pos (by omega), if_pos (by simp; omega), mkB_toList, mkB_extract, mkB_toList, hv, if_pos (by simp), mkB_extract]
   simp
  ·have e1 : wrap64 (c.toNat : Int) = c.toNat := by unfold wrap64; omega
   have e2 : wrap64 (1 + (c.toNat : Int)) = 1 + (c.toNat : Int) := by unfold wrap64; omega
   have e3 : wrap64 (1 + (c.toNat : Int) - 247) = ((1 + (c.toNat - 247) : Nat) : Int) := by unfold wrap64; omega
   rw [if_pos (by omega), if_neg h1]
   simp only [e1, e2, e3, List.length_cons]
   by_cases h2 : t.length < c.toNat - 247
   ·rw [if_pos (by omega), if_pos h2]; rfl
   ·rw [if_neg (by omega), if_neg h2, if_pos (by omega), if_pos (by omega)]
    have ht : (mkB (c :: t)).extract 1 (((1 + (c.toNat - 247) : Nat) : Int)).toNat = mkB (t.take (c.toNat - 247)) := by
     rw [mkB_extract, Int.toNat_natCast, Nat.add_comm, List.take_succ_cons, List.drop_succ_cons, List.drop_zero]
    have h0 : ((mkB (c :: t)).extract 0 (((1 + (c.toNat - 247) : Nat) : Int)).toNat).toList = c :: t.take (c.toNat - 247) := by
     rw [mkB_extract, Int.toNat_natCast, Nat.add_comm, List.take_succ_cons, List.drop_zero, mkB_toList]
    have hlt : (t.take (c.toNat - 247)).length = c.toNat - 247 := by rw [List.length_take]; omega
    have hd : (mkB (c :: t)).extract (((1 + (c.toNat - 247) : Nat) : Int)).toNat (t.length + 1) = mkB (t.drop (c.toNat - 247)) := by
     rw [mkB_extract, Int.toNat_natCast, List.take_of_length_le (by simp), Nat.add_comm 1, List.drop_succ_cons]
    have hvl : vl (t.take (c.toNat - 247)) < 18446744073709551616 := by
     have h := vl_lt (t.take (c.toNat - 247))
     rw [hlt] at h
     have h7 : 256 ^ (c.toNat - 247) ≤ 256 ^ 8 := Nat.pow_le_pow_right (by omega) (by omega)
     have h8 : (256 : Nat) ^ 8 = 18446744073709551616 := by decide
     omega
    have hbe : be (c.toNat - 247) (vl (t.take (c.toNat - 247))) = t.take (c.toNat - 247) := by
     have := be_vl (t.take (c.toNat - 247))
     rwa [hlt] at this
    rw [ht, runfixed_eq k (by omega), if_neg (by omega), Option.bind_some, rvar_eq k (by omega) _ hvl, Option.bind_some, if_pos (by omega), mkB_toList, h0, hd]
    by_cases h3 : vl (t.take (c.toNat - 247)) < 248 ∨ lw (vl (t.take (c.toNat - 247))) ≠ c.toNat - 247
    ·rw [if_pos h3, if_neg]
     ·rfl
     ·intro he
      unfold varL at he
      split at he
      ·have := congrArg List.length he
       simp only [List.length_cons, List.length_nil, hlt] at this
       omega
      ·rename_i h4
       have := congrArg List.length he
       simp only [List.length_cons, be_length, hlt] at this
       rcases h3 with h3 | h3
       ·exact h4 h3
       ·omega
    ·have h4 : ¬ vl (t.take (c.toNat - 247)) < 248 := fun h => h3 (.inl h)
     have h5 : lw (vl (t.take (c.toNat - 247))) = c.toNat - 247 := Decidable.of_not_not fun h => h3 (.inr h)
     rw [if_neg h3, if_pos]
     simp only [varL, if_neg h4, h5, hbe]
     rw [show 247 + (c.toNat - 247) = c.toNat by omega, UInt8.ofNat_toNat]
end Go.Proofs.YtkhcdichdnbcmaaR.PureR
end
section
namespace Go.Proofs.YtkhcdichdnbcmaaR.PureR
open Go.RowKit Go.Proofs.YtkhcdichdnbcmaaR Go.Proofs.YtkhcdichdnbcmaaR.Ext Go.Proofs.YtkhcdichdnbcmaaR.C Go.Proofs.YtkhcdichdnbcmaaR.Sp Go.Proofs.YtkhcdichdnbcmaaRW.PrintWords Go.Proofs.YtkhcdichdnbcmaaRW.PrintLast
open Go.Proofs.YtkhcdichdnbcmaaR.Pk
set_option linter.unusedVariables false
set_option linter.unusedSimpArgs false
theorem w1 {i : Nat} (h : i ≤ 1000) : wrap64 ((i : Int) + 1) = ((i + 1 : Nat) : Int) := by unfold wrap64; omega
theorem rd_at (l : List Int) (i : Nat) (h : i < l.length) : rd l (i : Int) = l[i] := by simp [rd, h]
theorem rdT_at (l : List (S90)) (i : Nat) (h : i < l.length) : rd_T90 l (i : Int) = l[i] := by simp [rd_T90, h]
theorem fstE0 {e : Int} (h : e = 0) (l : List Int) : fstE (e :: l) = fstE l := by simp only [fstE]; rw [if_pos h]
theorem fstEN {e : Int} (h : ¬ e = 0) (l : List Int) : fstE (e :: l) = e := by simp only [fstE]; rw [if_neg h]
theorem range_ok {n lo hi : Int} (h1 : lo ≤ n) (h2 : n ≤ hi) : rangeE n lo hi = 0 := by unfold rangeE; rw [if_pos ((inI_iff _ _ _).2 ⟨h1, h2⟩)]
theorem range_no {n lo hi : Int} (h : n < lo ∨ hi < n) : rangeE n lo hi = 3 := by unfold rangeE; rw [if_neg (fun k => by have := (inI_iff _ _ _).1 k; omega)]
theorem res_eq (k : Nat) (a b c : Int) : sacristanref09_Check.f (k + 5) a b c = some (resE a b c) := by
 unfold sacristanref09_Check.f sacristanref09_amounts.f resE
 simp only [Option.bind_some, inI_iff]
 simp only [sacristanref09_Check.l0]
 have e0 : rd [a, b, c] 0 = a := rfl
 have e1 : rd [a, b, c] 1 = b := rfl
 have e2 : rd [a, b, c] 2 = c := rfl
 have f1 : wrap64 (0 + 1) = 1 := by unfold wrap64; omega
 have f2 : wrap64 (1 + 1) = 2 := by unfold wrap64; omega
 have f3 : wrap64 (2 + 1) = 3 := by unfold wrap64; omega
 simp only [f1, f2, f3, e0, e1, e2]
 simp
 grind
theorem ports_l0 (l : List Int) (hl : l.length ≤ 8) (d : Nat) : ∀ k i : Nat, i + d = l.length → 2 * d < k → sacristanref10_Check.l0 k l i = some (portsG (if i = 0 then 0 else l.getD (i - 1) 0) (l.drop i)) := by
 induction d with
 | zero =>
  intro k i hi hk
  obtain ⟨k, rfl⟩ : ∃ m, k = m + 1 := ⟨k - 1, by omega⟩
  simp only [sacristanref10_Check.l0]
  rw [if_neg (by omega), List.drop_eq_nil_of_le (by omega)]
  rfl
 | succ d ih =>
  intro k i hi hk
  obtain ⟨k, rfl⟩ : ∃ m, k = m + 2 := ⟨k - 2, by omega⟩
  have hil : i < l.length := by omega
  have q := ih k (i + 1) (by omega) (by omega)
  rw [if_neg (by omega), Nat.add_sub_cancel] at q
  have hg : l.getD i 0 = l[i] := by simp [hil]
  rw [hg] at q
  rw [List.drop_eq_getElem_cons hil]
  simp only [sacristanref10_Check.l0, portsG]
  rw [if_pos (by omega), if_pos (by omega), rd_at l i hil]
  by_cases h1 : l[i] < 1
  ·rw [if_pos h1, if_pos (.inl h1)]
   simp only [sacristanref10_Check.j1]
   rw [if_pos trivial]
  ·rw [if_neg h1]
   by_cases h2 : l[i] > 65535
   ·rw [decide_eq_true h2, if_pos (.inr h2)]
    simp only [sacristanref10_Check.j1]
    rw [if_pos trivial]
   ·rw [decide_eq_false h2, if_neg (fun h => h.elim h1 h2)]
    simp only [sacristanref10_Check.j1]
    rw [if_neg (by simp), rd_at l i hil]
    by_cases h3 : i = 0
    ·subst h3
     rw [if_neg (by omega), if_pos rfl, if_neg (by omega), w1 (by omega)]
     exact q
    ·have h4 : wrap64 ((i : Int) - 1) = ((i - 1 : Nat) : Int) := by unfold wrap64; omega
     rw [if_pos (by omega), if_pos (by omega), if_pos (by omega), h4, if_pos (by omega), if_pos (by omega), rd_at l (i - 1) (by omega), if_neg h3, w1 (by omega)]
     have hg2 : l.getD (i - 1) 0 = l[i - 1] := by simp [show i - 1 < l.length by omega]
     rw [hg2]
     split
     ·rfl
     ·exact q
theorem ports_eq (k : Nat) (hk : 20 ≤ k) (l : List Int) : sacristanref10_Check.f k l = some (portsE l) := by
 unfold sacristanref10_Check.f portsE
 by_cases h : l.length > 8
 ·rw [if_pos (by omega), if_pos h]
 ·rw [if_neg (by omega), if_neg h]
  have := ports_l0 l (by omega) l.length k 0 (by omega) (by omega)
  simpa using this
theorem pol_eq (b : Bool) (l w c m : Int) : sacristanref11_Check.f b l w c m = some (polE l w c m) := by
 unfold sacristanref11_Check.f polE
 simp only [inI_iff]
 grind
theorem tasks_l0 (a b c d : Int) (p : List Int) (m : List (S90)) (hm : m.length ≤ 4) (n : Nat) : ∀ k i : Nat, i + n = m.length → n < k → sacristanref13_Check.l0 k i a b c d p m = some (fstE (((m.map toTS).drop i).flatMap taskE)) := by
 induction n with
 | zero =>
  intro k i hi hk
  obtain ⟨k, rfl⟩ : ∃ m, k = m + 1 := ⟨k - 1, by omega⟩
  simp only [sacristanref13_Check.l0]
  rw [if_neg (by omega), List.drop_eq_nil_of_le (by rw [List.length_map]; omega)]
  rfl
 | succ n ih =>
  intro k i hi hk
  obtain ⟨k, rfl⟩ : ∃ m, k = m + 1 := ⟨k - 1, by omega⟩
  have hil : i < m.length := by omega
  have q := ih k (i + 1) (by omega) (by omega)
  simp only [sacristanref13_Check.l0]
  rw [if_pos (by omega), if_pos (by omega), rdT_at m i hil, pol_eq, Option.bind_some, List.drop_eq_getElem_cons (by rw [List.length_map]; exact hil), List.flatMap_cons, w1 (by omega), q]
  have e : (m.map toTS)[i]'(by rw [List.length_map]; exact hil) = toTS m[i] := by simp
  rw [e]
  generalize ((m.map toTS).drop (i + 1)).flatMap taskE = z
  show _ = some (fstE (polE (m[i]).f0.f1 (m[i]).f0.f2 (m[i]).f0.f3 (m[i]).f0.f4 :: rangeE (m[i]).f1 0 1000 :: z))
  by_cases h1 : polE (m[i]).f0.f1 (m[i]).f0.f2 (m[i]).f0.f3 (m[i]).f0.f4 = 0
  ·rw [if_pos h1, fstE0 h1]
   by_cases h2 : (m[i]).f1 < 0
   ·rw [if_pos h2, range_no (.inl h2), fstEN (by omega)]
   ·rw [if_neg h2]
    by_cases h3 : (m[i]).f1 > 1000
    ·rw [if_pos h3, range_no (.inr h3), fstEN (by omega)]
    ·rw [if_neg h3, range_ok (by omega) (by omega), fstE0 rfl]
  ·rw [if_neg h1, fstEN h1]
theorem check_eq (k : Nat) (a b c d : Int) (l : List Int) (m : List (S90)) : sacristanref13_Check.f (k + 30) a b c d l m = some (specE (spOf a b c d l m)) := by
 have e : specE (spOf a b c d l m) = fstE (rangeE a 0 2147483648 :: resE b c d :: portsE l :: countE m.length :: (((m.map toTS).take 4).flatMap taskE)) := by
  unfold specE askE spOf
  simp only [List.length_map]
  rfl
 rw [e]
 unfold sacristanref13_Check.f
 by_cases h1 : a < 0
 ·rw [if_pos h1, range_no (.inl h1), fstEN (by omega)]
  simp only [sacristanref13_Check.j0]
  rw [if_pos trivial]
 ·rw [if_neg h1]
  by_cases h2 : a > 2147483648
  ·rw [decide_eq_true h2, range_no (.inr h2), fstEN (by omega)]
   simp only [sacristanref13_Check.j0]
   rw [if_pos trivial]
  ·rw [decide_eq_false h2, range_ok (by omega) (by omega), fstE0 rfl]
   simp only [sacristanref13_Check.j0]
   rw [if_neg (by simp), res_eq, Option.bind_some]
   by_cases h3 : resE b c d = 0
   ·rw [if_pos h3, fstE0 h3, ports_eq _ (by omega), Option.bind_some]
    by_cases h4 : portsE l = 0
    ·rw [if_pos h4, fstE0 h4]
     unfold countE
     by_cases h5 : m.length = 0
     ·rw [if_pos (by omega), if_pos h5, fstEN (by omega)]
     ·rw [if_neg (by omega), if_neg h5]
      by_cases h6 : m.length > 4
      ·rw [if_pos (by omega), if_pos h6, fstEN (by omega)]
      ·rw [if_neg (by omega), if_neg h6, fstE0 rfl, List.take_of_length_le (by rw [List.length_map]; omega)]
       have := tasks_l0 a b c d l m (by omega) m.length (k + 29) 0 (by omega) (by omega)
       simpa using this
    ·rw [if_neg h4, fstEN h4]
   ·rw [if_neg h3, fstEN h3]
abbrev M62 : Int := 4611686018427387904
abbrev R8 : Type := Int × Int × Int × Int × List Int × (List (S90)) × ByteArray × Bool
def BadT (o : Option R8) : Prop := ∃ t, o = some t ∧ t.2.2.2.2.2.2.2 = true
def numR (l : List UInt8) (b : Bool) : Int × List UInt8 × Bool := if b = true then (0, l, true) else match numL M62 l with | none => (0, l, true) | some x => (x.1, x.2, false)
theorem numR_true (l : List UInt8) : numR l true = (0, l, true) := rfl
theorem numR_none {l : List UInt8} (h : numL M62 l = none) : numR l false = (0, l, true) := by unfold numR; rw [if_neg (by simp), h]
theorem numR_some {l : List UInt8} {x : Int × List UInt8} (h : numL M62 l = some x) : numR l false = (x.1, x.2, false) := by unfold numR; rw [if_neg (by simp), h]
theorem numL_len {m : Int} {l : List UInt8} {x : Int × List UInt8} (h : numL m l = some x) : x.2.length ≤ l.length := by
 unfold numL at h
 obtain ⟨⟨n, r⟩, h1, h2⟩ := Option.bind_eq_some_iff.1 h
 split at h2
 ·injection h2 with h2
  subst h2
  have := unvar_length h1
  simp only
  omega
 ·cases h2
theorem numL_le {m : Int} (hm : m ≤ M62) (l : List UInt8) : numL m l = (numL M62 l).bind fun x => if x.1 ≤ m then some x else none := by
 unfold numL
 cases unvarL l with
 | none => rfl
 | some x =>
  simp only [Option.bind_some]
  by_cases h : (x.1 : Int) ≤ m
  ·rw [if_pos h, if_pos (by omega), Option.bind_some, if_pos h]
  ·rw [if_neg h]
   by_cases h2 : (x.1 : Int) ≤ M62
   ·rw [if_pos h2, Option.bind_some, if_neg h]
   ·rw [if_neg h2]; rfl
theorem numR_len (l : List UInt8) (b : Bool) : (numR l b).2.1.length ≤ l.length := by
 cases b with
 | true => exact Nat.le_refl _
 | false =>
  cases h : numL M62 l with
  | none => rw [numR_none h]; exact Nat.le_refl _
  | some x => rw [numR_some h]; exact numL_len h
theorem num_eq (k : Nat) (hk : 30 ≤ k) (l : List UInt8) (hl : l.length ≤ 2000) (b : Bool) : sacristanref13_Reader_Num.f k (mkB l) b = some ((numR l b).1, mkB (numR l b).2.1, (numR l b).2.2) := by
 unfold sacristanref13_Reader_Num.f
 rw [runvar_eq k hk l (by omega), Option.bind_some]
 cases b with
 | true => rw [if_pos rfl]; rfl
 | false =>
  rw [if_neg (by simp)]
  unfold unvarR
  cases h : unvarL l with
  | none =>
   have hn : numL M62 l = none := by unfold numL; rw [h]; rfl
   rw [numR_none hn]
   rfl
  | some x =>
   obtain ⟨n, r⟩ := x
   by_cases hn : (n : Int) ≤ M62
   ·have hs : numL M62 l = some ((n : Int), r) := by unfold numL; rw [h]; simp only [Option.bind_some]; rw [if_pos hn]
    have hw : wrap64 (n : Int) = n := by unfold wrap64; unfold M62 at hn; omega
    rw [numR_some hs]
    simp only []
    rw [if_pos trivial, if_neg (by unfold M62 at hn; omega), hw]
   ·have hs : numL M62 l = none := by unfold numL; rw [h]; simp only [Option.bind_some]; rw [if_neg hn]
    rw [numR_none hs]
    simp only []
    rw [if_pos trivial, if_pos (by unfold M62 at hn; omega)]
theorem l1_bad (k : Nat) (n i : Int) (l : ByteArray) (a b c d : Int) (p : List Int) (ts : List (S90)) : BadT (sacristanref13_Reader_Spec.l1 (k + 2) n i l true a b c d p ts) := by
 simp only [sacristanref13_Reader_Spec.l1]
 by_cases h : i < n
 ·rw [if_pos h]
  simp only [sacristanref13_Reader_Spec.j5]
  rw [if_neg (by simp), if_pos trivial]
  exact ⟨_, rfl, rfl⟩
 ·rw [if_neg h]
  simp only [sacristanref13_Reader_Spec.j5]
  rw [if_neg (by simp), if_pos trivial]
  exact ⟨_, rfl, rfl⟩
theorem j2_bad (k : Nat) (l : List UInt8) (hl : l.length ≤ 2000) (a b c d : Int) (p : List Int) : BadT (sacristanref13_Reader_Spec.j2 (k + 40) (mkB l) true a b c d p) := by
 simp only [sacristanref13_Reader_Spec.j2]
 rw [num_eq _ (by omega) l hl, numR_true, Option.bind_some]
 rw [if_pos rfl]
 simp only [sacristanref13_Reader_Spec.j3]
 exact l1_bad _ _ _ _ _ _ _ _ _ _
theorem l0_bad (k : Nat) (n i : Int) (l : List UInt8) (hl : l.length ≤ 2000) (a b c d : Int) (p : List Int) : BadT (sacristanref13_Reader_Spec.l0 (k + 41) n i (mkB l) true a b c d p) := by
 simp only [sacristanref13_Reader_Spec.l0]
 by_cases h : i < n
 ·rw [if_pos h, if_pos trivial]; exact j2_bad k l hl a b c d p
 ·rw [if_neg h]; exact j2_bad k l hl a b c d p
theorem ports_run (a b c d : Int) (n : Nat) (hn : n ≤ 8) (m : Nat) : ∀ (k i : Nat) (l : List UInt8) (p : List Int), i + m = n → l.length ≤ 2000 → p.length ≤ i →
  match manyP (numL M62) m l with
  | none => BadT (sacristanref13_Reader_Spec.l0 (k + 41 + m) n i (mkB l) false a b c d p)
  | some (xs, r) => sacristanref13_Reader_Spec.l0 (k + 41 + m) n i (mkB l) false a b c d p = sacristanref13_Reader_Spec.j2 (k + 40) (mkB r) false a b c d (p ++ xs) ∧ r.length ≤ l.length := by
 induction m with
 | zero =>
  intro k i l p hi hl hp
  simp only [manyP]
  refine ⟨?_, Nat.le_refl _⟩
  simp only [sacristanref13_Reader_Spec.l0]
  rw [if_neg (by omega), List.append_nil]
 | succ m ih =>
  intro k i l p hi hl hp
  have hs : sacristanref13_Reader_Spec.l0 (k + 41 + (m + 1)) n i (mkB l) false a b c d p = sacristanref13_Reader_Spec.l0 (k + 41 + m) n ((i + 1 : Nat) : Int) (mkB (numR l false).2.1) (numR l false).2.2 a b c d (p ++ [(numR l false).1]) := by
   rw [show k + 41 + (m + 1) = (k + 41 + m) + 1 by omega]
   simp only [sacristanref13_Reader_Spec.l0]
   rw [if_pos (by omega), if_neg (by simp), num_eq _ (by omega) l hl, Option.bind_some, if_pos (by omega), w1 (by omega)]
  rw [hs]
  simp only [manyP]
  cases h : numL M62 l with
  | none =>
   rw [numR_none h]
   simp only [Option.bind_none]
   rw [show k + 41 + m = (k + m) + 41 by omega]
   exact l0_bad _ _ _ l hl _ _ _ _ _
  | some x =>
   rw [numR_some h]
   simp only [Option.bind_some]
   have hx := numL_len h
   have q := ih k (i + 1) x.2 (p ++ [x.1]) (by omega) (by omega) (by simp; omega)
   cases h2 : manyP (numL M62) m x.2 with
   | none =>
    rw [h2] at q
    exact q
   | some y =>
    rw [h2] at q
    obtain ⟨q1, q2⟩ := q
    refine ⟨?_, by omega⟩
    rw [q1, List.append_assoc]
    rfl
def n1 (l : List UInt8) (b : Bool) := numR l b
def n2 (l : List UInt8) (b : Bool) := numR (n1 l b).2.1 (n1 l b).2.2
def n3 (l : List UInt8) (b : Bool) := numR (n2 l b).2.1 (n2 l b).2.2
def n4 (l : List UInt8) (b : Bool) := numR (n3 l b).2.1 (n3 l b).2.2
def n5 (l : List UInt8) (b : Bool) := numR (n4 l b).2.1 (n4 l b).2.2
theorem n_len (l : List UInt8) (b : Bool) : (n1 l b).2.1.length ≤ l.length ∧ (n2 l b).2.1.length ≤ l.length ∧ (n3 l b).2.1.length ≤ l.length ∧ (n4 l b).2.1.length ≤ l.length ∧ (n5 l b).2.1.length ≤ l.length := by
 have h1 := numR_len l b
 have h2 := numR_len (n1 l b).2.1 (n1 l b).2.2
 have h3 := numR_len (n2 l b).2.1 (n2 l b).2.2
 have h4 := numR_len (n3 l b).2.1 (n3 l b).2.2
 have h5 := numR_len (n4 l b).2.1 (n4 l b).2.2
 unfold n5 n4 n3 n2 n1 at *
 omega
theorem numR_bad (l : List UInt8) {b : Bool} (h : b = true) : (numR l b).2.2 = true := by subst h; rfl
theorem n5_bad1 (l : List UInt8) (b : Bool) (h : (n4 l b).2.2 = true) : (n5 l b).2.2 = true := numR_bad _ h
theorem n5_bad2 (l : List UInt8) (b : Bool) (h : (n3 l b).2.2 = true) : (n5 l b).2.2 = true := n5_bad1 _ _ (numR_bad _ h)
theorem n5_bad3 (l : List UInt8) (b : Bool) (h : (n2 l b).2.2 = true) : (n5 l b).2.2 = true := n5_bad2 _ _ (numR_bad _ h)
theorem n5_bad4 (l : List UInt8) (b : Bool) (h : (n1 l b).2.2 = true) : (n5 l b).2.2 = true := n5_bad3 _ _ (numR_bad _ h)
theorem n5_bad5 (l : List UInt8) (b : Bool) (h : b = true) : (n5 l b).2.2 = true := n5_bad4 _ _ (numR_bad _ h)
def five (l : List UInt8) : Option ((Int × Int × Int × Int × Int) × List UInt8) :=
 (numL M62 l).bind fun b => (numL M62 b.2).bind fun c => (numL M62 c.2).bind fun d => (numL M62 d.2).bind fun e => (numL M62 e.2).bind fun f => some ((b.1, c.1, d.1, e.1, f.1), f.2)
theorem five_run (l : List UInt8) :
  match five l with
  | none => (n5 l false).2.2 = true
  | some (x, r) => (n1 l false).1 = x.1 ∧ (n2 l false).1 = x.2.1 ∧ (n3 l false).1 = x.2.2.1 ∧ (n4 l false).1 = x.2.2.2.1 ∧ n5 l false = (x.2.2.2.2, r, false) := by
 unfold five
 cases h1 : numL M62 l with
 | none => exact n5_bad4 _ _ (by unfold n1; rw [numR_none h1])
 | some b =>
  have e1 : n1 l false = (b.1, b.2, false) := numR_some h1
  simp only [Option.bind_some]
  cases h2 : numL M62 b.2 with
  | none => exact n5_bad3 _ _ (by unfold n2; rw [e1]; simp only; rw [numR_none h2])
  | some c =>
   have e2 : n2 l false = (c.1, c.2, false) := by unfold n2; rw [e1]; exact numR_some h2
   simp only [Option.bind_some]
   cases h3 : numL M62 c.2 with
   | none => exact n5_bad2 _ _ (by unfold n3; rw [e2]; simp only; rw [numR_none h3])
   | some d =>
    have e3 : n3 l false = (d.1, d.2, false) := by unfold n3; rw [e2]; exact numR_some h3
    simp only [Option.bind_some]
    cases h4 : numL M62 d.2 with
    | none => exact n5_bad1 _ _ (by unfold n4; rw [e3]; simp only; rw [numR_none h4])
    | some e =>
     have e4 : n4 l false = (e.1, e.2, false) := by unfold n4; rw [e3]; exact numR_some h4
     simp only [Option.bind_some]
     cases h5 : numL M62 e.2 with
     | none => show (n5 l false).2.2 = true; unfold n5; rw [e4]; simp only; rw [numR_none h5]
     | some f =>
      have e5 : n5 l false = (f.1, f.2, false) := by unfold n5; rw [e4]; exact numR_some h5
      simp only [Option.bind_some]
      rw [e1, e2, e3, e4, e5]
      exact ⟨rfl, rfl, rfl, rfl, rfl⟩
theorem num_eq1 (k : Nat) (hk : 30 ≤ k) (l : List UInt8) (b : Bool) (hl : l.length ≤ 2000) : sacristanref13_Reader_Num.f k (mkB l) b = some ((n1 l b).1, mkB (n1 l b).2.1, (n1 l b).2.2) := num_eq k hk l hl b
theorem num_eq2 (k : Nat) (hk : 30 ≤ k) (l : List UInt8) (b : Bool) (hl : (n1 l b).2.1.length ≤ 2000) : sacristanref13_Reader_Num.f k (mkB (n1 l b).2.1) (n1 l b).2.2 = some ((n2 l b).1, mkB (n2 l b).2.1, (n2 l b).2.2) := num_eq k hk _ hl _
theorem num_eq3 (k : Nat) (hk : 30 ≤ k) (l : List UInt8) (b : Bool) (hl : (n2 l b).2.1.length ≤ 2000) : sacristanref13_Reader_Num.f k (mkB (n2 l b).2.1) (n2 l b).2.2 = some ((n3 l b).1, mkB (n3 l b).2.1, (n3 l b).2.2) := num_eq k hk _ hl _
theorem num_eq4 (k : Nat) (hk : 30 ≤ k) (l : List UInt8) (b : Bool) (hl : (n3 l b).2.1.length ≤ 2000) : sacristanref13_Reader_Num.f k (mkB (n3 l b).2.1) (n3 l b).2.2 = some ((n4 l b).1, mkB (n4 l b).2.1, (n4 l b).2.2) := num_eq k hk _ hl _
theorem num_eq5 (k : Nat) (hk : 30 ≤ k) (l : List UInt8) (b : Bool) (hl : (n4 l b).2.1.length ≤ 2000) : sacristanref13_Reader_Num.f k (mkB (n4 l b).2.1) (n4 l b).2.2 = some ((n5 l b).1, mkB (n5 l b).2.1, (n5 l b).2.2) := num_eq k hk _ hl _
theorem j6_eq (k : Nat) (n : Int) (i : Nat) (v : Int) (l : List UInt8) (bb : Bool) (a b c d : Int) (p : List Int) (ts : List (S90)) (hi : i ≤ 10) (hts : ts.length ≤ 10) (hl : l.length ≤ 2000) :
  sacristanref13_Reader_Spec.j6 (k + 41) n i v (mkB l) bb a b c d p ts = sacristanref13_Reader_Spec.l1 (k + 40) n ((i + 1 : Nat) : Int) (mkB (n5 l bb).2.1) (n5 l bb).2.2 a b c d p (ts ++ [⟨⟨(v == 1), (n1 l bb).1, (n2 l bb).1, (n3 l bb).1, (n4 l bb).1⟩, (n5 l bb).1⟩]) := by
 have hn := n_len l bb
 simp only [sacristanref13_Reader_Spec.j6]
 rw [num_eq1 _ (by omega) l bb hl, Option.bind_some]
 simp only []
 rw [num_eq2 _ (by omega) l bb (by omega), Option.bind_some]
 simp only []
 rw [num_eq3 _ (by omega) l bb (by omega), Option.bind_some]
 simp only []
 rw [num_eq4 _ (by omega) l bb (by omega), Option.bind_some]
 simp only []
 rw [num_eq5 _ (by omega) l bb (by omega), Option.bind_some]
 rw [if_pos (by omega), w1 (by omega)]
theorem rdT2_five (l : List UInt8) : rdT2 l = (numL 1 l).bind fun a => (five a.2).bind fun x => some (⟨decide (a.1 = 1), x.1.1, x.1.2.1, x.1.2.2.1, x.1.2.2.2.1, x.1.2.2.2.2⟩, x.2) := by
 unfold rdT2 five
 simp only [Option.bind_assoc, Option.bind_some]
theorem task_step (k : Nat) (n i : Nat) (l : List UInt8) (a b c d : Int) (p : List Int) (ts : List (S90)) (hi : i < n) (hn : n ≤ 4) (hts : ts.length ≤ i) (hl : l.length ≤ 2000) :
  match rdT2 l with
  | none => BadT (sacristanref13_Reader_Spec.l1 (k + 43) n i (mkB l) false a b c d p ts)
  | some (t, r) => sacristanref13_Reader_Spec.l1 (k + 43) n i (mkB l) false a b c d p ts = sacristanref13_Reader_Spec.l1 (k + 40) n ((i + 1 : Nat) : Int) (mkB r) false a b c d p (ts ++ [ofTS t]) ∧ r.length ≤ l.length := by
 have hs : ∀ bb, (bb = (if (numR l false).2.2 = true then true else decide ((numR l false).1 > 1))) → sacristanref13_Reader_Spec.l1 (k + 43) n i (mkB l) false a b c d p ts = sacristanref13_Reader_Spec.j6 (k + 41) n i (numR l false).1 (mkB (numR l false).2.1) bb a b c d p ts := by
  intro bb hbb
  simp only [sacristanref13_Reader_Spec.l1]
  rw [if_pos (by omega)]
  simp only [sacristanref13_Reader_Spec.j5]
  rw [if_pos (by simp), num_eq _ (by omega) l hl, Option.bind_some]
  simp only []
  by_cases hb : (numR l false).2.2 = true
  ·rw [if_pos hb] at hbb ⊢
   rw [hbb]
  ·rw [if_neg hb] at hbb ⊢
   rw [hbb]
 rw [rdT2_five, numL_le (by decide) l]
 have bad : ∀ v r ts', r.length ≤ 2000 → ts'.length ≤ 4 → BadT (sacristanref13_Reader_Spec.j6 (k + 41) n i v (mkB r) true a b c d p ts') := by
  intro v r ts' hr ht
  rw [j6_eq k n i v r true a b c d p ts' (by omega) (by omega) hr, n5_bad5 r true rfl]
  exact l1_bad _ _ _ _ _ _ _ _ _ _
 cases h : numL M62 l with
 | none =>
  rw [hs true (by rw [numR_none h]; rfl)]
  exact bad _ _ _ (by have := numR_len l false; omega) (by omega)
 | some x =>
  have hx := numL_len h
  simp only [Option.bind_some]
  by_cases h1 : x.1 ≤ 1
  ·rw [if_pos h1, hs false (by rw [numR_some h]; simp; omega), numR_some h, j6_eq k n i x.1 x.2 false a b c d p ts (by omega) (by omega) (by omega)]
   simp only [Option.bind_some]
   have q := five_run x.2
   have hl5 := (n_len x.2 false).2.2.2.2
   cases h5 : five x.2 with
   | none =>
    rw [h5] at q
    have q : (n5 x.2 false).2.2 = true := q
    rw [q]
    exact l1_bad _ _ _ _ _ _ _ _ _ _
   | some y =>
    rw [h5] at q
    obtain ⟨y, r⟩ := y
    obtain ⟨q1, q2, q3, q4, q5⟩ := q
    rw [q5] at hl5
    rw [q1, q2, q3, q4, q5]
    simp only [Option.bind_some]
    refine ⟨?_, by simp only at hl5; omega⟩
    rfl
  ·rw [if_neg h1, hs true (by rw [numR_some h]; simp; omega), numR_some h]
   exact bad _ _ _ (by simp only; omega) (by omega)
theorem tasks_run (a b c d : Int) (p : List Int) (n : Nat) (hn : n ≤ 4) (m : Nat) : ∀ (k i : Nat) (l : List UInt8) (ts : List (S90)), i + m = n → l.length ≤ 2000 → ts.length ≤ i →
  match manyP rdT2 m l with
  | none => BadT (sacristanref13_Reader_Spec.l1 (k + 40 + 3 * m) n i (mkB l) false a b c d p ts)
  | some (xs, r) => sacristanref13_Reader_Spec.l1 (k + 40 + 3 * m) n i (mkB l) false a b c d p ts = sacristanref13_Reader_Spec.l1 (k + 40) n n (mkB r) false a b c d p (ts ++ xs.map ofTS) ∧ r.length ≤ l.length := by
 induction m with
 | zero =>
  intro k i l ts hi hl ht
  simp only [manyP]
  refine ⟨?_, Nat.le_refl _⟩
  obtain rfl : i = n := by omega
  rw [List.map_nil, List.append_nil]
 | succ m ih =>
  intro k i l ts hi hl ht
  have q := task_step (k + 3 * m) n i l a b c d p ts (by omega) hn ht hl
  rw [show k + 40 + 3 * (m + 1) = k + 3 * m + 43 by omega]
  simp only [manyP]
  cases h : rdT2 l with
  | none => rw [h] at q; exact q
  | some x =>
   obtain ⟨t, r⟩ := x
   rw [h] at q
   obtain ⟨q1, q2⟩ := q
   rw [q1]
   simp only [Option.bind_some]
   have q3 := ih k (i + 1) r (ts ++ [ofTS t]) (by omega) (by omega) (by simp; omega)
   rw [show k + 3 * m + 40 = k + 40 + 3 * m by omega]
   cases h2 : manyP rdT2 m r with
   | none => rw [h2] at q3; exact q3
   | some y =>
    rw [h2] at q3
    obtain ⟨q4, q5⟩ := q3
    refine ⟨?_, by omega⟩
    rw [q4, List.append_assoc]
    rfl
theorem l1_end (k : Nat) (n : Nat) (r : ByteArray) (a b c d : Int) (p : List Int) (ts : List (S90)) : sacristanref13_Reader_Spec.l1 (k + 40) n n r false a b c d p ts = some (a, b, c, d, p, ts, r, (specE (spOf a b c d p ts) != 0)) := by
 simp only [sacristanref13_Reader_Spec.l1]
 rw [if_neg (by omega)]
 simp only [sacristanref13_Reader_Spec.j5]
 rw [if_neg (by simp), if_neg (by simp), show k + 38 = (k + 8) + 30 by omega, check_eq, Option.bind_some]
def rdS3 (l : List UInt8) : Option (SP × List UInt8) :=
 (five l).bind fun x => (if x.1.2.2.2.2 ≤ 8 then manyP (numL M62) x.1.2.2.2.2.toNat x.2 else none).bind fun e => (listP 4 rdT2 e.2).bind fun f => some (⟨x.1.1, x.1.2.1, x.1.2.2.1, x.1.2.2.2.1, e.1, f.1⟩, f.2)
theorem rdS3_eq (l : List UInt8) : rdS2 l = rdS3 l := by
 unfold rdS2 rdS3 five listP
 simp only [Option.bind_assoc, Option.bind_some]
 congr 1; funext a; congr 1; funext b; congr 1; funext c; congr 1; funext d
 rw [numL_le (m := 8) (by decide)]
 simp only [Option.bind_assoc]
 congr 1; funext e
 split
 ·simp only [Option.bind_some]
 ·rfl
theorem numL_nn {m : Int} {l : List UInt8} {x : Int × List UInt8} (h : numL m l = some x) : 0 ≤ x.1 := by
 unfold numL at h
 obtain ⟨⟨n, r⟩, h1, h2⟩ := Option.bind_eq_some_iff.1 h
 split at h2
 ·injection h2 with h2
  subst h2
  simp only
  omega
 ·cases h2
theorem j2_run (k : Nat) (l : List UInt8) (hl : l.length ≤ 2000) (a b c d : Int) (p : List Int) :
  match listP 4 rdT2 l with
  | none => BadT (sacristanref13_Reader_Spec.j2 (k + 60) (mkB l) false a b c d p)
  | some (xs, r) => sacristanref13_Reader_Spec.j2 (k + 60) (mkB l) false a b c d p = some (a, b, c, d, p, xs.map ofTS, mkB r, (specE (spOf a b c d p (xs.map ofTS)) != 0)) := by
 have hs : ∀ bb, (bb = (if (numR l false).2.2 = true then true else decide ((numR l false).1 > 4))) → sacristanref13_Reader_Spec.j2 (k + 60) (mkB l) false a b c d p = sacristanref13_Reader_Spec.l1 (k + 58) (numR l false).1 0 (mkB (numR l false).2.1) bb a b c d p [] := by
  intro bb hbb
  simp only [sacristanref13_Reader_Spec.j2]
  rw [num_eq _ (by omega) l hl, Option.bind_some]
  simp only []
  by_cases hb : (numR l false).2.2 = true
  ·rw [if_pos hb] at hbb ⊢
   rw [hbb]
   simp only [sacristanref13_Reader_Spec.j3]
  ·rw [if_neg hb] at hbb ⊢
   rw [hbb]
   simp only [sacristanref13_Reader_Spec.j3]
 unfold listP
 rw [numL_le (by decide) l]
 cases h : numL M62 l with
 | none =>
  rw [hs true (by rw [numR_none h]; rfl)]
  exact l1_bad _ _ _ _ _ _ _ _ _ _
 | some x =>
  have hx := numL_len h
  have hx0 := numL_nn h
  simp only [Option.bind_some]
  by_cases h1 : x.1 ≤ 4
  ·rw [if_pos h1, hs false (by rw [numR_some h]; simp; omega), numR_some h]
   simp only [Option.bind_some]
   obtain ⟨n, hn⟩ := Int.eq_ofNat_of_zero_le hx0
   have q := tasks_run a b c d p n (by omega) n (k + 18 - 3 * n) 0 x.2 [] (by omega) (by omega) (by simp)
   rw [hn, Int.toNat_natCast]
   rw [show k + 18 - 3 * n + 40 + 3 * n = k + 58 by omega] at q
   cases h2 : manyP rdT2 n x.2 with
   | none => rw [h2] at q; exact q
   | some y =>
    rw [h2] at q
    obtain ⟨ys, r⟩ := y
    obtain ⟨q1, q2⟩ := q
    exact q1.trans (l1_end _ _ _ _ _ _ _ _ _)
  ·rw [if_neg h1, hs true (by rw [numR_some h]; simp; omega), numR_some h]
   exact l1_bad _ _ _ _ _ _ _ _ _ _
theorem spec_run (l : List UInt8) (hl : l.length ≤ 2000) :
  match rdS2 l with
  | none => BadT (sacristanref13_Reader_Spec.f 100 (mkB l) false)
  | some (s, r) => sacristanref13_Reader_Spec.f 100 (mkB l) false = some (s.id, s.cpu, s.mem, s.disk, s.ports, s.tasks.map ofTS, mkB r, (specE s != 0)) := by
 have hn := n_len l false
 have hs : ∀ bb, (bb = (if (n5 l false).2.2 = true then true else decide ((n5 l false).1 > 8))) → sacristanref13_Reader_Spec.f 100 (mkB l) false = sacristanref13_Reader_Spec.l0 99 (n5 l false).1 0 (mkB (n5 l false).2.1) bb (n1 l false).1 (n2 l false).1 (n3 l false).1 (n4 l false).1 [] := by
  intro bb hbb
  unfold sacristanref13_Reader_Spec.f
  rw [num_eq1 100 (by omega) l false hl, Option.bind_some]
  simp only []
  rw [num_eq2 100 (by omega) l false (by omega), Option.bind_some]
  simp only []
  rw [num_eq3 100 (by omega) l false (by omega), Option.bind_some]
  simp only []
  rw [num_eq4 100 (by omega) l false (by omega), Option.bind_some]
  simp only []
  rw [num_eq5 100 (by omega) l false (by omega), Option.bind_some]
  by_cases hb : (n5 l false).2.2 = true
  ·rw [if_pos hb] at hbb
   subst hbb
   refine (if_pos hb).trans ?_
   simp only [sacristanref13_Reader_Spec.j0]
  ·rw [if_neg hb] at hbb
   subst hbb
   refine (if_neg hb).trans ?_
   simp only [sacristanref13_Reader_Spec.j0]
 rw [rdS3_eq]
 unfold rdS3
 have q := five_run l
 cases h5 : five l with
 | none =>
  rw [h5] at q
  have q : (n5 l false).2.2 = true := q
  rw [hs true (by rw [if_pos q])]
  exact l0_bad 58 _ _ _ (by omega) _ _ _ _ _
 | some y =>
  rw [h5] at q
  obtain ⟨⟨y1, y2, y3, y4, y5⟩, r⟩ := y
  obtain ⟨q1, q2, q3, q4, q5⟩ := q
  simp only at q1 q2 q3 q4 q5
  have hr := hn.2.2.2.2
  rw [q5] at hr
  simp only at hr
  simp only [Option.bind_some]
  by_cases h8 : y5 ≤ 8
  ·rw [if_pos h8, hs false (by rw [q5]; simp; omega), q1, q2, q3, q4, q5]
   simp only []
   have h0 : 0 ≤ y5 := by
    unfold five at h5
    simp only [Option.bind_eq_some_iff] at h5
    obtain ⟨_, _, _, _, _, _, _, _, f, hf, h5⟩ := h5
    have := numL_nn hf
    injection h5 with h5
    injection h5 with h5 _
    injection h5 with _ h5
    injection h5 with _ h5
    injection h5 with _ h5
    injection h5 with _ h5
    omega
   obtain ⟨n, rfl⟩ := Int.eq_ofNat_of_zero_le h0
   have p := ports_run y1 y2 y3 y4 n (by omega) n (58 - n) 0 r [] (by omega) (by omega) (by simp)
   rw [show 58 - n + 41 + n = 99 by omega] at p
   rw [Int.toNat_natCast]
   cases h2 : manyP (numL M62) n r with
   | none => rw [h2] at p; exact p
   | some e =>
    rw [h2] at p
    obtain ⟨xs, r2⟩ := e
    obtain ⟨p1, p2⟩ := p
    simp only [Option.bind_some]
    have p1' : sacristanref13_Reader_Spec.l0 99 (n : Int) 0 (mkB r) false y1 y2 y3 y4 [] = sacristanref13_Reader_Spec.j2 (58 - n + 40) (mkB r2) false y1 y2 y3 y4 xs := p1
    rw [p1', show 58 - n + 40 = (38 - n) + 60 by omega]
    have t := j2_run (38 - n) r2 (by omega) y1 y2 y3 y4 xs
    cases h3 : listP 4 rdT2 r2 with
    | none => rw [h3] at t; exact t
    | some f =>
     rw [h3] at t
     obtain ⟨ts, r3⟩ := f
     have t : _ = some (y1, y2, y3, y4, xs, ts.map ofTS, mkB r3, (specE (spOf y1 y2 y3 y4 xs (ts.map ofTS)) != 0)) := t
     rw [t]
     have e : spOf y1 y2 y3 y4 xs (ts.map ofTS) = ⟨y1, y2, y3, y4, xs, ts⟩ := by
      unfold spOf
      rw [List.map_map, show (toTS ∘ ofTS) = id from rfl, List.map_id]
     rw [e]
     rfl
  ·rw [if_neg h8, hs true (by rw [q5]; simp; omega), q5]
   exact l0_bad 58 _ _ _ (by simp only; omega) _ _ _ _ _
theorem spec_bad (l : List UInt8) (hl : l.length ≤ 2000) : BadT (sacristanref13_Reader_Spec.f 100 (mkB l) true) := by
 have hn := n_len l true
 have hb : (n5 l true).2.2 = true := n5_bad5 l true rfl
 have hs : sacristanref13_Reader_Spec.f 100 (mkB l) true = sacristanref13_Reader_Spec.l0 99 (n5 l true).1 0 (mkB (n5 l true).2.1) true (n1 l true).1 (n2 l true).1 (n3 l true).1 (n4 l true).1 [] := by
  unfold sacristanref13_Reader_Spec.f
  rw [num_eq1 100 (by omega) l true hl, Option.bind_some]
  simp only []
  rw [num_eq2 100 (by omega) l true (by omega), Option.bind_some]
  simp only []
  rw [num_eq3 100 (by omega) l true (by omega), Option.bind_some]
  simp only []
  rw [num_eq4 100 (by omega) l true (by omega), Option.bind_some]
  simp only []
  rw [num_eq5 100 (by omega) l true (by omega), Option.bind_some]
  refine (if_pos hb).trans ?_
  simp only [sacristanref13_Reader_Spec.j0]
 rw [hs]
 exact l0_bad 58 _ _ _ (by omega) _ _ _ _ _
end Go.Proofs.YtkhcdichdnbcmaaR.PureR
end
