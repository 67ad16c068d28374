/- Texts of this session, merged (wip/gen/shake.py). -/
import Derived.Deep.Cut
import Derived.Deep.CutRange
import Derived.Deep.RegionWith
import Derived.Test.YtkhcdichdnbcmaaRRk5
import Derived.Test.YtkhcdichdnbcmaaRRk12
section
namespace Go.Proofs.YtkhcdichdnbcmaaR
open Go.RowKit Go.Proofs.YtkhcdichdnbcmaaR Go.Proofs.YtkhcdichdnbcmaaR.Ext Go.Proofs.YtkhcdichdnbcmaaR.C Go.Proofs.YtkhcdichdnbcmaaR.Sp Go.Proofs.YtkhcdichdnbcmaaRW.PrintWords Go.Proofs.YtkhcdichdnbcmaaRW.PrintLast
set_option linter.unusedVariables false
set_option linter.unusedSimpArgs false
theorem slice_toA (l : List UInt8) (m : Nat) (hm : m ≤ l.length) (W : World) : (Instr.slice 9 (.string (YtkhcdichdnbcmaaR.Ext.mkB l)) none (some (.int .i64 (m : Int))) none).run Try.prog W = .ok (.string (YtkhcdichdnbcmaaR.Ext.mkB (l.take m))) W := by
 have hs : (YtkhcdichdnbcmaaR.Ext.mkB l).size = l.length := mkB_size l
 have he : (YtkhcdichdnbcmaaR.Ext.mkB l).extract 0 m = YtkhcdichdnbcmaaR.Ext.mkB (l.take m) := by
  apply ByteArray.ext
  simp [YtkhcdichdnbcmaaR.Ext.mkB, ByteArray.data_extract, List.extract_eq_take_drop]
 simp [go_sem, hs, Instr.slice]
 rw [if_pos (by omega)]
 simp [he]
theorem run_store1 {P : Program} {o : Oper} {ev : Operand → Value} (w : World) (x v : Operand) (t : TypeId) (hop : o.op = Op.store t x v) (b off : Nat) {q : IntKind} {u : Int} {cs cs' : Array Value} {tb : TypeId} (hsz : ∀ W : World, (sizeOf t).run P W = .ok 1 W)
  (hx : ev x = .pointer (some ⟨b, off, none⟩)) (hv : ev v = .int q u) (hb : w.heap[b]? = some (.cells cs tb (0, 0))) (hfit : off + 1 ≤ cs.size)
  (he : (cs.toList.take off ++ [Value.int q u] ++ cs.toList.drop (off + 1)).toArray = cs') : (execOp ev o).run P w = Result.ok Next.skip (w.setRow b cs') := by
 have hst := run_storeCells_at P b off tb [Value.int q u] 0 cs w hb (by simpa using hfit) (by simp [Value.oneCell'])
 simp only [Nat.add_zero, List.length_cons, List.length_nil, Nat.zero_add] at hst
 rw [he] at hst
 simp [execOp, hop, hx, hv, hsz, Result.andThen]
 simp [Instr.storeAt, Instr.sureAddr, storeVar, hsz, Value.cells, Result.andThen, hst]
theorem size_u8 (W : World) : (sizeOf 5).run Try.prog W = .ok 1 W := by kernel_rfl
set_option maxRecDepth 100000 in
set_option maxHeartbeats 4000000 in
theorem calike_1 (e a b c d id : Int) (A B : Option Addr) (n m p q : Nat) (ps : List Int) (ts : List TX) (tk wt : Int) (X Y : List UInt8) (E F : Int) (w : World) (hF1 : ∀ L, FewOf w L a b c d A B n m p q ps ts)
  (hX : Sp.encCR (⟨1, e, spOf a b c d ps ts, id⟩ : CM) = X) (hE : Sp.cmdE (⟨1, e, spOf a b c d ps ts, id⟩ : CM) = E) (hY : Sp.encRR (⟨1, e, spOf a b c d ps ts, id, 0, 0, 0, 0, 0, 0⟩ : RE) = Y) (hG : Sp.recE (⟨1, e, spOf a b c d ps ts, id, 0, 0, 0, 0, 0, 0⟩ : RE) = F) (hPa : E = 0 → F = 0 ∧ X.length ≤ Y.length ∧ Y.take X.length = X ∧ X = Y) (hPb : E ≠ 0 → X = []) :
  Calls Try.prog 3 #[.agg #[.int .u8 1, .int .i64 e, .int .i64 a, .int .i64 b, .int .i64 c, .int .i64 d, .slice A n p, .slice B m q, .int .i64 id], .int .i64 tk, .int .i64 wt] w fun ee w' => ee = .returned (.bool true) ∧ Below w.heap.size w w' := by
 have HF1 := Lib.hid hF1
 have HX := Lib.hid (And.intro hX (And.intro hE (And.intro hY hG)))
 have HP := Lib.hid (And.intro hPa hPb)
 clear hF1 hX hE hY hG hPa hPb
 have s1 := (St.start w).alloc #[.int .u8 1, .int .i64 e, .int .i64 a, .int .i64 b, .int .i64 c, .int .i64 d, .slice A n p, .slice B m q, .int .i64 id] tCm
 have hc1 := s1.cells
 have S1 := Lib.hid s1
 clear s1
 go_enter Try.func3, Try.ntmps3
 go_wp2_with fail
 refine (few9 1 e a b c d A B n m p q id ps ts S1.out (HF1.out _)).mono ?_
 rintro ee w2 ⟨A1, B1, p1, q1, n1, m1, rfl, s2⟩
 clear hc1 S1 HF1
 generalize hb1 : w.heap.size = b1 at *
 have HB1 := Lib.hid hb1
 clear hb1
 have s3 := s2.pick 2
 simp only [List.getElem_cons_succ, List.getElem_cons_zero, List.eraseIdx_cons_succ, List.eraseIdx_cons_zero] at s3
 have S3 := Lib.hid s3
 clear s2 s3
 go_wp2_with (first | ((with_reducible refine wpList_storeSt S3.out rfl _ _ 29 rfl 0 #[.int .u8 1, .int .i64 e, .int .i64 a, .int .i64 b, .int .i64 c, .int .i64 d, .slice A1 n1 p1, .slice B1 m1 q1, .int .i64 id] #[.int .u8 1, .int .i64 e, .int .i64 a, .int .i64 b, .int .i64 c, .int .i64 d, .slice A1 n1 p1, .slice B1 m1 q1, .int .i64 id] size_cmd ?hn ?hx ?hv ?hf ?h1 ?he ?_); (case hn => rfl); (case hx => rfl); (case hv => rfl); (case hf => simp); (case h1 => simp [Value.oneCell']); (case he => rfl); intro w3 s4; clear S3; have hc4 := s4.cells; have S4 := Lib.hid s4; clear s4) | fail)
 have s5 := S4.out.pick 2
 simp only [List.getElem_cons_succ, List.getElem_cons_zero, List.eraseIdx_cons_succ, List.eraseIdx_cons_zero] at s5
 have s6 := s5.pick 2
 simp only [List.getElem_cons_succ, List.getElem_cons_zero, List.eraseIdx_cons_succ, List.eraseIdx_cons_zero] at s6
 clear S4 s5
 refine (enc9_s 1 e a b c d id ps ts s6 X E HX.out.1 HX.out.2.1).mono ?_
 rintro ee w4 ⟨rfl, s7⟩
 clear s6 hc4
 have hc7 := (s7.pick 2).cells
 have s8 := s7.alloc #[.int .u8 0, .int .i64 e, .int .i64 0, .int .i64 0, .int .i64 0, .int .i64 0, .slice none 0 0, .slice none 0 0, .int .i64 id, .int .i64 0, .int .i64 0, .int .i64 0, .int .i64 0, .int .i64 0, .int .i64 0] tRe
 have hc8 := s8.cells
 have hf8 := s8.free
 have hc9 := (s8.pick 3).cells
 have S7 := Lib.hid s7
 have S8 := Lib.hid s8
 clear s7 s8
 go_upto_region 6 with fail
 obtain ⟨wz, hwz⟩ : ∃ wz, wz = w4.alloc (Obj.cells #[.int .u8 0, .int .i64 e, .int .i64 0, .int .i64 0, .int .i64 0, .int .i64 0, .slice none 0 0, .slice none 0 0, .int .i64 id, .int .i64 0, .int .i64 0, .int .i64 0, .int .i64 0, .int .i64 0, .int .i64 0] tRe) := ⟨_, rfl⟩
 have s9 := S8.out
 rw [← hwz] at s9
 rw [← hwz]
 clear hwz S8 hc7 hc8 hf8 hc9 S7
 generalize w4.heap.size = b9 at *
 have hb9 : b9 < wz.heap.size := vlt s9.at0
 refine start_ (n := 6) (S := fun w' => w'.cell? ⟨b1, 0, none⟩ = some (.int .u8 1) ∧ w'.cell? ⟨b1, 1, none⟩ = some (.int .i64 e) ∧ w'.cell? ⟨b1, 2, none⟩ = some (.int .i64 a) ∧ w'.cell? ⟨b1, 3, none⟩ = some (.int .i64 b) ∧ w'.cell? ⟨b1, 4, none⟩ = some (.int .i64 c) ∧ w'.cell? ⟨b1, 5, none⟩ = some (.int .i64 d) ∧ w'.cell? ⟨b1, 6, none⟩ = some (.slice A1 n1 p1) ∧ w'.cell? ⟨b1, 7, none⟩ = some (.slice B1 m1 q1) ∧ w'.cell? ⟨b1, 8, none⟩ = some (.int .i64 id)) (ds := [5]) #[false, false, false, false, false, false] (by kernel_rfl) rfl rfl ⟨(s9.pick 3).cells 0, (s9.pick 3).cells 1, (s9.pick 3).cells 2, (s9.pick 3).cells 3, (s9.pick 3).cells 4, (s9.pick 3).cells 5, (s9.pick 3).cells 6, (s9.pick 3).cells 7, (s9.pick 3).cells 8⟩ (fun hHeld => ?_)
 have sd := s9.drew
 clear s9
 generalize wz.drew = wd at *
 refine pure_ (i := 0) (N := some 28) (v := ?_) (a' := ?_) #[true, false, false, false, false, false] rfl rfl (by kernel_rfl) (fun _ _ _ h => h) (Or.inl ⟨by rfl, ?_⟩) ?_ ?_
 rotate_left
 ·intro w'
  go_simp
  with_reducible rfl
 rotate_left
 ·simp only [Act.put, List.setIfInBounds_toArray, List.set_cons_zero, List.set_cons_succ, i64_w, i32_w]
  rfl
 refine pure_ (i := 2) (N := some 30) (v := ?_) (a' := ?_) #[true, false, true, false, false, false] rfl rfl (by kernel_rfl) (fun _ _ _ h => h) (Or.inl ⟨by rfl, ?_⟩) ?_ ?_
 rotate_left
 ·intro w'
  go_simp
  with_reducible rfl
 rotate_left
 ·simp only [Act.put, List.setIfInBounds_toArray, List.set_cons_zero, List.set_cons_succ, i64_w, i32_w]
  rfl
 refine take_ (i := 1) (N := some 29) (v := ?_) (a' := ?_) #[true, true, true, false, false, false] rfl rfl (by kernel_rfl) (fun _ _ _ h => h) (Or.inl ⟨by rfl, ?_⟩) hHeld ?_ ?_
 rotate_left
 ·rintro w' ⟨s0, s1, s2, s3, s4, s5, s6, s7, s8⟩
  go_simp
  with_reducible rfl
 rotate_left
 ·simp only [Act.put, List.setIfInBounds_toArray, List.set_cons_zero, List.set_cons_succ, i64_w, i32_w]
  rfl
 have se := sd.setRow #[.int .u8 1, .int .i64 e, .int .i64 0, .int .i64 0, .int .i64 0, .int .i64 0, .slice none 0 0, .slice none 0 0, .int .i64 id, .int .i64 0, .int .i64 0, .int .i64 0, .int .i64 0, .int .i64 0, .int .i64 0]
 refine one_ (i := 3) (N := none) #[true, true, true, true, false, false] rfl rfl (by kernel_rfl) (by decide) (fun K hK => ?_)
 refine skip_ (w1 := wd.setRow b9 #[.int .u8 1, .int .i64 e, .int .i64 0, .int .i64 0, .int .i64 0, .int .i64 0, .slice none 0 0, .slice none 0 0, .int .i64 id, .int .i64 0, .int .i64 0, .int .i64 0, .int .i64 0, .int .i64 0, .int .i64 0]) (by rfl) rfl (run_store1 wd _ _ 5 rfl b9 0 size_u8 rfl rfl sd.at0 (by simp) rfl) ?_
 refine hK.out _ _ ⟨(se.pick 3).cells 0, (se.pick 3).cells 1, (se.pick 3).cells 2, (se.pick 3).cells 3, (se.pick 3).cells 4, (se.pick 3).cells 5, (se.pick 3).cells 6, (se.pick 3).cells 7, (se.pick 3).cells 8⟩ (fun hHeld => ?_)
 clear hK K
 clear sd
 generalize wd.setRow b9 #[.int .u8 1, .int .i64 e, .int .i64 0, .int .i64 0, .int .i64 0, .int .i64 0, .slice none 0 0, .slice none 0 0, .int .i64 id, .int .i64 0, .int .i64 0, .int .i64 0, .int .i64 0, .int .i64 0, .int .i64 0] = we at *
 refine pure_ (i := 4) (N := some 31) (v := ?_) (a' := ?_) #[true, true, true, true, true, false] rfl rfl (by kernel_rfl) (fun _ _ _ h => h) (Or.inl ⟨by rfl, ?_⟩) ?_ ?_
 rotate_left
 ·intro w'
  go_simp
  with_reducible rfl
 rotate_left
 ·simp only [Act.put, List.setIfInBounds_toArray, List.set_cons_zero, List.set_cons_succ, i64_w, i32_w]
  rfl
 clear hHeld
 refine last_ (i := 5) (N := none) #[true, true, true, true, true, true] rfl rfl (by kernel_rfl) (by decide) (fun K hK => ?_)
 refine skip_ (w1 := we.setRow b9 #[.int .u8 1, .int .i64 e, .int .i64 a, .int .i64 b, .int .i64 c, .int .i64 d, .slice A1 n1 p1, .slice B1 m1 q1, .int .i64 id, .int .i64 0, .int .i64 0, .int .i64 0, .int .i64 0, .int .i64 0, .int .i64 0]) (by rfl) rfl (run_storeM we _ _ 27 rfl b9 2 #[.int .i64 a, .int .i64 b, .int .i64 c, .int .i64 d, .slice A1 n1 p1, .slice B1 m1 q1] size_spec rfl rfl rfl se.at0 (by simp) (by simp [Value.oneCell']) rfl) ?_
 refine hK.out _ _ ?_
 clear hK K
 have sf := se.setRow #[.int .u8 1, .int .i64 e, .int .i64 a, .int .i64 b, .int .i64 c, .int .i64 d, .slice A1 n1 p1, .slice B1 m1 q1, .int .i64 id, .int .i64 0, .int .i64 0, .int .i64 0, .int .i64 0, .int .i64 0, .int .i64 0]
 clear se
 generalize we.setRow b9 #[.int .u8 1, .int .i64 e, .int .i64 a, .int .i64 b, .int .i64 c, .int .i64 d, .slice A1 n1 p1, .slice B1 m1 q1, .int .i64 id, .int .i64 0, .int .i64 0, .int .i64 0, .int .i64 0, .int .i64 0, .int .i64 0] = wf at *
 refine done_ (by kernel_rfl) ?_
 have hcf := sf.cells
 have z1 := sf.pick 2
 simp only [List.getElem_cons_succ, List.getElem_cons_zero, List.eraseIdx_cons_succ, List.eraseIdx_cons_zero] at z1
 have z2 := z1.pick 2
 simp only [List.getElem_cons_succ, List.getElem_cons_zero, List.eraseIdx_cons_succ, List.eraseIdx_cons_zero] at z2
 have Z := Lib.hid z2
 clear z1 z2 sf
 go_wp2_with fail
 refine (renc15_s 1 e a b c d id 0 0 0 0 0 0 ps ts (by omega) Z.out Y F HX.out.2.2.1 HX.out.2.2.2).mono ?_
 rintro ee w5 ⟨rfl, s10⟩
 clear Z hcf
 have hc10 := (s10.pick 3).cells
 have S10 := Lib.hid s10
 clear s10
 by_cases h0 : E = 0
 ·subst h0
  obtain ⟨rfl, hl, ht, hk⟩ := HP.out.1 rfl
  clear HP
  have hx := mkB_size X
  have hy := mkB_size Y
  have g1 : decide (((YtkhcdichdnbcmaaR.Ext.mkB Y).size : Int) < ((YtkhcdichdnbcmaaR.Ext.mkB X).size : Int)) = false := decide_eq_false (by omega)
  have g2 : decide ((YtkhcdichdnbcmaaR.Ext.mkB Y).size < (YtkhcdichdnbcmaaR.Ext.mkB X).size) = false := decide_eq_false (by omega)
  have hsl := slice_toA Y X.length hl
  rw [ht, ← hx] at hsl
  have g3 : ((YtkhcdichdnbcmaaR.Ext.mkB X).toList == (YtkhcdichdnbcmaaR.Ext.mkB Y).toList) = true := by rw [hk, toList_mkB]; exact beq_self_eq_true _
  clear hl ht hk hx hy
  go_wp2_with fail
  refine (awake18 S10.out).mono ?_
  rintro ee wc ⟨rfl, y3⟩
  clear S10
  have HB := Lib.hid y3.bel
  clear y3 hc10
  go_wp2
  go_returns
  exact ⟨rfl, HB.out⟩
 ·have g1 : (E != 0) = true := bne_iff_ne.mpr h0
  obtain ⟨g2, g3⟩ := emp_t _ (HP.out.2 h0)
  clear h0 HP
  go_wp2_with fail
  refine (awake18 S10.out).mono ?_
  rintro ee wc ⟨rfl, y3⟩
  clear S10
  have HB := Lib.hid y3.bel
  clear y3 hc10
  go_wp2
  go_returns
  exact ⟨rfl, HB.out⟩
set_option maxRecDepth 100000 in
set_option maxHeartbeats 4000000 in
theorem calike_2 (e a b c d id : Int) (A B : Option Addr) (n m p q : Nat) (ps : List Int) (ts : List TX) (tk wt TK WT : Int) (X Y : List UInt8) (E F : Int) (w : World) (hF1 : ∀ L, FewOf w L a b c d A B n m p q ps ts) (hTK : (wrap64 (tk.tmod 1000 + 1000)).tmod 1000 = TK) (hWT : (wrap64 (wt.tmod 1000 + 1000)).tmod 1000 = WT)
  (hX : Sp.encCR (⟨2, e, spOf a b c d ps ts, id⟩ : CM) = X) (hE : Sp.cmdE (⟨2, e, spOf a b c d ps ts, id⟩ : CM) = E) (hY : Sp.encRR (⟨2, e, zSP, id, 0, TK, WT, 0, 0, 0⟩ : RE) = Y) (hG : Sp.recE (⟨2, e, zSP, id, 0, TK, WT, 0, 0, 0⟩ : RE) = F) (hPa : E = 0 → F = 0 ∧ X.length ≤ Y.length ∧ Y.take X.length = X ∧ True) (hPb : E ≠ 0 → X = []) :
  Calls Try.prog 3 #[.agg #[.int .u8 2, .int .i64 e, .int .i64 a, .int .i64 b, .int .i64 c, .int .i64 d, .slice A n p, .slice B m q, .int .i64 id], .int .i64 tk, .int .i64 wt] w fun ee w' => ee = .returned (.bool true) ∧ Below w.heap.size w w' := by
 have HF1 := Lib.hid hF1
 have HX := Lib.hid (And.intro hX (And.intro hE (And.intro hY hG)))
 have HP := Lib.hid (And.intro hPa hPb)
 clear hF1 hX hE hY hG hPa hPb
 have s1 := (St.start w).alloc #[.int .u8 2, .int .i64 e, .int .i64 a, .int .i64 b, .int .i64 c, .int .i64 d, .slice A n p, .slice B m q, .int .i64 id] tCm
 have hc1 := s1.cells
 have S1 := Lib.hid s1
 clear s1
 go_enter Try.func3, Try.ntmps3
 go_wp2_with fail
 refine (few9 2 e a b c d A B n m p q id ps ts S1.out (HF1.out _)).mono ?_
 rintro ee w2 ⟨A1, B1, p1, q1, n1, m1, rfl, s2⟩
 clear hc1 S1 HF1
 generalize hb1 : w.heap.size = b1 at *
 have HB1 := Lib.hid hb1
 clear hb1
 have s3 := s2.pick 2
 simp only [List.getElem_cons_succ, List.getElem_cons_zero, List.eraseIdx_cons_succ, List.eraseIdx_cons_zero] at s3
 have S3 := Lib.hid s3
 clear s2 s3
 go_wp2_with (first | ((with_reducible refine wpList_storeSt S3.out rfl _ _ 29 rfl 0 #[.int .u8 2, .int .i64 e, .int .i64 a, .int .i64 b, .int .i64 c, .int .i64 d, .slice A1 n1 p1, .slice B1 m1 q1, .int .i64 id] #[.int .u8 2, .int .i64 e, .int .i64 a, .int .i64 b, .int .i64 c, .int .i64 d, .slice A1 n1 p1, .slice B1 m1 q1, .int .i64 id] size_cmd ?hn ?hx ?hv ?hf ?h1 ?he ?_); (case hn => rfl); (case hx => rfl); (case hv => rfl); (case hf => simp); (case h1 => simp [Value.oneCell']); (case he => rfl); intro w3 s4; clear S3; have hc4 := s4.cells; have S4 := Lib.hid s4; clear s4) | fail)
 have s5 := S4.out.pick 2
 simp only [List.getElem_cons_succ, List.getElem_cons_zero, List.eraseIdx_cons_succ, List.eraseIdx_cons_zero] at s5
 have s6 := s5.pick 2
 simp only [List.getElem_cons_succ, List.getElem_cons_zero, List.eraseIdx_cons_succ, List.eraseIdx_cons_zero] at s6
 clear S4 s5
 refine (enc9_s 2 e a b c d id ps ts s6 X E HX.out.1 HX.out.2.1).mono ?_
 rintro ee w4 ⟨rfl, s7⟩
 clear s6 hc4
 have hc7 := (s7.pick 2).cells
 have s8 := s7.alloc #[.int .u8 0, .int .i64 e, .int .i64 0, .int .i64 0, .int .i64 0, .int .i64 0, .slice none 0 0, .slice none 0 0, .int .i64 id, .int .i64 0, .int .i64 0, .int .i64 0, .int .i64 0, .int .i64 0, .int .i64 0] tRe
 have hc8 := s8.cells
 have hf8 := s8.free
 have hc9 := (s8.pick 3).cells
 have S7 := Lib.hid s7
 have S8 := Lib.hid s8
 clear s7 s8
 go_wp2_with fail
 clear hTK hWT
 have sf := S7.out.alloc #[.int .u8 2, .int .i64 e, .int .i64 0, .int .i64 0, .int .i64 0, .int .i64 0, .slice none 0 0, .slice none 0 0, .int .i64 id, .int .i64 0, .int .i64 TK, .int .i64 WT, .int .i64 0, .int .i64 0, .int .i64 0] tRe
 clear S7
 clear S8 hc7 hc8 hf8 hc9
 generalize w4.heap.size = b9 at *
 refine (renc15_nil 2 e id 0 TK WT 0 0 0 (by omega) sf Y F HX.out.2.2.1 HX.out.2.2.2).mono ?_
 rintro ee w5 ⟨rfl, s10⟩
 clear sf
 have hc10 := (s10.pick 3).cells
 have S10 := Lib.hid s10
 clear s10
 by_cases h0 : E = 0
 ·subst h0
  obtain ⟨rfl, hl, ht, hk⟩ := HP.out.1 rfl
  clear HP
  have hx := mkB_size X
  have hy := mkB_size Y
  have g1 : decide (((YtkhcdichdnbcmaaR.Ext.mkB Y).size : Int) < ((YtkhcdichdnbcmaaR.Ext.mkB X).size : Int)) = false := decide_eq_false (by omega)
  have g2 : decide ((YtkhcdichdnbcmaaR.Ext.mkB Y).size < (YtkhcdichdnbcmaaR.Ext.mkB X).size) = false := decide_eq_false (by omega)
  have hsl := slice_toA Y X.length hl
  rw [ht, ← hx] at hsl
  clear hl ht hk hx hy
  go_wp2_with fail
  refine (awake18 S10.out).mono ?_
  rintro ee wc ⟨rfl, y3⟩
  clear S10
  have HB := Lib.hid y3.bel
  clear y3 hc10
  go_wp2
  go_returns
  exact ⟨rfl, HB.out⟩
 ·have g1 : (E != 0) = true := bne_iff_ne.mpr h0
  obtain ⟨g2, g3⟩ := emp_t _ (HP.out.2 h0)
  clear h0 HP
  go_wp2_with fail
  refine (awake18 S10.out).mono ?_
  rintro ee wc ⟨rfl, y3⟩
  clear S10
  have HB := Lib.hid y3.bel
  clear y3 hc10
  go_wp2
  go_returns
  exact ⟨rfl, HB.out⟩
set_option maxRecDepth 100000 in
set_option maxHeartbeats 4000000 in
theorem calike_3 (e a b c d id : Int) (A B : Option Addr) (n m p q : Nat) (ps : List Int) (ts : List TX) (tk wt : Int) (X Y : List UInt8) (E F : Int) (w : World) (hF1 : ∀ L, FewOf w L a b c d A B n m p q ps ts)
  (hX : Sp.encCR (⟨3, e, spOf a b c d ps ts, id⟩ : CM) = X) (hE : Sp.cmdE (⟨3, e, spOf a b c d ps ts, id⟩ : CM) = E) (hY : Sp.encRR (⟨3, e, zSP, id, 0, 0, 0, 0, 0, 0⟩ : RE) = Y) (hG : Sp.recE (⟨3, e, zSP, id, 0, 0, 0, 0, 0, 0⟩ : RE) = F) (hPa : E = 0 → F = 0 ∧ X.length ≤ Y.length ∧ Y.take X.length = X ∧ X = Y) (hPb : E ≠ 0 → X = []) :
  Calls Try.prog 3 #[.agg #[.int .u8 3, .int .i64 e, .int .i64 a, .int .i64 b, .int .i64 c, .int .i64 d, .slice A n p, .slice B m q, .int .i64 id], .int .i64 tk, .int .i64 wt] w fun ee w' => ee = .returned (.bool true) ∧ Below w.heap.size w w' := by
 have HF1 := Lib.hid hF1
 have HX := Lib.hid (And.intro hX (And.intro hE (And.intro hY hG)))
 have HP := Lib.hid (And.intro hPa hPb)
 clear hF1 hX hE hY hG hPa hPb
 have s1 := (St.start w).alloc #[.int .u8 3, .int .i64 e, .int .i64 a, .int .i64 b, .int .i64 c, .int .i64 d, .slice A n p, .slice B m q, .int .i64 id] tCm
 have hc1 := s1.cells
 have S1 := Lib.hid s1
 clear s1
 go_enter Try.func3, Try.ntmps3
 go_wp2_with fail
 refine (few9 3 e a b c d A B n m p q id ps ts S1.out (HF1.out _)).mono ?_
 rintro ee w2 ⟨A1, B1, p1, q1, n1, m1, rfl, s2⟩
 clear hc1 S1 HF1
 generalize hb1 : w.heap.size = b1 at *
 have HB1 := Lib.hid hb1
 clear hb1
 have s3 := s2.pick 2
 simp only [List.getElem_cons_succ, List.getElem_cons_zero, List.eraseIdx_cons_succ, List.eraseIdx_cons_zero] at s3
 have S3 := Lib.hid s3
 clear s2 s3
 go_wp2_with (first | ((with_reducible refine wpList_storeSt S3.out rfl _ _ 29 rfl 0 #[.int .u8 3, .int .i64 e, .int .i64 a, .int .i64 b, .int .i64 c, .int .i64 d, .slice A1 n1 p1, .slice B1 m1 q1, .int .i64 id] #[.int .u8 3, .int .i64 e, .int .i64 a, .int .i64 b, .int .i64 c, .int .i64 d, .slice A1 n1 p1, .slice B1 m1 q1, .int .i64 id] size_cmd ?hn ?hx ?hv ?hf ?h1 ?he ?_); (case hn => rfl); (case hx => rfl); (case hv => rfl); (case hf => simp); (case h1 => simp [Value.oneCell']); (case he => rfl); intro w3 s4; clear S3; have hc4 := s4.cells; have S4 := Lib.hid s4; clear s4) | fail)
 have s5 := S4.out.pick 2
 simp only [List.getElem_cons_succ, List.getElem_cons_zero, List.eraseIdx_cons_succ, List.eraseIdx_cons_zero] at s5
 have s6 := s5.pick 2
 simp only [List.getElem_cons_succ, List.getElem_cons_zero, List.eraseIdx_cons_succ, List.eraseIdx_cons_zero] at s6
 clear S4 s5
 refine (enc9_s 3 e a b c d id ps ts s6 X E HX.out.1 HX.out.2.1).mono ?_
 rintro ee w4 ⟨rfl, s7⟩
 clear s6 hc4
 have hc7 := (s7.pick 2).cells
 have s8 := s7.alloc #[.int .u8 0, .int .i64 e, .int .i64 0, .int .i64 0, .int .i64 0, .int .i64 0, .slice none 0 0, .slice none 0 0, .int .i64 id, .int .i64 0, .int .i64 0, .int .i64 0, .int .i64 0, .int .i64 0, .int .i64 0] tRe
 have hc8 := s8.cells
 have hf8 := s8.free
 have hc9 := (s8.pick 3).cells
 have S7 := Lib.hid s7
 have S8 := Lib.hid s8
 clear s7 s8
 go_wp2_with fail
 have sf := S7.out.alloc #[.int .u8 3, .int .i64 e, .int .i64 0, .int .i64 0, .int .i64 0, .int .i64 0, .slice none 0 0, .slice none 0 0, .int .i64 id, .int .i64 0, .int .i64 0, .int .i64 0, .int .i64 0, .int .i64 0, .int .i64 0] tRe
 clear S7
 clear S8 hc7 hc8 hf8 hc9
 generalize w4.heap.size = b9 at *
 refine (renc15_nil 3 e id 0 0 0 0 0 0 (by omega) sf Y F HX.out.2.2.1 HX.out.2.2.2).mono ?_
 rintro ee w5 ⟨rfl, s10⟩
 clear sf
 have hc10 := (s10.pick 3).cells
 have S10 := Lib.hid s10
 clear s10
 by_cases h0 : E = 0
 ·subst h0
  obtain ⟨rfl, hl, ht, hk⟩ := HP.out.1 rfl
  clear HP
  have hx := mkB_size X
  have hy := mkB_size Y
  have g1 : decide (((YtkhcdichdnbcmaaR.Ext.mkB Y).size : Int) < ((YtkhcdichdnbcmaaR.Ext.mkB X).size : Int)) = false := decide_eq_false (by omega)
  have g2 : decide ((YtkhcdichdnbcmaaR.Ext.mkB Y).size < (YtkhcdichdnbcmaaR.Ext.mkB X).size) = false := decide_eq_false (by omega)
  have hsl := slice_toA Y X.length hl
  rw [ht, ← hx] at hsl
  have g3 : ((YtkhcdichdnbcmaaR.Ext.mkB X).toList == (YtkhcdichdnbcmaaR.Ext.mkB Y).toList) = true := by rw [hk, toList_mkB]; exact beq_self_eq_true _
  clear hl ht hk hx hy
  go_wp2_with fail
  refine (awake18 S10.out).mono ?_
  rintro ee wc ⟨rfl, y3⟩
  clear S10
  have HB := Lib.hid y3.bel
  clear y3 hc10
  go_wp2
  go_returns
  exact ⟨rfl, HB.out⟩
 ·have g1 : (E != 0) = true := bne_iff_ne.mpr h0
  obtain ⟨g2, g3⟩ := emp_t _ (HP.out.2 h0)
  clear h0 HP
  go_wp2_with fail
  refine (awake18 S10.out).mono ?_
  rintro ee wc ⟨rfl, y3⟩
  clear S10
  have HB := Lib.hid y3.bel
  clear y3 hc10
  go_wp2
  go_returns
  exact ⟨rfl, HB.out⟩
set_option maxRecDepth 100000 in
set_option maxHeartbeats 4000000 in
theorem calike_0 (k e a b c d id : Int) (A B : Option Addr) (n m p q : Nat) (ps : List Int) (ts : List TX) (tk wt : Int) (X Y : List UInt8) (E F : Int) (w : World) (hF1 : ∀ L, FewOf w L a b c d A B n m p q ps ts) (hk : k ≠ 1 ∧ k ≠ 2 ∧ k ≠ 3)
  (hX : Sp.encCR (⟨k, e, spOf a b c d ps ts, id⟩ : CM) = X) (hE : Sp.cmdE (⟨k, e, spOf a b c d ps ts, id⟩ : CM) = E) (hY : Sp.encRR (⟨0, e, zSP, id, 0, 0, 0, 0, 0, 0⟩ : RE) = Y) (hG : Sp.recE (⟨0, e, zSP, id, 0, 0, 0, 0, 0, 0⟩ : RE) = F) (hPa : E = 0 → False) (hPb : E ≠ 0 → X = []) :
  Calls Try.prog 3 #[.agg #[.int .u8 k, .int .i64 e, .int .i64 a, .int .i64 b, .int .i64 c, .int .i64 d, .slice A n p, .slice B m q, .int .i64 id], .int .i64 tk, .int .i64 wt] w fun ee w' => ee = .returned (.bool true) ∧ Below w.heap.size w w' := by
 have HF1 := Lib.hid hF1
 have HX := Lib.hid (And.intro hX (And.intro hE (And.intro hY hG)))
 have HP := Lib.hid (And.intro hPa hPb)
 clear hF1 hX hE hY hG hPa hPb
 have s1 := (St.start w).alloc #[.int .u8 k, .int .i64 e, .int .i64 a, .int .i64 b, .int .i64 c, .int .i64 d, .slice A n p, .slice B m q, .int .i64 id] tCm
 have hc1 := s1.cells
 have S1 := Lib.hid s1
 clear s1
 have k1 : (k == 1) = false := beq_eq_false_iff_ne.mpr hk.1
 have k2 : (k == 2) = false := beq_eq_false_iff_ne.mpr hk.2.1
 have k3 : (k == 3) = false := beq_eq_false_iff_ne.mpr hk.2.2
 have k1' : decide (k = 1) = false := decide_eq_false hk.1
 have k2' : decide (k = 2) = false := decide_eq_false hk.2.1
 have k3' : decide (k = 3) = false := decide_eq_false hk.2.2
 clear hk
 go_enter Try.func3, Try.ntmps3
 go_wp2_with fail
 refine (few9 k e a b c d A B n m p q id ps ts S1.out (HF1.out _)).mono ?_
 rintro ee w2 ⟨A1, B1, p1, q1, n1, m1, rfl, s2⟩
 clear hc1 S1 HF1
 generalize hb1 : w.heap.size = b1 at *
 have HB1 := Lib.hid hb1
 clear hb1
 have s3 := s2.pick 2
 simp only [List.getElem_cons_succ, List.getElem_cons_zero, List.eraseIdx_cons_succ, List.eraseIdx_cons_zero] at s3
 have S3 := Lib.hid s3
 clear s2 s3
 go_wp2_with (first | ((with_reducible refine wpList_storeSt S3.out rfl _ _ 29 rfl 0 #[.int .u8 k, .int .i64 e, .int .i64 a, .int .i64 b, .int .i64 c, .int .i64 d, .slice A1 n1 p1, .slice B1 m1 q1, .int .i64 id] #[.int .u8 k, .int .i64 e, .int .i64 a, .int .i64 b, .int .i64 c, .int .i64 d, .slice A1 n1 p1, .slice B1 m1 q1, .int .i64 id] size_cmd ?hn ?hx ?hv ?hf ?h1 ?he ?_); (case hn => rfl); (case hx => rfl); (case hv => rfl); (case hf => simp); (case h1 => simp [Value.oneCell']); (case he => rfl); intro w3 s4; clear S3; have hc4 := s4.cells; have S4 := Lib.hid s4; clear s4) | fail)
 have s5 := S4.out.pick 2
 simp only [List.getElem_cons_succ, List.getElem_cons_zero, List.eraseIdx_cons_succ, List.eraseIdx_cons_zero] at s5
 have s6 := s5.pick 2
 simp only [List.getElem_cons_succ, List.getElem_cons_zero, List.eraseIdx_cons_succ, List.eraseIdx_cons_zero] at s6
 clear S4 s5
 refine (enc9_s k e a b c d id ps ts s6 X E HX.out.1 HX.out.2.1).mono ?_
 rintro ee w4 ⟨rfl, s7⟩
 clear s6 hc4
 have hc7 := (s7.pick 2).cells
 have s8 := s7.alloc #[.int .u8 0, .int .i64 e, .int .i64 0, .int .i64 0, .int .i64 0, .int .i64 0, .slice none 0 0, .slice none 0 0, .int .i64 id, .int .i64 0, .int .i64 0, .int .i64 0, .int .i64 0, .int .i64 0, .int .i64 0] tRe
 have hc8 := s8.cells
 have hf8 := s8.free
 have hc9 := (s8.pick 3).cells
 have S7 := Lib.hid s7
 have S8 := Lib.hid s8
 clear s7 s8
 have sf := S8.out
 clear S7
 go_wp2_with fail
 clear S8 hc7 hc8 hf8 hc9
 generalize w4.heap.size = b9 at *
 refine (renc15_nil 0 e id 0 0 0 0 0 0 (by omega) sf Y F HX.out.2.2.1 HX.out.2.2.2).mono ?_
 rintro ee w5 ⟨rfl, s10⟩
 clear sf
 have hc10 := (s10.pick 3).cells
 have S10 := Lib.hid s10
 clear s10
 by_cases h0 : E = 0
 ·subst h0
  exact (HP.out.1 rfl).elim
 ·have g1 : (E != 0) = true := bne_iff_ne.mpr h0
  obtain ⟨g2, g3⟩ := emp_t _ (HP.out.2 h0)
  clear h0 HP
  go_wp2_with fail
  refine (awake18 S10.out).mono ?_
  rintro ee wc ⟨rfl, y3⟩
  clear S10
  have HB := Lib.hid y3.bel
  clear y3 hc10
  go_wp2
  go_returns
  exact ⟨rfl, HB.out⟩
end Go.Proofs.YtkhcdichdnbcmaaR
end
