/- Texts of this session, merged (wip/gen/shake.py). -/
import Derived.Test.YtkhcdichdnbcmaaRRa13
section
namespace Go.Proofs.YtkhcdichdnbcmaaR
open Go.RowKit Go.Proofs.YtkhcdichdnbcmaaR Go.Proofs.YtkhcdichdnbcmaaR.Ext Go.Proofs.YtkhcdichdnbcmaaR.C Go.Proofs.YtkhcdichdnbcmaaR.Sp Go.Proofs.YtkhcdichdnbcmaaRW.PrintWords Go.Proofs.YtkhcdichdnbcmaaRW.PrintLast
set_option linter.unusedVariables false
set_option linter.unusedSimpArgs false
theorem wpList_val {P : Program} {ops : Array Oper} {rest : List Oper} {o : Oper} {a : Act} {Q : Exit → Act → World → Prop} {w w1 : World} {v : Value} (N : Option Tmp) (hd : o.dst = N) (hg : o.guard = none) (hrun : (execOp a.eval o).run P w = .ok (.value v) w1)
  (h : wpList P ops Q rest (a.put N v) w1) : wpList P ops Q (o :: rest) a w := by
 refine wpList_plain hg fun K hK => ?_
 unfold Oper.wp
 rw [hrun]
 subst hd
 exact hK _ _ h
theorem run_conv {P : Program} {o : Oper} {ev : Operand → Value} (f t : TypeId) (x : Operand) (hop : o.op = Op.convert f t x) {u v : Value} {w w1 : World} (hx : ev x = u) (hrun : (convert f t u).run P w = .ok v w1) : (execOp ev o).run P w = .ok (.value v) w1 := by
 simp [execOp, hop, hx, hrun, Result.andThen]
theorem conv_one (m : Int) (w : World) (t : Nat) : (convert 46 9 (.slice (some ⟨w.heap.size, 0, none⟩) 1 1)).run Try.prog (w.alloc (.cells #[.int .u8 m] t)) = .ok (.string (YtkhcdichdnbcmaaR.Ext.mkB [UInt8.ofNat m.toNat])) (w.alloc (.cells #[.int .u8 m] t)) := by
 have q : strOfNums [m] = YtkhcdichdnbcmaaR.Ext.mkB [UInt8.ofNat m.toNat] := rfl
 rw [← q]
 refine string_of_reads (e := 5) Try.underlying46 Try.underlying5 Try.underlying9 ⟨by simp, by simp, fun _ => ⟨_, rfl, fun j hj => ?_⟩⟩
 rw [add_plain, World.cell?_alloc_new]
 have : j = 0 := by simpa using hj
 subst this
 simp
set_option maxRecDepth 100000 in
set_option maxHeartbeats 16000000 in
theorem rapart_w (k e a b c d id task tick wait pid nonce code k' e' a' b' c' d' id' task' tick' wait' pid' nonce' code' : Int) (A B A' B' : Option Addr) (n m p q n' m' p' q' : Nat) (ps ps' : List Int) (ts ts' : List TX) (mo : Int) (M1 : UInt8) (X Y : List UInt8) (E1 E2 : Int) (w : World)
  (hF1 : ∀ L, FewOf w L a b c d A B n m p q ps ts) (hF2 : ∀ L, FewOf w L a' b' c' d' A' B' n' m' p' q' ps' ts') (hps : ps.length ≤ 20) (hts : ts.length ≤ 10) (hps' : ps'.length ≤ 20) (hts' : ts'.length ≤ 10) (hc1 : -9223372036854775808 ≤ code ∧ code ≤ 9223372036854775807) (hc2 : -9223372036854775808 ≤ code' ∧ code' ≤ 9223372036854775807)
  (hX : Sp.encRR (⟨k, e, spOf a b c d ps ts, id, task, tick, wait, pid, nonce, code⟩ : RE) = X) (hE1 : Sp.recE (⟨k, e, spOf a b c d ps ts, id, task, tick, wait, pid, nonce, code⟩ : RE) = E1) (hY : Sp.encRR (⟨k', e', spOf a' b' c' d' ps' ts', id', task', tick', wait', pid', nonce', code'⟩ : RE) = Y) (hE2 : Sp.recE (⟨k', e', spOf a' b' c' d' ps' ts', id', task', tick', wait', pid', nonce', code'⟩ : RE) = E2)
  (hXl : E1 = 0 → 1 ≤ X.length ∧ X.length ≤ 220) (hM : E1 = 0 → ∀ (W : World) (M : List HP), St w W M → Calls Try.prog 23 #[.string (YtkhcdichdnbcmaaR.Ext.mkB (X ++ [M1]))] W fun ee w' => ∃ A B n m p q, ee = .returned (.tuple #[.agg #[.int .u8 0, .int .i64 0, .int .i64 0, .int .i64 0, .int .i64 0, .int .i64 0, .slice A n p, .slice B m q, .int .i64 0, .int .i64 0, .int .i64 0, .int .i64 0, .int .i64 0, .int .i64 0, .int .i64 0], .int .i64 4]) ∧ St w w' (RI (.slice A n p) [] :: RT (.slice B m q) [] :: M)) (hL : E1 = 0 → ∀ K, K = X.length - 1 → ∀ (W : World) (M : List HP), St w W M → Calls Try.prog 23 #[.string (YtkhcdichdnbcmaaR.Ext.mkB (X.take K))] W fun ee w' => ∃ A B n m p q, ee = .returned (.tuple #[.agg #[.int .u8 0, .int .i64 0, .int .i64 0, .int .i64 0, .int .i64 0, .int .i64 0, .slice A n p, .slice B m q, .int .i64 0, .int .i64 0, .int .i64 0, .int .i64 0, .int .i64 0, .int .i64 0, .int .i64 0], .int .i64 4]) ∧ St w w' (RI (.slice A n p) [] :: RT (.slice B m q) [] :: M))
  (hcv0 : ∀ W : World, (convert 46 9 (.slice (some ⟨W.heap.size, 0, none⟩) 1 1)).run Try.prog (W.alloc (.cells #[.int .u8 mo] 5)) = .ok (.string (YtkhcdichdnbcmaaR.Ext.mkB [M1])) (W.alloc (.cells #[.int .u8 mo] 5)))
  (hEq : E1 = 0 → E2 = 0 → ∀ N : Nat, N = min X.length Y.length → (((YtkhcdichdnbcmaaR.Ext.mkB (X.take N)).toList == (YtkhcdichdnbcmaaR.Ext.mkB (Y.take N)).toList) = decide ((⟨k, e, spOf a b c d ps ts, id, task, tick, wait, pid, nonce, code⟩ : RE) = (⟨k', e', spOf a' b' c' d' ps' ts', id', task', tick', wait', pid', nonce', code'⟩ : RE)))) :
  Calls Try.prog 10 #[.agg #[.int .u8 k, .int .i64 e, .int .i64 a, .int .i64 b, .int .i64 c, .int .i64 d, .slice A n p, .slice B m q, .int .i64 id, .int .i64 task, .int .i64 tick, .int .i64 wait, .int .i64 pid, .int .i64 nonce, .int .i64 code], .agg #[.int .u8 k', .int .i64 e', .int .i64 a', .int .i64 b', .int .i64 c', .int .i64 d', .slice A' n' p', .slice B' m' q', .int .i64 id', .int .i64 task', .int .i64 tick', .int .i64 wait', .int .i64 pid', .int .i64 nonce', .int .i64 code'], .int .u8 mo] w fun ee w' => ee = .returned (.bool true) ∧ Below w.heap.size w w' := by
 have HF1 := Lib.hid hF1
 have HF2 := Lib.hid hF2
 have HX := Lib.hid (And.intro hX (And.intro hE1 (And.intro hY hE2)))
 have HCR := Lib.hid (And.intro hc1 hc2)
 have HM := Lib.hid hM
 have HL := Lib.hid hL
 have HP := Lib.hid hXl
 have HQ := Lib.hid hEq
 have HV := Lib.hid hcv0
 clear hF1 hF2 hX hE1 hY hE2 hc1 hc2 hM hL hXl hEq hcv0
 have s1 : St w ((w.alloc (Obj.cells #[.int .u8 k, .int .i64 e, .int .i64 a, .int .i64 b, .int .i64 c, .int .i64 d, .slice A n p, .slice B m q, .int .i64 id, .int .i64 task, .int .i64 tick, .int .i64 wait, .int .i64 pid, .int .i64 nonce, .int .i64 code] tRe)).alloc (Obj.cells #[.int .u8 k', .int .i64 e', .int .i64 a', .int .i64 b', .int .i64 c', .int .i64 d', .slice A' n' p', .slice B' m' q', .int .i64 id', .int .i64 task', .int .i64 tick', .int .i64 wait', .int .i64 pid', .int .i64 nonce', .int .i64 code'] tRe)) [blk (w.heap.size + 1) #[.int .u8 k', .int .i64 e', .int .i64 a', .int .i64 b', .int .i64 c', .int .i64 d', .slice A' n' p', .slice B' m' q', .int .i64 id', .int .i64 task', .int .i64 tick', .int .i64 wait', .int .i64 pid', .int .i64 nonce', .int .i64 code'] tRe, blk w.heap.size #[.int .u8 k, .int .i64 e, .int .i64 a, .int .i64 b, .int .i64 c, .int .i64 d, .slice A n p, .slice B m q, .int .i64 id, .int .i64 task, .int .i64 tick, .int .i64 wait, .int .i64 pid, .int .i64 nonce, .int .i64 code] tRe] := by
  simpa using ((St.start w).alloc #[.int .u8 k, .int .i64 e, .int .i64 a, .int .i64 b, .int .i64 c, .int .i64 d, .slice A n p, .slice B m q, .int .i64 id, .int .i64 task, .int .i64 tick, .int .i64 wait, .int .i64 pid, .int .i64 nonce, .int .i64 code] tRe).alloc #[.int .u8 k', .int .i64 e', .int .i64 a', .int .i64 b', .int .i64 c', .int .i64 d', .slice A' n' p', .slice B' m' q', .int .i64 id', .int .i64 task', .int .i64 tick', .int .i64 wait', .int .i64 pid', .int .i64 nonce', .int .i64 code'] tRe
 go_enter Try.func10, Try.ntmps10
 have hcb3' := (s1.pick 1).cells
 have S1 := Lib.hid s1
 clear s1
 go_wp2_with fail
 generalize ((w.alloc (Obj.cells #[.int .u8 k, .int .i64 e, .int .i64 a, .int .i64 b, .int .i64 c, .int .i64 d, .slice A n p, .slice B m q, .int .i64 id, .int .i64 task, .int .i64 tick, .int .i64 wait, .int .i64 pid, .int .i64 nonce, .int .i64 code] tRe)).alloc (Obj.cells #[.int .u8 k', .int .i64 e', .int .i64 a', .int .i64 b', .int .i64 c', .int .i64 d', .slice A' n' p', .slice B' m' q', .int .i64 id', .int .i64 task', .int .i64 tick', .int .i64 wait', .int .i64 pid', .int .i64 nonce', .int .i64 code'] tRe)) = w1 at *
 generalize hB4 : w.heap.size + 1 = b4 at *
 generalize hB3 : w.heap.size = b3 at *
 have HB3 := Lib.hid hB3
 clear hB3 hB4
 refine (few15 k e a b c d id task tick wait pid nonce code A B n m p q ps ts S1.out (HF1.out _)).mono ?_
 rintro ee w2 ⟨A1, B1, p1, q1, n1, m1, rfl, s2⟩
 clear S1 hcb3'
 have Q := Lib.hid s2
 clear s2
 go_wp2_with fail
 refine (renc15_s k e a b c d id task tick wait pid nonce code ps ts HCR.out.1 Q.out X E1 HX.out.1 HX.out.2.1).mono ?_
 rintro ee w3 ⟨rfl, s3⟩
 clear Q
 have s4 := s3.drop
 clear s3
 have s5 := s4.drop
 clear s4
 have hcb4 := s5.cells
 have hfb4 := s5.free
 have Q := Lib.hid s5
 clear s5
 go_wp2_with fail
 refine (few15 k' e' a' b' c' d' id' task' tick' wait' pid' nonce' code' A' B' n' m' p' q' ps' ts' Q.out (HF2.out _)).mono ?_
 rintro ee w4 ⟨A2, B2, p2, q2, n2, m2, rfl, s6⟩
 clear Q hcb4 hfb4
 have Q := Lib.hid s6
 clear s6
 go_wp2_with fail
 refine (renc15_s k' e' a' b' c' d' id' task' tick' wait' pid' nonce' code' ps' ts' HCR.out.2 Q.out Y E2 HX.out.2.2.1 HX.out.2.2.2).mono ?_
 rintro ee w5 ⟨rfl, s7⟩
 clear Q
 have s8 := s7.drop
 clear s7
 have s9 := s8.drop
 clear s8
 by_cases h1 : E1 = 0
 ·subst h1
  by_cases h2 : E2 = 0
  ·subst h2
   as_aux_lemma =>
   go_upto_region 5 with fail
   obtain ⟨N, hN⟩ : ∃ N, N = min X.length Y.length := ⟨_, rfl⟩
   have hm1 : ∀ (inst : Decidable ((YtkhcdichdnbcmaaR.Ext.mkB Y).size < (YtkhcdichdnbcmaaR.Ext.mkB X).size)), @ite Int ((YtkhcdichdnbcmaaR.Ext.mkB Y).size < (YtkhcdichdnbcmaaR.Ext.mkB X).size) inst ((YtkhcdichdnbcmaaR.Ext.mkB Y).size : Int) ((YtkhcdichdnbcmaaR.Ext.mkB X).size : Int) = (N : Int) := by
    intro inst
    have hlx := mkB_size X
    have hly := mkB_size Y
    split <;> omega
   rw [hm1]
   clear hm1
   obtain ⟨bb, hbb⟩ : ∃ bb, decide ((⟨k, e, spOf a b c d ps ts, id, task, tick, wait, pid, nonce, code⟩ : RE) = (⟨k', e', spOf a' b' c' d' ps' ts', id', task', tick', wait', pid', nonce', code'⟩ : RE)) = bb := ⟨_, rfl⟩
   have hq := HQ.out (by simp) (by simp) N hN
   rw [hbb] at hq
   have hslX := slice_to X N (by omega)
   have hslY := slice_to Y N (by omega)
   have HBB := Lib.hid hbb
   clear hbb HQ
   have HN := Lib.hid hN
   clear hN
   generalize X.take N = XN at *
   generalize Y.take N = YN at *
   refine start_ (n := 13) (S := fun w' => w'.cell? ⟨b3, 0, none⟩ = some (.int .u8 k) ∧ w'.cell? ⟨b3, 1, none⟩ = some (.int .i64 e) ∧ w'.cell? ⟨b3, 2, none⟩ = some (.int .i64 a) ∧ w'.cell? ⟨b3, 3, none⟩ = some (.int .i64 b) ∧ w'.cell? ⟨b3, 4, none⟩ = some (.int .i64 c) ∧ w'.cell? ⟨b3, 5, none⟩ = some (.int .i64 d) ∧ w'.cell? ⟨b3, 6, none⟩ = some (.slice A n p) ∧ w'.cell? ⟨b3, 7, none⟩ = some (.slice B m q) ∧ w'.cell? ⟨b3, 8, none⟩ = some (.int .i64 id) ∧ w'.cell? ⟨b3, 9, none⟩ = some (.int .i64 task) ∧ w'.cell? ⟨b3, 10, none⟩ = some (.int .i64 tick) ∧ w'.cell? ⟨b3, 11, none⟩ = some (.int .i64 wait) ∧ w'.cell? ⟨b3, 12, none⟩ = some (.int .i64 pid) ∧ w'.cell? ⟨b3, 13, none⟩ = some (.int .i64 nonce) ∧ w'.cell? ⟨b3, 14, none⟩ = some (.int .i64 code) ∧ w'.cell? ⟨b4, 0, none⟩ = some (.int .u8 k') ∧ w'.cell? ⟨b4, 1, none⟩ = some (.int .i64 e') ∧ w'.cell? ⟨b4, 2, none⟩ = some (.int .i64 a') ∧ w'.cell? ⟨b4, 3, none⟩ = some (.int .i64 b') ∧ w'.cell? ⟨b4, 4, none⟩ = some (.int .i64 c') ∧ w'.cell? ⟨b4, 5, none⟩ = some (.int .i64 d') ∧ w'.cell? ⟨b4, 6, none⟩ = some (.slice A' n' p') ∧ w'.cell? ⟨b4, 7, none⟩ = some (.slice B' m' q') ∧ w'.cell? ⟨b4, 8, none⟩ = some (.int .i64 id') ∧ w'.cell? ⟨b4, 9, none⟩ = some (.int .i64 task') ∧ w'.cell? ⟨b4, 10, none⟩ = some (.int .i64 tick') ∧ w'.cell? ⟨b4, 11, none⟩ = some (.int .i64 wait') ∧ w'.cell? ⟨b4, 12, none⟩ = some (.int .i64 pid') ∧ w'.cell? ⟨b4, 13, none⟩ = some (.int .i64 nonce') ∧ w'.cell? ⟨b4, 14, none⟩ = some (.int .i64 code')) (ds := []) #[false, false, false, false, false, false, false, false, false, false, false, false, false] (by kernel_rfl) rfl rfl ⟨(s9.pick 1).cells 0, (s9.pick 1).cells 1, (s9.pick 1).cells 2, (s9.pick 1).cells 3, (s9.pick 1).cells 4, (s9.pick 1).cells 5, (s9.pick 1).cells 6, (s9.pick 1).cells 7, (s9.pick 1).cells 8, (s9.pick 1).cells 9, (s9.pick 1).cells 10, (s9.pick 1).cells 11, (s9.pick 1).cells 12, (s9.pick 1).cells 13, (s9.pick 1).cells 14, (s9.pick 0).cells 0, (s9.pick 0).cells 1, (s9.pick 0).cells 2, (s9.pick 0).cells 3, (s9.pick 0).cells 4, (s9.pick 0).cells 5, (s9.pick 0).cells 6, (s9.pick 0).cells 7, (s9.pick 0).cells 8, (s9.pick 0).cells 9, (s9.pick 0).cells 10, (s9.pick 0).cells 11, (s9.pick 0).cells 12, (s9.pick 0).cells 13, (s9.pick 0).cells 14⟩ (fun hHeld => ?_)
   have sd := s9.drew
   clear s9
   generalize w5.drew = wd at *
   refine pure_ (i := 0) (N := some 39) (v := ?_) (a' := ?_) #[true, false, false, false, false, false, false, false, false, false, false, false, false] rfl rfl (by kernel_rfl) (fun _ _ _ h => h) (Or.inl ⟨by rfl, ?_⟩) ?_ ?_
   rotate_left
   ·intro w'
    go_simp
    with_reducible rfl
   rotate_left
   ·simp only [Act.put, List.setIfInBounds_toArray, List.set_cons_zero, List.set_cons_succ, i64_w, i32_w]
    rfl
   refine pure_ (i := 1) (N := some 40) (v := ?_) (a' := ?_) #[true, true, false, false, false, false, false, false, false, false, false, false, false] rfl rfl (by kernel_rfl) (fun _ _ _ h => h) (Or.inl ⟨by rfl, ?_⟩) ?_ ?_
   rotate_left
   ·intro w'
    go_simp
    with_reducible rfl
   rotate_left
   ·simp only [Act.put, List.setIfInBounds_toArray, List.set_cons_zero, List.set_cons_succ, i64_w, i32_w]
    rfl
   refine pure_ (i := 2) (N := some 41) (v := (.string (YtkhcdichdnbcmaaR.Ext.mkB XN))) (a' := ?_) #[true, true, true, false, false, false, false, false, false, false, false, false, false] rfl rfl (by kernel_rfl) (fun _ _ _ h => h) (Or.inl ⟨by rfl, ?_⟩) ?_ ?_
   ·intro w'
    go_simp
   rotate_left
   ·simp only [Act.put, List.setIfInBounds_toArray, List.set_cons_zero, List.set_cons_succ, i64_w, i32_w]
    rfl
   refine pure_ (i := 3) (N := some 42) (v := ?_) (a' := ?_) #[true, true, true, true, false, false, false, false, false, false, false, false, false] rfl rfl (by kernel_rfl) (fun _ _ _ h => h) (Or.inl ⟨by rfl, ?_⟩) ?_ ?_
   rotate_left
   ·intro w'
    go_simp
    with_reducible rfl
   rotate_left
   ·simp only [Act.put, List.setIfInBounds_toArray, List.set_cons_zero, List.set_cons_succ, i64_w, i32_w]
    rfl
   refine pure_ (i := 4) (N := some 43) (v := ?_) (a' := ?_) #[true, true, true, true, true, false, false, false, false, false, false, false, false] rfl rfl (by kernel_rfl) (fun _ _ _ h => h) (Or.inl ⟨by rfl, ?_⟩) ?_ ?_
   rotate_left
   ·intro w'
    go_simp
    with_reducible rfl
   rotate_left
   ·simp only [Act.put, List.setIfInBounds_toArray, List.set_cons_zero, List.set_cons_succ, i64_w, i32_w]
    rfl
   refine pure_ (i := 5) (N := some 44) (v := (.string (YtkhcdichdnbcmaaR.Ext.mkB YN))) (a' := ?_) #[true, true, true, true, true, true, false, false, false, false, false, false, false] rfl rfl (by kernel_rfl) (fun _ _ _ h => h) (Or.inl ⟨by rfl, ?_⟩) ?_ ?_
   ·intro w'
    go_simp
   rotate_left
   ·simp only [Act.put, List.setIfInBounds_toArray, List.set_cons_zero, List.set_cons_succ, i64_w, i32_w]
    rfl
   refine pure_ (i := 6) (N := some 45) (v := (.bool bb)) (a' := ?_) #[true, true, true, true, true, true, true, false, false, false, false, false, false] rfl rfl (by kernel_rfl) (fun _ _ _ h => h) (Or.inl ⟨by rfl, ?_⟩) ?_ ?_
   ·intro w'
    go_simp
   rotate_left
   ·simp only [Act.put, List.setIfInBounds_toArray, List.set_cons_zero, List.set_cons_succ, i64_w, i32_w]
    rfl
   refine take_ (i := 7) (N := some 46) (v := ?_) (a' := ?_) #[true, true, true, true, true, true, true, true, false, false, false, false, false] rfl rfl (by kernel_rfl) (fun _ _ _ h => h) (Or.inl ⟨by rfl, ?_⟩) hHeld ?_ ?_
   rotate_left
   ·rintro w' ⟨s0, s1, s2, s3, s4, s5, s6, s7, s8, s9, s10, s11, s12, s13, s14, s15, s16, s17, s18, s19, s20, s21, s22, s23, s24, s25, s26, s27, s28, s29⟩
    go_simp
    with_reducible rfl
   rotate_left
   ·simp only [Act.put, List.setIfInBounds_toArray, List.set_cons_zero, List.set_cons_succ, i64_w, i32_w]
    rfl
   refine take_ (i := 9) (N := some 48) (v := ?_) (a' := ?_) #[true, true, true, true, true, true, true, true, false, true, false, false, false] rfl rfl (by kernel_rfl) (fun _ _ _ h => h) (Or.inl ⟨by rfl, ?_⟩) hHeld ?_ ?_
   rotate_left
   ·rintro w' ⟨s0, s1, s2, s3, s4, s5, s6, s7, s8, s9, s10, s11, s12, s13, s14, s15, s16, s17, s18, s19, s20, s21, s22, s23, s24, s25, s26, s27, s28, s29⟩
    go_simp
    with_reducible rfl
   rotate_left
   ·simp only [Act.put, List.setIfInBounds_toArray, List.set_cons_zero, List.set_cons_succ, i64_w, i32_w]
    rfl
   refine one_ (i := 8) (N := some 47) #[true, true, true, true, true, true, true, true, true, true, false, false, false] rfl rfl (by kernel_rfl) (by decide) (fun K hK => ?_)
   refine goes_ Try.func27 (by kernel_rfl) rfl #[.agg #[.int .u8 k, .int .i64 e, .int .i64 a, .int .i64 b, .int .i64 c, .int .i64 d, .slice A n p, .slice B m q, .int .i64 id, .int .i64 task, .int .i64 tick, .int .i64 wait, .int .i64 pid, .int .i64 nonce, .int .i64 code]] (by rfl) rfl rfl (by (try simp only [List.map_toArray, List.map_cons, List.map_nil]); first | done | rfl) ?_
   with_reducible refine (few15 k e a b c d id task tick wait pid nonce code A B n m p q ps ts sd (HF1.out _)).mono ?_
   rintro ee w6 ⟨A3, B3, p3, q3, n3, m3, rfl, s10⟩
   refine ⟨_, rfl, ?_⟩
   refine hK.out _ _ ⟨(s10.pick 3).cells 0, (s10.pick 3).cells 1, (s10.pick 3).cells 2, (s10.pick 3).cells 3, (s10.pick 3).cells 4, (s10.pick 3).cells 5, (s10.pick 3).cells 6, (s10.pick 3).cells 7, (s10.pick 3).cells 8, (s10.pick 3).cells 9, (s10.pick 3).cells 10, (s10.pick 3).cells 11, (s10.pick 3).cells 12, (s10.pick 3).cells 13, (s10.pick 3).cells 14, (s10.pick 2).cells 0, (s10.pick 2).cells 1, (s10.pick 2).cells 2, (s10.pick 2).cells 3, (s10.pick 2).cells 4, (s10.pick 2).cells 5, (s10.pick 2).cells 6, (s10.pick 2).cells 7, (s10.pick 2).cells 8, (s10.pick 2).cells 9, (s10.pick 2).cells 10, (s10.pick 2).cells 11, (s10.pick 2).cells 12, (s10.pick 2).cells 13, (s10.pick 2).cells 14⟩ (fun hHeld => ?_)
   clear hK K sd
   refine norm_ (a' := ?_) ?_ ?_
   rotate_left
   ·show Act.put _ (some 47) _ = _
    simp only [Act.put, List.setIfInBounds_toArray, List.set_cons_zero, List.set_cons_succ, i64_w, i32_w]
    rfl
   refine one_ (i := 10) (N := some 49) #[true, true, true, true, true, true, true, true, true, true, true, false, false] rfl rfl (by kernel_rfl) (by decide) (fun K hK => ?_)
   refine goes_ Try.func27 (by kernel_rfl) rfl #[.agg #[.int .u8 k', .int .i64 e', .int .i64 a', .int .i64 b', .int .i64 c', .int .i64 d', .slice A' n' p', .slice B' m' q', .int .i64 id', .int .i64 task', .int .i64 tick', .int .i64 wait', .int .i64 pid', .int .i64 nonce', .int .i64 code']] (by rfl) rfl rfl (by (try simp only [List.map_toArray, List.map_cons, List.map_nil]); first | done | rfl) ?_
   with_reducible refine (few15 k' e' a' b' c' d' id' task' tick' wait' pid' nonce' code' A' B' n' m' p' q' ps' ts' s10 (HF2.out _)).mono ?_
   rintro ee w7 ⟨A4, B4, p4, q4, n4, m4, rfl, s11⟩
   refine ⟨_, rfl, ?_⟩
   refine hK.out _ _ ⟨(s11.pick 5).cells 0, (s11.pick 5).cells 1, (s11.pick 5).cells 2, (s11.pick 5).cells 3, (s11.pick 5).cells 4, (s11.pick 5).cells 5, (s11.pick 5).cells 6, (s11.pick 5).cells 7, (s11.pick 5).cells 8, (s11.pick 5).cells 9, (s11.pick 5).cells 10, (s11.pick 5).cells 11, (s11.pick 5).cells 12, (s11.pick 5).cells 13, (s11.pick 5).cells 14, (s11.pick 4).cells 0, (s11.pick 4).cells 1, (s11.pick 4).cells 2, (s11.pick 4).cells 3, (s11.pick 4).cells 4, (s11.pick 4).cells 5, (s11.pick 4).cells 6, (s11.pick 4).cells 7, (s11.pick 4).cells 8, (s11.pick 4).cells 9, (s11.pick 4).cells 10, (s11.pick 4).cells 11, (s11.pick 4).cells 12, (s11.pick 4).cells 13, (s11.pick 4).cells 14⟩ (fun hHeld => ?_)
   clear hK K s10
   refine norm_ (a' := ?_) ?_ ?_
   rotate_left
   ·show Act.put _ (some 49) _ = _
    simp only [Act.put, List.setIfInBounds_toArray, List.set_cons_zero, List.set_cons_succ, i64_w, i32_w]
    rfl
   have s12 := s11.pick 1
   simp only [List.getElem_cons_succ, List.getElem_cons_zero, List.eraseIdx_cons_succ, List.eraseIdx_cons_zero] at s12
   clear s11
   have s13 := s12.pick 1
   simp only [List.getElem_cons_succ, List.getElem_cons_zero, List.eraseIdx_cons_succ, List.eraseIdx_cons_zero] at s13
   clear s12
   have s14 := s13.pick 3
   simp only [List.getElem_cons_succ, List.getElem_cons_zero, List.eraseIdx_cons_succ, List.eraseIdx_cons_zero] at s14
   clear s13
   have s15 := s14.pick 3
   simp only [List.getElem_cons_succ, List.getElem_cons_zero, List.eraseIdx_cons_succ, List.eraseIdx_cons_zero] at s15
   clear s14
   refine one_ (i := 11) (N := some 50) #[true, true, true, true, true, true, true, true, true, true, true, true, false] rfl rfl (by kernel_rfl) (by decide) (fun K hK => ?_)
   refine goes_ Try.func25 (by kernel_rfl) rfl #[.agg #[.int .u8 k, .int .i64 e, .int .i64 a, .int .i64 b, .int .i64 c, .int .i64 d, .slice A3 n3 p3, .slice B3 m3 q3, .int .i64 id, .int .i64 task, .int .i64 tick, .int .i64 wait, .int .i64 pid, .int .i64 nonce, .int .i64 code], .agg #[.int .u8 k', .int .i64 e', .int .i64 a', .int .i64 b', .int .i64 c', .int .i64 d', .slice A4 n4 p4, .slice B4 m4 q4, .int .i64 id', .int .i64 task', .int .i64 tick', .int .i64 wait', .int .i64 pid', .int .i64 nonce', .int .i64 code']] (by rfl) rfl rfl (by (try simp only [List.map_toArray, List.map_cons, List.map_nil]); first | done | rfl) ?_
   with_reducible refine (equ15_s k e a b c d id task tick wait pid nonce code k' e' a' b' c' d' id' task' tick' wait' pid' nonce' code' ps ps' ts ts' (by omega) (by omega) bb HBB.out s15).mono ?_
   rintro ee we ⟨rfl, se⟩
   refine ⟨_, rfl, ?_⟩
   refine hK.out _ _ ⟨(se.pick 5).cells 0, (se.pick 5).cells 1, (se.pick 5).cells 2, (se.pick 5).cells 3, (se.pick 5).cells 4, (se.pick 5).cells 5, (se.pick 5).cells 6, (se.pick 5).cells 7, (se.pick 5).cells 8, (se.pick 5).cells 9, (se.pick 5).cells 10, (se.pick 5).cells 11, (se.pick 5).cells 12, (se.pick 5).cells 13, (se.pick 5).cells 14, (se.pick 4).cells 0, (se.pick 4).cells 1, (se.pick 4).cells 2, (se.pick 4).cells 3, (se.pick 4).cells 4, (se.pick 4).cells 5, (se.pick 4).cells 6, (se.pick 4).cells 7, (se.pick 4).cells 8, (se.pick 4).cells 9, (se.pick 4).cells 10, (se.pick 4).cells 11, (se.pick 4).cells 12, (se.pick 4).cells 13, (se.pick 4).cells 14⟩ (fun hHeld => ?_)
   clear hK K s15
   refine norm_ (a' := ?_) ?_ ?_
   rotate_left
   ·show Act.put _ (some 50) _ = _
    simp only [Act.put, List.setIfInBounds_toArray, List.set_cons_zero, List.set_cons_succ, i64_w, i32_w]
    rfl
   refine pure_ (i := 12) (N := some 51) (v := (.bool false)) (a' := ?_) #[true, true, true, true, true, true, true, true, true, true, true, true, true] rfl rfl (by kernel_rfl) (fun _ _ _ h => h) (Or.inl ⟨by rfl, ?_⟩) ?_ ?_
   ·intro w'
    go_simp
   rotate_left
   ·simp only [Act.put, List.setIfInBounds_toArray, List.set_cons_zero, List.set_cons_succ, i64_w, i32_w]
    rfl
   refine done_ (by kernel_rfl) ?_
   clear hHeld hq hslX hslY HBB HN
   as_aux_lemma =>
   have sf := se.drop.drop.drop.drop
   clear se
   skip
   have HML := Lib.hid (And.intro (HM.out (by simp)) (HL.out (by simp)))
   have hp := HP.out (by simp)
   clear HM HL HP
   have hs := mkB_size X
   have e1 : decide (((YtkhcdichdnbcmaaR.Ext.mkB X).size : Int) = 0) = false := decide_eq_false (by rw [hs]; omega)
   have e2 : (((YtkhcdichdnbcmaaR.Ext.mkB X).size : Int) == 0) = false := beq_eq_false_iff_ne.mpr (by rw [hs]; omega)
   have e3 : ((YtkhcdichdnbcmaaR.Ext.mkB X).size == 0) = false := beq_eq_false_iff_ne.mpr (by rw [hs]; omega)
   have e4 : decide ((YtkhcdichdnbcmaaR.Ext.mkB X).size = 0) = false := decide_eq_false (by rw [hs]; omega)
   go_upto_region 9 with fail
   clear e1 e2 e3 e4
   have hcv := HV.out we
   have hx1 : YtkhcdichdnbcmaaR.Ext.mkB X ++ YtkhcdichdnbcmaaR.Ext.mkB [M1] = YtkhcdichdnbcmaaR.Ext.mkB (X ++ [M1]) := mkB_append X [M1]
   have hx2 := add_ok X [M1] (by simp; omega)
   have s16 := (sf.alloc #[.int .u8 mo] 5).drop
   clear sf
   have HK := Lib.hid hp
   clear hp
   have Q := Lib.hid s16
   clear s16
   go_wp2_with (first | ((with_reducible refine wpList_val (some 68) rfl rfl (run_conv 46 9 _ rfl (by rfl) hcv) ?_)) | fail)
   refine (HML.out.1 _ _ Q.out).mono ?_
   rintro ee w8 ⟨A7, B7, n7, m7, p7, q7, rfl, s17⟩
   clear Q hcv hx1 hx2 HV
   have s18 := ((s17.drop.drop).alloc #[.int .u8 0, .int .i64 0, .int .i64 0, .int .i64 0, .int .i64 0, .int .i64 0, .slice A7 n7 p7, .slice B7 m7 q7, .int .i64 0, .int .i64 0, .int .i64 0, .int .i64 0, .int .i64 0, .int .i64 0, .int .i64 0] tRe).drop
   clear s17
   obtain ⟨K, hK⟩ : ∃ K, K = X.length - 1 := ⟨_, rfl⟩
   have hsl := slice_to X K (by omega)
   have hw1 : wrap64 (((YtkhcdichdnbcmaaR.Ext.mkB X).size : Int) - 1) = (K : Int) := by have := HK.out; rw [hs]; unfold wrap64; omega
   have HKK := Lib.hid hK
   have hd := HML.out.2 K hK
   clear hK HML hs
   generalize X.take K = XL at *
   have HD := Lib.hid hd
   clear hd
   have Q := Lib.hid s18
   clear s18
   go_wp2_with fail
   refine (HD.out _ _ Q.out).mono ?_
   rintro ee w9 ⟨A8, B8, n8, m8, p8, q8, rfl, s19⟩
   clear Q hsl hw1 HD
   have s20 := ((s19.drop.drop).alloc #[.int .u8 0, .int .i64 0, .int .i64 0, .int .i64 0, .int .i64 0, .int .i64 0, .slice A8 n8 p8, .slice B8 m8 q8, .int .i64 0, .int .i64 0, .int .i64 0, .int .i64 0, .int .i64 0, .int .i64 0, .int .i64 0] tRe).drop
   clear s19
   have Q := Lib.hid s20
   clear s20
   go_wp2_with fail
   refine (awake17 Q.out).mono ?_
   rintro ee wc ⟨rfl, y3⟩
   clear Q
   have HB := Lib.hid y3.bel
   clear y3
   go_wp2
   go_returns
   exact ⟨rfl, HB.out⟩
  ·have h2b : (E2 == 0) = false := beq_eq_false_iff_ne.mpr h2
   clear h2 HQ
   as_aux_lemma =>
   have HML := Lib.hid (And.intro (HM.out (by simp)) (HL.out (by simp)))
   have hp := HP.out (by simp)
   clear HM HL HP
   have hs := mkB_size X
   have e1 : decide (((YtkhcdichdnbcmaaR.Ext.mkB X).size : Int) = 0) = false := decide_eq_false (by rw [hs]; omega)
   have e2 : (((YtkhcdichdnbcmaaR.Ext.mkB X).size : Int) == 0) = false := beq_eq_false_iff_ne.mpr (by rw [hs]; omega)
   have e3 : ((YtkhcdichdnbcmaaR.Ext.mkB X).size == 0) = false := beq_eq_false_iff_ne.mpr (by rw [hs]; omega)
   have e4 : decide ((YtkhcdichdnbcmaaR.Ext.mkB X).size = 0) = false := decide_eq_false (by rw [hs]; omega)
   go_upto_region 9 with fail
   clear e1 e2 e3 e4
   have hcv := HV.out w5
   have hx1 : YtkhcdichdnbcmaaR.Ext.mkB X ++ YtkhcdichdnbcmaaR.Ext.mkB [M1] = YtkhcdichdnbcmaaR.Ext.mkB (X ++ [M1]) := mkB_append X [M1]
   have hx2 := add_ok X [M1] (by simp; omega)
   have s10 := (s9.alloc #[.int .u8 mo] 5).drop
   clear s9
   have HK := Lib.hid hp
   clear hp
   have Q := Lib.hid s10
   clear s10
   go_wp2_with (first | ((with_reducible refine wpList_val (some 68) rfl rfl (run_conv 46 9 _ rfl (by rfl) hcv) ?_)) | fail)
   refine (HML.out.1 _ _ Q.out).mono ?_
   rintro ee w6 ⟨A7, B7, n7, m7, p7, q7, rfl, s11⟩
   clear Q hcv hx1 hx2 HV
   have s12 := ((s11.drop.drop).alloc #[.int .u8 0, .int .i64 0, .int .i64 0, .int .i64 0, .int .i64 0, .int .i64 0, .slice A7 n7 p7, .slice B7 m7 q7, .int .i64 0, .int .i64 0, .int .i64 0, .int .i64 0, .int .i64 0, .int .i64 0, .int .i64 0] tRe).drop
   clear s11
   obtain ⟨K, hK⟩ : ∃ K, K = X.length - 1 := ⟨_, rfl⟩
   have hsl := slice_to X K (by omega)
   have hw1 : wrap64 (((YtkhcdichdnbcmaaR.Ext.mkB X).size : Int) - 1) = (K : Int) := by have := HK.out; rw [hs]; unfold wrap64; omega
   have HKK := Lib.hid hK
   have hd := HML.out.2 K hK
   clear hK HML hs
   generalize X.take K = XL at *
   have HD := Lib.hid hd
   clear hd
   have Q := Lib.hid s12
   clear s12
   go_wp2_with fail
   refine (HD.out _ _ Q.out).mono ?_
   rintro ee w7 ⟨A8, B8, n8, m8, p8, q8, rfl, s13⟩
   clear Q hsl hw1 HD
   have s14 := ((s13.drop.drop).alloc #[.int .u8 0, .int .i64 0, .int .i64 0, .int .i64 0, .int .i64 0, .int .i64 0, .slice A8 n8 p8, .slice B8 m8 q8, .int .i64 0, .int .i64 0, .int .i64 0, .int .i64 0, .int .i64 0, .int .i64 0, .int .i64 0] tRe).drop
   clear s13
   have Q := Lib.hid s14
   clear s14
   go_wp2_with fail
   refine (awake17 Q.out).mono ?_
   rintro ee wc ⟨rfl, y3⟩
   clear Q
   have HB := Lib.hid y3.bel
   clear y3
   go_wp2
   go_returns
   exact ⟨rfl, HB.out⟩
 ·have h1b : (E1 == 0) = false := beq_eq_false_iff_ne.mpr h1
  have h1c : (E1 != 0) = true := bne_iff_ne.mpr h1
  clear h1 HQ HM HL HP HV
  as_aux_lemma =>
  have Q := Lib.hid s9
  clear s9
  go_wp2_with fail
  refine (awake17 Q.out).mono ?_
  rintro ee wc ⟨rfl, y3⟩
  clear Q
  have HB := Lib.hid y3.bel
  clear y3
  go_wp2
  go_returns
  exact ⟨rfl, HB.out⟩
end Go.Proofs.YtkhcdichdnbcmaaR
end
section
namespace Go.Proofs.YtkhcdichdnbcmaaR
open Go.RowKit Go.Proofs.YtkhcdichdnbcmaaR Go.Proofs.YtkhcdichdnbcmaaR.Ext Go.Proofs.YtkhcdichdnbcmaaR.C Go.Proofs.YtkhcdichdnbcmaaR.Sp Go.Proofs.YtkhcdichdnbcmaaRW.PrintWords Go.Proofs.YtkhcdichdnbcmaaRW.PrintLast
set_option linter.unusedVariables false
set_option linter.unusedSimpArgs false
theorem dec_z (l : List UInt8) (h : ∀ r : RE, goodRe r → encRe r = l → False) : decRR l = (⟨0, 0, ⟨0, 0, 0, 0, [], []⟩, 0, 0, 0, 0, 0, 0, 0⟩, 4) := by
 refine decRR_err l (fun h0 => ?_)
 cases hx : decRR l with
 | mk r er =>
  rw [hx] at h0
  simp only at h0
  subst h0
  obtain ⟨h1, h2⟩ := (decRR_codec _ _).1 hx
  exact h r h1 h2
set_option maxHeartbeats 1000000 in
theorem rapart_all (k e a b c d id task tick wait pid nonce code k' e' a' b' c' d' id' task' tick' wait' pid' nonce' code' : Int) (A B A' B' : Option Addr) (n m p q n' m' p' q' : Nat) (ps ps' : List Int) (ts ts' : List TX) (mo : Int) (w : World)
  (hF1 : ∀ L, FewOf w L a b c d A B n m p q ps ts) (hF2 : ∀ L, FewOf w L a' b' c' d' A' B' n' m' p' q' ps' ts') (hps : ps.length ≤ 20) (hts : ts.length ≤ 10) (hps' : ps'.length ≤ 20) (hts' : ts'.length ≤ 10) (hc1 : -9223372036854775808 ≤ code ∧ code ≤ 9223372036854775807) (hc2 : -9223372036854775808 ≤ code' ∧ code' ≤ 9223372036854775807) :
  Calls Try.prog 10 #[.agg #[.int .u8 k, .int .i64 e, .int .i64 a, .int .i64 b, .int .i64 c, .int .i64 d, .slice A n p, .slice B m q, .int .i64 id, .int .i64 task, .int .i64 tick, .int .i64 wait, .int .i64 pid, .int .i64 nonce, .int .i64 code], .agg #[.int .u8 k', .int .i64 e', .int .i64 a', .int .i64 b', .int .i64 c', .int .i64 d', .slice A' n' p', .slice B' m' q', .int .i64 id', .int .i64 task', .int .i64 tick', .int .i64 wait', .int .i64 pid', .int .i64 nonce', .int .i64 code'], .int .u8 mo] w fun ee w' => ee = .returned (.bool true) ∧ Below w.heap.size w w' := by
 have hg : recE ⟨k, e, spOf a b c d ps ts, id, task, tick, wait, pid, nonce, code⟩ = 0 → goodRe ⟨k, e, spOf a b c d ps ts, id, task, tick, wait, pid, nonce, code⟩ := fun h => ⟨(okRe_iff _).2 h, hc1⟩
 refine rapart_w k e a b c d id task tick wait pid nonce code k' e' a' b' c' d' id' task' tick' wait' pid' nonce' code' A B A' B' n m p q n' m' p' q' ps ps' ts ts' mo (UInt8.ofNat mo.toNat) _ _ _ _ w hF1 hF2 hps hts hps' hts' hc1 hc2 rfl rfl rfl rfl (fun h => ?_) (fun h => ?_) (fun h K hK => ?_) (fun W => conv_one mo W _) (fun h1 h2 N hN => ?_)
 ·rw [encRR_ok h]
  exact ⟨encRe_pos, encRe_length (hg h)⟩
 ·have hx := dec_z (encRR ⟨k, e, spOf a b c d ps ts, id, task, tick, wait, pid, nonce, code⟩ ++ [UInt8.ofNat mo.toNat]) (fun r h1 h2 => by
   rw [encRR_ok h] at h2
   have := (decRe_codec.apart h1 (hg h) (r := []) (s := [UInt8.ofNat mo.toNat]) (by rw [h2, List.append_nil])).2
   cases this)
  exact fun W M s => dec15c _ 0 0 0 0 0 0 [] [] 0 0 0 0 0 0 0 4 hx s
 ·have hx := dec_z ((encRR ⟨k, e, spOf a b c d ps ts, id, task, tick, wait, pid, nonce, code⟩).take K) (fun r h1 h2 => by
   rw [encRR_ok h] at h2 hK
   have hp := encRe_pos (r := ⟨k, e, spOf a b c d ps ts, id, task, tick, wait, pid, nonce, code⟩)
   have := (decRe_codec.apart h1 (hg h) (r := (encRe ⟨k, e, spOf a b c d ps ts, id, task, tick, wait, pid, nonce, code⟩).drop K) (s := []) (by rw [h2, List.append_nil, List.take_append_drop])).2
   have := congrArg List.length this
   rw [List.length_drop, List.length_nil] at this
   omega)
  exact fun W M s => dec15c _ 0 0 0 0 0 0 [] [] 0 0 0 0 0 0 0 4 hx s
 ·rw [toList_mkB, toList_mkB]
  rw [encRR_ok h1, encRR_ok h2] at hN ⊢
  by_cases h : ⟨k, e, spOf a b c d ps ts, id, task, tick, wait, pid, nonce, code⟩ = (⟨k', e', spOf a' b' c' d' ps' ts', id', task', tick', wait', pid', nonce', code'⟩ : RE)
  ·rw [decide_eq_true h, h]
   simp
  ·rw [decide_eq_false h]
   exact beq_eq_false_iff_ne.mpr (fun q => h (decRe_codec.head (hg h1) ⟨(okRe_iff _).2 h2, hc2⟩ hN q))
theorem walk_RecApart (W : World) (k e a b c d : Int) (A4 : Option Addr) (c4 : Nat) (l4 : List Int) (A5 : Option Addr) (c5 : Nat) (l5 : List E90) (id task tick wait pid nonce code : Int) (h0 : (Lit.int .u8 k).wf = true) (h1 : (Lit.int .i64 e).wf = true) (h2 : (Lit.int .i64 a).wf = true) (h3 : (Lit.int .i64 b).wf = true) (h4 : (Lit.int .i64 c).wf = true) (h5 : (Lit.int .i64 d).wf = true) (h6 : SL24 W A4 c4 l4) (h7 : SL25 W A5 c5 l5) (h8 : (Lit.int .i64 id).wf = true) (h9 : (Lit.int .i64 task).wf = true) (h10 : (Lit.int .i64 tick).wf = true) (h11 : (Lit.int .i64 wait).wf = true) (h12 : (Lit.int .i64 pid).wf = true) (h13 : (Lit.int .i64 nonce).wf = true) (h14 : (Lit.int .i64 code).wf = true)
  (k' e' a' b' c' d' : Int) (A4' : Option Addr) (c4' : Nat) (l4' : List Int) (A5' : Option Addr) (c5' : Nat) (l5' : List E90) (id' task' tick' wait' pid' nonce' code' : Int) (h0' : (Lit.int .u8 k').wf = true) (h1' : (Lit.int .i64 e').wf = true) (h2' : (Lit.int .i64 a').wf = true) (h3' : (Lit.int .i64 b').wf = true) (h4' : (Lit.int .i64 c').wf = true) (h5' : (Lit.int .i64 d').wf = true) (h6' : SL24 W A4' c4' l4') (h7' : SL25 W A5' c5' l5') (h8' : (Lit.int .i64 id').wf = true) (h9' : (Lit.int .i64 task').wf = true) (h10' : (Lit.int .i64 tick').wf = true) (h11' : (Lit.int .i64 wait').wf = true) (h12' : (Lit.int .i64 pid').wf = true) (h13' : (Lit.int .i64 nonce').wf = true) (h14' : (Lit.int .i64 code').wf = true) (mo : Int) (hmo : (Lit.int .u8 mo).wf = true) :
  Calls Try.prog 10 #[.agg #[.int .u8 k, .int .i64 e, .int .i64 a, .int .i64 b, .int .i64 c, .int .i64 d, .slice A4 l4.length c4, .slice A5 l5.length c5, .int .i64 id, .int .i64 task, .int .i64 tick, .int .i64 wait, .int .i64 pid, .int .i64 nonce, .int .i64 code], .agg #[.int .u8 k', .int .i64 e', .int .i64 a', .int .i64 b', .int .i64 c', .int .i64 d', .slice A4' l4'.length c4', .slice A5' l5'.length c5', .int .i64 id', .int .i64 task', .int .i64 tick', .int .i64 wait', .int .i64 pid', .int .i64 nonce', .int .i64 code'], .int .u8 mo] W fun e w' => e = .returned (.bool true) ∧ Below W.heap.size W w' := by
 have q1 := readsT h7
 have q2 := readsT h7'
 have hl : ∀ l : List Int, (l.take 20).length ≤ 20 := fun l => by rw [List.length_take]; omega
 have hm : ∀ l : List TX, (l.take 10).length ≤ 10 := fun l => by rw [List.length_take]; omega
 exact rapart_all k e a b c d id task tick wait pid nonce code k' e' a' b' c' d' id' task' tick' wait' pid' nonce' code' A4 A5 A4' A5' _ _ _ _ _ _ _ _ _ _ _ _ mo W
  (fun L => few_a (w0 := W) (w := W) a b c d l4 (l5.map toE) (readsI h6).1 rfl (readsI h6).2 q1.1 (by rw [List.length_map]) (by have := q1.2; rw [List.length_map] at this; exact this))
  (fun L => few_a (w0 := W) (w := W) a' b' c' d' l4' (l5'.map toE) (readsI h6').1 rfl (readsI h6').2 q2.1 (by rw [List.length_map]) (by have := q2.2; rw [List.length_map] at this; exact this)) (hl _) (hm _) (hl _) (hm _) (i64_of_wf h14) (i64_of_wf h14')
end Go.Proofs.YtkhcdichdnbcmaaR
end
