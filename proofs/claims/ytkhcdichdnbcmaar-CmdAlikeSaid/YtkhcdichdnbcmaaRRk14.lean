/- Texts of this session, merged (wip/gen/shake.py). -/
import Derived.Deep.Cut
import Derived.Deep.CutRange
import Derived.Deep.RegionWith
import Derived.Test.YtkhcdichdnbcmaaRRk13
section
namespace Go.Proofs.YtkhcdichdnbcmaaR
open Go.RowKit Go.Proofs.YtkhcdichdnbcmaaR Go.Proofs.YtkhcdichdnbcmaaR.Ext Go.Proofs.YtkhcdichdnbcmaaR.C Go.Proofs.YtkhcdichdnbcmaaR.Sp Go.Proofs.YtkhcdichdnbcmaaRW.PrintWords Go.Proofs.YtkhcdichdnbcmaaRW.PrintLast
set_option linter.unusedVariables false
set_option linter.unusedSimpArgs false
set_option maxRecDepth 100000 in
set_option maxHeartbeats 16000000 in
theorem rback_0 (k e a b c d id task tick wait pid nonce code k' e' a' b' c' d' id' task' tick' wait' pid' nonce' code' : Int) (A B A' B' : Option Addr) (n m p q n' m' p' q' : Nat) (ps ps' : List Int) (ts ts' : List TX) (t S : List UInt8) (k2 e2 a2 b2 c2 d2 id2 task2 tick2 wait2 pid2 nonce2 code2 : Int) (ps2 : List Int) (ts2 : List TX) (X Y : List UInt8) (E1 E2 : Int) (w : World)
  (hF1 : ∀ L, FewOf w L a b c d A B n m p q ps ts) (hF2 : ∀ L, FewOf w L a' b' c' d' A' B' n' m' p' q' ps' ts') (hS : t.take (min t.length 400) = S) (hps : ps.length ≤ 20) (hts : ts.length ≤ 10) (hps' : ps'.length ≤ 20) (hts' : ts'.length ≤ 10) (hc1 : -9223372036854775808 ≤ code ∧ code ≤ 9223372036854775807) (hc2 : -9223372036854775808 ≤ code' ∧ code' ≤ 9223372036854775807)
  (hX : Sp.encRR (⟨k, e, spOf a b c d ps ts, id, task, tick, wait, pid, nonce, code⟩ : RE) = X) (hE1 : Sp.recE (⟨k, e, spOf a b c d ps ts, id, task, tick, wait, pid, nonce, code⟩ : RE) = E1) (hY : Sp.encRR (⟨k', e', spOf a' b' c' d' ps' ts', id', task', tick', wait', pid', nonce', code'⟩ : RE) = Y) (hE2 : Sp.recE (⟨k', e', spOf a' b' c' d' ps' ts', id', task', tick', wait', pid', nonce', code'⟩ : RE) = E2)
  (hDX : E1 = 0 → ∀ (W : World) (M : List HP), St w W M → Calls Try.prog 23 #[.string (YtkhcdichdnbcmaaR.Ext.mkB X)] W fun ee w' => ∃ A B n m p q, ee = .returned (.tuple #[.agg #[.int .u8 k, .int .i64 e, .int .i64 a, .int .i64 b, .int .i64 c, .int .i64 d, .slice A n p, .slice B m q, .int .i64 id, .int .i64 task, .int .i64 tick, .int .i64 wait, .int .i64 pid, .int .i64 nonce, .int .i64 code], .int .i64 0]) ∧ St w w' (RI (.slice A n p) ps :: RT (.slice B m q) ts :: M)) (hXl : E1 = 0 → X.length ≤ 220)
  (hEq : E1 = 0 → E2 = 0 → (((YtkhcdichdnbcmaaR.Ext.mkB X).toList == (YtkhcdichdnbcmaaR.Ext.mkB Y).toList) = decide ((⟨k, e, spOf a b c d ps ts, id, task, tick, wait, pid, nonce, code⟩ : RE) = (⟨k', e', spOf a' b' c' d' ps' ts', id', task', tick', wait', pid', nonce', code'⟩ : RE))))
  (HS : Go.RowKit.Hid (∀ (W : World) (M : List HP), St w W M → Calls Try.prog 23 #[.string (YtkhcdichdnbcmaaR.Ext.mkB S)] W fun ee w' => ∃ A B n m p q, ee = .returned (.tuple #[.agg #[.int .u8 k2, .int .i64 e2, .int .i64 a2, .int .i64 b2, .int .i64 c2, .int .i64 d2, .slice A n p, .slice B m q, .int .i64 id2, .int .i64 task2, .int .i64 tick2, .int .i64 wait2, .int .i64 pid2, .int .i64 nonce2, .int .i64 code2], .int .i64 0]) ∧ St w w' (RI (.slice A n p) ps2 :: RT (.slice B m q) ts2 :: M))) (HT : Go.RowKit.Hid (Sp.encRR (⟨k2, e2, spOf a2 b2 c2 d2 ps2 ts2, id2, task2, tick2, wait2, pid2, nonce2, code2⟩ : RE) = S ∧ Sp.recE (⟨k2, e2, spOf a2 b2 c2 d2 ps2 ts2, id2, task2, tick2, wait2, pid2, nonce2, code2⟩ : RE) = 0 ∧ (-9223372036854775808 ≤ code2 ∧ code2 ≤ 9223372036854775807))) :
  Calls Try.prog 9 #[.agg #[.int .u8 k, .int .i64 e, .int .i64 a, .int .i64 b, .int .i64 c, .int .i64 d, .slice A n p, .slice B m q, .int .i64 id, .int .i64 task, .int .i64 tick, .int .i64 wait, .int .i64 pid, .int .i64 nonce, .int .i64 code], .agg #[.int .u8 k', .int .i64 e', .int .i64 a', .int .i64 b', .int .i64 c', .int .i64 d', .slice A' n' p', .slice B' m' q', .int .i64 id', .int .i64 task', .int .i64 tick', .int .i64 wait', .int .i64 pid', .int .i64 nonce', .int .i64 code'], .string (YtkhcdichdnbcmaaR.Ext.mkB t)] w fun ee w' => ee = .returned (.bool true) ∧ Below w.heap.size w w' := by
 have HF1 := Lib.hid hF1
 have HF2 := Lib.hid hF2
 clear hF1 hF2
 have hlen : (YtkhcdichdnbcmaaR.Ext.mkB t).size = t.length := mkB_size t
 have hsl := slice_to t (min t.length 400) (by omega)
 rw [hS] at hsl
 have s1 : St w ((w.alloc (Obj.cells #[.int .u8 k, .int .i64 e, .int .i64 a, .int .i64 b, .int .i64 c, .int .i64 d, .slice A n p, .slice B m q, .int .i64 id, .int .i64 task, .int .i64 tick, .int .i64 wait, .int .i64 pid, .int .i64 nonce, .int .i64 code] tRe)).alloc (Obj.cells #[.int .u8 k', .int .i64 e', .int .i64 a', .int .i64 b', .int .i64 c', .int .i64 d', .slice A' n' p', .slice B' m' q', .int .i64 id', .int .i64 task', .int .i64 tick', .int .i64 wait', .int .i64 pid', .int .i64 nonce', .int .i64 code'] tRe)) [blk (w.heap.size + 1) #[.int .u8 k', .int .i64 e', .int .i64 a', .int .i64 b', .int .i64 c', .int .i64 d', .slice A' n' p', .slice B' m' q', .int .i64 id', .int .i64 task', .int .i64 tick', .int .i64 wait', .int .i64 pid', .int .i64 nonce', .int .i64 code'] tRe, blk w.heap.size #[.int .u8 k, .int .i64 e, .int .i64 a, .int .i64 b, .int .i64 c, .int .i64 d, .slice A n p, .slice B m q, .int .i64 id, .int .i64 task, .int .i64 tick, .int .i64 wait, .int .i64 pid, .int .i64 nonce, .int .i64 code] tRe] := by
  simpa using ((St.start w).alloc #[.int .u8 k, .int .i64 e, .int .i64 a, .int .i64 b, .int .i64 c, .int .i64 d, .slice A n p, .slice B m q, .int .i64 id, .int .i64 task, .int .i64 tick, .int .i64 wait, .int .i64 pid, .int .i64 nonce, .int .i64 code] tRe).alloc #[.int .u8 k', .int .i64 e', .int .i64 a', .int .i64 b', .int .i64 c', .int .i64 d', .slice A' n' p', .slice B' m' q', .int .i64 id', .int .i64 task', .int .i64 tick', .int .i64 wait', .int .i64 pid', .int .i64 nonce', .int .i64 code'] tRe
 go_enter Try.func9, Try.ntmps9
 go_wp2_with fail
 generalize ((w.alloc (Obj.cells #[.int .u8 k, .int .i64 e, .int .i64 a, .int .i64 b, .int .i64 c, .int .i64 d, .slice A n p, .slice B m q, .int .i64 id, .int .i64 task, .int .i64 tick, .int .i64 wait, .int .i64 pid, .int .i64 nonce, .int .i64 code] tRe)).alloc (Obj.cells #[.int .u8 k', .int .i64 e', .int .i64 a', .int .i64 b', .int .i64 c', .int .i64 d', .slice A' n' p', .slice B' m' q', .int .i64 id', .int .i64 task', .int .i64 tick', .int .i64 wait', .int .i64 pid', .int .i64 nonce', .int .i64 code'] tRe)) = w1 at *
 generalize hB4 : w.heap.size + 1 = b4 at *
 generalize hB3 : w.heap.size = b3 at *
 have HB3 := Lib.hid hB3
 clear hB3 hB4
 refine start_ (n := 12) (S := fun w' => w'.cell? ⟨b3, 0, none⟩ = some (.int .u8 k) ∧ w'.cell? ⟨b3, 1, none⟩ = some (.int .i64 e) ∧ w'.cell? ⟨b3, 2, none⟩ = some (.int .i64 a) ∧ w'.cell? ⟨b3, 3, none⟩ = some (.int .i64 b) ∧ w'.cell? ⟨b3, 4, none⟩ = some (.int .i64 c) ∧ w'.cell? ⟨b3, 5, none⟩ = some (.int .i64 d) ∧ w'.cell? ⟨b3, 6, none⟩ = some (.slice A n p) ∧ w'.cell? ⟨b3, 7, none⟩ = some (.slice B m q) ∧ w'.cell? ⟨b3, 8, none⟩ = some (.int .i64 id) ∧ w'.cell? ⟨b3, 9, none⟩ = some (.int .i64 task) ∧ w'.cell? ⟨b3, 10, none⟩ = some (.int .i64 tick) ∧ w'.cell? ⟨b3, 11, none⟩ = some (.int .i64 wait) ∧ w'.cell? ⟨b3, 12, none⟩ = some (.int .i64 pid) ∧ w'.cell? ⟨b3, 13, none⟩ = some (.int .i64 nonce) ∧ w'.cell? ⟨b3, 14, none⟩ = some (.int .i64 code) ∧ w'.cell? ⟨b4, 0, none⟩ = some (.int .u8 k') ∧ w'.cell? ⟨b4, 1, none⟩ = some (.int .i64 e') ∧ w'.cell? ⟨b4, 2, none⟩ = some (.int .i64 a') ∧ w'.cell? ⟨b4, 3, none⟩ = some (.int .i64 b') ∧ w'.cell? ⟨b4, 4, none⟩ = some (.int .i64 c') ∧ w'.cell? ⟨b4, 5, none⟩ = some (.int .i64 d') ∧ w'.cell? ⟨b4, 6, none⟩ = some (.slice A' n' p') ∧ w'.cell? ⟨b4, 7, none⟩ = some (.slice B' m' q') ∧ w'.cell? ⟨b4, 8, none⟩ = some (.int .i64 id') ∧ w'.cell? ⟨b4, 9, none⟩ = some (.int .i64 task') ∧ w'.cell? ⟨b4, 10, none⟩ = some (.int .i64 tick') ∧ w'.cell? ⟨b4, 11, none⟩ = some (.int .i64 wait') ∧ w'.cell? ⟨b4, 12, none⟩ = some (.int .i64 pid') ∧ w'.cell? ⟨b4, 13, none⟩ = some (.int .i64 nonce') ∧ w'.cell? ⟨b4, 14, none⟩ = some (.int .i64 code')) (ds := [9, 10, 11]) #[false, false, false, false, false, false, false, false, false, false, false, false] (by as_aux_lemma => kernel_rfl) rfl rfl ⟨(s1.pick 1).cells 0, (s1.pick 1).cells 1, (s1.pick 1).cells 2, (s1.pick 1).cells 3, (s1.pick 1).cells 4, (s1.pick 1).cells 5, (s1.pick 1).cells 6, (s1.pick 1).cells 7, (s1.pick 1).cells 8, (s1.pick 1).cells 9, (s1.pick 1).cells 10, (s1.pick 1).cells 11, (s1.pick 1).cells 12, (s1.pick 1).cells 13, (s1.pick 1).cells 14, (s1).cells 0, (s1).cells 1, (s1).cells 2, (s1).cells 3, (s1).cells 4, (s1).cells 5, (s1).cells 6, (s1).cells 7, (s1).cells 8, (s1).cells 9, (s1).cells 10, (s1).cells 11, (s1).cells 12, (s1).cells 13, (s1).cells 14⟩ (fun hHeld => ?_)
 have s1d := s1.drew
 clear s1
 generalize w1.drew = w1d at *
 refine pure_ (i := 4) (N := some 21) (v := ?_) (a' := ?_) #[false, false, false, false, true, false, false, false, false, false, false, false] rfl rfl (by as_aux_lemma => kernel_rfl) (fun _ _ _ h => h) (Or.inl ⟨by rfl, ?_⟩) ?_ ?_
 rotate_left
 ·intro w'
  go_simp
  with_reducible rfl
 rotate_left
 ·simp only [Act.put, List.setIfInBounds_toArray, List.set_cons_zero, List.set_cons_succ, i64_w, i32_w]
  rfl
 refine pure_ (i := 5) (N := some 22) (v := ?_) (a' := ?_) #[false, false, false, false, true, true, false, false, false, false, false, false] rfl rfl (by as_aux_lemma => kernel_rfl) (fun _ _ _ h => h) (Or.inl ⟨by rfl, ?_⟩) ?_ ?_
 rotate_left
 ·intro w'
  go_simp
  with_reducible rfl
 rotate_left
 ·simp only [Act.put, List.setIfInBounds_toArray, List.set_cons_zero, List.set_cons_succ, i64_w, i32_w]
  rfl
 refine pure_ (i := 6) (N := some 23) (v := (.int .i64 (t.length : Int))) (a' := ?_) #[false, false, false, false, true, true, true, false, false, false, false, false] rfl rfl (by as_aux_lemma => kernel_rfl) (fun _ _ _ h => h) (Or.inl ⟨by rfl, ?_⟩) ?_ ?_
 ·intro w'
  go_simp
 rotate_left
 ·simp only [Act.put, List.setIfInBounds_toArray, List.set_cons_zero, List.set_cons_succ, i64_w, i32_w]
  rfl
 refine pure_ (i := 7) (N := some 24) (v := (.int .i64 ((min t.length 400 : Nat) : Int))) (a' := ?_) #[false, false, false, false, true, true, true, true, false, false, false, false] rfl rfl (by as_aux_lemma => kernel_rfl) (fun _ _ _ h => h) (Or.inl ⟨by rfl, ?_⟩) ?_ ?_
 ·intro w'
  go_simp
  split <;> omega
 rotate_left
 ·simp only [Act.put, List.setIfInBounds_toArray, List.set_cons_zero, List.set_cons_succ, i64_w, i32_w]
  rfl
 refine pure_ (i := 8) (N := some 25) (v := (.string (YtkhcdichdnbcmaaR.Ext.mkB S))) (a' := ?_) #[false, false, false, false, true, true, true, true, true, false, false, false] rfl rfl (by as_aux_lemma => kernel_rfl) (fun _ _ _ h => h) (Or.inl ⟨by rfl, ?_⟩) ?_ ?_
 ·intro w'
  go_simp
 rotate_left
 ·simp only [Act.put, List.setIfInBounds_toArray, List.set_cons_zero, List.set_cons_succ, i64_w, i32_w]
  rfl
 refine take_ (i := 0) (N := some 17) (v := ?_) (a' := ?_) #[true, false, false, false, true, true, true, true, true, false, false, false] rfl rfl (by as_aux_lemma => kernel_rfl) (fun _ _ _ h => h) (Or.inl ⟨by rfl, ?_⟩) hHeld ?_ ?_
 rotate_left
 ·rintro w' ⟨s0, s1, s2, s3, s4, s5, s6, s7, s8, s9, s10, s11, s12, s13, s14, s15, s16, s17, s18, s19, s20, s21, s22, s23, s24, s25, s26, s27, s28, s29⟩
  go_simp
  with_reducible rfl
 rotate_left
 ·simp only [Act.put, List.setIfInBounds_toArray, List.set_cons_zero, List.set_cons_succ, i64_w, i32_w]
  rfl
 refine take_ (i := 2) (N := some 19) (v := ?_) (a' := ?_) #[true, false, true, false, true, true, true, true, true, false, false, false] rfl rfl (by as_aux_lemma => kernel_rfl) (fun _ _ _ h => h) (Or.inl ⟨by rfl, ?_⟩) hHeld ?_ ?_
 rotate_left
 ·rintro w' ⟨s0, s1, s2, s3, s4, s5, s6, s7, s8, s9, s10, s11, s12, s13, s14, s15, s16, s17, s18, s19, s20, s21, s22, s23, s24, s25, s26, s27, s28, s29⟩
  go_simp
  with_reducible rfl
 rotate_left
 ·simp only [Act.put, List.setIfInBounds_toArray, List.set_cons_zero, List.set_cons_succ, i64_w, i32_w]
  rfl
 refine one_ (i := 1) (N := some 18) #[true, true, true, false, true, true, true, true, true, false, false, false] rfl rfl (by as_aux_lemma => kernel_rfl) (by decide) (fun K hK => ?_)
 refine goes_ Try.func27 (by as_aux_lemma => kernel_rfl) rfl #[.agg #[.int .u8 k, .int .i64 e, .int .i64 a, .int .i64 b, .int .i64 c, .int .i64 d, .slice A n p, .slice B m q, .int .i64 id, .int .i64 task, .int .i64 tick, .int .i64 wait, .int .i64 pid, .int .i64 nonce, .int .i64 code]] (by rfl) rfl rfl (by (try simp only [List.map_toArray, List.map_cons, List.map_nil]); first | done | rfl) ?_
 with_reducible refine (few15 k e a b c d id task tick wait pid nonce code A B n m p q ps ts s1d (HF1.out _)).mono ?_
 rintro ee w2 ⟨A1, B1, p1, q1, n1, m1, rfl, s2⟩
 refine ⟨_, rfl, ?_⟩
 refine hK.out _ _ ⟨(s2.pick 3).cells 0, (s2.pick 3).cells 1, (s2.pick 3).cells 2, (s2.pick 3).cells 3, (s2.pick 3).cells 4, (s2.pick 3).cells 5, (s2.pick 3).cells 6, (s2.pick 3).cells 7, (s2.pick 3).cells 8, (s2.pick 3).cells 9, (s2.pick 3).cells 10, (s2.pick 3).cells 11, (s2.pick 3).cells 12, (s2.pick 3).cells 13, (s2.pick 3).cells 14, (s2.pick 2).cells 0, (s2.pick 2).cells 1, (s2.pick 2).cells 2, (s2.pick 2).cells 3, (s2.pick 2).cells 4, (s2.pick 2).cells 5, (s2.pick 2).cells 6, (s2.pick 2).cells 7, (s2.pick 2).cells 8, (s2.pick 2).cells 9, (s2.pick 2).cells 10, (s2.pick 2).cells 11, (s2.pick 2).cells 12, (s2.pick 2).cells 13, (s2.pick 2).cells 14⟩ (fun hHeld => ?_)
 clear hK K s1d
 refine norm_ (a' := ?_) ?_ ?_
 rotate_left
 ·show Act.put _ (some 18) _ = _
  simp only [Act.put, List.setIfInBounds_toArray, List.set_cons_zero, List.set_cons_succ, i64_w, i32_w]
  rfl
 refine one_ (i := 3) (N := some 20) #[true, true, true, true, true, true, true, true, true, false, false, false] rfl rfl (by as_aux_lemma => kernel_rfl) (by decide) (fun K hK => ?_)
 refine goes_ Try.func27 (by as_aux_lemma => kernel_rfl) rfl #[.agg #[.int .u8 k', .int .i64 e', .int .i64 a', .int .i64 b', .int .i64 c', .int .i64 d', .slice A' n' p', .slice B' m' q', .int .i64 id', .int .i64 task', .int .i64 tick', .int .i64 wait', .int .i64 pid', .int .i64 nonce', .int .i64 code']] (by rfl) rfl rfl (by (try simp only [List.map_toArray, List.map_cons, List.map_nil]); first | done | rfl) ?_
 with_reducible refine (few15 k' e' a' b' c' d' id' task' tick' wait' pid' nonce' code' A' B' n' m' p' q' ps' ts' s2 (HF2.out _)).mono ?_
 rintro ee w3 ⟨A2, B2, p2, q2, n2, m2, rfl, s3⟩
 refine ⟨_, rfl, ?_⟩
 refine hK.out _ _ ⟨(s3.pick 5).cells 0, (s3.pick 5).cells 1, (s3.pick 5).cells 2, (s3.pick 5).cells 3, (s3.pick 5).cells 4, (s3.pick 5).cells 5, (s3.pick 5).cells 6, (s3.pick 5).cells 7, (s3.pick 5).cells 8, (s3.pick 5).cells 9, (s3.pick 5).cells 10, (s3.pick 5).cells 11, (s3.pick 5).cells 12, (s3.pick 5).cells 13, (s3.pick 5).cells 14, (s3.pick 4).cells 0, (s3.pick 4).cells 1, (s3.pick 4).cells 2, (s3.pick 4).cells 3, (s3.pick 4).cells 4, (s3.pick 4).cells 5, (s3.pick 4).cells 6, (s3.pick 4).cells 7, (s3.pick 4).cells 8, (s3.pick 4).cells 9, (s3.pick 4).cells 10, (s3.pick 4).cells 11, (s3.pick 4).cells 12, (s3.pick 4).cells 13, (s3.pick 4).cells 14⟩ (fun hHeld => ?_)
 clear hK K s2
 refine norm_ (a' := ?_) ?_ ?_
 rotate_left
 ·show Act.put _ (some 20) _ = _
  simp only [Act.put, List.setIfInBounds_toArray, List.set_cons_zero, List.set_cons_succ, i64_w, i32_w]
  rfl
 clear hHeld HF1 HF2
 have s4 := s3.pick 5
 simp only [List.getElem_cons_succ, List.getElem_cons_zero, List.eraseIdx_cons_succ, List.eraseIdx_cons_zero] at s4
 clear s3
 refine last_ (i := 9) (N := none) #[true, true, true, true, true, true, true, true, true, true, false, false] rfl rfl (by as_aux_lemma => kernel_rfl) (by decide) (fun K hK => ?_)
 refine skip_ (w1 := w3.setRow b3 #[.int .u8 k, .int .i64 e, .int .i64 a, .int .i64 b, .int .i64 c, .int .i64 d, .slice A1 n1 p1, .slice B1 m1 q1, .int .i64 id, .int .i64 task, .int .i64 tick, .int .i64 wait, .int .i64 pid, .int .i64 nonce, .int .i64 code]) (by rfl) rfl (run_storeM w3 _ _ 35 rfl b3 0 #[.int .u8 k, .int .i64 e, .int .i64 a, .int .i64 b, .int .i64 c, .int .i64 d, .slice A1 n1 p1, .slice B1 m1 q1, .int .i64 id, .int .i64 task, .int .i64 tick, .int .i64 wait, .int .i64 pid, .int .i64 nonce, .int .i64 code] size_rec rfl rfl rfl s4.at0 (by simp) (by simp [Value.oneCell']) rfl) ?_
 refine hK.out _ _ ?_
 clear hK K
 have s5 := (s4.setRow #[.int .u8 k, .int .i64 e, .int .i64 a, .int .i64 b, .int .i64 c, .int .i64 d, .slice A1 n1 p1, .slice B1 m1 q1, .int .i64 id, .int .i64 task, .int .i64 tick, .int .i64 wait, .int .i64 pid, .int .i64 nonce, .int .i64 code]).pick 5
 simp only [List.getElem_cons_succ, List.getElem_cons_zero, List.eraseIdx_cons_succ, List.eraseIdx_cons_zero] at s5
 clear s4
 generalize w3.setRow b3 #[.int .u8 k, .int .i64 e, .int .i64 a, .int .i64 b, .int .i64 c, .int .i64 d, .slice A1 n1 p1, .slice B1 m1 q1, .int .i64 id, .int .i64 task, .int .i64 tick, .int .i64 wait, .int .i64 pid, .int .i64 nonce, .int .i64 code] = w4 at *
 refine last_ (i := 10) (N := none) #[true, true, true, true, true, true, true, true, true, true, true, false] rfl rfl (by as_aux_lemma => kernel_rfl) (by decide) (fun K hK => ?_)
 refine skip_ (w1 := w4.setRow b4 #[.int .u8 k', .int .i64 e', .int .i64 a', .int .i64 b', .int .i64 c', .int .i64 d', .slice A2 n2 p2, .slice B2 m2 q2, .int .i64 id', .int .i64 task', .int .i64 tick', .int .i64 wait', .int .i64 pid', .int .i64 nonce', .int .i64 code']) (by rfl) rfl (run_storeM w4 _ _ 35 rfl b4 0 #[.int .u8 k', .int .i64 e', .int .i64 a', .int .i64 b', .int .i64 c', .int .i64 d', .slice A2 n2 p2, .slice B2 m2 q2, .int .i64 id', .int .i64 task', .int .i64 tick', .int .i64 wait', .int .i64 pid', .int .i64 nonce', .int .i64 code'] size_rec rfl rfl rfl s5.at0 (by simp) (by simp [Value.oneCell']) rfl) ?_
 refine hK.out _ _ ?_
 clear hK K
 have s6 := s5.setRow #[.int .u8 k', .int .i64 e', .int .i64 a', .int .i64 b', .int .i64 c', .int .i64 d', .slice A2 n2 p2, .slice B2 m2 q2, .int .i64 id', .int .i64 task', .int .i64 tick', .int .i64 wait', .int .i64 pid', .int .i64 nonce', .int .i64 code']
 clear s5
 generalize w4.setRow b4 #[.int .u8 k', .int .i64 e', .int .i64 a', .int .i64 b', .int .i64 c', .int .i64 d', .slice A2 n2 p2, .slice B2 m2 q2, .int .i64 id', .int .i64 task', .int .i64 tick', .int .i64 wait', .int .i64 pid', .int .i64 nonce', .int .i64 code'] = w5 at *
 refine pure_ (i := 11) (N := some 2) (v := (.string (YtkhcdichdnbcmaaR.Ext.mkB S))) (a' := ?_) #[true, true, true, true, true, true, true, true, true, true, true, true] rfl rfl (by as_aux_lemma => kernel_rfl) (fun _ _ _ h => h) (Or.inl ⟨by rfl, ?_⟩) ?_ ?_
 ·intro w'
  go_simp
 rotate_left
 ·simp only [Act.put, List.setIfInBounds_toArray, List.set_cons_zero, List.set_cons_succ, i64_w, i32_w]
  rfl
 refine done_ (by as_aux_lemma => kernel_rfl) ?_
 clear hsl hlen
 as_aux_lemma =>
 have HX := Lib.hid (And.intro hX (And.intro hE1 (And.intro hY hE2)))
 have HCR := Lib.hid (And.intro hc1 hc2)
 clear hX hE1 hY hE2 hc1 hc2
 have s7 := s6.pick 5
 simp only [List.getElem_cons_succ, List.getElem_cons_zero, List.eraseIdx_cons_succ, List.eraseIdx_cons_zero] at s7
 clear s6
 have s8 := s7.pick 5
 simp only [List.getElem_cons_succ, List.getElem_cons_zero, List.eraseIdx_cons_succ, List.eraseIdx_cons_zero] at s8
 clear s7
 have hcb3 := (s8.pick 3).cells
 have hfb3 := (s8.pick 3).free
 have Q := Lib.hid s8
 clear s8
 go_wp2_with fail
 refine (renc15_s k e a b c d id task tick wait pid nonce code ps ts HCR.out.1 Q.out X E1 HX.out.1 HX.out.2.1).mono ?_
 rintro ee w6 ⟨rfl, s9⟩
 clear Q hcb3 hfb3
 have s10 := s9.pick 5
 simp only [List.getElem_cons_succ, List.getElem_cons_zero, List.eraseIdx_cons_succ, List.eraseIdx_cons_zero] at s10
 clear s9
 have s11 := s10.pick 5
 simp only [List.getElem_cons_succ, List.getElem_cons_zero, List.eraseIdx_cons_succ, List.eraseIdx_cons_zero] at s11
 clear s10
 have hcb4 := (s11.pick 4).cells
 have hfb4 := (s11.pick 4).free
 have Q := Lib.hid s11
 clear s11
 go_wp2_with fail
 refine (renc15_s k' e' a' b' c' d' id' task' tick' wait' pid' nonce' code' ps' ts' HCR.out.2 Q.out Y E2 HX.out.2.2.1 HX.out.2.2.2).mono ?_
 rintro ee w7 ⟨rfl, s12⟩
 clear Q hcb4 hfb4
 have s13 := s12.pick 3
 simp only [List.getElem_cons_succ, List.getElem_cons_zero, List.eraseIdx_cons_succ, List.eraseIdx_cons_zero] at s13
 clear s12
 have s14 := s13.pick 3
 simp only [List.getElem_cons_succ, List.getElem_cons_zero, List.eraseIdx_cons_succ, List.eraseIdx_cons_zero] at s14
 clear s13
 have hcb3 := (s14.pick 5).cells
 have hfb3 := (s14.pick 5).free
 have Q := Lib.hid s14
 clear s14
 go_wp2_with fail
 refine (rchk15_s k e a b c d id task tick wait pid nonce code ps ts Q.out E1 HX.out.2.1).mono ?_
 rintro ee w8 ⟨rfl, s15⟩
 clear Q hcb3 hfb3
 have s16 := s15.pick 3
 simp only [List.getElem_cons_succ, List.getElem_cons_zero, List.eraseIdx_cons_succ, List.eraseIdx_cons_zero] at s16
 clear s15
 have s17 := s16.pick 3
 simp only [List.getElem_cons_succ, List.getElem_cons_zero, List.eraseIdx_cons_succ, List.eraseIdx_cons_zero] at s17
 clear s16
 have hcb4 := (s17.pick 4).cells
 have hfb4 := (s17.pick 4).free
 have Q := Lib.hid s17
 clear s17
 go_wp2_with fail
 refine (rchk15_s k' e' a' b' c' d' id' task' tick' wait' pid' nonce' code' ps' ts' Q.out E2 HX.out.2.2.2).mono ?_
 rintro ee w9 ⟨rfl, s18⟩
 clear Q hcb4 hfb4
 by_cases h1 : E1 = 0
 ·subst h1
  as_aux_lemma =>
  have HD := Lib.hid (hDX rfl)
  have HQ := Lib.hid (hEq rfl)
  have hn : decide (220 < ((YtkhcdichdnbcmaaR.Ext.mkB X).size : Int)) = false := decide_eq_false (by rw [mkB_size]; have := hXl rfl; omega)
  have hn' : decide (220 < (YtkhcdichdnbcmaaR.Ext.mkB X).size) = false := decide_eq_false (by rw [mkB_size]; have := hXl rfl; omega)
  clear hDX hEq hXl
  have Q := Lib.hid s18
  clear s18
  go_wp2_with fail
  refine (HD.out _ _ Q.out).mono ?_
  rintro ee w10 ⟨A5, B5, n5, m5, p5, q5, rfl, s19⟩
  clear Q
  have s20 := s19.alloc #[.int .u8 k, .int .i64 e, .int .i64 a, .int .i64 b, .int .i64 c, .int .i64 d, .slice A5 n5 p5, .slice B5 m5 q5, .int .i64 id, .int .i64 task, .int .i64 tick, .int .i64 wait, .int .i64 pid, .int .i64 nonce, .int .i64 code] tRe
  clear s19
  have s21 := s20.pick 6
  simp only [List.getElem_cons_succ, List.getElem_cons_zero, List.eraseIdx_cons_succ, List.eraseIdx_cons_zero] at s21
  clear s20
  have s22 := s21.pick 6
  simp only [List.getElem_cons_succ, List.getElem_cons_zero, List.eraseIdx_cons_succ, List.eraseIdx_cons_zero] at s22
  clear s21
  have s23 := s22.pick 4
  simp only [List.getElem_cons_succ, List.getElem_cons_zero, List.eraseIdx_cons_succ, List.eraseIdx_cons_zero] at s23
  clear s22
  have s24 := s23.pick 4
  simp only [List.getElem_cons_succ, List.getElem_cons_zero, List.eraseIdx_cons_succ, List.eraseIdx_cons_zero] at s24
  clear s23
  have hcb11 := (s24.pick 4).cells
  have hfb11 := (s24.pick 4).free
  have hcb3 := (s24.pick 8).cells
  have hfb3 := (s24.pick 8).free
  have Q := Lib.hid s24
  clear s24
  go_wp2_with fail
  refine (equ15_s k e a b c d id task tick wait pid nonce code k e a b c d id task tick wait pid nonce code ps ps ts ts (by omega) (by omega) true (by simp) Q.out).mono ?_
  rintro ee w11 ⟨rfl, s25⟩
  clear Q hcb11 hfb11 hcb3 hfb3
  have s26 := s25.pick 4
  simp only [List.getElem_cons_succ, List.getElem_cons_zero, List.eraseIdx_cons_succ, List.eraseIdx_cons_zero] at s26
  clear s25
  have s27 := s26.drop
  clear s26
  have s28 := s27.drop
  clear s27
  have s29 := s28.drop
  clear s28
  by_cases h2 : E2 = 0
  ·subst h2
   as_aux_lemma =>
   have s30 := s29.pick 3
   simp only [List.getElem_cons_succ, List.getElem_cons_zero, List.eraseIdx_cons_succ, List.eraseIdx_cons_zero] at s30
   clear s29
   have s31 := s30.pick 3
   simp only [List.getElem_cons_succ, List.getElem_cons_zero, List.eraseIdx_cons_succ, List.eraseIdx_cons_zero] at s31
   clear s30
   have s32 := s31.pick 3
   simp only [List.getElem_cons_succ, List.getElem_cons_zero, List.eraseIdx_cons_succ, List.eraseIdx_cons_zero] at s32
   clear s31
   have s33 := s32.pick 3
   simp only [List.getElem_cons_succ, List.getElem_cons_zero, List.eraseIdx_cons_succ, List.eraseIdx_cons_zero] at s33
   clear s32
   have hcb3 := (s33.pick 5).cells
   have hfb3 := (s33.pick 5).free
   have hcb4 := (s33.pick 4).cells
   have hfb4 := (s33.pick 4).free
   obtain ⟨bb, hbb⟩ : ∃ bb, decide ((⟨k, e, spOf a b c d ps ts, id, task, tick, wait, pid, nonce, code⟩ : RE) = (⟨k', e', spOf a' b' c' d' ps' ts', id', task', tick', wait', pid', nonce', code'⟩ : RE)) = bb := ⟨_, rfl⟩
   have hq := HQ.out rfl
   rw [hbb] at hq
   have HBB := Lib.hid hbb
   clear hbb HQ
   have Q := Lib.hid s33
   clear s33
   go_wp2_with fail
   refine (equ15_s k e a b c d id task tick wait pid nonce code k' e' a' b' c' d' id' task' tick' wait' pid' nonce' code' ps ps' ts ts' (by omega) (by omega) bb HBB.out Q.out).mono ?_
   rintro ee w12 ⟨rfl, s34⟩
   clear Q hcb3 hfb3 hcb4 hfb4
   have Q := Lib.hid s34
   clear s34
   go_wp2_with fail
   refine (HS.out _ _ Q.out).mono ?_
   rintro ee w13 ⟨A7, B7, n7, m7, p7, q7, rfl, s35⟩
   clear Q
   have s36 := s35.alloc #[.int .u8 k2, .int .i64 e2, .int .i64 a2, .int .i64 b2, .int .i64 c2, .int .i64 d2, .slice A7 n7 p7, .slice B7 m7 q7, .int .i64 id2, .int .i64 task2, .int .i64 tick2, .int .i64 wait2, .int .i64 pid2, .int .i64 nonce2, .int .i64 code2] tRe
   clear s35
   have Q := Lib.hid s36
   clear s36
   have hcb13 := Q.out.cells
   go_wp2_with fail
   have z1 := Q.out.pick 1
   simp only [List.getElem_cons_succ, List.getElem_cons_zero, List.eraseIdx_cons_succ, List.eraseIdx_cons_zero] at z1
   have z2 := z1.pick 2
   simp only [List.getElem_cons_succ, List.getElem_cons_zero, List.eraseIdx_cons_succ, List.eraseIdx_cons_zero] at z2
   have z3 := z2.pick 1
   simp only [List.getElem_cons_succ, List.getElem_cons_zero, List.eraseIdx_cons_succ, List.eraseIdx_cons_zero] at z3
   clear z1 z2
   refine (renc15_s k2 e2 a2 b2 c2 d2 id2 task2 tick2 wait2 pid2 nonce2 code2 ps2 ts2 HT.out.2.2 z3 S 0 HT.out.1 HT.out.2.1).mono ?_
   rintro ee wa ⟨rfl, y1⟩
   clear z3 Q hcb13
   have hcq := (y1.pick 2).cells
   have Q := Lib.hid y1
   clear y1
   go_wp2_with fail
   refine (rchk15_s k2 e2 a2 b2 c2 d2 id2 task2 tick2 wait2 pid2 nonce2 code2 ps2 ts2 Q.out 0 HT.out.2.1).mono ?_
   rintro ee wb ⟨rfl, y2⟩
   clear Q hcq
   have Q := Lib.hid y2
   clear y2
   go_wp2_with fail
   refine (awake17 Q.out).mono ?_
   rintro ee wc ⟨rfl, y3⟩
   clear Q
   have HB := Lib.hid y3.bel
   clear y3
   go_wp2
   go_returns
   exact ⟨rfl, HB.out⟩
  ·have h2b : (E2 == 0) = false := beq_eq_false_iff_ne.mpr h2
   clear h2 HQ
   as_aux_lemma =>
   have Q := Lib.hid s29
   clear s29
   go_wp2_with fail
   refine (HS.out _ _ Q.out).mono ?_
   rintro ee w12 ⟨A7, B7, n7, m7, p7, q7, rfl, s30⟩
   clear Q
   have s31 := s30.alloc #[.int .u8 k2, .int .i64 e2, .int .i64 a2, .int .i64 b2, .int .i64 c2, .int .i64 d2, .slice A7 n7 p7, .slice B7 m7 q7, .int .i64 id2, .int .i64 task2, .int .i64 tick2, .int .i64 wait2, .int .i64 pid2, .int .i64 nonce2, .int .i64 code2] tRe
   clear s30
   have Q := Lib.hid s31
   clear s31
   have hcb13 := Q.out.cells
   go_wp2_with fail
   have z1 := Q.out.pick 1
   simp only [List.getElem_cons_succ, List.getElem_cons_zero, List.eraseIdx_cons_succ, List.eraseIdx_cons_zero] at z1
   have z2 := z1.pick 2
   simp only [List.getElem_cons_succ, List.getElem_cons_zero, List.eraseIdx_cons_succ, List.eraseIdx_cons_zero] at z2
   have z3 := z2.pick 1
   simp only [List.getElem_cons_succ, List.getElem_cons_zero, List.eraseIdx_cons_succ, List.eraseIdx_cons_zero] at z3
   clear z1 z2
   refine (renc15_s k2 e2 a2 b2 c2 d2 id2 task2 tick2 wait2 pid2 nonce2 code2 ps2 ts2 HT.out.2.2 z3 S 0 HT.out.1 HT.out.2.1).mono ?_
   rintro ee wa ⟨rfl, y1⟩
   clear z3 Q hcb13
   have hcq := (y1.pick 2).cells
   have Q := Lib.hid y1
   clear y1
   go_wp2_with fail
   refine (rchk15_s k2 e2 a2 b2 c2 d2 id2 task2 tick2 wait2 pid2 nonce2 code2 ps2 ts2 Q.out 0 HT.out.2.1).mono ?_
   rintro ee wb ⟨rfl, y2⟩
   clear Q hcq
   have Q := Lib.hid y2
   clear y2
   go_wp2_with fail
   refine (awake17 Q.out).mono ?_
   rintro ee wc ⟨rfl, y3⟩
   clear Q
   have HB := Lib.hid y3.bel
   clear y3
   go_wp2
   go_returns
   exact ⟨rfl, HB.out⟩
 ·have h1b : (E1 == 0) = false := beq_eq_false_iff_ne.mpr h1
  clear h1 hEq hDX hXl
  as_aux_lemma =>
  have Q := Lib.hid s18
  clear s18
  go_wp2_with fail
  refine (HS.out _ _ Q.out).mono ?_
  rintro ee w10 ⟨A7, B7, n7, m7, p7, q7, rfl, s19⟩
  clear Q
  have s20 := s19.alloc #[.int .u8 k2, .int .i64 e2, .int .i64 a2, .int .i64 b2, .int .i64 c2, .int .i64 d2, .slice A7 n7 p7, .slice B7 m7 q7, .int .i64 id2, .int .i64 task2, .int .i64 tick2, .int .i64 wait2, .int .i64 pid2, .int .i64 nonce2, .int .i64 code2] tRe
  clear s19
  have Q := Lib.hid s20
  clear s20
  have hcb13 := Q.out.cells
  go_wp2_with fail
  have z1 := Q.out.pick 1
  simp only [List.getElem_cons_succ, List.getElem_cons_zero, List.eraseIdx_cons_succ, List.eraseIdx_cons_zero] at z1
  have z2 := z1.pick 2
  simp only [List.getElem_cons_succ, List.getElem_cons_zero, List.eraseIdx_cons_succ, List.eraseIdx_cons_zero] at z2
  have z3 := z2.pick 1
  simp only [List.getElem_cons_succ, List.getElem_cons_zero, List.eraseIdx_cons_succ, List.eraseIdx_cons_zero] at z3
  clear z1 z2
  refine (renc15_s k2 e2 a2 b2 c2 d2 id2 task2 tick2 wait2 pid2 nonce2 code2 ps2 ts2 HT.out.2.2 z3 S 0 HT.out.1 HT.out.2.1).mono ?_
  rintro ee wa ⟨rfl, y1⟩
  clear z3 Q hcb13
  have hcq := (y1.pick 2).cells
  have Q := Lib.hid y1
  clear y1
  go_wp2_with fail
  refine (rchk15_s k2 e2 a2 b2 c2 d2 id2 task2 tick2 wait2 pid2 nonce2 code2 ps2 ts2 Q.out 0 HT.out.2.1).mono ?_
  rintro ee wb ⟨rfl, y2⟩
  clear Q hcq
  have Q := Lib.hid y2
  clear y2
  go_wp2_with fail
  refine (awake17 Q.out).mono ?_
  rintro ee wc ⟨rfl, y3⟩
  clear Q
  have HB := Lib.hid y3.bel
  clear y3
  go_wp2
  go_returns
  exact ⟨rfl, HB.out⟩
end Go.Proofs.YtkhcdichdnbcmaaR
end
