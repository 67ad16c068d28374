/- Texts of this session, merged (wip/gen/shake.py). -/
import Derived.Test.YtkhcdichdnbcmaaRRm14
import Derived.Test.YtkhcdichdnbcmaaRRm18
import Derived.Test.YtkhcdichdnbcmaaRRm19
section
namespace Go.Proofs.YtkhcdichdnbcmaaR
open Go.RowKit Go.Proofs.YtkhcdichdnbcmaaR Go.Proofs.YtkhcdichdnbcmaaR.Ext Go.Proofs.YtkhcdichdnbcmaaR.C Go.Proofs.YtkhcdichdnbcmaaR.Sp Go.Proofs.YtkhcdichdnbcmaaRW.PrintWords Go.Proofs.YtkhcdichdnbcmaaRW.PrintLast
set_option linter.unusedVariables false
set_option linter.unusedSimpArgs false
set_option maxRecDepth 100000 in
set_option maxHeartbeats 16000000 in
theorem rmatch_w (k e a b c d id task tick wait pid nonce code k' e' a' b' c' d' id' task' tick' wait' pid' nonce' code' : Int) (A B A' B' : Option Addr) (n m p q n' m' p' q' : Nat) (ps ps' : List Int) (ts ts' : List TX) (XS : List UInt8) (E1 : Int) (bb : Bool) (w : World)
  (hF1 : ∀ L, FewOf w L a b c d A B n m p q ps ts) (hF2 : ∀ L, FewOf w L a' b' c' d' A' B' n' m' p' q' ps' ts') (hps : ps.length ≤ 20) (hts : ts.length ≤ 10) (hps' : ps'.length ≤ 20) (hts' : ts'.length ≤ 10) (hcr : -9223372036854775808 ≤ code ∧ code ≤ 9223372036854775807)
  (hX : Sp.encRR (⟨k, e, spOf a b c d ps ts, id, task, tick, wait, pid, nonce, code⟩ : RE) = XS) (hE : Sp.recE (⟨k, e, spOf a b c d ps ts, id, task, tick, wait, pid, nonce, code⟩ : RE) = E1) (hbb : decide ((⟨k, e, spOf a b c d ps ts, id, task, tick, wait, pid, nonce, code⟩ : RE) = (⟨k', e', spOf a' b' c' d' ps' ts', id', task', tick', wait', pid', nonce', code'⟩ : RE)) = bb) :
  Calls Try.prog 11 #[.agg #[.int .u8 k, .int .i64 e, .int .i64 a, .int .i64 b, .int .i64 c, .int .i64 d, .slice A n p, .slice B m q, .int .i64 id, .int .i64 task, .int .i64 tick, .int .i64 wait, .int .i64 pid, .int .i64 nonce, .int .i64 code], .agg #[.int .u8 k', .int .i64 e', .int .i64 a', .int .i64 b', .int .i64 c', .int .i64 d', .slice A' n' p', .slice B' m' q', .int .i64 id', .int .i64 task', .int .i64 tick', .int .i64 wait', .int .i64 pid', .int .i64 nonce', .int .i64 code']] w fun ee w' => ee = .returned (.bool true) ∧ Below w.heap.size w w' := by
 have HF1 := Lib.hid hF1
 have HF2 := Lib.hid hF2
 have HX := Lib.hid (And.intro hX (And.intro hE hcr))
 have HBB := Lib.hid hbb
 have HLL := Lib.hid (And.intro hps hts)
 clear hF1 hF2 hX hE hcr hbb
 have s1 : St w ((w.alloc (Obj.cells #[.int .u8 k, .int .i64 e, .int .i64 a, .int .i64 b, .int .i64 c, .int .i64 d, .slice A n p, .slice B m q, .int .i64 id, .int .i64 task, .int .i64 tick, .int .i64 wait, .int .i64 pid, .int .i64 nonce, .int .i64 code] tRe)).alloc (Obj.cells #[.int .u8 k', .int .i64 e', .int .i64 a', .int .i64 b', .int .i64 c', .int .i64 d', .slice A' n' p', .slice B' m' q', .int .i64 id', .int .i64 task', .int .i64 tick', .int .i64 wait', .int .i64 pid', .int .i64 nonce', .int .i64 code'] tRe)) [Go.Proofs.YtkhcdichdnbcmaaR.blk (w.heap.size + 1) #[.int .u8 k', .int .i64 e', .int .i64 a', .int .i64 b', .int .i64 c', .int .i64 d', .slice A' n' p', .slice B' m' q', .int .i64 id', .int .i64 task', .int .i64 tick', .int .i64 wait', .int .i64 pid', .int .i64 nonce', .int .i64 code'] tRe, Go.Proofs.YtkhcdichdnbcmaaR.blk w.heap.size #[.int .u8 k, .int .i64 e, .int .i64 a, .int .i64 b, .int .i64 c, .int .i64 d, .slice A n p, .slice B m q, .int .i64 id, .int .i64 task, .int .i64 tick, .int .i64 wait, .int .i64 pid, .int .i64 nonce, .int .i64 code] tRe] := by
  simpa using ((St.start w).alloc #[.int .u8 k, .int .i64 e, .int .i64 a, .int .i64 b, .int .i64 c, .int .i64 d, .slice A n p, .slice B m q, .int .i64 id, .int .i64 task, .int .i64 tick, .int .i64 wait, .int .i64 pid, .int .i64 nonce, .int .i64 code] tRe).alloc #[.int .u8 k', .int .i64 e', .int .i64 a', .int .i64 b', .int .i64 c', .int .i64 d', .slice A' n' p', .slice B' m' q', .int .i64 id', .int .i64 task', .int .i64 tick', .int .i64 wait', .int .i64 pid', .int .i64 nonce', .int .i64 code'] tRe
 go_enter Try.func11, Try.ntmps11
 go_wp2_with fail
 generalize ((w.alloc (Obj.cells #[.int .u8 k, .int .i64 e, .int .i64 a, .int .i64 b, .int .i64 c, .int .i64 d, .slice A n p, .slice B m q, .int .i64 id, .int .i64 task, .int .i64 tick, .int .i64 wait, .int .i64 pid, .int .i64 nonce, .int .i64 code] tRe)).alloc (Obj.cells #[.int .u8 k', .int .i64 e', .int .i64 a', .int .i64 b', .int .i64 c', .int .i64 d', .slice A' n' p', .slice B' m' q', .int .i64 id', .int .i64 task', .int .i64 tick', .int .i64 wait', .int .i64 pid', .int .i64 nonce', .int .i64 code'] tRe)) = w1 at *
 generalize hB3 : w.heap.size + 1 = b3 at *
 generalize hB2 : w.heap.size = b2 at *
 have HB2 := Lib.hid hB2
 clear hB2 hB3
 refine start_ (n := 6) (S := fun w' => w'.cell? ⟨b2,0,none⟩ = some (.int .u8 k) ∧ w'.cell? ⟨b2,1,none⟩ = some (.int .i64 e) ∧ w'.cell? ⟨b2,2,none⟩ = some (.int .i64 a) ∧ w'.cell? ⟨b2,3,none⟩ = some (.int .i64 b) ∧ w'.cell? ⟨b2,4,none⟩ = some (.int .i64 c) ∧ w'.cell? ⟨b2,5,none⟩ = some (.int .i64 d) ∧ w'.cell? ⟨b2,6,none⟩ = some (.slice A n p) ∧ w'.cell? ⟨b2,7,none⟩ = some (.slice B m q) ∧ w'.cell? ⟨b2,8,none⟩ = some (.int .i64 id) ∧ w'.cell? ⟨b2,9,none⟩ = some (.int .i64 task) ∧ w'.cell? ⟨b2,10,none⟩ = some (.int .i64 tick) ∧ w'.cell? ⟨b2,11,none⟩ = some (.int .i64 wait) ∧ w'.cell? ⟨b2,12,none⟩ = some (.int .i64 pid) ∧ w'.cell? ⟨b2,13,none⟩ = some (.int .i64 nonce) ∧ w'.cell? ⟨b2,14,none⟩ = some (.int .i64 code) ∧ w'.cell? ⟨b3,0,none⟩ = some (.int .u8 k') ∧ w'.cell? ⟨b3,1,none⟩ = some (.int .i64 e') ∧ w'.cell? ⟨b3,2,none⟩ = some (.int .i64 a') ∧ w'.cell? ⟨b3,3,none⟩ = some (.int .i64 b') ∧ w'.cell? ⟨b3,4,none⟩ = some (.int .i64 c') ∧ w'.cell? ⟨b3,5,none⟩ = some (.int .i64 d') ∧ w'.cell? ⟨b3,6,none⟩ = some (.slice A' n' p') ∧ w'.cell? ⟨b3,7,none⟩ = some (.slice B' m' q') ∧ w'.cell? ⟨b3,8,none⟩ = some (.int .i64 id') ∧ w'.cell? ⟨b3,9,none⟩ = some (.int .i64 task') ∧ w'.cell? ⟨b3,10,none⟩ = some (.int .i64 tick') ∧ w'.cell? ⟨b3,11,none⟩ = some (.int .i64 wait') ∧ w'.cell? ⟨b3,12,none⟩ = some (.int .i64 pid') ∧ w'.cell? ⟨b3,13,none⟩ = some (.int .i64 nonce') ∧ w'.cell? ⟨b3,14,none⟩ = some (.int .i64 code')) (ds := [4,5]) #[false,false,false,false,false,false] (by kernel_rfl) rfl rfl ⟨(s1.pick 1).cells 0,(s1.pick 1).cells 1,(s1.pick 1).cells 2,(s1.pick 1).cells 3,(s1.pick 1).cells 4,(s1.pick 1).cells 5,(s1.pick 1).cells 6,(s1.pick 1).cells 7,(s1.pick 1).cells 8,(s1.pick 1).cells 9,(s1.pick 1).cells 10,(s1.pick 1).cells 11,(s1.pick 1).cells 12,(s1.pick 1).cells 13,(s1.pick 1).cells 14,(s1).cells 0,(s1).cells 1,(s1).cells 2,(s1).cells 3,(s1).cells 4,(s1).cells 5,(s1).cells 6,(s1).cells 7,(s1).cells 8,(s1).cells 9,(s1).cells 10,(s1).cells 11,(s1).cells 12,(s1).cells 13,(s1).cells 14⟩ (fun hHeld => ?_)
 have sd := s1.drew
 clear s1
 generalize w1.drew = w1d at *
 refine take_ (i := 0) (N := some 10) (v := ?_) (a' := ?_) #[true,false,false,false,false,false] rfl rfl (by as_aux_lemma => kernel_rfl) (fun _ _ _ h => h) (Or.inl ⟨by rfl,?_⟩) hHeld ?_ ?_
 rotate_left
 ·rintro w' ⟨s0,s1,s2,s3,s4,s5,s6,s7,s8,s9,s10,s11,s12,s13,s14,s15,s16,s17,s18,s19,s20,s21,s22,s23,s24,s25,s26,s27,s28,s29⟩
  go_simp
  with_reducible rfl
 rotate_left
 ·simp only [Act.put,List.setIfInBounds_toArray,List.set_cons_zero,List.set_cons_succ,i64_w,i32_w]
  rfl
 refine take_ (i := 2) (N := some 12) (v := ?_) (a' := ?_) #[true,false,true,false,false,false] rfl rfl (by as_aux_lemma => kernel_rfl) (fun _ _ _ h => h) (Or.inl ⟨by rfl,?_⟩) hHeld ?_ ?_
 rotate_left
 ·rintro w' ⟨s0,s1,s2,s3,s4,s5,s6,s7,s8,s9,s10,s11,s12,s13,s14,s15,s16,s17,s18,s19,s20,s21,s22,s23,s24,s25,s26,s27,s28,s29⟩
  go_simp
  with_reducible rfl
 rotate_left
 ·simp only [Act.put,List.setIfInBounds_toArray,List.set_cons_zero,List.set_cons_succ,i64_w,i32_w]
  rfl
 refine one_ (i := 1) (N := some 11) #[true,true,true,false,false,false] rfl rfl (by as_aux_lemma => kernel_rfl) (by decide) (fun K hK => ?_)
 refine goes_ Try.func27 (by as_aux_lemma => kernel_rfl) rfl #[.agg #[.int .u8 k,.int .i64 e,.int .i64 a,.int .i64 b,.int .i64 c,.int .i64 d,.slice A n p,.slice B m q,.int .i64 id,.int .i64 task,.int .i64 tick,.int .i64 wait,.int .i64 pid,.int .i64 nonce,.int .i64 code]] (by rfl) rfl rfl (by (try simp only [List.map_toArray,List.map_cons,List.map_nil]); first | done | rfl) ?_
 with_reducible refine (few15 k e a b c d id task tick wait pid nonce code A B n m p q ps ts sd (HF1.out _)).mono ?_
 rintro ee w2 ⟨A1,B1,p1,q1,n1,m1,rfl,s2⟩
 refine ⟨_, rfl, ?_⟩
 refine hK.out _ _ ⟨(s2.pick 3).cells 0,(s2.pick 3).cells 1,(s2.pick 3).cells 2,(s2.pick 3).cells 3,(s2.pick 3).cells 4,(s2.pick 3).cells 5,(s2.pick 3).cells 6,(s2.pick 3).cells 7,(s2.pick 3).cells 8,(s2.pick 3).cells 9,(s2.pick 3).cells 10,(s2.pick 3).cells 11,(s2.pick 3).cells 12,(s2.pick 3).cells 13,(s2.pick 3).cells 14,(s2.pick 2).cells 0,(s2.pick 2).cells 1,(s2.pick 2).cells 2,(s2.pick 2).cells 3,(s2.pick 2).cells 4,(s2.pick 2).cells 5,(s2.pick 2).cells 6,(s2.pick 2).cells 7,(s2.pick 2).cells 8,(s2.pick 2).cells 9,(s2.pick 2).cells 10,(s2.pick 2).cells 11,(s2.pick 2).cells 12,(s2.pick 2).cells 13,(s2.pick 2).cells 14⟩ (fun hHeld => ?_)
 clear hK K sd
 refine norm_ (a' := ?_) ?_ ?_
 rotate_left
 ·show Act.put _ (some 11) _ = _
  simp only [Act.put,List.setIfInBounds_toArray,List.set_cons_zero,List.set_cons_succ,i64_w,i32_w]
  rfl
 refine one_ (i := 3) (N := some 13) #[true,true,true,true,false,false] rfl rfl (by as_aux_lemma => kernel_rfl) (by decide) (fun K hK => ?_)
 refine goes_ Try.func27 (by as_aux_lemma => kernel_rfl) rfl #[.agg #[.int .u8 k',.int .i64 e',.int .i64 a',.int .i64 b',.int .i64 c',.int .i64 d',.slice A' n' p',.slice B' m' q',.int .i64 id',.int .i64 task',.int .i64 tick',.int .i64 wait',.int .i64 pid',.int .i64 nonce',.int .i64 code']] (by rfl) rfl rfl (by (try simp only [List.map_toArray,List.map_cons,List.map_nil]); first | done | rfl) ?_
 with_reducible refine (few15 k' e' a' b' c' d' id' task' tick' wait' pid' nonce' code' A' B' n' m' p' q' ps' ts' s2 (HF2.out _)).mono ?_
 rintro ee w3 ⟨A2,B2,p2,q2,n2,m2,rfl,s3⟩
 refine ⟨_, rfl, ?_⟩
 refine hK.out _ _ ⟨(s3.pick 5).cells 0,(s3.pick 5).cells 1,(s3.pick 5).cells 2,(s3.pick 5).cells 3,(s3.pick 5).cells 4,(s3.pick 5).cells 5,(s3.pick 5).cells 6,(s3.pick 5).cells 7,(s3.pick 5).cells 8,(s3.pick 5).cells 9,(s3.pick 5).cells 10,(s3.pick 5).cells 11,(s3.pick 5).cells 12,(s3.pick 5).cells 13,(s3.pick 5).cells 14,(s3.pick 4).cells 0,(s3.pick 4).cells 1,(s3.pick 4).cells 2,(s3.pick 4).cells 3,(s3.pick 4).cells 4,(s3.pick 4).cells 5,(s3.pick 4).cells 6,(s3.pick 4).cells 7,(s3.pick 4).cells 8,(s3.pick 4).cells 9,(s3.pick 4).cells 10,(s3.pick 4).cells 11,(s3.pick 4).cells 12,(s3.pick 4).cells 13,(s3.pick 4).cells 14⟩ (fun hHeld => ?_)
 clear hK K s2
 refine norm_ (a' := ?_) ?_ ?_
 rotate_left
 ·show Act.put _ (some 13) _ = _
  simp only [Act.put,List.setIfInBounds_toArray,List.set_cons_zero,List.set_cons_succ,i64_w,i32_w]
  rfl
 clear hHeld HF1 HF2
 have s4 := s3.pick 5
 simp only [List.getElem_cons_succ, List.getElem_cons_zero, List.eraseIdx_cons_succ, List.eraseIdx_cons_zero] at s4
 clear s3
 refine last_ (i := 4) (N := none) #[true,true,true,true,true,false] rfl rfl (by as_aux_lemma => kernel_rfl) (by decide) (fun K hK => ?_)
 refine skip_ (w1 := w3.setRow b2 #[.int .u8 k, .int .i64 e, .int .i64 a, .int .i64 b, .int .i64 c, .int .i64 d, .slice A1 n1 p1, .slice B1 m1 q1, .int .i64 id, .int .i64 task, .int .i64 tick, .int .i64 wait, .int .i64 pid, .int .i64 nonce, .int .i64 code]) (by rfl) rfl (run_storeM w3 _ _ 35 rfl b2 0 #[.int .u8 k, .int .i64 e, .int .i64 a, .int .i64 b, .int .i64 c, .int .i64 d, .slice A1 n1 p1, .slice B1 m1 q1, .int .i64 id, .int .i64 task, .int .i64 tick, .int .i64 wait, .int .i64 pid, .int .i64 nonce, .int .i64 code] size_rec rfl rfl rfl s4.at0 (by simp) (by simp [Value.oneCell']) rfl) ?_
 refine hK.out _ _ ?_
 clear hK K
 have s5 := s4.setRow #[.int .u8 k, .int .i64 e, .int .i64 a, .int .i64 b, .int .i64 c, .int .i64 d, .slice A1 n1 p1, .slice B1 m1 q1, .int .i64 id, .int .i64 task, .int .i64 tick, .int .i64 wait, .int .i64 pid, .int .i64 nonce, .int .i64 code]
 clear s4
 generalize w3.setRow b2 #[.int .u8 k, .int .i64 e, .int .i64 a, .int .i64 b, .int .i64 c, .int .i64 d, .slice A1 n1 p1, .slice B1 m1 q1, .int .i64 id, .int .i64 task, .int .i64 tick, .int .i64 wait, .int .i64 pid, .int .i64 nonce, .int .i64 code] = w4 at *
 have s6 := s5.pick 5
 simp only [List.getElem_cons_succ, List.getElem_cons_zero, List.eraseIdx_cons_succ, List.eraseIdx_cons_zero] at s6
 clear s5
 refine last_ (i := 5) (N := none) #[true,true,true,true,true,true] rfl rfl (by as_aux_lemma => kernel_rfl) (by decide) (fun K hK => ?_)
 refine skip_ (w1 := w4.setRow b3 #[.int .u8 k', .int .i64 e', .int .i64 a', .int .i64 b', .int .i64 c', .int .i64 d', .slice A2 n2 p2, .slice B2 m2 q2, .int .i64 id', .int .i64 task', .int .i64 tick', .int .i64 wait', .int .i64 pid', .int .i64 nonce', .int .i64 code']) (by rfl) rfl (run_storeM w4 _ _ 35 rfl b3 0 #[.int .u8 k', .int .i64 e', .int .i64 a', .int .i64 b', .int .i64 c', .int .i64 d', .slice A2 n2 p2, .slice B2 m2 q2, .int .i64 id', .int .i64 task', .int .i64 tick', .int .i64 wait', .int .i64 pid', .int .i64 nonce', .int .i64 code'] size_rec rfl rfl rfl s6.at0 (by simp) (by simp [Value.oneCell']) rfl) ?_
 refine hK.out _ _ ?_
 clear hK K
 have s7 := s6.setRow #[.int .u8 k', .int .i64 e', .int .i64 a', .int .i64 b', .int .i64 c', .int .i64 d', .slice A2 n2 p2, .slice B2 m2 q2, .int .i64 id', .int .i64 task', .int .i64 tick', .int .i64 wait', .int .i64 pid', .int .i64 nonce', .int .i64 code']
 clear s6
 generalize w4.setRow b3 #[.int .u8 k', .int .i64 e', .int .i64 a', .int .i64 b', .int .i64 c', .int .i64 d', .slice A2 n2 p2, .slice B2 m2 q2, .int .i64 id', .int .i64 task', .int .i64 tick', .int .i64 wait', .int .i64 pid', .int .i64 nonce', .int .i64 code'] = w5 at *
 refine done_ (by as_aux_lemma => kernel_rfl) ?_
 as_aux_lemma =>
 have s8 := s7.pick 5
 simp only [List.getElem_cons_succ, List.getElem_cons_zero, List.eraseIdx_cons_succ, List.eraseIdx_cons_zero] at s8
 clear s7
 have s9 := s8.pick 5
 simp only [List.getElem_cons_succ, List.getElem_cons_zero, List.eraseIdx_cons_succ, List.eraseIdx_cons_zero] at s9
 clear s8
 have hcb2 := (s9.pick 3).cells
 have hfb2 := (s9.pick 3).free
 have Q := Lib.hid s9
 clear s9
 go_wp2_with fail
 refine (few15 k e a b c d id task tick wait pid nonce code A1 B1 n1 m1 p1 q1 ps ts Q.out (few_s (w0 := w) a b c d ps ts HLL.out.1 HLL.out.2)).mono ?_
 rintro ee w6 ⟨A3,B3,p3,q3,n3,m3,rfl,s10⟩
 clear Q hcb2 hfb2
 have s11 := s10.alloc #[.int .u8 k, .int .i64 e, .int .i64 a, .int .i64 b, .int .i64 c, .int .i64 d, .slice A3 n3 p3, .slice B3 m3 q3, .int .i64 id, .int .i64 task, .int .i64 tick, .int .i64 wait, .int .i64 pid, .int .i64 nonce, .int .i64 code] tRe
 clear s10
 have s12 := s11.pick 2
 simp only [List.getElem_cons_succ, List.getElem_cons_zero, List.eraseIdx_cons_succ, List.eraseIdx_cons_zero] at s12
 clear s11
 have s13 := s12.pick 2
 simp only [List.getElem_cons_succ, List.getElem_cons_zero, List.eraseIdx_cons_succ, List.eraseIdx_cons_zero] at s13
 clear s12
 have hcb5 := (s13.pick 2).cells
 have hfb5 := (s13.pick 2).free
 have Q := Lib.hid s13
 clear s13
 go_wp2_with fail
 generalize w6.heap.size = b5 at *
 refine (renc15_s k e a b c d id task tick wait pid nonce code ps ts HX.out.2.2 Q.out XS E1 HX.out.1 HX.out.2.1).mono ?_
 rintro ee w7 ⟨rfl,s14⟩
 clear Q hcb5 hfb5
 have s15 := s14.pick 4
 simp only [List.getElem_cons_succ, List.getElem_cons_zero, List.eraseIdx_cons_succ, List.eraseIdx_cons_zero] at s15
 clear s14
 have s16 := s15.pick 4
 simp only [List.getElem_cons_succ, List.getElem_cons_zero, List.eraseIdx_cons_succ, List.eraseIdx_cons_zero] at s16
 clear s15
 have hcb2 := (s16.pick 6).cells
 have hfb2 := (s16.pick 6).free
 have Q := Lib.hid s16
 clear s16
 go_wp2_with fail
 refine (renc17_s k e a b c d id task tick wait pid nonce code ps ts HLL.out.1 HLL.out.2 HX.out.2.2 Q.out XS E1 HX.out.1 HX.out.2.1).mono ?_
 rintro ee w8 ⟨rfl,s17⟩
 clear Q hcb2 hfb2
 go_upto_region 5 with fail
 refine start_ (n := 39) (S := fun w' => w'.cell? ⟨b5,0,none⟩ = some (.int .u8 k) ∧ w'.cell? ⟨b5,1,none⟩ = some (.int .i64 e) ∧ w'.cell? ⟨b5,2,none⟩ = some (.int .i64 a) ∧ w'.cell? ⟨b5,3,none⟩ = some (.int .i64 b) ∧ w'.cell? ⟨b5,4,none⟩ = some (.int .i64 c) ∧ w'.cell? ⟨b5,5,none⟩ = some (.int .i64 d) ∧ w'.cell? ⟨b5,6,none⟩ = some (.slice A3 n3 p3) ∧ w'.cell? ⟨b5,7,none⟩ = some (.slice B3 m3 q3) ∧ w'.cell? ⟨b5,8,none⟩ = some (.int .i64 id) ∧ w'.cell? ⟨b5,9,none⟩ = some (.int .i64 task) ∧ w'.cell? ⟨b5,10,none⟩ = some (.int .i64 tick) ∧ w'.cell? ⟨b5,11,none⟩ = some (.int .i64 wait) ∧ w'.cell? ⟨b5,12,none⟩ = some (.int .i64 pid) ∧ w'.cell? ⟨b5,13,none⟩ = some (.int .i64 nonce) ∧ w'.cell? ⟨b5,14,none⟩ = some (.int .i64 code) ∧ w'.cell? ⟨b2,0,none⟩ = some (.int .u8 k) ∧ w'.cell? ⟨b2,1,none⟩ = some (.int .i64 e) ∧ w'.cell? ⟨b2,2,none⟩ = some (.int .i64 a) ∧ w'.cell? ⟨b2,3,none⟩ = some (.int .i64 b) ∧ w'.cell? ⟨b2,4,none⟩ = some (.int .i64 c) ∧ w'.cell? ⟨b2,5,none⟩ = some (.int .i64 d) ∧ w'.cell? ⟨b2,6,none⟩ = some (.slice A1 n1 p1) ∧ w'.cell? ⟨b2,7,none⟩ = some (.slice B1 m1 q1) ∧ w'.cell? ⟨b2,8,none⟩ = some (.int .i64 id) ∧ w'.cell? ⟨b2,9,none⟩ = some (.int .i64 task) ∧ w'.cell? ⟨b2,10,none⟩ = some (.int .i64 tick) ∧ w'.cell? ⟨b2,11,none⟩ = some (.int .i64 wait) ∧ w'.cell? ⟨b2,12,none⟩ = some (.int .i64 pid) ∧ w'.cell? ⟨b2,13,none⟩ = some (.int .i64 nonce) ∧ w'.cell? ⟨b2,14,none⟩ = some (.int .i64 code) ∧ w'.cell? ⟨b3,0,none⟩ = some (.int .u8 k') ∧ w'.cell? ⟨b3,1,none⟩ = some (.int .i64 e') ∧ w'.cell? ⟨b3,2,none⟩ = some (.int .i64 a') ∧ w'.cell? ⟨b3,3,none⟩ = some (.int .i64 b') ∧ w'.cell? ⟨b3,4,none⟩ = some (.int .i64 c') ∧ w'.cell? ⟨b3,5,none⟩ = some (.int .i64 d') ∧ w'.cell? ⟨b3,6,none⟩ = some (.slice A2 n2 p2) ∧ w'.cell? ⟨b3,7,none⟩ = some (.slice B2 m2 q2) ∧ w'.cell? ⟨b3,8,none⟩ = some (.int .i64 id') ∧ w'.cell? ⟨b3,9,none⟩ = some (.int .i64 task') ∧ w'.cell? ⟨b3,10,none⟩ = some (.int .i64 tick') ∧ w'.cell? ⟨b3,11,none⟩ = some (.int .i64 wait') ∧ w'.cell? ⟨b3,12,none⟩ = some (.int .i64 pid') ∧ w'.cell? ⟨b3,13,none⟩ = some (.int .i64 nonce') ∧ w'.cell? ⟨b3,14,none⟩ = some (.int .i64 code')) (ds := []) #[false,false,false,false,false,false,false,false,false,false,false,false,false,false,false,false,false,false,false,false,false,false,false,false,false,false,false,false,false,false,false,false,false,false,false,false,false,false,false] (by kernel_rfl) rfl rfl ⟨(s17.pick 4).cells 0,(s17.pick 4).cells 1,(s17.pick 4).cells 2,(s17.pick 4).cells 3,(s17.pick 4).cells 4,(s17.pick 4).cells 5,(s17.pick 4).cells 6,(s17.pick 4).cells 7,(s17.pick 4).cells 8,(s17.pick 4).cells 9,(s17.pick 4).cells 10,(s17.pick 4).cells 11,(s17.pick 4).cells 12,(s17.pick 4).cells 13,(s17.pick 4).cells 14,(s17.pick 6).cells 0,(s17.pick 6).cells 1,(s17.pick 6).cells 2,(s17.pick 6).cells 3,(s17.pick 6).cells 4,(s17.pick 6).cells 5,(s17.pick 6).cells 6,(s17.pick 6).cells 7,(s17.pick 6).cells 8,(s17.pick 6).cells 9,(s17.pick 6).cells 10,(s17.pick 6).cells 11,(s17.pick 6).cells 12,(s17.pick 6).cells 13,(s17.pick 6).cells 14,(s17.pick 5).cells 0,(s17.pick 5).cells 1,(s17.pick 5).cells 2,(s17.pick 5).cells 3,(s17.pick 5).cells 4,(s17.pick 5).cells 5,(s17.pick 5).cells 6,(s17.pick 5).cells 7,(s17.pick 5).cells 8,(s17.pick 5).cells 9,(s17.pick 5).cells 10,(s17.pick 5).cells 11,(s17.pick 5).cells 12,(s17.pick 5).cells 13,(s17.pick 5).cells 14⟩ (fun hHeld => ?_)
 have sd := s17.drew
 clear s17
 generalize w8.drew = wdd at *
 refine pure_ (i := 0) (N := some 26) (v := ?_) (a' := ?_) #[true,false,false,false,false,false,false,false,false,false,false,false,false,false,false,false,false,false,false,false,false,false,false,false,false,false,false,false,false,false,false,false,false,false,false,false,false,false,false] rfl rfl (by as_aux_lemma => kernel_rfl) (fun _ _ _ h => h) (Or.inl ⟨by rfl,?_⟩) ?_ ?_
 rotate_left
 ·intro w'
  go_simp
  with_reducible rfl
 rotate_left
 ·simp only [Act.put,List.setIfInBounds_toArray,List.set_cons_zero,List.set_cons_succ,i64_w,i32_w]
  rfl
 refine pure_ (i := 1) (N := some 27) (v := ?_) (a' := ?_) #[true,true,false,false,false,false,false,false,false,false,false,false,false,false,false,false,false,false,false,false,false,false,false,false,false,false,false,false,false,false,false,false,false,false,false,false,false,false,false] rfl rfl (by as_aux_lemma => kernel_rfl) (fun _ _ _ h => h) (Or.inl ⟨by rfl,?_⟩) ?_ ?_
 rotate_left
 ·intro w'
  go_simp
  with_reducible rfl
 rotate_left
 ·simp only [Act.put,List.setIfInBounds_toArray,List.set_cons_zero,List.set_cons_succ,i64_w,i32_w]
  rfl
 refine pure_ (i := 2) (N := some 28) (v := (.bool true)) (a' := ?_) #[true,true,true,false,false,false,false,false,false,false,false,false,false,false,false,false,false,false,false,false,false,false,false,false,false,false,false,false,false,false,false,false,false,false,false,false,false,false,false] rfl rfl (by as_aux_lemma => kernel_rfl) (fun _ _ _ h => h) (Or.inl ⟨by rfl,?_⟩) ?_ ?_
 ·intro w'
  go_simp
 rotate_left
 ·simp only [Act.put,List.setIfInBounds_toArray,List.set_cons_zero,List.set_cons_succ,i64_w,i32_w]
  rfl
 refine pure_ (i := 3) (N := some 29) (v := ?_) (a' := ?_) #[true,true,true,true,false,false,false,false,false,false,false,false,false,false,false,false,false,false,false,false,false,false,false,false,false,false,false,false,false,false,false,false,false,false,false,false,false,false,false] rfl rfl (by as_aux_lemma => kernel_rfl) (fun _ _ _ h => h) (Or.inl ⟨by rfl,?_⟩) ?_ ?_
 rotate_left
 ·intro w'
  go_simp
  with_reducible rfl
 rotate_left
 ·simp only [Act.put,List.setIfInBounds_toArray,List.set_cons_zero,List.set_cons_succ,i64_w,i32_w]
  rfl
 refine pure_ (i := 4) (N := some 30) (v := ?_) (a' := ?_) #[true,true,true,true,true,false,false,false,false,false,false,false,false,false,false,false,false,false,false,false,false,false,false,false,false,false,false,false,false,false,false,false,false,false,false,false,false,false,false] rfl rfl (by as_aux_lemma => kernel_rfl) (fun _ _ _ h => h) (Or.inl ⟨by rfl,?_⟩) ?_ ?_
 rotate_left
 ·intro w'
  go_simp
  with_reducible rfl
 rotate_left
 ·simp only [Act.put,List.setIfInBounds_toArray,List.set_cons_zero,List.set_cons_succ,i64_w,i32_w]
  rfl
 refine pure_ (i := 5) (N := some 31) (v := ?_) (a' := ?_) #[true,true,true,true,true,true,false,false,false,false,false,false,false,false,false,false,false,false,false,false,false,false,false,false,false,false,false,false,false,false,false,false,false,false,false,false,false,false,false] rfl rfl (by as_aux_lemma => kernel_rfl) (fun _ _ _ h => h) (Or.inl ⟨by rfl,?_⟩) ?_ ?_
 rotate_left
 ·intro w'
  go_simp
  with_reducible rfl
 rotate_left
 ·simp only [Act.put,List.setIfInBounds_toArray,List.set_cons_zero,List.set_cons_succ,i64_w,i32_w]
  rfl
 refine pure_ (i := 6) (N := some 32) (v := (.bool true)) (a' := ?_) #[true,true,true,true,true,true,true,false,false,false,false,false,false,false,false,false,false,false,false,false,false,false,false,false,false,false,false,false,false,false,false,false,false,false,false,false,false,false,false] rfl rfl (by as_aux_lemma => kernel_rfl) (fun _ _ _ h => h) (Or.inl ⟨by rfl,?_⟩) ?_ ?_
 ·intro w'
  go_simp
 rotate_left
 ·simp only [Act.put,List.setIfInBounds_toArray,List.set_cons_zero,List.set_cons_succ,i64_w,i32_w]
  rfl
 refine pure_ (i := 7) (N := some 33) (v := (.bool true)) (a' := ?_) #[true,true,true,true,true,true,true,true,false,false,false,false,false,false,false,false,false,false,false,false,false,false,false,false,false,false,false,false,false,false,false,false,false,false,false,false,false,false,false] rfl rfl (by as_aux_lemma => kernel_rfl) (fun _ _ _ h => h) (Or.inl ⟨by rfl,?_⟩) ?_ ?_
 ·intro w'
  go_simp
 rotate_left
 ·simp only [Act.put,List.setIfInBounds_toArray,List.set_cons_zero,List.set_cons_succ,i64_w,i32_w]
  rfl
 refine pure_ (i := 8) (N := some 34) (v := ?_) (a' := ?_) #[true,true,true,true,true,true,true,true,true,false,false,false,false,false,false,false,false,false,false,false,false,false,false,false,false,false,false,false,false,false,false,false,false,false,false,false,false,false,false] rfl rfl (by as_aux_lemma => kernel_rfl) (fun _ _ _ h => h) (Or.inl ⟨by rfl,?_⟩) ?_ ?_
 rotate_left
 ·intro w'
  go_simp
  with_reducible rfl
 rotate_left
 ·simp only [Act.put,List.setIfInBounds_toArray,List.set_cons_zero,List.set_cons_succ,i64_w,i32_w]
  rfl
 refine take_ (i := 9) (N := some 35) (v := ?_) (a' := ?_) #[true,true,true,true,true,true,true,true,true,true,false,false,false,false,false,false,false,false,false,false,false,false,false,false,false,false,false,false,false,false,false,false,false,false,false,false,false,false,false] rfl rfl (by as_aux_lemma => kernel_rfl) (fun _ _ _ h => h) (Or.inl ⟨by rfl,?_⟩) hHeld ?_ ?_
 rotate_left
 ·rintro w' ⟨s0,s1,s2,s3,s4,s5,s6,s7,s8,s9,s10,s11,s12,s13,s14,s15,s16,s17,s18,s19,s20,s21,s22,s23,s24,s25,s26,s27,s28,s29,s30,s31,s32,s33,s34,s35,s36,s37,s38,s39,s40,s41,s42,s43,s44⟩
  go_simp
  with_reducible rfl
 rotate_left
 ·simp only [Act.put,List.setIfInBounds_toArray,List.set_cons_zero,List.set_cons_succ,i64_w,i32_w]
  rfl
 refine take_ (i := 11) (N := some 37) (v := ?_) (a' := ?_) #[true,true,true,true,true,true,true,true,true,true,false,true,false,false,false,false,false,false,false,false,false,false,false,false,false,false,false,false,false,false,false,false,false,false,false,false,false,false,false] rfl rfl (by as_aux_lemma => kernel_rfl) (fun _ _ _ h => h) (Or.inl ⟨by rfl,?_⟩) hHeld ?_ ?_
 rotate_left
 ·rintro w' ⟨s0,s1,s2,s3,s4,s5,s6,s7,s8,s9,s10,s11,s12,s13,s14,s15,s16,s17,s18,s19,s20,s21,s22,s23,s24,s25,s26,s27,s28,s29,s30,s31,s32,s33,s34,s35,s36,s37,s38,s39,s40,s41,s42,s43,s44⟩
  go_simp
  with_reducible rfl
 rotate_left
 ·simp only [Act.put,List.setIfInBounds_toArray,List.set_cons_zero,List.set_cons_succ,i64_w,i32_w]
  rfl
 have s18 := sd.pick 3
 simp only [List.getElem_cons_succ, List.getElem_cons_zero, List.eraseIdx_cons_succ, List.eraseIdx_cons_zero] at s18
 clear sd
 have s19 := s18.pick 3
 simp only [List.getElem_cons_succ, List.getElem_cons_zero, List.eraseIdx_cons_succ, List.eraseIdx_cons_zero] at s19
 clear s18
 refine one_ (i := 10) (N := some 36) #[true,true,true,true,true,true,true,true,true,true,true,true,false,false,false,false,false,false,false,false,false,false,false,false,false,false,false,false,false,false,false,false,false,false,false,false,false,false,false] rfl rfl (by as_aux_lemma => kernel_rfl) (by decide) (fun K hK => ?_)
 refine goes_ Try.func28 (by as_aux_lemma => kernel_rfl) rfl #[.agg #[.int .u8 k,.int .i64 e,.int .i64 a,.int .i64 b,.int .i64 c,.int .i64 d,.slice A3 n3 p3,.slice B3 m3 q3,.int .i64 id,.int .i64 task,.int .i64 tick,.int .i64 wait,.int .i64 pid,.int .i64 nonce,.int .i64 code]] (by rfl) rfl rfl (by (try simp only [List.map_toArray,List.map_cons,List.map_nil]); first | done | rfl) ?_
 with_reducible refine (rchk15_s k e a b c d id task tick wait pid nonce code ps ts s19 E1 HX.out.2.1).mono ?_
 rintro ee w9 ⟨rfl,s20⟩
 refine ⟨_, rfl, ?_⟩
 refine hK.out _ _ ⟨(s20.pick 4).cells 0,(s20.pick 4).cells 1,(s20.pick 4).cells 2,(s20.pick 4).cells 3,(s20.pick 4).cells 4,(s20.pick 4).cells 5,(s20.pick 4).cells 6,(s20.pick 4).cells 7,(s20.pick 4).cells 8,(s20.pick 4).cells 9,(s20.pick 4).cells 10,(s20.pick 4).cells 11,(s20.pick 4).cells 12,(s20.pick 4).cells 13,(s20.pick 4).cells 14,(s20.pick 6).cells 0,(s20.pick 6).cells 1,(s20.pick 6).cells 2,(s20.pick 6).cells 3,(s20.pick 6).cells 4,(s20.pick 6).cells 5,(s20.pick 6).cells 6,(s20.pick 6).cells 7,(s20.pick 6).cells 8,(s20.pick 6).cells 9,(s20.pick 6).cells 10,(s20.pick 6).cells 11,(s20.pick 6).cells 12,(s20.pick 6).cells 13,(s20.pick 6).cells 14,(s20.pick 5).cells 0,(s20.pick 5).cells 1,(s20.pick 5).cells 2,(s20.pick 5).cells 3,(s20.pick 5).cells 4,(s20.pick 5).cells 5,(s20.pick 5).cells 6,(s20.pick 5).cells 7,(s20.pick 5).cells 8,(s20.pick 5).cells 9,(s20.pick 5).cells 10,(s20.pick 5).cells 11,(s20.pick 5).cells 12,(s20.pick 5).cells 13,(s20.pick 5).cells 14⟩ (fun hHeld => ?_)
 clear hK K s19
 refine norm_ (a' := ?_) ?_ ?_
 rotate_left
 ·show Act.put _ (some 36) _ = _
  simp only [Act.put,List.setIfInBounds_toArray,List.set_cons_zero,List.set_cons_succ,i64_w,i32_w]
  rfl
 skip
 as_aux_lemma =>
 have s21 := s20.pick 3
 simp only [List.getElem_cons_succ, List.getElem_cons_zero, List.eraseIdx_cons_succ, List.eraseIdx_cons_zero] at s21
 clear s20
 have s22 := s21.pick 3
 simp only [List.getElem_cons_succ, List.getElem_cons_zero, List.eraseIdx_cons_succ, List.eraseIdx_cons_zero] at s22
 clear s21
 refine one_ (i := 12) (N := some 38) #[true,true,true,true,true,true,true,true,true,true,true,true,true,false,false,false,false,false,false,false,false,false,false,false,false,false,false,false,false,false,false,false,false,false,false,false,false,false,false] rfl rfl (by as_aux_lemma => kernel_rfl) (by decide) (fun K hK => ?_)
 refine goes_ Try.func30 (by as_aux_lemma => kernel_rfl) rfl #[.agg #[.int .u8 k,.int .i64 e,.int .i64 a,.int .i64 b,.int .i64 c,.int .i64 d,.slice A1 n1 p1,.slice B1 m1 q1,.int .i64 id,.int .i64 task,.int .i64 tick,.int .i64 wait,.int .i64 pid,.int .i64 nonce,.int .i64 code]] (by rfl) rfl rfl (by (try simp only [List.map_toArray,List.map_cons,List.map_nil]); first | done | rfl) ?_
 with_reducible refine (rchk17_s k e a b c d id task tick wait pid nonce code ps ts (by omega) (by omega) s22 E1 HX.out.2.1).mono ?_
 rintro ee w10 ⟨rfl,s23⟩
 refine ⟨_, rfl, ?_⟩
 refine hK.out _ _ ⟨(s23.pick 4).cells 0,(s23.pick 4).cells 1,(s23.pick 4).cells 2,(s23.pick 4).cells 3,(s23.pick 4).cells 4,(s23.pick 4).cells 5,(s23.pick 4).cells 6,(s23.pick 4).cells 7,(s23.pick 4).cells 8,(s23.pick 4).cells 9,(s23.pick 4).cells 10,(s23.pick 4).cells 11,(s23.pick 4).cells 12,(s23.pick 4).cells 13,(s23.pick 4).cells 14,(s23.pick 6).cells 0,(s23.pick 6).cells 1,(s23.pick 6).cells 2,(s23.pick 6).cells 3,(s23.pick 6).cells 4,(s23.pick 6).cells 5,(s23.pick 6).cells 6,(s23.pick 6).cells 7,(s23.pick 6).cells 8,(s23.pick 6).cells 9,(s23.pick 6).cells 10,(s23.pick 6).cells 11,(s23.pick 6).cells 12,(s23.pick 6).cells 13,(s23.pick 6).cells 14,(s23.pick 5).cells 0,(s23.pick 5).cells 1,(s23.pick 5).cells 2,(s23.pick 5).cells 3,(s23.pick 5).cells 4,(s23.pick 5).cells 5,(s23.pick 5).cells 6,(s23.pick 5).cells 7,(s23.pick 5).cells 8,(s23.pick 5).cells 9,(s23.pick 5).cells 10,(s23.pick 5).cells 11,(s23.pick 5).cells 12,(s23.pick 5).cells 13,(s23.pick 5).cells 14⟩ (fun hHeld => ?_)
 clear hK K s22
 refine norm_ (a' := ?_) ?_ ?_
 rotate_left
 ·show Act.put _ (some 38) _ = _
  simp only [Act.put,List.setIfInBounds_toArray,List.set_cons_zero,List.set_cons_succ,i64_w,i32_w]
  rfl
 skip
 as_aux_lemma =>
 refine pure_ (i := 13) (N := some 39) (v := (.bool true)) (a' := ?_) #[true,true,true,true,true,true,true,true,true,true,true,true,true,true,false,false,false,false,false,false,false,false,false,false,false,false,false,false,false,false,false,false,false,false,false,false,false,false,false] rfl rfl (by as_aux_lemma => kernel_rfl) (fun _ _ _ h => h) (Or.inl ⟨by rfl,?_⟩) ?_ ?_
 ·intro w'
  go_simp
 rotate_left
 ·simp only [Act.put,List.setIfInBounds_toArray,List.set_cons_zero,List.set_cons_succ,i64_w,i32_w]
  rfl
 refine pure_ (i := 14) (N := some 40) (v := (.bool true)) (a' := ?_) #[true,true,true,true,true,true,true,true,true,true,true,true,true,true,true,false,false,false,false,false,false,false,false,false,false,false,false,false,false,false,false,false,false,false,false,false,false,false,false] rfl rfl (by as_aux_lemma => kernel_rfl) (fun _ _ _ h => h) (Or.inl ⟨by rfl,?_⟩) ?_ ?_
 ·intro w'
  go_simp
 rotate_left
 ·simp only [Act.put,List.setIfInBounds_toArray,List.set_cons_zero,List.set_cons_succ,i64_w,i32_w]
  rfl
 refine pure_ (i := 15) (N := some 41) (v := ?_) (a' := ?_) #[true,true,true,true,true,true,true,true,true,true,true,true,true,true,true,true,false,false,false,false,false,false,false,false,false,false,false,false,false,false,false,false,false,false,false,false,false,false,false] rfl rfl (by as_aux_lemma => kernel_rfl) (fun _ _ _ h => h) (Or.inl ⟨by rfl,?_⟩) ?_ ?_
 rotate_left
 ·intro w'
  go_simp
  with_reducible rfl
 rotate_left
 ·simp only [Act.put,List.setIfInBounds_toArray,List.set_cons_zero,List.set_cons_succ,i64_w,i32_w]
  rfl
 refine take_ (i := 16) (N := some 42) (v := ?_) (a' := ?_) #[true,true,true,true,true,true,true,true,true,true,true,true,true,true,true,true,true,false,false,false,false,false,false,false,false,false,false,false,false,false,false,false,false,false,false,false,false,false,false] rfl rfl (by as_aux_lemma => kernel_rfl) (fun _ _ _ h => h) (Or.inl ⟨by rfl,?_⟩) hHeld ?_ ?_
 rotate_left
 ·rintro w' ⟨s0,s1,s2,s3,s4,s5,s6,s7,s8,s9,s10,s11,s12,s13,s14,s15,s16,s17,s18,s19,s20,s21,s22,s23,s24,s25,s26,s27,s28,s29,s30,s31,s32,s33,s34,s35,s36,s37,s38,s39,s40,s41,s42,s43,s44⟩
  go_simp
  with_reducible rfl
 rotate_left
 ·simp only [Act.put,List.setIfInBounds_toArray,List.set_cons_zero,List.set_cons_succ,i64_w,i32_w]
  rfl
 refine take_ (i := 17) (N := some 43) (v := ?_) (a' := ?_) #[true,true,true,true,true,true,true,true,true,true,true,true,true,true,true,true,true,true,false,false,false,false,false,false,false,false,false,false,false,false,false,false,false,false,false,false,false,false,false] rfl rfl (by as_aux_lemma => kernel_rfl) (fun _ _ _ h => h) (Or.inl ⟨by rfl,?_⟩) hHeld ?_ ?_
 rotate_left
 ·rintro w' ⟨s0,s1,s2,s3,s4,s5,s6,s7,s8,s9,s10,s11,s12,s13,s14,s15,s16,s17,s18,s19,s20,s21,s22,s23,s24,s25,s26,s27,s28,s29,s30,s31,s32,s33,s34,s35,s36,s37,s38,s39,s40,s41,s42,s43,s44⟩
  go_simp
  with_reducible rfl
 rotate_left
 ·simp only [Act.put,List.setIfInBounds_toArray,List.set_cons_zero,List.set_cons_succ,i64_w,i32_w]
  rfl
 refine take_ (i := 19) (N := some 45) (v := ?_) (a' := ?_) #[true,true,true,true,true,true,true,true,true,true,true,true,true,true,true,true,true,true,false,true,false,false,false,false,false,false,false,false,false,false,false,false,false,false,false,false,false,false,false] rfl rfl (by as_aux_lemma => kernel_rfl) (fun _ _ _ h => h) (Or.inl ⟨by rfl,?_⟩) hHeld ?_ ?_
 rotate_left
 ·rintro w' ⟨s0,s1,s2,s3,s4,s5,s6,s7,s8,s9,s10,s11,s12,s13,s14,s15,s16,s17,s18,s19,s20,s21,s22,s23,s24,s25,s26,s27,s28,s29,s30,s31,s32,s33,s34,s35,s36,s37,s38,s39,s40,s41,s42,s43,s44⟩
  go_simp
  with_reducible rfl
 rotate_left
 ·simp only [Act.put,List.setIfInBounds_toArray,List.set_cons_zero,List.set_cons_succ,i64_w,i32_w]
  rfl
 refine take_ (i := 20) (N := some 46) (v := ?_) (a' := ?_) #[true,true,true,true,true,true,true,true,true,true,true,true,true,true,true,true,true,true,false,true,true,false,false,false,false,false,false,false,false,false,false,false,false,false,false,false,false,false,false] rfl rfl (by as_aux_lemma => kernel_rfl) (fun _ _ _ h => h) (Or.inl ⟨by rfl,?_⟩) hHeld ?_ ?_
 rotate_left
 ·rintro w' ⟨s0,s1,s2,s3,s4,s5,s6,s7,s8,s9,s10,s11,s12,s13,s14,s15,s16,s17,s18,s19,s20,s21,s22,s23,s24,s25,s26,s27,s28,s29,s30,s31,s32,s33,s34,s35,s36,s37,s38,s39,s40,s41,s42,s43,s44⟩
  go_simp
  with_reducible rfl
 rotate_left
 ·simp only [Act.put,List.setIfInBounds_toArray,List.set_cons_zero,List.set_cons_succ,i64_w,i32_w]
  rfl
 have s24 := s23.pick 8
 simp only [List.getElem_cons_succ, List.getElem_cons_zero, List.eraseIdx_cons_succ, List.eraseIdx_cons_zero] at s24
 clear s23
 have s25 := s24.pick 8
 simp only [List.getElem_cons_succ, List.getElem_cons_zero, List.eraseIdx_cons_succ, List.eraseIdx_cons_zero] at s25
 clear s24
 have s26 := s25.pick 5
 simp only [List.getElem_cons_succ, List.getElem_cons_zero, List.eraseIdx_cons_succ, List.eraseIdx_cons_zero] at s26
 clear s25
 have s27 := s26.pick 5
 simp only [List.getElem_cons_succ, List.getElem_cons_zero, List.eraseIdx_cons_succ, List.eraseIdx_cons_zero] at s27
 clear s26
 refine one_ (i := 18) (N := some 44) #[true,true,true,true,true,true,true,true,true,true,true,true,true,true,true,true,true,true,true,true,true,false,false,false,false,false,false,false,false,false,false,false,false,false,false,false,false,false,false] rfl rfl (by as_aux_lemma => kernel_rfl) (by decide) (fun K hK => ?_)
 refine goes_ Try.func31 (by as_aux_lemma => kernel_rfl) rfl #[.agg #[.int .u8 k,.int .i64 e,.int .i64 a,.int .i64 b,.int .i64 c,.int .i64 d,.slice A3 n3 p3,.slice B3 m3 q3,.int .i64 id,.int .i64 task,.int .i64 tick,.int .i64 wait,.int .i64 pid,.int .i64 nonce,.int .i64 code],.agg #[.int .u8 k',.int .i64 e',.int .i64 a',.int .i64 b',.int .i64 c',.int .i64 d',.slice A2 n2 p2,.slice B2 m2 q2,.int .i64 id',.int .i64 task',.int .i64 tick',.int .i64 wait',.int .i64 pid',.int .i64 nonce',.int .i64 code']] (by rfl) rfl rfl (by (try simp only [List.map_toArray,List.map_cons,List.map_nil]); first | done | rfl) ?_
 with_reducible refine (requal_s k e a b c d id task tick wait pid nonce code k' e' a' b' c' d' id' task' tick' wait' pid' nonce' code' ps ps' ts ts' (by omega) (by omega) bb HBB.out s27).mono ?_
 rintro ee w11 ⟨rfl,s28⟩
 refine ⟨_, rfl, ?_⟩
 refine hK.out _ _ ⟨(s28.pick 6).cells 0,(s28.pick 6).cells 1,(s28.pick 6).cells 2,(s28.pick 6).cells 3,(s28.pick 6).cells 4,(s28.pick 6).cells 5,(s28.pick 6).cells 6,(s28.pick 6).cells 7,(s28.pick 6).cells 8,(s28.pick 6).cells 9,(s28.pick 6).cells 10,(s28.pick 6).cells 11,(s28.pick 6).cells 12,(s28.pick 6).cells 13,(s28.pick 6).cells 14,(s28.pick 8).cells 0,(s28.pick 8).cells 1,(s28.pick 8).cells 2,(s28.pick 8).cells 3,(s28.pick 8).cells 4,(s28.pick 8).cells 5,(s28.pick 8).cells 6,(s28.pick 8).cells 7,(s28.pick 8).cells 8,(s28.pick 8).cells 9,(s28.pick 8).cells 10,(s28.pick 8).cells 11,(s28.pick 8).cells 12,(s28.pick 8).cells 13,(s28.pick 8).cells 14,(s28.pick 7).cells 0,(s28.pick 7).cells 1,(s28.pick 7).cells 2,(s28.pick 7).cells 3,(s28.pick 7).cells 4,(s28.pick 7).cells 5,(s28.pick 7).cells 6,(s28.pick 7).cells 7,(s28.pick 7).cells 8,(s28.pick 7).cells 9,(s28.pick 7).cells 10,(s28.pick 7).cells 11,(s28.pick 7).cells 12,(s28.pick 7).cells 13,(s28.pick 7).cells 14⟩ (fun hHeld => ?_)
 clear hK K s27
 refine norm_ (a' := ?_) ?_ ?_
 rotate_left
 ·show Act.put _ (some 44) _ = _
  simp only [Act.put,List.setIfInBounds_toArray,List.set_cons_zero,List.set_cons_succ,i64_w,i32_w]
  rfl
 skip
 as_aux_lemma =>
 have s29 := s28.pick 3
 simp only [List.getElem_cons_succ, List.getElem_cons_zero, List.eraseIdx_cons_succ, List.eraseIdx_cons_zero] at s29
 clear s28
 have s30 := s29.pick 3
 simp only [List.getElem_cons_succ, List.getElem_cons_zero, List.eraseIdx_cons_succ, List.eraseIdx_cons_zero] at s30
 clear s29
 have s31 := s30.pick 5
 simp only [List.getElem_cons_succ, List.getElem_cons_zero, List.eraseIdx_cons_succ, List.eraseIdx_cons_zero] at s31
 clear s30
 have s32 := s31.pick 5
 simp only [List.getElem_cons_succ, List.getElem_cons_zero, List.eraseIdx_cons_succ, List.eraseIdx_cons_zero] at s32
 clear s31
 refine one_ (i := 21) (N := some 47) #[true,true,true,true,true,true,true,true,true,true,true,true,true,true,true,true,true,true,true,true,true,true,false,false,false,false,false,false,false,false,false,false,false,false,false,false,false,false,false] rfl rfl (by as_aux_lemma => kernel_rfl) (by decide) (fun K hK => ?_)
 refine goes_ Try.func25 (by as_aux_lemma => kernel_rfl) rfl #[.agg #[.int .u8 k,.int .i64 e,.int .i64 a,.int .i64 b,.int .i64 c,.int .i64 d,.slice A1 n1 p1,.slice B1 m1 q1,.int .i64 id,.int .i64 task,.int .i64 tick,.int .i64 wait,.int .i64 pid,.int .i64 nonce,.int .i64 code],.agg #[.int .u8 k',.int .i64 e',.int .i64 a',.int .i64 b',.int .i64 c',.int .i64 d',.slice A2 n2 p2,.slice B2 m2 q2,.int .i64 id',.int .i64 task',.int .i64 tick',.int .i64 wait',.int .i64 pid',.int .i64 nonce',.int .i64 code']] (by rfl) rfl rfl (by (try simp only [List.map_toArray,List.map_cons,List.map_nil]); first | done | rfl) ?_
 with_reducible refine (equ15_s k e a b c d id task tick wait pid nonce code k' e' a' b' c' d' id' task' tick' wait' pid' nonce' code' ps ps' ts ts' (by omega) (by omega) bb HBB.out s32).mono ?_
 rintro ee w12 ⟨rfl,s33⟩
 refine ⟨_, rfl, ?_⟩
 refine hK.out _ _ ⟨(s33.pick 6).cells 0,(s33.pick 6).cells 1,(s33.pick 6).cells 2,(s33.pick 6).cells 3,(s33.pick 6).cells 4,(s33.pick 6).cells 5,(s33.pick 6).cells 6,(s33.pick 6).cells 7,(s33.pick 6).cells 8,(s33.pick 6).cells 9,(s33.pick 6).cells 10,(s33.pick 6).cells 11,(s33.pick 6).cells 12,(s33.pick 6).cells 13,(s33.pick 6).cells 14,(s33.pick 8).cells 0,(s33.pick 8).cells 1,(s33.pick 8).cells 2,(s33.pick 8).cells 3,(s33.pick 8).cells 4,(s33.pick 8).cells 5,(s33.pick 8).cells 6,(s33.pick 8).cells 7,(s33.pick 8).cells 8,(s33.pick 8).cells 9,(s33.pick 8).cells 10,(s33.pick 8).cells 11,(s33.pick 8).cells 12,(s33.pick 8).cells 13,(s33.pick 8).cells 14,(s33.pick 7).cells 0,(s33.pick 7).cells 1,(s33.pick 7).cells 2,(s33.pick 7).cells 3,(s33.pick 7).cells 4,(s33.pick 7).cells 5,(s33.pick 7).cells 6,(s33.pick 7).cells 7,(s33.pick 7).cells 8,(s33.pick 7).cells 9,(s33.pick 7).cells 10,(s33.pick 7).cells 11,(s33.pick 7).cells 12,(s33.pick 7).cells 13,(s33.pick 7).cells 14⟩ (fun hHeld => ?_)
 clear hK K s32
 refine norm_ (a' := ?_) ?_ ?_
 rotate_left
 ·show Act.put _ (some 47) _ = _
  simp only [Act.put,List.setIfInBounds_toArray,List.set_cons_zero,List.set_cons_succ,i64_w,i32_w]
  rfl
 skip
 as_aux_lemma =>
 refine pure_ (i := 22) (N := some 48) (v := (.bool true)) (a' := ?_) #[true,true,true,true,true,true,true,true,true,true,true,true,true,true,true,true,true,true,true,true,true,true,true,false,false,false,false,false,false,false,false,false,false,false,false,false,false,false,false] rfl rfl (by as_aux_lemma => kernel_rfl) (fun _ _ _ h => h) (Or.inl ⟨by rfl,?_⟩) ?_ ?_
 ·intro w'
  go_simp
 rotate_left
 ·simp only [Act.put,List.setIfInBounds_toArray,List.set_cons_zero,List.set_cons_succ,i64_w,i32_w]
  rfl
 refine pure_ (i := 23) (N := some 49) (v := (.bool true)) (a' := ?_) #[true,true,true,true,true,true,true,true,true,true,true,true,true,true,true,true,true,true,true,true,true,true,true,true,false,false,false,false,false,false,false,false,false,false,false,false,false,false,false] rfl rfl (by as_aux_lemma => kernel_rfl) (fun _ _ _ h => h) (Or.inl ⟨by rfl,?_⟩) ?_ ?_
 ·intro w'
  go_simp
 rotate_left
 ·simp only [Act.put,List.setIfInBounds_toArray,List.set_cons_zero,List.set_cons_succ,i64_w,i32_w]
  rfl
 refine pure_ (i := 24) (N := some 50) (v := ?_) (a' := ?_) #[true,true,true,true,true,true,true,true,true,true,true,true,true,true,true,true,true,true,true,true,true,true,true,true,true,false,false,false,false,false,false,false,false,false,false,false,false,false,false] rfl rfl (by as_aux_lemma => kernel_rfl) (fun _ _ _ h => h) (Or.inl ⟨by rfl,?_⟩) ?_ ?_
 rotate_left
 ·intro w'
  go_simp
  with_reducible rfl
 rotate_left
 ·simp only [Act.put,List.setIfInBounds_toArray,List.set_cons_zero,List.set_cons_succ,i64_w,i32_w]
  rfl
 refine take_ (i := 25) (N := some 51) (v := ?_) (a' := ?_) #[true,true,true,true,true,true,true,true,true,true,true,true,true,true,true,true,true,true,true,true,true,true,true,true,true,true,false,false,false,false,false,false,false,false,false,false,false,false,false] rfl rfl (by as_aux_lemma => kernel_rfl) (fun _ _ _ h => h) (Or.inl ⟨by rfl,?_⟩) hHeld ?_ ?_
 rotate_left
 ·rintro w' ⟨s0,s1,s2,s3,s4,s5,s6,s7,s8,s9,s10,s11,s12,s13,s14,s15,s16,s17,s18,s19,s20,s21,s22,s23,s24,s25,s26,s27,s28,s29,s30,s31,s32,s33,s34,s35,s36,s37,s38,s39,s40,s41,s42,s43,s44⟩
  go_simp
  with_reducible rfl
 rotate_left
 ·simp only [Act.put,List.setIfInBounds_toArray,List.set_cons_zero,List.set_cons_succ,i64_w,i32_w]
  rfl
 refine take_ (i := 26) (N := some 52) (v := ?_) (a' := ?_) #[true,true,true,true,true,true,true,true,true,true,true,true,true,true,true,true,true,true,true,true,true,true,true,true,true,true,true,false,false,false,false,false,false,false,false,false,false,false,false] rfl rfl (by as_aux_lemma => kernel_rfl) (fun _ _ _ h => h) (Or.inl ⟨by rfl,?_⟩) hHeld ?_ ?_
 rotate_left
 ·rintro w' ⟨s0,s1,s2,s3,s4,s5,s6,s7,s8,s9,s10,s11,s12,s13,s14,s15,s16,s17,s18,s19,s20,s21,s22,s23,s24,s25,s26,s27,s28,s29,s30,s31,s32,s33,s34,s35,s36,s37,s38,s39,s40,s41,s42,s43,s44⟩
  go_simp
  with_reducible rfl
 rotate_left
 ·simp only [Act.put,List.setIfInBounds_toArray,List.set_cons_zero,List.set_cons_succ,i64_w,i32_w]
  rfl
 have s34 := s33.pick 1
 simp only [List.getElem_cons_succ, List.getElem_cons_zero, List.eraseIdx_cons_succ, List.eraseIdx_cons_zero] at s34
 clear s33
 have s35 := s34.pick 1
 simp only [List.getElem_cons_succ, List.getElem_cons_zero, List.eraseIdx_cons_succ, List.eraseIdx_cons_zero] at s35
 clear s34
 refine one_ (i := 27) (N := some 53) #[true,true,true,true,true,true,true,true,true,true,true,true,true,true,true,true,true,true,true,true,true,true,true,true,true,true,true,true,false,false,false,false,false,false,false,false,false,false,false] rfl rfl (by as_aux_lemma => kernel_rfl) (by decide) (fun K hK => ?_)
 refine goes_ Try.func27 (by as_aux_lemma => kernel_rfl) rfl #[.agg #[.int .u8 k,.int .i64 e,.int .i64 a,.int .i64 b,.int .i64 c,.int .i64 d,.slice A1 n1 p1,.slice B1 m1 q1,.int .i64 id,.int .i64 task,.int .i64 tick,.int .i64 wait,.int .i64 pid,.int .i64 nonce,.int .i64 code]] (by rfl) rfl rfl (by (try simp only [List.map_toArray,List.map_cons,List.map_nil]); first | done | rfl) ?_
 with_reducible refine (few15 k e a b c d id task tick wait pid nonce code A1 B1 n1 m1 p1 q1 ps ts s35 (few_s (w0 := w) a b c d ps ts HLL.out.1 HLL.out.2)).mono ?_
 rintro ee w13 ⟨A4,B4,p4,q4,n4,m4,rfl,s36⟩
 refine ⟨_, rfl, ?_⟩
 refine hK.out _ _ ⟨(s36.pick 8).cells 0,(s36.pick 8).cells 1,(s36.pick 8).cells 2,(s36.pick 8).cells 3,(s36.pick 8).cells 4,(s36.pick 8).cells 5,(s36.pick 8).cells 6,(s36.pick 8).cells 7,(s36.pick 8).cells 8,(s36.pick 8).cells 9,(s36.pick 8).cells 10,(s36.pick 8).cells 11,(s36.pick 8).cells 12,(s36.pick 8).cells 13,(s36.pick 8).cells 14,(s36.pick 10).cells 0,(s36.pick 10).cells 1,(s36.pick 10).cells 2,(s36.pick 10).cells 3,(s36.pick 10).cells 4,(s36.pick 10).cells 5,(s36.pick 10).cells 6,(s36.pick 10).cells 7,(s36.pick 10).cells 8,(s36.pick 10).cells 9,(s36.pick 10).cells 10,(s36.pick 10).cells 11,(s36.pick 10).cells 12,(s36.pick 10).cells 13,(s36.pick 10).cells 14,(s36.pick 9).cells 0,(s36.pick 9).cells 1,(s36.pick 9).cells 2,(s36.pick 9).cells 3,(s36.pick 9).cells 4,(s36.pick 9).cells 5,(s36.pick 9).cells 6,(s36.pick 9).cells 7,(s36.pick 9).cells 8,(s36.pick 9).cells 9,(s36.pick 9).cells 10,(s36.pick 9).cells 11,(s36.pick 9).cells 12,(s36.pick 9).cells 13,(s36.pick 9).cells 14⟩ (fun hHeld => ?_)
 clear hK K s35
 refine norm_ (a' := ?_) ?_ ?_
 rotate_left
 ·show Act.put _ (some 53) _ = _
  simp only [Act.put,List.setIfInBounds_toArray,List.set_cons_zero,List.set_cons_succ,i64_w,i32_w]
  rfl
 skip
 as_aux_lemma =>
 have s37 := s36.pick 1
 simp only [List.getElem_cons_succ, List.getElem_cons_zero, List.eraseIdx_cons_succ, List.eraseIdx_cons_zero] at s37
 clear s36
 have s38 := s37.pick 1
 simp only [List.getElem_cons_succ, List.getElem_cons_zero, List.eraseIdx_cons_succ, List.eraseIdx_cons_zero] at s38
 clear s37
 have s39 := s38.pick 7
 simp only [List.getElem_cons_succ, List.getElem_cons_zero, List.eraseIdx_cons_succ, List.eraseIdx_cons_zero] at s39
 clear s38
 have s40 := s39.pick 7
 simp only [List.getElem_cons_succ, List.getElem_cons_zero, List.eraseIdx_cons_succ, List.eraseIdx_cons_zero] at s40
 clear s39
 refine one_ (i := 28) (N := some 54) #[true,true,true,true,true,true,true,true,true,true,true,true,true,true,true,true,true,true,true,true,true,true,true,true,true,true,true,true,true,false,false,false,false,false,false,false,false,false,false] rfl rfl (by as_aux_lemma => kernel_rfl) (by decide) (fun K hK => ?_)
 refine goes_ Try.func31 (by as_aux_lemma => kernel_rfl) rfl #[.agg #[.int .u8 k,.int .i64 e,.int .i64 a,.int .i64 b,.int .i64 c,.int .i64 d,.slice A3 n3 p3,.slice B3 m3 q3,.int .i64 id,.int .i64 task,.int .i64 tick,.int .i64 wait,.int .i64 pid,.int .i64 nonce,.int .i64 code],.agg #[.int .u8 k,.int .i64 e,.int .i64 a,.int .i64 b,.int .i64 c,.int .i64 d,.slice A4 n4 p4,.slice B4 m4 q4,.int .i64 id,.int .i64 task,.int .i64 tick,.int .i64 wait,.int .i64 pid,.int .i64 nonce,.int .i64 code]] (by rfl) rfl rfl (by (try simp only [List.map_toArray,List.map_cons,List.map_nil]); first | done | rfl) ?_
 with_reducible refine (requal_s k e a b c d id task tick wait pid nonce code k e a b c d id task tick wait pid nonce code ps ps ts ts (by omega) (by omega) true (by simp) s40).mono ?_
 rintro ee w14 ⟨rfl,s41⟩
 refine ⟨_, rfl, ?_⟩
 refine hK.out _ _ ⟨(s41.pick 8).cells 0,(s41.pick 8).cells 1,(s41.pick 8).cells 2,(s41.pick 8).cells 3,(s41.pick 8).cells 4,(s41.pick 8).cells 5,(s41.pick 8).cells 6,(s41.pick 8).cells 7,(s41.pick 8).cells 8,(s41.pick 8).cells 9,(s41.pick 8).cells 10,(s41.pick 8).cells 11,(s41.pick 8).cells 12,(s41.pick 8).cells 13,(s41.pick 8).cells 14,(s41.pick 10).cells 0,(s41.pick 10).cells 1,(s41.pick 10).cells 2,(s41.pick 10).cells 3,(s41.pick 10).cells 4,(s41.pick 10).cells 5,(s41.pick 10).cells 6,(s41.pick 10).cells 7,(s41.pick 10).cells 8,(s41.pick 10).cells 9,(s41.pick 10).cells 10,(s41.pick 10).cells 11,(s41.pick 10).cells 12,(s41.pick 10).cells 13,(s41.pick 10).cells 14,(s41.pick 9).cells 0,(s41.pick 9).cells 1,(s41.pick 9).cells 2,(s41.pick 9).cells 3,(s41.pick 9).cells 4,(s41.pick 9).cells 5,(s41.pick 9).cells 6,(s41.pick 9).cells 7,(s41.pick 9).cells 8,(s41.pick 9).cells 9,(s41.pick 9).cells 10,(s41.pick 9).cells 11,(s41.pick 9).cells 12,(s41.pick 9).cells 13,(s41.pick 9).cells 14⟩ (fun hHeld => ?_)
 clear hK K s40
 refine norm_ (a' := ?_) ?_ ?_
 rotate_left
 ·show Act.put _ (some 54) _ = _
  simp only [Act.put,List.setIfInBounds_toArray,List.set_cons_zero,List.set_cons_succ,i64_w,i32_w]
  rfl
 skip
 as_aux_lemma =>
 refine pure_ (i := 29) (N := some 55) (v := (.bool true)) (a' := ?_) #[true,true,true,true,true,true,true,true,true,true,true,true,true,true,true,true,true,true,true,true,true,true,true,true,true,true,true,true,true,true,false,false,false,false,false,false,false,false,false] rfl rfl (by as_aux_lemma => kernel_rfl) (fun _ _ _ h => h) (Or.inl ⟨by rfl,?_⟩) ?_ ?_
 ·intro w'
  go_simp
 rotate_left
 ·simp only [Act.put,List.setIfInBounds_toArray,List.set_cons_zero,List.set_cons_succ,i64_w,i32_w]
  rfl
 refine pure_ (i := 30) (N := some 56) (v := ?_) (a' := ?_) #[true,true,true,true,true,true,true,true,true,true,true,true,true,true,true,true,true,true,true,true,true,true,true,true,true,true,true,true,true,true,true,false,false,false,false,false,false,false,false] rfl rfl (by as_aux_lemma => kernel_rfl) (fun _ _ _ h => h) (Or.inl ⟨by rfl,?_⟩) ?_ ?_
 rotate_left
 ·intro w'
  go_simp
  with_reducible rfl
 rotate_left
 ·simp only [Act.put,List.setIfInBounds_toArray,List.set_cons_zero,List.set_cons_succ,i64_w,i32_w]
  rfl
 refine take_ (i := 31) (N := some 57) (v := ?_) (a' := ?_) #[true,true,true,true,true,true,true,true,true,true,true,true,true,true,true,true,true,true,true,true,true,true,true,true,true,true,true,true,true,true,true,true,false,false,false,false,false,false,false] rfl rfl (by as_aux_lemma => kernel_rfl) (fun _ _ _ h => h) (Or.inl ⟨by rfl,?_⟩) hHeld ?_ ?_
 rotate_left
 ·rintro w' ⟨s0,s1,s2,s3,s4,s5,s6,s7,s8,s9,s10,s11,s12,s13,s14,s15,s16,s17,s18,s19,s20,s21,s22,s23,s24,s25,s26,s27,s28,s29,s30,s31,s32,s33,s34,s35,s36,s37,s38,s39,s40,s41,s42,s43,s44⟩
  go_simp
  with_reducible rfl
 rotate_left
 ·simp only [Act.put,List.setIfInBounds_toArray,List.set_cons_zero,List.set_cons_succ,i64_w,i32_w]
  rfl
 refine take_ (i := 32) (N := some 58) (v := ?_) (a' := ?_) #[true,true,true,true,true,true,true,true,true,true,true,true,true,true,true,true,true,true,true,true,true,true,true,true,true,true,true,true,true,true,true,true,true,false,false,false,false,false,false] rfl rfl (by as_aux_lemma => kernel_rfl) (fun _ _ _ h => h) (Or.inl ⟨by rfl,?_⟩) hHeld ?_ ?_
 rotate_left
 ·rintro w' ⟨s0,s1,s2,s3,s4,s5,s6,s7,s8,s9,s10,s11,s12,s13,s14,s15,s16,s17,s18,s19,s20,s21,s22,s23,s24,s25,s26,s27,s28,s29,s30,s31,s32,s33,s34,s35,s36,s37,s38,s39,s40,s41,s42,s43,s44⟩
  go_simp
  with_reducible rfl
 rotate_left
 ·simp only [Act.put,List.setIfInBounds_toArray,List.set_cons_zero,List.set_cons_succ,i64_w,i32_w]
  rfl
 have s42 := s41.pick 5
 simp only [List.getElem_cons_succ, List.getElem_cons_zero, List.eraseIdx_cons_succ, List.eraseIdx_cons_zero] at s42
 clear s41
 have s43 := s42.pick 5
 simp only [List.getElem_cons_succ, List.getElem_cons_zero, List.eraseIdx_cons_succ, List.eraseIdx_cons_zero] at s43
 clear s42
 have s44 := s43.pick 3
 simp only [List.getElem_cons_succ, List.getElem_cons_zero, List.eraseIdx_cons_succ, List.eraseIdx_cons_zero] at s44
 clear s43
 have s45 := s44.pick 3
 simp only [List.getElem_cons_succ, List.getElem_cons_zero, List.eraseIdx_cons_succ, List.eraseIdx_cons_zero] at s45
 clear s44
 refine one_ (i := 33) (N := some 59) #[true,true,true,true,true,true,true,true,true,true,true,true,true,true,true,true,true,true,true,true,true,true,true,true,true,true,true,true,true,true,true,true,true,true,false,false,false,false,false] rfl rfl (by as_aux_lemma => kernel_rfl) (by decide) (fun K hK => ?_)
 refine goes_ Try.func25 (by as_aux_lemma => kernel_rfl) rfl #[.agg #[.int .u8 k,.int .i64 e,.int .i64 a,.int .i64 b,.int .i64 c,.int .i64 d,.slice A3 n3 p3,.slice B3 m3 q3,.int .i64 id,.int .i64 task,.int .i64 tick,.int .i64 wait,.int .i64 pid,.int .i64 nonce,.int .i64 code],.agg #[.int .u8 k,.int .i64 e,.int .i64 a,.int .i64 b,.int .i64 c,.int .i64 d,.slice A1 n1 p1,.slice B1 m1 q1,.int .i64 id,.int .i64 task,.int .i64 tick,.int .i64 wait,.int .i64 pid,.int .i64 nonce,.int .i64 code]] (by rfl) rfl rfl (by (try simp only [List.map_toArray,List.map_cons,List.map_nil]); first | done | rfl) ?_
 with_reducible refine (equ15_s k e a b c d id task tick wait pid nonce code k e a b c d id task tick wait pid nonce code ps ps ts ts (by omega) (by omega) true (by simp) s45).mono ?_
 rintro ee w15 ⟨rfl,s46⟩
 refine ⟨_, rfl, ?_⟩
 refine hK.out _ _ ⟨(s46.pick 8).cells 0,(s46.pick 8).cells 1,(s46.pick 8).cells 2,(s46.pick 8).cells 3,(s46.pick 8).cells 4,(s46.pick 8).cells 5,(s46.pick 8).cells 6,(s46.pick 8).cells 7,(s46.pick 8).cells 8,(s46.pick 8).cells 9,(s46.pick 8).cells 10,(s46.pick 8).cells 11,(s46.pick 8).cells 12,(s46.pick 8).cells 13,(s46.pick 8).cells 14,(s46.pick 10).cells 0,(s46.pick 10).cells 1,(s46.pick 10).cells 2,(s46.pick 10).cells 3,(s46.pick 10).cells 4,(s46.pick 10).cells 5,(s46.pick 10).cells 6,(s46.pick 10).cells 7,(s46.pick 10).cells 8,(s46.pick 10).cells 9,(s46.pick 10).cells 10,(s46.pick 10).cells 11,(s46.pick 10).cells 12,(s46.pick 10).cells 13,(s46.pick 10).cells 14,(s46.pick 9).cells 0,(s46.pick 9).cells 1,(s46.pick 9).cells 2,(s46.pick 9).cells 3,(s46.pick 9).cells 4,(s46.pick 9).cells 5,(s46.pick 9).cells 6,(s46.pick 9).cells 7,(s46.pick 9).cells 8,(s46.pick 9).cells 9,(s46.pick 9).cells 10,(s46.pick 9).cells 11,(s46.pick 9).cells 12,(s46.pick 9).cells 13,(s46.pick 9).cells 14⟩ (fun hHeld => ?_)
 clear hK K s45
 refine norm_ (a' := ?_) ?_ ?_
 rotate_left
 ·show Act.put _ (some 59) _ = _
  simp only [Act.put,List.setIfInBounds_toArray,List.set_cons_zero,List.set_cons_succ,i64_w,i32_w]
  rfl
 skip
 as_aux_lemma =>
 refine pure_ (i := 34) (N := some 60) (v := (.bool true)) (a' := ?_) #[true,true,true,true,true,true,true,true,true,true,true,true,true,true,true,true,true,true,true,true,true,true,true,true,true,true,true,true,true,true,true,true,true,true,true,false,false,false,false] rfl rfl (by as_aux_lemma => kernel_rfl) (fun _ _ _ h => h) (Or.inl ⟨by rfl,?_⟩) ?_ ?_
 ·intro w'
  go_simp
 rotate_left
 ·simp only [Act.put,List.setIfInBounds_toArray,List.set_cons_zero,List.set_cons_succ,i64_w,i32_w]
  rfl
 refine pure_ (i := 35) (N := some 61) (v := ?_) (a' := ?_) #[true,true,true,true,true,true,true,true,true,true,true,true,true,true,true,true,true,true,true,true,true,true,true,true,true,true,true,true,true,true,true,true,true,true,true,true,false,false,false] rfl rfl (by as_aux_lemma => kernel_rfl) (fun _ _ _ h => h) (Or.inl ⟨by rfl,?_⟩) ?_ ?_
 rotate_left
 ·intro w'
  go_simp
  with_reducible rfl
 rotate_left
 ·simp only [Act.put,List.setIfInBounds_toArray,List.set_cons_zero,List.set_cons_succ,i64_w,i32_w]
  rfl
 refine one_ (i := 36) (N := some 62) #[true,true,true,true,true,true,true,true,true,true,true,true,true,true,true,true,true,true,true,true,true,true,true,true,true,true,true,true,true,true,true,true,true,true,true,true,true,false,false] rfl rfl (by as_aux_lemma => kernel_rfl) (by decide) (fun K hK => ?_)
 refine goes_ Try.func26 (by as_aux_lemma => kernel_rfl) rfl #[] (by rfl) rfl rfl (by (try simp only [List.map_toArray,List.map_cons,List.map_nil]); first | done | rfl) ?_
 with_reducible refine (awake17 s46).mono ?_
 rintro ee w16 ⟨rfl,s47⟩
 refine ⟨_, rfl, ?_⟩
 refine hK.out _ _ ⟨(s47.pick 8).cells 0,(s47.pick 8).cells 1,(s47.pick 8).cells 2,(s47.pick 8).cells 3,(s47.pick 8).cells 4,(s47.pick 8).cells 5,(s47.pick 8).cells 6,(s47.pick 8).cells 7,(s47.pick 8).cells 8,(s47.pick 8).cells 9,(s47.pick 8).cells 10,(s47.pick 8).cells 11,(s47.pick 8).cells 12,(s47.pick 8).cells 13,(s47.pick 8).cells 14,(s47.pick 10).cells 0,(s47.pick 10).cells 1,(s47.pick 10).cells 2,(s47.pick 10).cells 3,(s47.pick 10).cells 4,(s47.pick 10).cells 5,(s47.pick 10).cells 6,(s47.pick 10).cells 7,(s47.pick 10).cells 8,(s47.pick 10).cells 9,(s47.pick 10).cells 10,(s47.pick 10).cells 11,(s47.pick 10).cells 12,(s47.pick 10).cells 13,(s47.pick 10).cells 14,(s47.pick 9).cells 0,(s47.pick 9).cells 1,(s47.pick 9).cells 2,(s47.pick 9).cells 3,(s47.pick 9).cells 4,(s47.pick 9).cells 5,(s47.pick 9).cells 6,(s47.pick 9).cells 7,(s47.pick 9).cells 8,(s47.pick 9).cells 9,(s47.pick 9).cells 10,(s47.pick 9).cells 11,(s47.pick 9).cells 12,(s47.pick 9).cells 13,(s47.pick 9).cells 14⟩ (fun hHeld => ?_)
 clear hK K s46
 refine norm_ (a' := ?_) ?_ ?_
 rotate_left
 ·show Act.put _ (some 62) _ = _
  simp only [Act.put,List.setIfInBounds_toArray,List.set_cons_zero,List.set_cons_succ,i64_w,i32_w]
  rfl
 skip
 as_aux_lemma =>
 refine pure_ (i := 37) (N := some 63) (v := (.bool true)) (a' := ?_) #[true,true,true,true,true,true,true,true,true,true,true,true,true,true,true,true,true,true,true,true,true,true,true,true,true,true,true,true,true,true,true,true,true,true,true,true,true,true,false] rfl rfl (by as_aux_lemma => kernel_rfl) (fun _ _ _ h => h) (Or.inl ⟨by rfl,?_⟩) ?_ ?_
 ·intro w'
  go_simp
 rotate_left
 ·simp only [Act.put,List.setIfInBounds_toArray,List.set_cons_zero,List.set_cons_succ,i64_w,i32_w]
  rfl
 refine pure_ (i := 38) (N := some 4) (v := ?_) (a' := ?_) #[true,true,true,true,true,true,true,true,true,true,true,true,true,true,true,true,true,true,true,true,true,true,true,true,true,true,true,true,true,true,true,true,true,true,true,true,true,true,true] rfl rfl (by as_aux_lemma => kernel_rfl) (fun _ _ _ h => h) (Or.inl ⟨by rfl,?_⟩) ?_ ?_
 rotate_left
 ·intro w'
  go_simp
  with_reducible rfl
 rotate_left
 ·simp only [Act.put,List.setIfInBounds_toArray,List.set_cons_zero,List.set_cons_succ,i64_w,i32_w]
  rfl
 refine done_ (by as_aux_lemma => kernel_rfl) ?_
 have HB := Lib.hid s47.bel
 clear s47 hHeld
 go_wp2
 go_returns
 exact ⟨rfl, HB.out⟩
end Go.Proofs.YtkhcdichdnbcmaaR
end
section
namespace Go.Proofs.YtkhcdichdnbcmaaR
open Go.RowKit Go.Proofs.YtkhcdichdnbcmaaR Go.Proofs.YtkhcdichdnbcmaaR.Ext Go.Proofs.YtkhcdichdnbcmaaR.C Go.Proofs.YtkhcdichdnbcmaaR.Sp Go.Proofs.YtkhcdichdnbcmaaRW.PrintWords Go.Proofs.YtkhcdichdnbcmaaRW.PrintLast
set_option linter.unusedVariables false
set_option linter.unusedSimpArgs false
theorem walk_RecMatches (W : World) (k e a b c d : Int) (A4 : Option Addr) (c4 : Nat) (l4 : List Int) (A5 : Option Addr) (c5 : Nat) (l5 : List E90) (id task tick wait pid nonce code : Int) (h0 : (Lit.int .u8 k).wf = true) (h1 : (Lit.int .i64 e).wf = true) (h2 : (Lit.int .i64 a).wf = true) (h3 : (Lit.int .i64 b).wf = true) (h4 : (Lit.int .i64 c).wf = true) (h5 : (Lit.int .i64 d).wf = true) (h6 : SL24 W A4 c4 l4) (h7 : SL25 W A5 c5 l5) (h8 : (Lit.int .i64 id).wf = true) (h9 : (Lit.int .i64 task).wf = true) (h10 : (Lit.int .i64 tick).wf = true) (h11 : (Lit.int .i64 wait).wf = true) (h12 : (Lit.int .i64 pid).wf = true) (h13 : (Lit.int .i64 nonce).wf = true) (h14 : (Lit.int .i64 code).wf = true)
  (k' e' a' b' c' d' : Int) (A4' : Option Addr) (c4' : Nat) (l4' : List Int) (A5' : Option Addr) (c5' : Nat) (l5' : List E90) (id' task' tick' wait' pid' nonce' code' : Int) (h0' : (Lit.int .u8 k').wf = true) (h1' : (Lit.int .i64 e').wf = true) (h2' : (Lit.int .i64 a').wf = true) (h3' : (Lit.int .i64 b').wf = true) (h4' : (Lit.int .i64 c').wf = true) (h5' : (Lit.int .i64 d').wf = true) (h6' : SL24 W A4' c4' l4') (h7' : SL25 W A5' c5' l5') (h8' : (Lit.int .i64 id').wf = true) (h9' : (Lit.int .i64 task').wf = true) (h10' : (Lit.int .i64 tick').wf = true) (h11' : (Lit.int .i64 wait').wf = true) (h12' : (Lit.int .i64 pid').wf = true) (h13' : (Lit.int .i64 nonce').wf = true) (h14' : (Lit.int .i64 code').wf = true) :
  Calls Try.prog 11 #[.agg #[.int .u8 k, .int .i64 e, .int .i64 a, .int .i64 b, .int .i64 c, .int .i64 d, .slice A4 l4.length c4, .slice A5 l5.length c5, .int .i64 id, .int .i64 task, .int .i64 tick, .int .i64 wait, .int .i64 pid, .int .i64 nonce, .int .i64 code], .agg #[.int .u8 k', .int .i64 e', .int .i64 a', .int .i64 b', .int .i64 c', .int .i64 d', .slice A4' l4'.length c4', .slice A5' l5'.length c5', .int .i64 id', .int .i64 task', .int .i64 tick', .int .i64 wait', .int .i64 pid', .int .i64 nonce', .int .i64 code']] W fun e w' => e = .returned (.bool true) ∧ Below W.heap.size W w' := by
 have q1 := readsT h7
 have q2 := readsT h7'
 have hl : ∀ l : List Int, (l.take 20).length ≤ 20 := fun l => by rw [List.length_take]; omega
 have hm : ∀ l : List TX, (l.take 10).length ≤ 10 := fun l => by rw [List.length_take]; omega
 exact rmatch_w k e a b c d id task tick wait pid nonce code k' e' a' b' c' d' id' task' tick' wait' pid' nonce' code' A4 A5 A4' A5' _ _ _ _ _ _ _ _ _ _ _ _ _ _ _ W
  (fun L => few_a (w0 := W) (w := W) a b c d l4 (l5.map toE) (readsI h6).1 rfl (readsI h6).2 q1.1 (by rw [List.length_map]) (by have := q1.2; rw [List.length_map] at this; exact this))
  (fun L => few_a (w0 := W) (w := W) a' b' c' d' l4' (l5'.map toE) (readsI h6').1 rfl (readsI h6').2 q2.1 (by rw [List.length_map]) (by have := q2.2; rw [List.length_map] at this; exact this)) (hl _) (hm _) (hl _) (hm _) (i64_of_wf h14) rfl rfl rfl
end Go.Proofs.YtkhcdichdnbcmaaR
end
