/- Texts of this session, merged (wip/gen/shake.py). -/
import Derived.Test.YtkhcdichdnbcmaaRRr8
import Derived.Test.YtkhcdichdnbcmaaRRr10
import Derived.Test.YtkhcdichdnbcmaaRRr16
section
namespace Go.Proofs.YtkhcdichdnbcmaaR
open Go.RowKit Go.Proofs.YtkhcdichdnbcmaaR Go.Proofs.YtkhcdichdnbcmaaR.Ext Go.Proofs.YtkhcdichdnbcmaaR.C Go.Proofs.YtkhcdichdnbcmaaR.Sp Go.Proofs.YtkhcdichdnbcmaaRW.PrintWords Go.Proofs.YtkhcdichdnbcmaaRW.PrintLast
set_option linter.unusedVariables false
set_option linter.unusedSimpArgs false
set_option maxRecDepth 100000 in
set_option maxHeartbeats 1000000 in
theorem rchk17_lo {w0 w : World} {L : List HP} (kind e a b c d id task tick wait pid nonce code : Int) (A B : Option Addr) (n m p q : Nat) (hk : kind < 1) (h : St w0 w L) :
  Calls Try.prog 30 #[.agg #[.int .u8 kind, .int .i64 e, .int .i64 a, .int .i64 b, .int .i64 c, .int .i64 d, .slice A n p, .slice B m q, .int .i64 id, .int .i64 task, .int .i64 tick, .int .i64 wait, .int .i64 pid, .int .i64 nonce, .int .i64 code]] w fun ee w' => ee = .returned (.int .i64 2) ∧ St w0 w' L := by
 have s0 := h.alloc #[.int .u8 kind, .int .i64 e, .int .i64 a, .int .i64 b, .int .i64 c, .int .i64 d, .slice A n p, .slice B m q, .int .i64 id, .int .i64 task, .int .i64 tick, .int .i64 wait, .int .i64 pid, .int .i64 nonce, .int .i64 code] tRe
 clear h
 have hc1 := s0.cells
 have S0 := Lib.hid s0
 have hd1 : decide (kind < 1) = true := decide_eq_true (by omega)
 clear hk
 go_enter Try.func30, Try.ntmps30
 go_upto_region 1 with fail
 clear hc1
 have S1 := s0
 clear s0
 generalize w.heap.size = b1 at *
 generalize w.alloc (Obj.cells #[.int .u8 kind, .int .i64 e, .int .i64 a, .int .i64 b, .int .i64 c, .int .i64 d, .slice A n p, .slice B m q, .int .i64 id, .int .i64 task, .int .i64 tick, .int .i64 wait, .int .i64 pid, .int .i64 nonce, .int .i64 code] tRe) = w1 at *
 refine start_ (n := 15) (S := fun w' => w'.cell? ⟨b1, 0, none⟩ = some (.int .u8 kind) ∧ w'.cell? ⟨b1, 1, none⟩ = some (.int .i64 e) ∧ w'.cell? ⟨b1, 2, none⟩ = some (.int .i64 a) ∧ w'.cell? ⟨b1, 3, none⟩ = some (.int .i64 b) ∧ w'.cell? ⟨b1, 4, none⟩ = some (.int .i64 c) ∧ w'.cell? ⟨b1, 5, none⟩ = some (.int .i64 d) ∧ w'.cell? ⟨b1, 6, none⟩ = some (.slice A n p) ∧ w'.cell? ⟨b1, 7, none⟩ = some (.slice B m q) ∧ w'.cell? ⟨b1, 8, none⟩ = some (.int .i64 id) ∧ w'.cell? ⟨b1, 9, none⟩ = some (.int .i64 task) ∧ w'.cell? ⟨b1, 10, none⟩ = some (.int .i64 tick) ∧ w'.cell? ⟨b1, 11, none⟩ = some (.int .i64 wait) ∧ w'.cell? ⟨b1, 12, none⟩ = some (.int .i64 pid) ∧ w'.cell? ⟨b1, 13, none⟩ = some (.int .i64 nonce) ∧ w'.cell? ⟨b1, 14, none⟩ = some (.int .i64 code)) (ds := []) #[false, false, false, false, false, false, false, false, false, false, false, false, false, false, false] (by kernel_rfl) rfl rfl ⟨(S1).cells 0, (S1).cells 1, (S1).cells 2, (S1).cells 3, (S1).cells 4, (S1).cells 5, (S1).cells 6, (S1).cells 7, (S1).cells 8, (S1).cells 9, (S1).cells 10, (S1).cells 11, (S1).cells 12, (S1).cells 13, (S1).cells 14⟩ (fun hHeld => ?_)
 have sd := S1.drew
 clear S1
 generalize w1.drew = wd at *
 refine pure_ (i := 0) (N := some 6) (v := ?_) (a' := ?_) #[true, false, false, false, false, false, false, false, false, false, false, false, false, false, false] rfl rfl (by as_aux_lemma => kernel_rfl) (fun _ _ _ h => h) (Or.inl ⟨by rfl, ?_⟩) ?_ ?_
 rotate_left
 ·intro w'
  go_simp
  with_reducible rfl
 rotate_left
 ·simp only [Act.put, List.setIfInBounds_toArray, List.set_cons_zero, List.set_cons_succ, i64_w, i32_w]
  rfl
 refine take_ (i := 1) (N := some 7) (v := ?_) (a' := ?_) #[true, true, false, false, false, false, false, false, false, false, false, false, false, false, false] rfl rfl (by as_aux_lemma => kernel_rfl) (fun _ _ _ h => h) (Or.inl ⟨by rfl, ?_⟩) hHeld ?_ ?_
 rotate_left
 ·rintro w' ⟨s0, s1, s2, s3, s4, s5, s6, s7, s8, s9, s10, s11, s12, s13, s14⟩
  go_simp
  with_reducible rfl
 rotate_left
 ·simp only [Act.put, List.setIfInBounds_toArray, List.set_cons_zero, List.set_cons_succ, i64_w, i32_w]
  rfl
 refine pure_ (i := 2) (N := some 8) (v := ?_) (a' := ?_) #[true, true, true, false, false, false, false, false, false, false, false, false, false, false, false] rfl rfl (by as_aux_lemma => kernel_rfl) (fun _ _ _ h => h) (Or.inl ⟨by rfl, ?_⟩) ?_ ?_
 rotate_left
 ·intro w'
  go_simp
  with_reducible rfl
 rotate_left
 ·simp only [Act.put, List.setIfInBounds_toArray, List.set_cons_zero, List.set_cons_succ, i64_w, i32_w]
  rfl
 refine pure_ (i := 3) (N := some 9) (v := ?_) (a' := ?_) #[true, true, true, true, false, false, false, false, false, false, false, false, false, false, false] rfl rfl (by as_aux_lemma => kernel_rfl) (fun _ _ _ h => h) (Or.inl ⟨by rfl, ?_⟩) ?_ ?_
 rotate_left
 ·intro w'
  go_simp
  with_reducible rfl
 rotate_left
 ·simp only [Act.put, List.setIfInBounds_toArray, List.set_cons_zero, List.set_cons_succ, i64_w, i32_w]
  rfl
 refine pure_ (i := 4) (N := some 10) (v := undef) (a' := ?_) #[true, true, true, true, true, false, false, false, false, false, false, false, false, false, false] rfl rfl (by as_aux_lemma => kernel_rfl) (fun _ _ _ h => h) (Or.inr ⟨by rfl, rfl⟩) ?_ ?_
 rotate_left
 ·simp only [Act.put, List.setIfInBounds_toArray, List.set_cons_zero, List.set_cons_succ, i64_w, i32_w]
  rfl
 refine pure_ (i := 5) (N := some 11) (v := undef) (a' := ?_) #[true, true, true, true, true, true, false, false, false, false, false, false, false, false, false] rfl rfl (by as_aux_lemma => kernel_rfl) (fun _ _ _ h => h) (Or.inr ⟨by rfl, rfl⟩) ?_ ?_
 rotate_left
 ·simp only [Act.put, List.setIfInBounds_toArray, List.set_cons_zero, List.set_cons_succ, i64_w, i32_w]
  rfl
 refine pure_ (i := 6) (N := some 12) (v := undef) (a' := ?_) #[true, true, true, true, true, true, true, false, false, false, false, false, false, false, false] rfl rfl (by as_aux_lemma => kernel_rfl) (fun _ _ _ h => h) (Or.inr ⟨by rfl, rfl⟩) ?_ ?_
 rotate_left
 ·simp only [Act.put, List.setIfInBounds_toArray, List.set_cons_zero, List.set_cons_succ, i64_w, i32_w]
  rfl
 refine pure_ (i := 7) (N := some 13) (v := ?_) (a' := ?_) #[true, true, true, true, true, true, true, true, false, false, false, false, false, false, false] rfl rfl (by as_aux_lemma => kernel_rfl) (fun _ _ _ h => h) (Or.inl ⟨by rfl, ?_⟩) ?_ ?_
 rotate_left
 ·intro w'
  go_simp
  with_reducible rfl
 rotate_left
 ·simp only [Act.put, List.setIfInBounds_toArray, List.set_cons_zero, List.set_cons_succ, i64_w, i32_w]
  rfl
 refine pure_ (i := 8) (N := some 14) (v := ?_) (a' := ?_) #[true, true, true, true, true, true, true, true, true, false, false, false, false, false, false] rfl rfl (by as_aux_lemma => kernel_rfl) (fun _ _ _ h => h) (Or.inl ⟨by rfl, ?_⟩) ?_ ?_
 rotate_left
 ·intro w'
  go_simp
  with_reducible rfl
 rotate_left
 ·simp only [Act.put, List.setIfInBounds_toArray, List.set_cons_zero, List.set_cons_succ, i64_w, i32_w]
  rfl
 refine pure_ (i := 9) (N := some 15) (v := undef) (a' := ?_) #[true, true, true, true, true, true, true, true, true, true, false, false, false, false, false] rfl rfl (by as_aux_lemma => kernel_rfl) (fun _ _ _ h => h) (Or.inr ⟨by rfl, rfl⟩) ?_ ?_
 rotate_left
 ·simp only [Act.put, List.setIfInBounds_toArray, List.set_cons_zero, List.set_cons_succ, i64_w, i32_w]
  rfl
 refine pure_ (i := 10) (N := some 16) (v := undef) (a' := ?_) #[true, true, true, true, true, true, true, true, true, true, true, false, false, false, false] rfl rfl (by as_aux_lemma => kernel_rfl) (fun _ _ _ h => h) (Or.inr ⟨by rfl, rfl⟩) ?_ ?_
 rotate_left
 ·simp only [Act.put, List.setIfInBounds_toArray, List.set_cons_zero, List.set_cons_succ, i64_w, i32_w]
  rfl
 refine pure_ (i := 11) (N := some 17) (v := undef) (a' := ?_) #[true, true, true, true, true, true, true, true, true, true, true, true, false, false, false] rfl rfl (by as_aux_lemma => kernel_rfl) (fun _ _ _ h => h) (Or.inr ⟨by rfl, rfl⟩) ?_ ?_
 rotate_left
 ·simp only [Act.put, List.setIfInBounds_toArray, List.set_cons_zero, List.set_cons_succ, i64_w, i32_w]
  rfl
 refine pure_ (i := 12) (N := some 18) (v := undef) (a' := ?_) #[true, true, true, true, true, true, true, true, true, true, true, true, true, false, false] rfl rfl (by as_aux_lemma => kernel_rfl) (fun _ _ _ h => h) (Or.inr ⟨by rfl, rfl⟩) ?_ ?_
 rotate_left
 ·simp only [Act.put, List.setIfInBounds_toArray, List.set_cons_zero, List.set_cons_succ, i64_w, i32_w]
  rfl
 refine pure_ (i := 13) (N := some 19) (v := undef) (a' := ?_) #[true, true, true, true, true, true, true, true, true, true, true, true, true, true, false] rfl rfl (by as_aux_lemma => kernel_rfl) (fun _ _ _ h => h) (Or.inr ⟨by rfl, rfl⟩) ?_ ?_
 rotate_left
 ·simp only [Act.put, List.setIfInBounds_toArray, List.set_cons_zero, List.set_cons_succ, i64_w, i32_w]
  rfl
 refine pure_ (i := 14) (N := some 20) (v := ?_) (a' := ?_) #[true, true, true, true, true, true, true, true, true, true, true, true, true, true, true] rfl rfl (by as_aux_lemma => kernel_rfl) (fun _ _ _ h => h) (Or.inl ⟨by rfl, ?_⟩) ?_ ?_
 rotate_left
 ·intro w'
  go_simp
  with_reducible rfl
 rotate_left
 ·simp only [Act.put, List.setIfInBounds_toArray, List.set_cons_zero, List.set_cons_succ, i64_w, i32_w]
  rfl
 refine done_ (by as_aux_lemma => kernel_rfl) ?_
 have S2 := Lib.hid sd
 clear sd
 go_wp2
 go_returns
 exact ⟨rfl, S2.out.drop⟩
set_option maxRecDepth 100000 in
set_option maxHeartbeats 1000000 in
theorem rchk17_hi {w0 w : World} {L : List HP} (kind e a b c d id task tick wait pid nonce code : Int) (A B : Option Addr) (n m p q : Nat) (hk : 9 < kind) (h : St w0 w L) :
  Calls Try.prog 30 #[.agg #[.int .u8 kind, .int .i64 e, .int .i64 a, .int .i64 b, .int .i64 c, .int .i64 d, .slice A n p, .slice B m q, .int .i64 id, .int .i64 task, .int .i64 tick, .int .i64 wait, .int .i64 pid, .int .i64 nonce, .int .i64 code]] w fun ee w' => ee = .returned (.int .i64 2) ∧ St w0 w' L := by
 have s0 := h.alloc #[.int .u8 kind, .int .i64 e, .int .i64 a, .int .i64 b, .int .i64 c, .int .i64 d, .slice A n p, .slice B m q, .int .i64 id, .int .i64 task, .int .i64 tick, .int .i64 wait, .int .i64 pid, .int .i64 nonce, .int .i64 code] tRe
 clear h
 have hc1 := s0.cells
 have S0 := Lib.hid s0
 have hd1 : decide (kind < 1) = false := decide_eq_false (by omega)
 have hd2 : decide (9 < kind) = true := decide_eq_true (by omega)
 clear hk
 go_enter Try.func30, Try.ntmps30
 go_upto_region 1 with fail
 clear hc1
 have S1 := s0
 clear s0
 generalize w.heap.size = b1 at *
 generalize w.alloc (Obj.cells #[.int .u8 kind, .int .i64 e, .int .i64 a, .int .i64 b, .int .i64 c, .int .i64 d, .slice A n p, .slice B m q, .int .i64 id, .int .i64 task, .int .i64 tick, .int .i64 wait, .int .i64 pid, .int .i64 nonce, .int .i64 code] tRe) = w1 at *
 refine start_ (n := 15) (S := fun w' => w'.cell? ⟨b1, 0, none⟩ = some (.int .u8 kind) ∧ w'.cell? ⟨b1, 1, none⟩ = some (.int .i64 e) ∧ w'.cell? ⟨b1, 2, none⟩ = some (.int .i64 a) ∧ w'.cell? ⟨b1, 3, none⟩ = some (.int .i64 b) ∧ w'.cell? ⟨b1, 4, none⟩ = some (.int .i64 c) ∧ w'.cell? ⟨b1, 5, none⟩ = some (.int .i64 d) ∧ w'.cell? ⟨b1, 6, none⟩ = some (.slice A n p) ∧ w'.cell? ⟨b1, 7, none⟩ = some (.slice B m q) ∧ w'.cell? ⟨b1, 8, none⟩ = some (.int .i64 id) ∧ w'.cell? ⟨b1, 9, none⟩ = some (.int .i64 task) ∧ w'.cell? ⟨b1, 10, none⟩ = some (.int .i64 tick) ∧ w'.cell? ⟨b1, 11, none⟩ = some (.int .i64 wait) ∧ w'.cell? ⟨b1, 12, none⟩ = some (.int .i64 pid) ∧ w'.cell? ⟨b1, 13, none⟩ = some (.int .i64 nonce) ∧ w'.cell? ⟨b1, 14, none⟩ = some (.int .i64 code)) (ds := []) #[false, false, false, false, false, false, false, false, false, false, false, false, false, false, false] (by kernel_rfl) rfl rfl ⟨(S1).cells 0, (S1).cells 1, (S1).cells 2, (S1).cells 3, (S1).cells 4, (S1).cells 5, (S1).cells 6, (S1).cells 7, (S1).cells 8, (S1).cells 9, (S1).cells 10, (S1).cells 11, (S1).cells 12, (S1).cells 13, (S1).cells 14⟩ (fun hHeld => ?_)
 have sd := S1.drew
 clear S1
 generalize w1.drew = wd at *
 refine pure_ (i := 0) (N := some 6) (v := ?_) (a' := ?_) #[true, false, false, false, false, false, false, false, false, false, false, false, false, false, false] rfl rfl (by as_aux_lemma => kernel_rfl) (fun _ _ _ h => h) (Or.inl ⟨by rfl, ?_⟩) ?_ ?_
 rotate_left
 ·intro w'
  go_simp
  with_reducible rfl
 rotate_left
 ·simp only [Act.put, List.setIfInBounds_toArray, List.set_cons_zero, List.set_cons_succ, i64_w, i32_w]
  rfl
 refine take_ (i := 1) (N := some 7) (v := ?_) (a' := ?_) #[true, true, false, false, false, false, false, false, false, false, false, false, false, false, false] rfl rfl (by as_aux_lemma => kernel_rfl) (fun _ _ _ h => h) (Or.inl ⟨by rfl, ?_⟩) hHeld ?_ ?_
 rotate_left
 ·rintro w' ⟨s0, s1, s2, s3, s4, s5, s6, s7, s8, s9, s10, s11, s12, s13, s14⟩
  go_simp
  with_reducible rfl
 rotate_left
 ·simp only [Act.put, List.setIfInBounds_toArray, List.set_cons_zero, List.set_cons_succ, i64_w, i32_w]
  rfl
 refine pure_ (i := 2) (N := some 8) (v := ?_) (a' := ?_) #[true, true, true, false, false, false, false, false, false, false, false, false, false, false, false] rfl rfl (by as_aux_lemma => kernel_rfl) (fun _ _ _ h => h) (Or.inl ⟨by rfl, ?_⟩) ?_ ?_
 rotate_left
 ·intro w'
  go_simp
  with_reducible rfl
 rotate_left
 ·simp only [Act.put, List.setIfInBounds_toArray, List.set_cons_zero, List.set_cons_succ, i64_w, i32_w]
  rfl
 refine pure_ (i := 3) (N := some 9) (v := ?_) (a' := ?_) #[true, true, true, true, false, false, false, false, false, false, false, false, false, false, false] rfl rfl (by as_aux_lemma => kernel_rfl) (fun _ _ _ h => h) (Or.inl ⟨by rfl, ?_⟩) ?_ ?_
 rotate_left
 ·intro w'
  go_simp
  with_reducible rfl
 rotate_left
 ·simp only [Act.put, List.setIfInBounds_toArray, List.set_cons_zero, List.set_cons_succ, i64_w, i32_w]
  rfl
 refine pure_ (i := 4) (N := some 10) (v := ?_) (a' := ?_) #[true, true, true, true, true, false, false, false, false, false, false, false, false, false, false] rfl rfl (by as_aux_lemma => kernel_rfl) (fun _ _ _ h => h) (Or.inl ⟨by rfl, ?_⟩) ?_ ?_
 rotate_left
 ·intro w'
  go_simp
  with_reducible rfl
 rotate_left
 ·simp only [Act.put, List.setIfInBounds_toArray, List.set_cons_zero, List.set_cons_succ, i64_w, i32_w]
  rfl
 refine take_ (i := 5) (N := some 11) (v := ?_) (a' := ?_) #[true, true, true, true, true, true, false, false, false, false, false, false, false, false, false] rfl rfl (by as_aux_lemma => kernel_rfl) (fun _ _ _ h => h) (Or.inl ⟨by rfl, ?_⟩) hHeld ?_ ?_
 rotate_left
 ·rintro w' ⟨s0, s1, s2, s3, s4, s5, s6, s7, s8, s9, s10, s11, s12, s13, s14⟩
  go_simp
  with_reducible rfl
 rotate_left
 ·simp only [Act.put, List.setIfInBounds_toArray, List.set_cons_zero, List.set_cons_succ, i64_w, i32_w]
  rfl
 refine pure_ (i := 6) (N := some 12) (v := ?_) (a' := ?_) #[true, true, true, true, true, true, true, false, false, false, false, false, false, false, false] rfl rfl (by as_aux_lemma => kernel_rfl) (fun _ _ _ h => h) (Or.inl ⟨by rfl, ?_⟩) ?_ ?_
 rotate_left
 ·intro w'
  go_simp
  with_reducible rfl
 rotate_left
 ·simp only [Act.put, List.setIfInBounds_toArray, List.set_cons_zero, List.set_cons_succ, i64_w, i32_w]
  rfl
 refine pure_ (i := 7) (N := some 13) (v := ?_) (a' := ?_) #[true, true, true, true, true, true, true, true, false, false, false, false, false, false, false] rfl rfl (by as_aux_lemma => kernel_rfl) (fun _ _ _ h => h) (Or.inl ⟨by rfl, ?_⟩) ?_ ?_
 rotate_left
 ·intro w'
  go_simp
  with_reducible rfl
 rotate_left
 ·simp only [Act.put, List.setIfInBounds_toArray, List.set_cons_zero, List.set_cons_succ, i64_w, i32_w]
  rfl
 refine pure_ (i := 8) (N := some 14) (v := ?_) (a' := ?_) #[true, true, true, true, true, true, true, true, true, false, false, false, false, false, false] rfl rfl (by as_aux_lemma => kernel_rfl) (fun _ _ _ h => h) (Or.inl ⟨by rfl, ?_⟩) ?_ ?_
 rotate_left
 ·intro w'
  go_simp
  with_reducible rfl
 rotate_left
 ·simp only [Act.put, List.setIfInBounds_toArray, List.set_cons_zero, List.set_cons_succ, i64_w, i32_w]
  rfl
 refine pure_ (i := 9) (N := some 15) (v := undef) (a' := ?_) #[true, true, true, true, true, true, true, true, true, true, false, false, false, false, false] rfl rfl (by as_aux_lemma => kernel_rfl) (fun _ _ _ h => h) (Or.inr ⟨by rfl, rfl⟩) ?_ ?_
 rotate_left
 ·simp only [Act.put, List.setIfInBounds_toArray, List.set_cons_zero, List.set_cons_succ, i64_w, i32_w]
  rfl
 refine pure_ (i := 10) (N := some 16) (v := undef) (a' := ?_) #[true, true, true, true, true, true, true, true, true, true, true, false, false, false, false] rfl rfl (by as_aux_lemma => kernel_rfl) (fun _ _ _ h => h) (Or.inr ⟨by rfl, rfl⟩) ?_ ?_
 rotate_left
 ·simp only [Act.put, List.setIfInBounds_toArray, List.set_cons_zero, List.set_cons_succ, i64_w, i32_w]
  rfl
 refine pure_ (i := 11) (N := some 17) (v := undef) (a' := ?_) #[true, true, true, true, true, true, true, true, true, true, true, true, false, false, false] rfl rfl (by as_aux_lemma => kernel_rfl) (fun _ _ _ h => h) (Or.inr ⟨by rfl, rfl⟩) ?_ ?_
 rotate_left
 ·simp only [Act.put, List.setIfInBounds_toArray, List.set_cons_zero, List.set_cons_succ, i64_w, i32_w]
  rfl
 refine pure_ (i := 12) (N := some 18) (v := undef) (a' := ?_) #[true, true, true, true, true, true, true, true, true, true, true, true, true, false, false] rfl rfl (by as_aux_lemma => kernel_rfl) (fun _ _ _ h => h) (Or.inr ⟨by rfl, rfl⟩) ?_ ?_
 rotate_left
 ·simp only [Act.put, List.setIfInBounds_toArray, List.set_cons_zero, List.set_cons_succ, i64_w, i32_w]
  rfl
 refine pure_ (i := 13) (N := some 19) (v := undef) (a' := ?_) #[true, true, true, true, true, true, true, true, true, true, true, true, true, true, false] rfl rfl (by as_aux_lemma => kernel_rfl) (fun _ _ _ h => h) (Or.inr ⟨by rfl, rfl⟩) ?_ ?_
 rotate_left
 ·simp only [Act.put, List.setIfInBounds_toArray, List.set_cons_zero, List.set_cons_succ, i64_w, i32_w]
  rfl
 refine pure_ (i := 14) (N := some 20) (v := ?_) (a' := ?_) #[true, true, true, true, true, true, true, true, true, true, true, true, true, true, true] rfl rfl (by as_aux_lemma => kernel_rfl) (fun _ _ _ h => h) (Or.inl ⟨by rfl, ?_⟩) ?_ ?_
 rotate_left
 ·intro w'
  go_simp
  with_reducible rfl
 rotate_left
 ·simp only [Act.put, List.setIfInBounds_toArray, List.set_cons_zero, List.set_cons_succ, i64_w, i32_w]
  rfl
 refine done_ (by as_aux_lemma => kernel_rfl) ?_
 have S2 := Lib.hid sd
 clear sd
 go_wp2
 go_returns
 exact ⟨rfl, S2.out.drop⟩
set_option maxRecDepth 100000 in
set_option maxHeartbeats 4000000 in
theorem rchk17_N {w0 w : World} {L : List HP} (kind e a b c d id task tick wait pid nonce code e' a' b' c' d' id' task' tick' wait' pid' nonce' code' : Int) (A B A' B' : Option Addr) (n m p q n' m' p' q' : Nat) (ps : List Int) (ts : List TX) (l : List Int) (vv mm : Nat → Int) (eq : Bool) (SE RR : Int) (hk : 2 ≤ kind ∧ kind ≤ 9)
  (hl : fieldsL kind = l) (hf : ∀ i, i < l.length → ∀ W M, St w0 W M → Calls Try.prog 55 #[.agg #[.int .u8 kind, .int .i64 e, .int .i64 a, .int .i64 b, .int .i64 c, .int .i64 d, .slice A n p, .slice B m q, .int .i64 id, .int .i64 task, .int .i64 tick, .int .i64 wait, .int .i64 pid, .int .i64 nonce, .int .i64 code], .int .i64 (rd l i)] W fun ee w' => ee = .returned (.int .i64 (vv i)) ∧ St w0 w' M) (hle : l.length ≤ 7)
  (hM : ∀ i, i < l.length → ∀ W M, St w0 W M → Calls Try.prog 58 #[.int .i64 (rd l i)] W fun ee w' => ee = .returned (.int .i64 (mm i)) ∧ St w0 w' M)
  (hP : ∀ W M, St w0 W M → Calls Try.prog 57 #[.agg #[.int .u8 kind, .int .i64 e, .int .i64 a, .int .i64 b, .int .i64 c, .int .i64 d, .slice A n p, .slice B m q, .int .i64 id, .int .i64 task, .int .i64 tick, .int .i64 wait, .int .i64 pid, .int .i64 nonce, .int .i64 code]] W fun ee w' => ee = .returned (.agg #[.int .u8 kind, .int .i64 e', .int .i64 a', .int .i64 b', .int .i64 c', .int .i64 d', .slice A' n' p', .slice B' m' q', .int .i64 id', .int .i64 task', .int .i64 tick', .int .i64 wait', .int .i64 pid', .int .i64 nonce', .int .i64 code']) ∧ St w0 w' M)
  (hE : ∀ W x M, St w0 W (x :: RI (.slice A n p) ps :: RT (.slice B m q) ts :: M) → Calls Try.prog 25 #[.agg #[.int .u8 kind, .int .i64 e, .int .i64 a, .int .i64 b, .int .i64 c, .int .i64 d, .slice A n p, .slice B m q, .int .i64 id, .int .i64 task, .int .i64 tick, .int .i64 wait, .int .i64 pid, .int .i64 nonce, .int .i64 code], .agg #[.int .u8 kind, .int .i64 e', .int .i64 a', .int .i64 b', .int .i64 c', .int .i64 d', .slice A' n' p', .slice B' m' q', .int .i64 id', .int .i64 task', .int .i64 tick', .int .i64 wait', .int .i64 pid', .int .i64 nonce', .int .i64 code']] W fun ee w' => ee = .returned (.bool eq) ∧ St w0 w' (x :: RI (.slice A n p) ps :: RT (.slice B m q) ts :: M))
  (hS : ∀ W x M, St w0 W (x :: RI (.slice A n p) ps :: RT (.slice B m q) ts :: M) → Calls Try.prog 42 #[.agg #[.int .i64 a, .int .i64 b, .int .i64 c, .int .i64 d, .slice A n p, .slice B m q]] W fun ee w' => ee = .returned (.int .i64 SE) ∧ St w0 w' (x :: RI (.slice A n p) ps :: RT (.slice B m q) ts :: M))
  (hr2 : eq = false → RR = 2) (hr3 : eq = true → ∀ i, i < l.length → (vv i < 0 ∨ mm i < vv i) → RR = 3) (hr0 : eq = true → (∀ i, i < l.length → 0 ≤ vv i ∧ vv i ≤ mm i) → RR = 0)
  (h : St w0 w (RI (.slice A n p) ps :: RT (.slice B m q) ts :: L)) :
  Calls Try.prog 30 #[.agg #[.int .u8 kind, .int .i64 e, .int .i64 a, .int .i64 b, .int .i64 c, .int .i64 d, .slice A n p, .slice B m q, .int .i64 id, .int .i64 task, .int .i64 tick, .int .i64 wait, .int .i64 pid, .int .i64 nonce, .int .i64 code]] w fun ee w' => ee = .returned (.int .i64 RR) ∧ St w0 w' (RI (.slice A n p) ps :: RT (.slice B m q) ts :: L) := by
 have s0 := h.alloc #[.int .u8 kind, .int .i64 e, .int .i64 a, .int .i64 b, .int .i64 c, .int .i64 d, .slice A n p, .slice B m q, .int .i64 id, .int .i64 task, .int .i64 tick, .int .i64 wait, .int .i64 pid, .int .i64 nonce, .int .i64 code] tRe
 clear h
 have HP := Lib.hid hP
 have HE := Lib.hid hE
 have HL := Lib.hid (And.intro hl (And.intro hf hle))
 have HR := Lib.hid (And.intro hr2 (And.intro hr3 hr0))
 have HS := Lib.hid hS
 have HM := Lib.hid hM
 clear hP hE hl hf hle hr2 hr3 hr0 hS hM
 have hd1 : decide (kind < 1) = false := decide_eq_false (by omega)
 have hd2 : decide (9 < kind) = false := decide_eq_false (by omega)
 have hk1 : (kind == 1) = false := beq_eq_false_iff_ne.mpr (by omega)
 have hk1' : decide (kind = 1) = false := decide_eq_false (by omega)
 clear hk
 have hc1 := s0.cells
 go_enter Try.func30, Try.ntmps30
 go_upto_region 1 with fail
 clear hc1
 generalize w.heap.size = b1 at *
 generalize w.alloc (Obj.cells #[.int .u8 kind, .int .i64 e, .int .i64 a, .int .i64 b, .int .i64 c, .int .i64 d, .slice A n p, .slice B m q, .int .i64 id, .int .i64 task, .int .i64 tick, .int .i64 wait, .int .i64 pid, .int .i64 nonce, .int .i64 code] tRe) = w1 at *
 refine start_ (n := 15) (S := fun w' => w'.cell? ⟨b1, 0, none⟩ = some (.int .u8 kind) ∧ w'.cell? ⟨b1, 1, none⟩ = some (.int .i64 e) ∧ w'.cell? ⟨b1, 2, none⟩ = some (.int .i64 a) ∧ w'.cell? ⟨b1, 3, none⟩ = some (.int .i64 b) ∧ w'.cell? ⟨b1, 4, none⟩ = some (.int .i64 c) ∧ w'.cell? ⟨b1, 5, none⟩ = some (.int .i64 d) ∧ w'.cell? ⟨b1, 6, none⟩ = some (.slice A n p) ∧ w'.cell? ⟨b1, 7, none⟩ = some (.slice B m q) ∧ w'.cell? ⟨b1, 8, none⟩ = some (.int .i64 id) ∧ w'.cell? ⟨b1, 9, none⟩ = some (.int .i64 task) ∧ w'.cell? ⟨b1, 10, none⟩ = some (.int .i64 tick) ∧ w'.cell? ⟨b1, 11, none⟩ = some (.int .i64 wait) ∧ w'.cell? ⟨b1, 12, none⟩ = some (.int .i64 pid) ∧ w'.cell? ⟨b1, 13, none⟩ = some (.int .i64 nonce) ∧ w'.cell? ⟨b1, 14, none⟩ = some (.int .i64 code)) (ds := []) #[false, false, false, false, false, false, false, false, false, false, false, false, false, false, false] (by kernel_rfl) rfl rfl ⟨(s0).cells 0, (s0).cells 1, (s0).cells 2, (s0).cells 3, (s0).cells 4, (s0).cells 5, (s0).cells 6, (s0).cells 7, (s0).cells 8, (s0).cells 9, (s0).cells 10, (s0).cells 11, (s0).cells 12, (s0).cells 13, (s0).cells 14⟩ (fun hHeld => ?_)
 have sd := s0.drew
 clear s0
 generalize w1.drew = wd at *
 refine pure_ (i := 0) (N := some 6) (v := ?_) (a' := ?_) #[true, false, false, false, false, false, false, false, false, false, false, false, false, false, false] rfl rfl (by as_aux_lemma => kernel_rfl) (fun _ _ _ h => h) (Or.inl ⟨by rfl, ?_⟩) ?_ ?_
 rotate_left
 ·intro w'
  go_simp
  with_reducible rfl
 rotate_left
 ·simp only [Act.put, List.setIfInBounds_toArray, List.set_cons_zero, List.set_cons_succ, i64_w, i32_w]
  rfl
 refine take_ (i := 1) (N := some 7) (v := ?_) (a' := ?_) #[true, true, false, false, false, false, false, false, false, false, false, false, false, false, false] rfl rfl (by as_aux_lemma => kernel_rfl) (fun _ _ _ h => h) (Or.inl ⟨by rfl, ?_⟩) hHeld ?_ ?_
 rotate_left
 ·rintro w' ⟨s0, s1, s2, s3, s4, s5, s6, s7, s8, s9, s10, s11, s12, s13, s14⟩
  go_simp
  with_reducible rfl
 rotate_left
 ·simp only [Act.put, List.setIfInBounds_toArray, List.set_cons_zero, List.set_cons_succ, i64_w, i32_w]
  rfl
 refine pure_ (i := 2) (N := some 8) (v := ?_) (a' := ?_) #[true, true, true, false, false, false, false, false, false, false, false, false, false, false, false] rfl rfl (by as_aux_lemma => kernel_rfl) (fun _ _ _ h => h) (Or.inl ⟨by rfl, ?_⟩) ?_ ?_
 rotate_left
 ·intro w'
  go_simp
  with_reducible rfl
 rotate_left
 ·simp only [Act.put, List.setIfInBounds_toArray, List.set_cons_zero, List.set_cons_succ, i64_w, i32_w]
  rfl
 refine pure_ (i := 3) (N := some 9) (v := ?_) (a' := ?_) #[true, true, true, true, false, false, false, false, false, false, false, false, false, false, false] rfl rfl (by as_aux_lemma => kernel_rfl) (fun _ _ _ h => h) (Or.inl ⟨by rfl, ?_⟩) ?_ ?_
 rotate_left
 ·intro w'
  go_simp
  with_reducible rfl
 rotate_left
 ·simp only [Act.put, List.setIfInBounds_toArray, List.set_cons_zero, List.set_cons_succ, i64_w, i32_w]
  rfl
 refine pure_ (i := 4) (N := some 10) (v := ?_) (a' := ?_) #[true, true, true, true, true, false, false, false, false, false, false, false, false, false, false] rfl rfl (by as_aux_lemma => kernel_rfl) (fun _ _ _ h => h) (Or.inl ⟨by rfl, ?_⟩) ?_ ?_
 rotate_left
 ·intro w'
  go_simp
  with_reducible rfl
 rotate_left
 ·simp only [Act.put, List.setIfInBounds_toArray, List.set_cons_zero, List.set_cons_succ, i64_w, i32_w]
  rfl
 refine take_ (i := 5) (N := some 11) (v := ?_) (a' := ?_) #[true, true, true, true, true, true, false, false, false, false, false, false, false, false, false] rfl rfl (by as_aux_lemma => kernel_rfl) (fun _ _ _ h => h) (Or.inl ⟨by rfl, ?_⟩) hHeld ?_ ?_
 rotate_left
 ·rintro w' ⟨s0, s1, s2, s3, s4, s5, s6, s7, s8, s9, s10, s11, s12, s13, s14⟩
  go_simp
  with_reducible rfl
 rotate_left
 ·simp only [Act.put, List.setIfInBounds_toArray, List.set_cons_zero, List.set_cons_succ, i64_w, i32_w]
  rfl
 refine pure_ (i := 6) (N := some 12) (v := ?_) (a' := ?_) #[true, true, true, true, true, true, true, false, false, false, false, false, false, false, false] rfl rfl (by as_aux_lemma => kernel_rfl) (fun _ _ _ h => h) (Or.inl ⟨by rfl, ?_⟩) ?_ ?_
 rotate_left
 ·intro w'
  go_simp
  with_reducible rfl
 rotate_left
 ·simp only [Act.put, List.setIfInBounds_toArray, List.set_cons_zero, List.set_cons_succ, i64_w, i32_w]
  rfl
 refine pure_ (i := 7) (N := some 13) (v := ?_) (a' := ?_) #[true, true, true, true, true, true, true, true, false, false, false, false, false, false, false] rfl rfl (by as_aux_lemma => kernel_rfl) (fun _ _ _ h => h) (Or.inl ⟨by rfl, ?_⟩) ?_ ?_
 rotate_left
 ·intro w'
  go_simp
  with_reducible rfl
 rotate_left
 ·simp only [Act.put, List.setIfInBounds_toArray, List.set_cons_zero, List.set_cons_succ, i64_w, i32_w]
  rfl
 refine pure_ (i := 8) (N := some 14) (v := ?_) (a' := ?_) #[true, true, true, true, true, true, true, true, true, false, false, false, false, false, false] rfl rfl (by as_aux_lemma => kernel_rfl) (fun _ _ _ h => h) (Or.inl ⟨by rfl, ?_⟩) ?_ ?_
 rotate_left
 ·intro w'
  go_simp
  with_reducible rfl
 rotate_left
 ·simp only [Act.put, List.setIfInBounds_toArray, List.set_cons_zero, List.set_cons_succ, i64_w, i32_w]
  rfl
 refine take_ (i := 9) (N := some 15) (v := ?_) (a' := ?_) #[true, true, true, true, true, true, true, true, true, true, false, false, false, false, false] rfl rfl (by as_aux_lemma => kernel_rfl) (fun _ _ _ h => h) (Or.inl ⟨by rfl, ?_⟩) hHeld ?_ ?_
 rotate_left
 ·rintro w' ⟨s0, s1, s2, s3, s4, s5, s6, s7, s8, s9, s10, s11, s12, s13, s14⟩
  go_simp
  with_reducible rfl
 rotate_left
 ·simp only [Act.put, List.setIfInBounds_toArray, List.set_cons_zero, List.set_cons_succ, i64_w, i32_w]
  rfl
 refine take_ (i := 10) (N := some 16) (v := ?_) (a' := ?_) #[true, true, true, true, true, true, true, true, true, true, true, false, false, false, false] rfl rfl (by as_aux_lemma => kernel_rfl) (fun _ _ _ h => h) (Or.inl ⟨by rfl, ?_⟩) hHeld ?_ ?_
 rotate_left
 ·rintro w' ⟨s0, s1, s2, s3, s4, s5, s6, s7, s8, s9, s10, s11, s12, s13, s14⟩
  go_simp
  with_reducible rfl
 rotate_left
 ·simp only [Act.put, List.setIfInBounds_toArray, List.set_cons_zero, List.set_cons_succ, i64_w, i32_w]
  rfl
 refine one_ (i := 11) (N := some 17) #[true, true, true, true, true, true, true, true, true, true, true, true, false, false, false] rfl rfl (by as_aux_lemma => kernel_rfl) (by decide) (fun K hK => ?_)
 refine goes_ Try.func57 (by as_aux_lemma => kernel_rfl) rfl #[.agg #[.int .u8 kind, .int .i64 e, .int .i64 a, .int .i64 b, .int .i64 c, .int .i64 d, .slice A n p, .slice B m q, .int .i64 id, .int .i64 task, .int .i64 tick, .int .i64 wait, .int .i64 pid, .int .i64 nonce, .int .i64 code]] (by rfl) rfl rfl (by (try simp only [List.map_toArray, List.map_cons, List.map_nil]); first | done | rfl) ?_
 with_reducible refine (HP.out _ _ sd).mono ?_
 rintro ee w2 ⟨rfl, s2⟩
 refine ⟨_, rfl, ?_⟩
 refine hK.out _ _ ⟨(s2).cells 0, (s2).cells 1, (s2).cells 2, (s2).cells 3, (s2).cells 4, (s2).cells 5, (s2).cells 6, (s2).cells 7, (s2).cells 8, (s2).cells 9, (s2).cells 10, (s2).cells 11, (s2).cells 12, (s2).cells 13, (s2).cells 14⟩ (fun hHeld => ?_)
 clear hK K sd
 refine norm_ (a' := ?_) ?_ ?_
 rotate_left
 ·show Act.put _ (some 17) _ = _
  simp only [Act.put, List.setIfInBounds_toArray, List.set_cons_zero, List.set_cons_succ, i64_w, i32_w]
  rfl
 refine one_ (i := 12) (N := some 18) #[true, true, true, true, true, true, true, true, true, true, true, true, true, false, false] rfl rfl (by as_aux_lemma => kernel_rfl) (by decide) (fun K hK => ?_)
 refine goes_ Try.func25 (by as_aux_lemma => kernel_rfl) rfl #[.agg #[.int .u8 kind, .int .i64 e, .int .i64 a, .int .i64 b, .int .i64 c, .int .i64 d, .slice A n p, .slice B m q, .int .i64 id, .int .i64 task, .int .i64 tick, .int .i64 wait, .int .i64 pid, .int .i64 nonce, .int .i64 code], .agg #[.int .u8 kind, .int .i64 e', .int .i64 a', .int .i64 b', .int .i64 c', .int .i64 d', .slice A' n' p', .slice B' m' q', .int .i64 id', .int .i64 task', .int .i64 tick', .int .i64 wait', .int .i64 pid', .int .i64 nonce', .int .i64 code']] (by rfl) rfl rfl (by (try simp only [List.map_toArray, List.map_cons, List.map_nil]); first | done | rfl) ?_
 with_reducible refine (HE.out _ _ _ s2).mono ?_
 rintro ee w3 ⟨rfl, s3⟩
 refine ⟨_, rfl, ?_⟩
 refine hK.out _ _ ⟨(s3).cells 0, (s3).cells 1, (s3).cells 2, (s3).cells 3, (s3).cells 4, (s3).cells 5, (s3).cells 6, (s3).cells 7, (s3).cells 8, (s3).cells 9, (s3).cells 10, (s3).cells 11, (s3).cells 12, (s3).cells 13, (s3).cells 14⟩ (fun hHeld => ?_)
 clear hK K s2
 refine norm_ (a' := ?_) ?_ ?_
 rotate_left
 ·show Act.put _ (some 18) _ = _
  simp only [Act.put, List.setIfInBounds_toArray, List.set_cons_zero, List.set_cons_succ, i64_w, i32_w]
  rfl
 refine pure_ (i := 13) (N := some 19) (v := ?_) (a' := ?_) #[true, true, true, true, true, true, true, true, true, true, true, true, true, true, false] rfl rfl (by as_aux_lemma => kernel_rfl) (fun _ _ _ h => h) (Or.inl ⟨by rfl, ?_⟩) ?_ ?_
 rotate_left
 ·intro w'
  go_simp
  with_reducible rfl
 rotate_left
 ·simp only [Act.put, List.setIfInBounds_toArray, List.set_cons_zero, List.set_cons_succ, i64_w, i32_w]
  rfl
 refine pure_ (i := 14) (N := some 20) (v := ?_) (a' := ?_) #[true, true, true, true, true, true, true, true, true, true, true, true, true, true, true] rfl rfl (by as_aux_lemma => kernel_rfl) (fun _ _ _ h => h) (Or.inl ⟨by rfl, ?_⟩) ?_ ?_
 rotate_left
 ·intro w'
  go_simp
  with_reducible rfl
 rotate_left
 ·simp only [Act.put, List.setIfInBounds_toArray, List.set_cons_zero, List.set_cons_succ, i64_w, i32_w]
  rfl
 refine done_ (by as_aux_lemma => kernel_rfl) ?_
 clear HP HE
 cases heq : eq
 ·have S3 := Lib.hid s3
  clear s3
  go_wp2
  go_returns
  rw [HR.out.1 heq]
  exact ⟨rfl, S3.out.drop⟩
 ·as_aux_lemma =>
  have hr := HR.out.2
  clear HR
  have HR := Lib.hid (And.intro (hr.1 heq) (hr.2 heq))
  clear hr heq
  have hc3 := s3.cells
  have S3 := Lib.hid s3
  clear s3
  go_wp2_with fail
  refine (rfields_s kind S3.out).mono ?_
  rintro ee w4 ⟨v, rfl, s4⟩
  clear S3 hc3
  rw [HL.out.1] at s4
  obtain ⟨F, cF, rfl⟩ := RI_sl s4
  have S4 := Lib.hid s4
  clear s4
  go_wp2_with fail
  go_loopw [4] (fun y wr => ∃ i : Nat, i ≤ l.length ∧ y = .int .i64 i ∧ St w0 wr (RI (.slice F l.length cF) l :: Go.Proofs.YtkhcdichdnbcmaaR.blk b1 #[.int .u8 kind, .int .i64 e, .int .i64 a, .int .i64 b, .int .i64 c, .int .i64 d, .slice A n p, .slice B m q, .int .i64 id, .int .i64 task, .int .i64 tick, .int .i64 wait, .int .i64 pid, .int .i64 nonce, .int .i64 code] tRe :: RI (.slice A n p) ps :: RT (.slice B m q) ts :: L) ∧ ∀ j, j < i → 0 ≤ vv j ∧ vv j ≤ mm j) (fun y _ => l.length - (intOf y).toNat)
  case atStart => exact ⟨0, by omega, rfl, S4.out, fun j hj => by omega⟩
  case round =>
   clear S4
   obtain ⟨i, hi, rfl, hs, hz⟩ := hrel
   have HZ := Lib.hid hz
   clear hz
   by_cases hlt : i < l.length
   ·as_aux_lemma =>
    obtain ⟨ad, rfl, hcF⟩ := RI_atN hs i hlt
    have hle := HL.out.2.2
    have hG := HL.out.2.1 i hlt
    have hmo := HM.out i hlt
    generalize hf : rd l i = f at *
    generalize hV : vv i = V at *
    generalize hmm : mm i = mx at *
    have HG := Lib.hid hG
    have HMO := Lib.hid hmo
    have HV := Lib.hid (And.intro hV hmm)
    have HFE := Lib.hid hf
    clear hG hmo hf hV hmm
    have hg1 : decide ((i : Int) < (l.length : Int)) = true := decide_eq_true (by omega)
    have hg2 : ((i : Int) < (l.length : Int)) = True := eq_true (by omega)
    have hg3 : (0 ≤ (i : Int)) = True := eq_true (by omega)
    have hg4 : decide (i < l.length) = true := decide_eq_true hlt
    have hg5 : (i < l.length) = True := eq_true hlt
    go_upto_region 7 with fail
    refine start_ (n := 7) (S := fun w' => w'.cell? ⟨b1, 0, none⟩ = some (.int .u8 kind) ∧ w'.cell? ⟨b1, 1, none⟩ = some (.int .i64 e) ∧ w'.cell? ⟨b1, 2, none⟩ = some (.int .i64 a) ∧ w'.cell? ⟨b1, 3, none⟩ = some (.int .i64 b) ∧ w'.cell? ⟨b1, 4, none⟩ = some (.int .i64 c) ∧ w'.cell? ⟨b1, 5, none⟩ = some (.int .i64 d) ∧ w'.cell? ⟨b1, 6, none⟩ = some (.slice A n p) ∧ w'.cell? ⟨b1, 7, none⟩ = some (.slice B m q) ∧ w'.cell? ⟨b1, 8, none⟩ = some (.int .i64 id) ∧ w'.cell? ⟨b1, 9, none⟩ = some (.int .i64 task) ∧ w'.cell? ⟨b1, 10, none⟩ = some (.int .i64 tick) ∧ w'.cell? ⟨b1, 11, none⟩ = some (.int .i64 wait) ∧ w'.cell? ⟨b1, 12, none⟩ = some (.int .i64 pid) ∧ w'.cell? ⟨b1, 13, none⟩ = some (.int .i64 nonce) ∧ w'.cell? ⟨b1, 14, none⟩ = some (.int .i64 code) ∧ w'.cell? (ad.add i) = some (.int .i64 f)) (ds := []) #[false, false, false, false, false, false, false] (by kernel_rfl) rfl rfl ⟨(hs.pick 1).cells 0, (hs.pick 1).cells 1, (hs.pick 1).cells 2, (hs.pick 1).cells 3, (hs.pick 1).cells 4, (hs.pick 1).cells 5, (hs.pick 1).cells 6, (hs.pick 1).cells 7, (hs.pick 1).cells 8, (hs.pick 1).cells 9, (hs.pick 1).cells 10, (hs.pick 1).cells 11, (hs.pick 1).cells 12, (hs.pick 1).cells 13, (hs.pick 1).cells 14, hcF⟩ (fun hHeld => ?_)
    have sd := hs.drew
    clear hs hcF
    generalize wr.drew = wd at *
    refine take_ (i := 0) (N := some 30) (v := ?_) (a' := ?_) #[true, false, false, false, false, false, false] rfl rfl (by as_aux_lemma => kernel_rfl) (fun _ _ _ h => h) (Or.inl ⟨by rfl, ?_⟩) hHeld ?_ ?_
    rotate_left
    ·rintro w' ⟨s0, s1, s2, s3, s4, s5, s6, s7, s8, s9, s10, s11, s12, s13, s14, s15⟩
     go_simp
     with_reducible rfl
    rotate_left
    ·simp only [Act.put, List.setIfInBounds_toArray, List.set_cons_zero, List.set_cons_succ, i64_w, i32_w]
     rfl
    refine pure_ (i := 1) (N := some 31) (v := ?_) (a' := ?_) #[true, true, false, false, false, false, false] rfl rfl (by as_aux_lemma => kernel_rfl) (fun _ _ _ h => h) (Or.inl ⟨by rfl, ?_⟩) ?_ ?_
    rotate_left
    ·intro w'
     go_simp
     with_reducible rfl
    rotate_left
    ·simp only [Act.put, List.setIfInBounds_toArray, List.set_cons_zero, List.set_cons_succ, i64_w, i32_w]
     rfl
    refine pure_ (i := 2) (N := some 32) (v := ?_) (a' := ?_) #[true, true, true, false, false, false, false] rfl rfl (by as_aux_lemma => kernel_rfl) (fun _ _ _ h => h) (Or.inl ⟨by rfl, ?_⟩) ?_ ?_
    rotate_left
    ·intro w'
     go_simp
     with_reducible rfl
    rotate_left
    ·simp only [Act.put, List.setIfInBounds_toArray, List.set_cons_zero, List.set_cons_succ, i64_w, i32_w]
     rfl
    refine pure_ (i := 3) (N := some 33) (v := ?_) (a' := ?_) #[true, true, true, true, false, false, false] rfl rfl (by as_aux_lemma => kernel_rfl) (fun _ _ _ h => h) (Or.inl ⟨by rfl, ?_⟩) ?_ ?_
    rotate_left
    ·intro w'
     go_simp
     with_reducible rfl
    rotate_left
    ·simp only [Act.put, List.setIfInBounds_toArray, List.set_cons_zero, List.set_cons_succ, i64_w, i32_w]
     rfl
    refine take_ (i := 4) (N := some 34) (v := ?_) (a' := ?_) #[true, true, true, true, true, false, false] rfl rfl (by as_aux_lemma => kernel_rfl) (fun _ _ _ h => h) (Or.inl ⟨by rfl, ?_⟩) hHeld ?_ ?_
    rotate_left
    ·rintro w' ⟨s0, s1, s2, s3, s4, s5, s6, s7, s8, s9, s10, s11, s12, s13, s14, s15⟩
     go_simp
     with_reducible rfl
    rotate_left
    ·simp only [Act.put, List.setIfInBounds_toArray, List.set_cons_zero, List.set_cons_succ, i64_w, i32_w]
     rfl
    refine one_ (i := 5) (N := some 35) #[true, true, true, true, true, true, false] rfl rfl (by as_aux_lemma => kernel_rfl) (by decide) (fun K hK => ?_)
    refine goes_ Try.func55 (by as_aux_lemma => kernel_rfl) rfl #[.agg #[.int .u8 kind, .int .i64 e, .int .i64 a, .int .i64 b, .int .i64 c, .int .i64 d, .slice A n p, .slice B m q, .int .i64 id, .int .i64 task, .int .i64 tick, .int .i64 wait, .int .i64 pid, .int .i64 nonce, .int .i64 code], .int .i64 f] (by rfl) rfl rfl (by (try simp only [List.map_toArray, List.map_cons, List.map_nil]); first | done | rfl) ?_
    with_reducible refine (HG.out _ _ sd).mono ?_
    rintro ee w5 ⟨rfl, s5⟩
    refine ⟨_, rfl, ?_⟩
    have hcF : w5.cell? (ad.add i) = some (.int .i64 f) := by
     obtain ⟨ad', e', hcF⟩ := RI_atN s5 i hlt
     injection e' with e'
     subst e'
     rw [hcF, HFE.out]
    refine hK.out _ _ ⟨(s5.pick 1).cells 0, (s5.pick 1).cells 1, (s5.pick 1).cells 2, (s5.pick 1).cells 3, (s5.pick 1).cells 4, (s5.pick 1).cells 5, (s5.pick 1).cells 6, (s5.pick 1).cells 7, (s5.pick 1).cells 8, (s5.pick 1).cells 9, (s5.pick 1).cells 10, (s5.pick 1).cells 11, (s5.pick 1).cells 12, (s5.pick 1).cells 13, (s5.pick 1).cells 14, hcF⟩ (fun hHeld => ?_)
    clear hK K sd
    refine norm_ (a' := ?_) ?_ ?_
    rotate_left
    ·show Act.put _ (some 35) _ = _
     simp only [Act.put, List.setIfInBounds_toArray, List.set_cons_zero, List.set_cons_succ, i64_w, i32_w]
     rfl
    skip
    refine pure_ (i := 6) (N := some 5) (v := ?_) (a' := ?_) #[true, true, true, true, true, true, true] rfl rfl (by as_aux_lemma => kernel_rfl) (fun _ _ _ h => h) (Or.inl ⟨by rfl, ?_⟩) ?_ ?_
    rotate_left
    ·intro w'
     go_simp
     with_reducible rfl
    rotate_left
    ·simp only [Act.put, List.setIfInBounds_toArray, List.set_cons_zero, List.set_cons_succ, i64_w, i32_w]
     rfl
    refine done_ (by as_aux_lemma => kernel_rfl) ?_
    by_cases hV0 : V < 0
    ·have hb : decide (V < 0) = true := decide_eq_true hV0
     have S5 := Lib.hid s5
     clear s5
     go_wp2
     go_returns
     rw [HR.out.1 i hlt (Or.inl (by rw [HV.out.1]; exact hV0))]
     exact ⟨rfl, S5.out.drop.drop⟩
    ·have hb : decide (V < 0) = false := decide_eq_false hV0
     have S5 := Lib.hid s5
     clear s5
     go_wp2_with fail
     refine (HMO.out _ _ S5.out).mono ?_
     rintro ee w6 ⟨rfl, s6⟩
     clear S5 hcF
     by_cases hVm : mx < V
     ·have hb2 : decide (mx < V) = true := decide_eq_true hVm
      have S6 := Lib.hid s6
      clear s6
      go_wp2
      go_returns
      rw [HR.out.1 i hlt (Or.inr (by rw [HV.out.1, HV.out.2]; exact hVm))]
      exact ⟨rfl, S6.out.drop.drop⟩
     ·have hb2 : decide (mx < V) = false := decide_eq_false hVm
      go_wp2_with fail
      all_goals go_roundw
      all_goals first | exact ⟨i + 1, by omega, by go_num, s6, fun j hj => by
       rcases Nat.lt_or_ge j i with q | q
       ·exact HZ.out j q
       ·obtain rfl : j = i := by omega
        rw [HV.out.1, HV.out.2]; omega⟩ | (simp [intOf]; omega)
   ·obtain rfl : i = l.length := by omega
    have hg1 : decide ((l.length : Int) < (l.length : Int)) = false := decide_eq_false (by omega)
    have s9 := hs.drop
    clear hs
    have hc9 := s9.cells
    have S9 := Lib.hid s9
    clear s9
    go_wp2
    go_returns
    rw [HR.out.2 HZ.out]
    exact ⟨rfl, S9.out.drop⟩
set_option maxRecDepth 100000 in
set_option maxHeartbeats 4000000 in
theorem rchk17_1 {w0 w : World} {L : List HP} (e a b c d id task tick wait pid nonce code e' a' b' c' d' id' task' tick' wait' pid' nonce' code' : Int) (A B A' B' : Option Addr) (n m p q n' m' p' q' : Nat) (ps : List Int) (ts : List TX) (l : List Int) (vv mm : Nat → Int) (eq : Bool) (SE RR : Int)
  (hl : fieldsL 1 = l) (hf : ∀ i, i < l.length → ∀ W M, St w0 W M → Calls Try.prog 55 #[.agg #[.int .u8 1, .int .i64 e, .int .i64 a, .int .i64 b, .int .i64 c, .int .i64 d, .slice A n p, .slice B m q, .int .i64 id, .int .i64 task, .int .i64 tick, .int .i64 wait, .int .i64 pid, .int .i64 nonce, .int .i64 code], .int .i64 (rd l i)] W fun ee w' => ee = .returned (.int .i64 (vv i)) ∧ St w0 w' M) (hle : l.length ≤ 7)
  (hM : ∀ i, i < l.length → ∀ W M, St w0 W M → Calls Try.prog 58 #[.int .i64 (rd l i)] W fun ee w' => ee = .returned (.int .i64 (mm i)) ∧ St w0 w' M)
  (hP : ∀ W M, St w0 W M → Calls Try.prog 57 #[.agg #[.int .u8 1, .int .i64 e, .int .i64 a, .int .i64 b, .int .i64 c, .int .i64 d, .slice A n p, .slice B m q, .int .i64 id, .int .i64 task, .int .i64 tick, .int .i64 wait, .int .i64 pid, .int .i64 nonce, .int .i64 code]] W fun ee w' => ee = .returned (.agg #[.int .u8 1, .int .i64 e', .int .i64 a', .int .i64 b', .int .i64 c', .int .i64 d', .slice A' n' p', .slice B' m' q', .int .i64 id', .int .i64 task', .int .i64 tick', .int .i64 wait', .int .i64 pid', .int .i64 nonce', .int .i64 code']) ∧ St w0 w' M)
  (hE : ∀ W x M, St w0 W (x :: RI (.slice A n p) ps :: RT (.slice B m q) ts :: M) → Calls Try.prog 25 #[.agg #[.int .u8 1, .int .i64 e, .int .i64 a, .int .i64 b, .int .i64 c, .int .i64 d, .slice A n p, .slice B m q, .int .i64 id, .int .i64 task, .int .i64 tick, .int .i64 wait, .int .i64 pid, .int .i64 nonce, .int .i64 code], .agg #[.int .u8 1, .int .i64 e', .int .i64 a', .int .i64 b', .int .i64 c', .int .i64 d', .slice A' n' p', .slice B' m' q', .int .i64 id', .int .i64 task', .int .i64 tick', .int .i64 wait', .int .i64 pid', .int .i64 nonce', .int .i64 code']] W fun ee w' => ee = .returned (.bool eq) ∧ St w0 w' (x :: RI (.slice A n p) ps :: RT (.slice B m q) ts :: M))
  (hS : ∀ W x M, St w0 W (x :: RI (.slice A n p) ps :: RT (.slice B m q) ts :: M) → Calls Try.prog 42 #[.agg #[.int .i64 a, .int .i64 b, .int .i64 c, .int .i64 d, .slice A n p, .slice B m q]] W fun ee w' => ee = .returned (.int .i64 SE) ∧ St w0 w' (x :: RI (.slice A n p) ps :: RT (.slice B m q) ts :: M))
  (hr2 : eq = false → RR = 2) (hr3 : eq = true → ∀ i, i < l.length → (vv i < 0 ∨ mm i < vv i) → RR = 3) (hr0 : eq = true → (∀ i, i < l.length → 0 ≤ vv i ∧ vv i ≤ mm i) → RR = SE)
  (h : St w0 w (RI (.slice A n p) ps :: RT (.slice B m q) ts :: L)) :
  Calls Try.prog 30 #[.agg #[.int .u8 1, .int .i64 e, .int .i64 a, .int .i64 b, .int .i64 c, .int .i64 d, .slice A n p, .slice B m q, .int .i64 id, .int .i64 task, .int .i64 tick, .int .i64 wait, .int .i64 pid, .int .i64 nonce, .int .i64 code]] w fun ee w' => ee = .returned (.int .i64 RR) ∧ St w0 w' (RI (.slice A n p) ps :: RT (.slice B m q) ts :: L) := by
 have s0 := h.alloc #[.int .u8 1, .int .i64 e, .int .i64 a, .int .i64 b, .int .i64 c, .int .i64 d, .slice A n p, .slice B m q, .int .i64 id, .int .i64 task, .int .i64 tick, .int .i64 wait, .int .i64 pid, .int .i64 nonce, .int .i64 code] tRe
 clear h
 have HP := Lib.hid hP
 have HE := Lib.hid hE
 have HL := Lib.hid (And.intro hl (And.intro hf hle))
 have HR := Lib.hid (And.intro hr2 (And.intro hr3 hr0))
 have HS := Lib.hid hS
 have HM := Lib.hid hM
 clear hP hE hl hf hle hr2 hr3 hr0 hS hM
 have hc1 := s0.cells
 go_enter Try.func30, Try.ntmps30
 go_upto_region 1 with fail
 clear hc1
 generalize w.heap.size = b1 at *
 generalize w.alloc (Obj.cells #[.int .u8 1, .int .i64 e, .int .i64 a, .int .i64 b, .int .i64 c, .int .i64 d, .slice A n p, .slice B m q, .int .i64 id, .int .i64 task, .int .i64 tick, .int .i64 wait, .int .i64 pid, .int .i64 nonce, .int .i64 code] tRe) = w1 at *
 refine start_ (n := 15) (S := fun w' => w'.cell? ⟨b1, 0, none⟩ = some (.int .u8 1) ∧ w'.cell? ⟨b1, 1, none⟩ = some (.int .i64 e) ∧ w'.cell? ⟨b1, 2, none⟩ = some (.int .i64 a) ∧ w'.cell? ⟨b1, 3, none⟩ = some (.int .i64 b) ∧ w'.cell? ⟨b1, 4, none⟩ = some (.int .i64 c) ∧ w'.cell? ⟨b1, 5, none⟩ = some (.int .i64 d) ∧ w'.cell? ⟨b1, 6, none⟩ = some (.slice A n p) ∧ w'.cell? ⟨b1, 7, none⟩ = some (.slice B m q) ∧ w'.cell? ⟨b1, 8, none⟩ = some (.int .i64 id) ∧ w'.cell? ⟨b1, 9, none⟩ = some (.int .i64 task) ∧ w'.cell? ⟨b1, 10, none⟩ = some (.int .i64 tick) ∧ w'.cell? ⟨b1, 11, none⟩ = some (.int .i64 wait) ∧ w'.cell? ⟨b1, 12, none⟩ = some (.int .i64 pid) ∧ w'.cell? ⟨b1, 13, none⟩ = some (.int .i64 nonce) ∧ w'.cell? ⟨b1, 14, none⟩ = some (.int .i64 code)) (ds := []) #[false, false, false, false, false, false, false, false, false, false, false, false, false, false, false] (by kernel_rfl) rfl rfl ⟨(s0).cells 0, (s0).cells 1, (s0).cells 2, (s0).cells 3, (s0).cells 4, (s0).cells 5, (s0).cells 6, (s0).cells 7, (s0).cells 8, (s0).cells 9, (s0).cells 10, (s0).cells 11, (s0).cells 12, (s0).cells 13, (s0).cells 14⟩ (fun hHeld => ?_)
 have sd := s0.drew
 clear s0
 generalize w1.drew = wd at *
 refine pure_ (i := 0) (N := some 6) (v := ?_) (a' := ?_) #[true, false, false, false, false, false, false, false, false, false, false, false, false, false, false] rfl rfl (by as_aux_lemma => kernel_rfl) (fun _ _ _ h => h) (Or.inl ⟨by rfl, ?_⟩) ?_ ?_
 rotate_left
 ·intro w'
  go_simp
  with_reducible rfl
 rotate_left
 ·simp only [Act.put, List.setIfInBounds_toArray, List.set_cons_zero, List.set_cons_succ, i64_w, i32_w]
  rfl
 refine take_ (i := 1) (N := some 7) (v := ?_) (a' := ?_) #[true, true, false, false, false, false, false, false, false, false, false, false, false, false, false] rfl rfl (by as_aux_lemma => kernel_rfl) (fun _ _ _ h => h) (Or.inl ⟨by rfl, ?_⟩) hHeld ?_ ?_
 rotate_left
 ·rintro w' ⟨s0, s1, s2, s3, s4, s5, s6, s7, s8, s9, s10, s11, s12, s13, s14⟩
  go_simp
  with_reducible rfl
 rotate_left
 ·simp only [Act.put, List.setIfInBounds_toArray, List.set_cons_zero, List.set_cons_succ, i64_w, i32_w]
  rfl
 refine pure_ (i := 2) (N := some 8) (v := ?_) (a' := ?_) #[true, true, true, false, false, false, false, false, false, false, false, false, false, false, false] rfl rfl (by as_aux_lemma => kernel_rfl) (fun _ _ _ h => h) (Or.inl ⟨by rfl, ?_⟩) ?_ ?_
 rotate_left
 ·intro w'
  go_simp
  with_reducible rfl
 rotate_left
 ·simp only [Act.put, List.setIfInBounds_toArray, List.set_cons_zero, List.set_cons_succ, i64_w, i32_w]
  rfl
 refine pure_ (i := 3) (N := some 9) (v := ?_) (a' := ?_) #[true, true, true, true, false, false, false, false, false, false, false, false, false, false, false] rfl rfl (by as_aux_lemma => kernel_rfl) (fun _ _ _ h => h) (Or.inl ⟨by rfl, ?_⟩) ?_ ?_
 rotate_left
 ·intro w'
  go_simp
  with_reducible rfl
 rotate_left
 ·simp only [Act.put, List.setIfInBounds_toArray, List.set_cons_zero, List.set_cons_succ, i64_w, i32_w]
  rfl
 refine pure_ (i := 4) (N := some 10) (v := ?_) (a' := ?_) #[true, true, true, true, true, false, false, false, false, false, false, false, false, false, false] rfl rfl (by as_aux_lemma => kernel_rfl) (fun _ _ _ h => h) (Or.inl ⟨by rfl, ?_⟩) ?_ ?_
 rotate_left
 ·intro w'
  go_simp
  with_reducible rfl
 rotate_left
 ·simp only [Act.put, List.setIfInBounds_toArray, List.set_cons_zero, List.set_cons_succ, i64_w, i32_w]
  rfl
 refine take_ (i := 5) (N := some 11) (v := ?_) (a' := ?_) #[true, true, true, true, true, true, false, false, false, false, false, false, false, false, false] rfl rfl (by as_aux_lemma => kernel_rfl) (fun _ _ _ h => h) (Or.inl ⟨by rfl, ?_⟩) hHeld ?_ ?_
 rotate_left
 ·rintro w' ⟨s0, s1, s2, s3, s4, s5, s6, s7, s8, s9, s10, s11, s12, s13, s14⟩
  go_simp
  with_reducible rfl
 rotate_left
 ·simp only [Act.put, List.setIfInBounds_toArray, List.set_cons_zero, List.set_cons_succ, i64_w, i32_w]
  rfl
 refine pure_ (i := 6) (N := some 12) (v := ?_) (a' := ?_) #[true, true, true, true, true, true, true, false, false, false, false, false, false, false, false] rfl rfl (by as_aux_lemma => kernel_rfl) (fun _ _ _ h => h) (Or.inl ⟨by rfl, ?_⟩) ?_ ?_
 rotate_left
 ·intro w'
  go_simp
  with_reducible rfl
 rotate_left
 ·simp only [Act.put, List.setIfInBounds_toArray, List.set_cons_zero, List.set_cons_succ, i64_w, i32_w]
  rfl
 refine pure_ (i := 7) (N := some 13) (v := ?_) (a' := ?_) #[true, true, true, true, true, true, true, true, false, false, false, false, false, false, false] rfl rfl (by as_aux_lemma => kernel_rfl) (fun _ _ _ h => h) (Or.inl ⟨by rfl, ?_⟩) ?_ ?_
 rotate_left
 ·intro w'
  go_simp
  with_reducible rfl
 rotate_left
 ·simp only [Act.put, List.setIfInBounds_toArray, List.set_cons_zero, List.set_cons_succ, i64_w, i32_w]
  rfl
 refine pure_ (i := 8) (N := some 14) (v := ?_) (a' := ?_) #[true, true, true, true, true, true, true, true, true, false, false, false, false, false, false] rfl rfl (by as_aux_lemma => kernel_rfl) (fun _ _ _ h => h) (Or.inl ⟨by rfl, ?_⟩) ?_ ?_
 rotate_left
 ·intro w'
  go_simp
  with_reducible rfl
 rotate_left
 ·simp only [Act.put, List.setIfInBounds_toArray, List.set_cons_zero, List.set_cons_succ, i64_w, i32_w]
  rfl
 refine take_ (i := 9) (N := some 15) (v := ?_) (a' := ?_) #[true, true, true, true, true, true, true, true, true, true, false, false, false, false, false] rfl rfl (by as_aux_lemma => kernel_rfl) (fun _ _ _ h => h) (Or.inl ⟨by rfl, ?_⟩) hHeld ?_ ?_
 rotate_left
 ·rintro w' ⟨s0, s1, s2, s3, s4, s5, s6, s7, s8, s9, s10, s11, s12, s13, s14⟩
  go_simp
  with_reducible rfl
 rotate_left
 ·simp only [Act.put, List.setIfInBounds_toArray, List.set_cons_zero, List.set_cons_succ, i64_w, i32_w]
  rfl
 refine take_ (i := 10) (N := some 16) (v := ?_) (a' := ?_) #[true, true, true, true, true, true, true, true, true, true, true, false, false, false, false] rfl rfl (by as_aux_lemma => kernel_rfl) (fun _ _ _ h => h) (Or.inl ⟨by rfl, ?_⟩) hHeld ?_ ?_
 rotate_left
 ·rintro w' ⟨s0, s1, s2, s3, s4, s5, s6, s7, s8, s9, s10, s11, s12, s13, s14⟩
  go_simp
  with_reducible rfl
 rotate_left
 ·simp only [Act.put, List.setIfInBounds_toArray, List.set_cons_zero, List.set_cons_succ, i64_w, i32_w]
  rfl
 refine one_ (i := 11) (N := some 17) #[true, true, true, true, true, true, true, true, true, true, true, true, false, false, false] rfl rfl (by as_aux_lemma => kernel_rfl) (by decide) (fun K hK => ?_)
 refine goes_ Try.func57 (by as_aux_lemma => kernel_rfl) rfl #[.agg #[.int .u8 1, .int .i64 e, .int .i64 a, .int .i64 b, .int .i64 c, .int .i64 d, .slice A n p, .slice B m q, .int .i64 id, .int .i64 task, .int .i64 tick, .int .i64 wait, .int .i64 pid, .int .i64 nonce, .int .i64 code]] (by rfl) rfl rfl (by (try simp only [List.map_toArray, List.map_cons, List.map_nil]); first | done | rfl) ?_
 with_reducible refine (HP.out _ _ sd).mono ?_
 rintro ee w2 ⟨rfl, s2⟩
 refine ⟨_, rfl, ?_⟩
 refine hK.out _ _ ⟨(s2).cells 0, (s2).cells 1, (s2).cells 2, (s2).cells 3, (s2).cells 4, (s2).cells 5, (s2).cells 6, (s2).cells 7, (s2).cells 8, (s2).cells 9, (s2).cells 10, (s2).cells 11, (s2).cells 12, (s2).cells 13, (s2).cells 14⟩ (fun hHeld => ?_)
 clear hK K sd
 refine norm_ (a' := ?_) ?_ ?_
 rotate_left
 ·show Act.put _ (some 17) _ = _
  simp only [Act.put, List.setIfInBounds_toArray, List.set_cons_zero, List.set_cons_succ, i64_w, i32_w]
  rfl
 refine one_ (i := 12) (N := some 18) #[true, true, true, true, true, true, true, true, true, true, true, true, true, false, false] rfl rfl (by as_aux_lemma => kernel_rfl) (by decide) (fun K hK => ?_)
 refine goes_ Try.func25 (by as_aux_lemma => kernel_rfl) rfl #[.agg #[.int .u8 1, .int .i64 e, .int .i64 a, .int .i64 b, .int .i64 c, .int .i64 d, .slice A n p, .slice B m q, .int .i64 id, .int .i64 task, .int .i64 tick, .int .i64 wait, .int .i64 pid, .int .i64 nonce, .int .i64 code], .agg #[.int .u8 1, .int .i64 e', .int .i64 a', .int .i64 b', .int .i64 c', .int .i64 d', .slice A' n' p', .slice B' m' q', .int .i64 id', .int .i64 task', .int .i64 tick', .int .i64 wait', .int .i64 pid', .int .i64 nonce', .int .i64 code']] (by rfl) rfl rfl (by (try simp only [List.map_toArray, List.map_cons, List.map_nil]); first | done | rfl) ?_
 with_reducible refine (HE.out _ _ _ s2).mono ?_
 rintro ee w3 ⟨rfl, s3⟩
 refine ⟨_, rfl, ?_⟩
 refine hK.out _ _ ⟨(s3).cells 0, (s3).cells 1, (s3).cells 2, (s3).cells 3, (s3).cells 4, (s3).cells 5, (s3).cells 6, (s3).cells 7, (s3).cells 8, (s3).cells 9, (s3).cells 10, (s3).cells 11, (s3).cells 12, (s3).cells 13, (s3).cells 14⟩ (fun hHeld => ?_)
 clear hK K s2
 refine norm_ (a' := ?_) ?_ ?_
 rotate_left
 ·show Act.put _ (some 18) _ = _
  simp only [Act.put, List.setIfInBounds_toArray, List.set_cons_zero, List.set_cons_succ, i64_w, i32_w]
  rfl
 refine pure_ (i := 13) (N := some 19) (v := ?_) (a' := ?_) #[true, true, true, true, true, true, true, true, true, true, true, true, true, true, false] rfl rfl (by as_aux_lemma => kernel_rfl) (fun _ _ _ h => h) (Or.inl ⟨by rfl, ?_⟩) ?_ ?_
 rotate_left
 ·intro w'
  go_simp
  with_reducible rfl
 rotate_left
 ·simp only [Act.put, List.setIfInBounds_toArray, List.set_cons_zero, List.set_cons_succ, i64_w, i32_w]
  rfl
 refine pure_ (i := 14) (N := some 20) (v := ?_) (a' := ?_) #[true, true, true, true, true, true, true, true, true, true, true, true, true, true, true] rfl rfl (by as_aux_lemma => kernel_rfl) (fun _ _ _ h => h) (Or.inl ⟨by rfl, ?_⟩) ?_ ?_
 rotate_left
 ·intro w'
  go_simp
  with_reducible rfl
 rotate_left
 ·simp only [Act.put, List.setIfInBounds_toArray, List.set_cons_zero, List.set_cons_succ, i64_w, i32_w]
  rfl
 refine done_ (by as_aux_lemma => kernel_rfl) ?_
 clear HP HE
 cases heq : eq
 ·have S3 := Lib.hid s3
  clear s3
  go_wp2
  go_returns
  rw [HR.out.1 heq]
  exact ⟨rfl, S3.out.drop⟩
 ·as_aux_lemma =>
  have hr := HR.out.2
  clear HR
  have HR := Lib.hid (And.intro (hr.1 heq) (hr.2 heq))
  clear hr heq
  have hc3 := s3.cells
  have S3 := Lib.hid s3
  clear s3
  go_wp2_with fail
  refine (rfields_s 1 S3.out).mono ?_
  rintro ee w4 ⟨v, rfl, s4⟩
  clear S3 hc3
  rw [HL.out.1] at s4
  obtain ⟨F, cF, rfl⟩ := RI_sl s4
  have S4 := Lib.hid s4
  clear s4
  go_wp2_with fail
  go_loopw [4] (fun y wr => ∃ i : Nat, i ≤ l.length ∧ y = .int .i64 i ∧ St w0 wr (RI (.slice F l.length cF) l :: Go.Proofs.YtkhcdichdnbcmaaR.blk b1 #[.int .u8 1, .int .i64 e, .int .i64 a, .int .i64 b, .int .i64 c, .int .i64 d, .slice A n p, .slice B m q, .int .i64 id, .int .i64 task, .int .i64 tick, .int .i64 wait, .int .i64 pid, .int .i64 nonce, .int .i64 code] tRe :: RI (.slice A n p) ps :: RT (.slice B m q) ts :: L) ∧ ∀ j, j < i → 0 ≤ vv j ∧ vv j ≤ mm j) (fun y _ => l.length - (intOf y).toNat)
  case atStart => exact ⟨0, by omega, rfl, S4.out, fun j hj => by omega⟩
  case round =>
   clear S4
   obtain ⟨i, hi, rfl, hs, hz⟩ := hrel
   have HZ := Lib.hid hz
   clear hz
   by_cases hlt : i < l.length
   ·as_aux_lemma =>
    obtain ⟨ad, rfl, hcF⟩ := RI_atN hs i hlt
    have hle := HL.out.2.2
    have hG := HL.out.2.1 i hlt
    have hmo := HM.out i hlt
    generalize hf : rd l i = f at *
    generalize hV : vv i = V at *
    generalize hmm : mm i = mx at *
    have HG := Lib.hid hG
    have HMO := Lib.hid hmo
    have HV := Lib.hid (And.intro hV hmm)
    have HFE := Lib.hid hf
    clear hG hmo hf hV hmm
    have hg1 : decide ((i : Int) < (l.length : Int)) = true := decide_eq_true (by omega)
    have hg2 : ((i : Int) < (l.length : Int)) = True := eq_true (by omega)
    have hg3 : (0 ≤ (i : Int)) = True := eq_true (by omega)
    have hg4 : decide (i < l.length) = true := decide_eq_true hlt
    have hg5 : (i < l.length) = True := eq_true hlt
    go_upto_region 7 with fail
    refine start_ (n := 7) (S := fun w' => w'.cell? ⟨b1, 0, none⟩ = some (.int .u8 1) ∧ w'.cell? ⟨b1, 1, none⟩ = some (.int .i64 e) ∧ w'.cell? ⟨b1, 2, none⟩ = some (.int .i64 a) ∧ w'.cell? ⟨b1, 3, none⟩ = some (.int .i64 b) ∧ w'.cell? ⟨b1, 4, none⟩ = some (.int .i64 c) ∧ w'.cell? ⟨b1, 5, none⟩ = some (.int .i64 d) ∧ w'.cell? ⟨b1, 6, none⟩ = some (.slice A n p) ∧ w'.cell? ⟨b1, 7, none⟩ = some (.slice B m q) ∧ w'.cell? ⟨b1, 8, none⟩ = some (.int .i64 id) ∧ w'.cell? ⟨b1, 9, none⟩ = some (.int .i64 task) ∧ w'.cell? ⟨b1, 10, none⟩ = some (.int .i64 tick) ∧ w'.cell? ⟨b1, 11, none⟩ = some (.int .i64 wait) ∧ w'.cell? ⟨b1, 12, none⟩ = some (.int .i64 pid) ∧ w'.cell? ⟨b1, 13, none⟩ = some (.int .i64 nonce) ∧ w'.cell? ⟨b1, 14, none⟩ = some (.int .i64 code) ∧ w'.cell? (ad.add i) = some (.int .i64 f)) (ds := []) #[false, false, false, false, false, false, false] (by kernel_rfl) rfl rfl ⟨(hs.pick 1).cells 0, (hs.pick 1).cells 1, (hs.pick 1).cells 2, (hs.pick 1).cells 3, (hs.pick 1).cells 4, (hs.pick 1).cells 5, (hs.pick 1).cells 6, (hs.pick 1).cells 7, (hs.pick 1).cells 8, (hs.pick 1).cells 9, (hs.pick 1).cells 10, (hs.pick 1).cells 11, (hs.pick 1).cells 12, (hs.pick 1).cells 13, (hs.pick 1).cells 14, hcF⟩ (fun hHeld => ?_)
    have sd := hs.drew
    clear hs hcF
    generalize wr.drew = wd at *
    refine take_ (i := 0) (N := some 30) (v := ?_) (a' := ?_) #[true, false, false, false, false, false, false] rfl rfl (by as_aux_lemma => kernel_rfl) (fun _ _ _ h => h) (Or.inl ⟨by rfl, ?_⟩) hHeld ?_ ?_
    rotate_left
    ·rintro w' ⟨s0, s1, s2, s3, s4, s5, s6, s7, s8, s9, s10, s11, s12, s13, s14, s15⟩
     go_simp
     with_reducible rfl
    rotate_left
    ·simp only [Act.put, List.setIfInBounds_toArray, List.set_cons_zero, List.set_cons_succ, i64_w, i32_w]
     rfl
    refine pure_ (i := 1) (N := some 31) (v := ?_) (a' := ?_) #[true, true, false, false, false, false, false] rfl rfl (by as_aux_lemma => kernel_rfl) (fun _ _ _ h => h) (Or.inl ⟨by rfl, ?_⟩) ?_ ?_
    rotate_left
    ·intro w'
     go_simp
     with_reducible rfl
    rotate_left
    ·simp only [Act.put, List.setIfInBounds_toArray, List.set_cons_zero, List.set_cons_succ, i64_w, i32_w]
     rfl
    refine pure_ (i := 2) (N := some 32) (v := ?_) (a' := ?_) #[true, true, true, false, false, false, false] rfl rfl (by as_aux_lemma => kernel_rfl) (fun _ _ _ h => h) (Or.inl ⟨by rfl, ?_⟩) ?_ ?_
    rotate_left
    ·intro w'
     go_simp
     with_reducible rfl
    rotate_left
    ·simp only [Act.put, List.setIfInBounds_toArray, List.set_cons_zero, List.set_cons_succ, i64_w, i32_w]
     rfl
    refine pure_ (i := 3) (N := some 33) (v := ?_) (a' := ?_) #[true, true, true, true, false, false, false] rfl rfl (by as_aux_lemma => kernel_rfl) (fun _ _ _ h => h) (Or.inl ⟨by rfl, ?_⟩) ?_ ?_
    rotate_left
    ·intro w'
     go_simp
     with_reducible rfl
    rotate_left
    ·simp only [Act.put, List.setIfInBounds_toArray, List.set_cons_zero, List.set_cons_succ, i64_w, i32_w]
     rfl
    refine take_ (i := 4) (N := some 34) (v := ?_) (a' := ?_) #[true, true, true, true, true, false, false] rfl rfl (by as_aux_lemma => kernel_rfl) (fun _ _ _ h => h) (Or.inl ⟨by rfl, ?_⟩) hHeld ?_ ?_
    rotate_left
    ·rintro w' ⟨s0, s1, s2, s3, s4, s5, s6, s7, s8, s9, s10, s11, s12, s13, s14, s15⟩
     go_simp
     with_reducible rfl
    rotate_left
    ·simp only [Act.put, List.setIfInBounds_toArray, List.set_cons_zero, List.set_cons_succ, i64_w, i32_w]
     rfl
    refine one_ (i := 5) (N := some 35) #[true, true, true, true, true, true, false] rfl rfl (by as_aux_lemma => kernel_rfl) (by decide) (fun K hK => ?_)
    refine goes_ Try.func55 (by as_aux_lemma => kernel_rfl) rfl #[.agg #[.int .u8 1, .int .i64 e, .int .i64 a, .int .i64 b, .int .i64 c, .int .i64 d, .slice A n p, .slice B m q, .int .i64 id, .int .i64 task, .int .i64 tick, .int .i64 wait, .int .i64 pid, .int .i64 nonce, .int .i64 code], .int .i64 f] (by rfl) rfl rfl (by (try simp only [List.map_toArray, List.map_cons, List.map_nil]); first | done | rfl) ?_
    with_reducible refine (HG.out _ _ sd).mono ?_
    rintro ee w5 ⟨rfl, s5⟩
    refine ⟨_, rfl, ?_⟩
    have hcF : w5.cell? (ad.add i) = some (.int .i64 f) := by
     obtain ⟨ad', e', hcF⟩ := RI_atN s5 i hlt
     injection e' with e'
     subst e'
     rw [hcF, HFE.out]
    refine hK.out _ _ ⟨(s5.pick 1).cells 0, (s5.pick 1).cells 1, (s5.pick 1).cells 2, (s5.pick 1).cells 3, (s5.pick 1).cells 4, (s5.pick 1).cells 5, (s5.pick 1).cells 6, (s5.pick 1).cells 7, (s5.pick 1).cells 8, (s5.pick 1).cells 9, (s5.pick 1).cells 10, (s5.pick 1).cells 11, (s5.pick 1).cells 12, (s5.pick 1).cells 13, (s5.pick 1).cells 14, hcF⟩ (fun hHeld => ?_)
    clear hK K sd
    refine norm_ (a' := ?_) ?_ ?_
    rotate_left
    ·show Act.put _ (some 35) _ = _
     simp only [Act.put, List.setIfInBounds_toArray, List.set_cons_zero, List.set_cons_succ, i64_w, i32_w]
     rfl
    skip
    refine pure_ (i := 6) (N := some 5) (v := ?_) (a' := ?_) #[true, true, true, true, true, true, true] rfl rfl (by as_aux_lemma => kernel_rfl) (fun _ _ _ h => h) (Or.inl ⟨by rfl, ?_⟩) ?_ ?_
    rotate_left
    ·intro w'
     go_simp
     with_reducible rfl
    rotate_left
    ·simp only [Act.put, List.setIfInBounds_toArray, List.set_cons_zero, List.set_cons_succ, i64_w, i32_w]
     rfl
    refine done_ (by as_aux_lemma => kernel_rfl) ?_
    by_cases hV0 : V < 0
    ·have hb : decide (V < 0) = true := decide_eq_true hV0
     have S5 := Lib.hid s5
     clear s5
     go_wp2
     go_returns
     rw [HR.out.1 i hlt (Or.inl (by rw [HV.out.1]; exact hV0))]
     exact ⟨rfl, S5.out.drop.drop⟩
    ·have hb : decide (V < 0) = false := decide_eq_false hV0
     have S5 := Lib.hid s5
     clear s5
     go_wp2_with fail
     refine (HMO.out _ _ S5.out).mono ?_
     rintro ee w6 ⟨rfl, s6⟩
     clear S5 hcF
     by_cases hVm : mx < V
     ·have hb2 : decide (mx < V) = true := decide_eq_true hVm
      have S6 := Lib.hid s6
      clear s6
      go_wp2
      go_returns
      rw [HR.out.1 i hlt (Or.inr (by rw [HV.out.1, HV.out.2]; exact hVm))]
      exact ⟨rfl, S6.out.drop.drop⟩
     ·have hb2 : decide (mx < V) = false := decide_eq_false hVm
      go_wp2_with fail
      all_goals go_roundw
      all_goals first | exact ⟨i + 1, by omega, by go_num, s6, fun j hj => by
       rcases Nat.lt_or_ge j i with q | q
       ·exact HZ.out j q
       ·obtain rfl : j = i := by omega
        rw [HV.out.1, HV.out.2]; omega⟩ | (simp [intOf]; omega)
   ·obtain rfl : i = l.length := by omega
    have hg1 : decide ((l.length : Int) < (l.length : Int)) = false := decide_eq_false (by omega)
    have s9 := hs.drop
    clear hs
    have hc9 := s9.cells
    have S9 := Lib.hid s9
    clear s9
    go_wp2_with fail
    refine (HS.out _ _ _ S9.out).mono ?_
    rintro ee w7 ⟨rfl, s10⟩
    clear S9 hc9
    have S10 := Lib.hid s10
    clear s10
    go_wp2
    go_returns
    rw [HR.out.2 HZ.out]
    exact ⟨rfl, S10.out.drop⟩
end Go.Proofs.YtkhcdichdnbcmaaR
end
section
namespace Go.Proofs.YtkhcdichdnbcmaaR
open Go.RowKit Go.Proofs.YtkhcdichdnbcmaaR Go.Proofs.YtkhcdichdnbcmaaR.Ext Go.Proofs.YtkhcdichdnbcmaaR.C Go.Proofs.YtkhcdichdnbcmaaR.Sp Go.Proofs.YtkhcdichdnbcmaaRW.PrintWords Go.Proofs.YtkhcdichdnbcmaaRW.PrintLast
set_option linter.unusedVariables false
set_option linter.unusedSimpArgs false
theorem nine_cases (k : Int) : (k = 1 ∨ k = 2 ∨ k = 3 ∨ k = 4 ∨ k = 5 ∨ k = 6 ∨ k = 7 ∨ k = 8 ∨ k = 9) ∨ (k ≠ 1 ∧ k ≠ 2 ∧ k ≠ 3 ∧ k ≠ 4 ∧ k ≠ 5 ∧ k ≠ 6 ∧ k ≠ 7 ∧ k ≠ 8 ∧ k ≠ 9) := by omega
theorem fields_all (k : Int) : (fieldsL k).length ≤ 7 ∧ (∀ i, i < (fieldsL k).length → 0 ≤ rd (fieldsL k) i ∧ rd (fieldsL k) i < 7) ∧ (∀ j, j < 7 → (usJ k j = true ↔ (j : Int) ∈ fieldsL k)) := by
 rcases nine_cases k with h | h
 ·rcases h with rfl | rfl | rfl | rfl | rfl | rfl | rfl | rfl | rfl <;> exact ⟨by decide +kernel, by decide +kernel, by decide +kernel⟩
 ·obtain ⟨h1, h2, h3, h4, h5, h6, h7, h8, h9⟩ := h
  have e : fieldsL k = [] := by unfold fieldsL; rw [if_neg h1, if_neg h2, if_neg h3, if_neg h4, if_neg h5, if_neg h6, if_neg h7, if_neg h8, if_neg h9]
  have u : usesB k = [false, false, false, false, false, false, false] := by unfold usesB; rw [if_neg h1, if_neg h2, if_neg h3, if_neg h4, if_neg h5, if_neg h6, if_neg h7, if_neg h8, if_neg h9]
  rw [e]
  refine ⟨by simp, by simp, fun j hj => ?_⟩
  unfold usJ
  rw [u]
  have : j = 0 ∨ j = 1 ∨ j = 2 ∨ j = 3 ∨ j = 4 ∨ j = 5 ∨ j = 6 := by omega
  rcases this with rfl | rfl | rfl | rfl | rfl | rfl | rfl <;> simp
theorem rd_at' (l : List Int) (i : Nat) (h : i < l.length) : rd l (i : Int) = l[i] := by simp [rd, h]
theorem rd_vals (r : RE) (f : Int) : rd (valsR r) f = vJ r f.toNat := by simp [rd, vJ]
def xJ (r : RE) (l : List Int) (i j : Nat) : Int := if (j : Int) ∈ l.take i then vJ r j else 0
theorem xJ_0 (r : RE) (l : List Int) (j : Nat) : xJ r l 0 j = 0 := by simp [xJ]
theorem xJ_s (r : RE) (l : List Int) (i : Nat) (hi : i < l.length) (j : Nat) : xJ r l (i + 1) j = if rd l i = (j : Int) then rd (valsR r) (rd l i) else xJ r l i j := by
 unfold xJ
 rw [List.take_succ_eq_append_getElem hi, rd_at' l i hi]
 simp only [List.mem_append, List.mem_singleton]
 by_cases h : l[i] = (j : Int)
 ·rw [if_pos h, if_pos (.inr h.symm), h, rd_vals, Int.toNat_natCast]
 ·rw [if_neg h]
  have : ¬ (j : Int) = l[i] := fun q => h q.symm
  simp only [this, or_false]
def pJ (r : RE) (j : Nat) : Int := if usJ r.kind j = true then vJ r j else 0
theorem xJ_end (r : RE) (j : Nat) (hj : j < 7) : xJ r (fieldsL r.kind) (fieldsL r.kind).length j = pJ r j := by
 unfold xJ pJ
 rw [List.take_length]
 have := (fields_all r.kind).2.2 j hj
 by_cases h : (j : Int) ∈ fieldsL r.kind
 ·rw [if_pos h, if_pos (this.2 h)]
 ·rw [if_neg h, if_neg (fun q => h (this.1 q))]
def plainR (r : RE) : RE := ⟨r.kind, pJ r 0, if r.kind = 1 then r.spec else zSP, pJ r 1, pJ r 2, pJ r 3, pJ r 4, pJ r 5, pJ r 6, if r.kind = 8 then r.code else 0⟩
theorem pz (r : RE) (j : Nat) : vJ r j = pJ r j ↔ zeroV (usJ r.kind j) (vJ r j) = true := by
 unfold pJ zeroV
 cases usJ r.kind j <;> simp
theorem plain_iff (r : RE) (hk : 1 ≤ r.kind ∧ r.kind ≤ 9) : r = plainR r ↔ shapeR r = true ∧ badA (fldK r.kind) (valsR r) = false := by
 rw [badA_iff, all7]
 rw [← pz, ← pz, ← pz, ← pz, ← pz, ← pz, ← pz]
 unfold shapeR plainR
 obtain ⟨k, e, s, i, t, ti, wa, pi, no, co⟩ := r
 simp only at hk ⊢
 have v0 : vJ ⟨k, e, s, i, t, ti, wa, pi, no, co⟩ 0 = e := rfl
 have v1 : vJ ⟨k, e, s, i, t, ti, wa, pi, no, co⟩ 1 = i := rfl
 have v2 : vJ ⟨k, e, s, i, t, ti, wa, pi, no, co⟩ 2 = t := rfl
 have v3 : vJ ⟨k, e, s, i, t, ti, wa, pi, no, co⟩ 3 = ti := rfl
 have v4 : vJ ⟨k, e, s, i, t, ti, wa, pi, no, co⟩ 4 = wa := rfl
 have v5 : vJ ⟨k, e, s, i, t, ti, wa, pi, no, co⟩ 5 = pi := rfl
 have v6 : vJ ⟨k, e, s, i, t, ti, wa, pi, no, co⟩ 6 = no := rfl
 rw [v0, v1, v2, v3, v4, v5, v6]
 simp only [RE.mk.injEq, true_and, Bool.and_eq_true, Bool.or_eq_true, decide_eq_true_eq]
 have hc : (co = if k = 8 then co else 0) ↔ (k = 8 ∨ co = 0) := by split <;> simp_all
 have hs : (s = if k = 1 then s else zSP) ↔ (k = 1 ∨ s = zSP) := by split <;> simp_all
 rw [hc, hs]
 grind
def mostI (f : Int) : Int := if f = 1 then 2147483648 else if f = 2 then 3 else 1099511627776
theorem most_mostJ (f : Int) (h : 0 ≤ f ∧ f < 7) : mostI f = mostJ f.toNat := by
 have : f = 0 ∨ f = 1 ∨ f = 2 ∨ f = 3 ∨ f = 4 ∨ f = 5 ∨ f = 6 := by omega
 rcases this with rfl | rfl | rfl | rfl | rfl | rfl | rfl <;> decide
theorem rmost_s {w0 w : World} {L : List HP} (f : Int) (h : St w0 w L) : Calls Try.prog 58 #[.int .i64 f] w fun ee w' => ee = .returned (.int .i64 (mostI f)) ∧ St w0 w' L := by
 refine (sacristanref17_most.calls f (mostI f) w (by unfold sacristanref17_most.f mostI; (repeat' split) <;> rfl)).mono ?_
 rintro ee w' ⟨rfl, n, rfl⟩
 exact ⟨rfl, h.drewN n⟩
theorem badB_all (r : RE) (h : ∀ i, i < (fieldsL r.kind).length → 0 ≤ rd (valsR r) (rd (fieldsL r.kind) i) ∧ rd (valsR r) (rd (fieldsL r.kind) i) ≤ mostI (rd (fieldsL r.kind) i)) : badB (fldK r.kind) (valsR r) = false := by
 rw [badB_iff]
 intro j hj hu
 obtain ⟨h1, h2, h3⟩ := fields_all r.kind
 obtain ⟨i, hi, he⟩ := List.mem_iff_getElem.1 ((h3 j hj).1 hu)
 have q := h i hi
 rw [rd_at' _ i hi, he, rd_vals, most_mostJ _ (by omega), Int.toNat_natCast] at q
 omega
theorem badB_one (r : RE) (i : Nat) (hi : i < (fieldsL r.kind).length) (h : rd (valsR r) (rd (fieldsL r.kind) i) < 0 ∨ mostI (rd (fieldsL r.kind) i) < rd (valsR r) (rd (fieldsL r.kind) i)) : badB (fldK r.kind) (valsR r) = true := by
 cases hb : badB (fldK r.kind) (valsR r) with
 | true => rfl
 | false =>
  rw [badB_iff] at hb
  obtain ⟨h1, h2, h3⟩ := fields_all r.kind
  have hf := h2 i hi
  have hj : (rd (fieldsL r.kind) i).toNat < 7 := by omega
  have hm : (((rd (fieldsL r.kind) i).toNat : Nat) : Int) ∈ fieldsL r.kind := by
   rw [Int.toNat_of_nonneg hf.1, rd_at' _ i hi]
   exact List.getElem_mem hi
  have := hb _ hj ((h3 _ hj).2 hm)
  rw [rd_vals, most_mostJ _ hf] at h
  exact absurd h this
theorem recE_eq0 (r : RE) (hk : 1 ≤ r.kind ∧ r.kind ≤ 9) (h : ¬ r = plainR r) : recE r = 2 := by
 rw [plain_iff r hk] at h
 unfold recE
 split
 ·rfl
 ·rename_i hs
  split
  ·rfl
  ·rename_i ha
   exact absurd ⟨by simpa using hs, by simpa using ha⟩ h
theorem recE_eq1 (r : RE) (hk : 1 ≤ r.kind ∧ r.kind ≤ 9) (h : r = plainR r) : recE r = if badB (fldK r.kind) (valsR r) = true then 3 else if r.kind = 1 then specE r.spec else 0 := by
 obtain ⟨h1, h2⟩ := (plain_iff r hk).1 h
 unfold recE
 rw [if_neg (by rw [h1]; decide), if_neg (by rw [h2]; decide)]
theorem recE_out (r : RE) (h : ¬ (1 ≤ r.kind ∧ r.kind ≤ 9)) : recE r = 2 := by
 unfold recE shapeR
 rw [if_pos]
 simp only [Bool.and_eq_false_iff]
 exact .inl (.inl (decide_eq_false h))
end Go.Proofs.YtkhcdichdnbcmaaR
end
section
namespace Go.Proofs.YtkhcdichdnbcmaaR
open Go.RowKit Go.Proofs.YtkhcdichdnbcmaaR Go.Proofs.YtkhcdichdnbcmaaR.Ext Go.Proofs.YtkhcdichdnbcmaaR.C Go.Proofs.YtkhcdichdnbcmaaR.Sp Go.Proofs.YtkhcdichdnbcmaaRW.PrintWords Go.Proofs.YtkhcdichdnbcmaaRW.PrintLast
set_option linter.unusedVariables false
set_option linter.unusedSimpArgs false
set_option maxRecDepth 100000 in
set_option maxHeartbeats 1000000 in
theorem rchk17s_1 {w0 w : World} {L : List HP} (e a b c d id task tick wait pid nonce code : Int) {A B : Option Addr} {n m p q : Nat} (ps : List Int) (ts : List TX) (hp : ps.length ≤ 1000) (ht : ts.length ≤ 1000) (h : St w0 w (RI (.slice A n p) ps :: RT (.slice B m q) ts :: L)) :
  Calls Try.prog 30 #[.agg (Rec15 1 e a b c d A n p B m q id task tick wait pid nonce code)] w fun ee w' => ee = .returned (.int .i64 (recE ⟨1, e, spOf a b c d ps ts, id, task, tick, wait, pid, nonce, code⟩)) ∧ St w0 w' (RI (.slice A n p) ps :: RT (.slice B m q) ts :: L) := by
 obtain ⟨r, hr⟩ : ∃ r : RE, r = ⟨1, e, spOf a b c d ps ts, id, task, tick, wait, pid, nonce, code⟩ := ⟨_, rfl⟩
 rw [← hr]
 have hrk : r.kind = 1 := by rw [hr]
 have hrs : r.spec = spOf a b c d ps ts := by rw [hr]
 have hrc : r.code = code := by rw [hr]
 have hv : valsR r = [e, id, task, tick, wait, pid, nonce] := by rw [hr]; rfl
 obtain ⟨f1, f2, f3⟩ := fields_all r.kind
 have hP : (⟨1, (xJ r (fieldsL r.kind) (fieldsL r.kind).length 0), spOf a b c d ps ts, (xJ r (fieldsL r.kind) (fieldsL r.kind).length 1), (xJ r (fieldsL r.kind) (fieldsL r.kind).length 2), (xJ r (fieldsL r.kind) (fieldsL r.kind).length 3), (xJ r (fieldsL r.kind) (fieldsL r.kind).length 4), (xJ r (fieldsL r.kind) (fieldsL r.kind).length 5), (xJ r (fieldsL r.kind) (fieldsL r.kind).length 6), 0⟩ : RE) = plainR r := by
  unfold plainR
  rw [xJ_end r 0 (by omega), xJ_end r 1 (by omega), xJ_end r 2 (by omega), xJ_end r 3 (by omega), xJ_end r 4 (by omega), xJ_end r 5 (by omega), xJ_end r 6 (by omega)]
  simp [hrk, hrs, hrc]
 refine rchk17_1 e a b c d id task tick wait pid nonce code (xJ r (fieldsL r.kind) (fieldsL r.kind).length 0) a b c d (xJ r (fieldsL r.kind) (fieldsL r.kind).length 1) (xJ r (fieldsL r.kind) (fieldsL r.kind).length 2) (xJ r (fieldsL r.kind) (fieldsL r.kind).length 3) (xJ r (fieldsL r.kind) (fieldsL r.kind).length 4) (xJ r (fieldsL r.kind) (fieldsL r.kind).length 5) (xJ r (fieldsL r.kind) (fieldsL r.kind).length 6) 0 A B A B n m p q n m p q ps ts (fieldsL r.kind) (fun i => rd (valsR r) (rd (fieldsL r.kind) i)) (fun i => mostI (rd (fieldsL r.kind) i)) (decide (r = plainR r)) (specE (spOf a b c d ps ts)) (recE r) (by rw [hrk]) (fun i hi W M hs => ?_) f1 (fun i hi W M hs => rmost_s _ hs) (fun W M hs => ?_) (fun W x M hs => ?_) (fun W x M hs => ?_) (fun he => ?_) (fun he i hi hb => ?_) (fun he hb => ?_) h
 ·have q := rget_s (w0 := w0) (w := W) (L := M) 1 e a b c d id task tick wait pid nonce code A B n m p q (rd (fieldsL r.kind) i) (f2 i hi) hs
  rw [← hv] at q
  exact q
 ·exact rplain_1 e a b c d id task tick wait pid nonce code A B n m p q (fieldsL r.kind) (xJ r (fieldsL r.kind)) (by rw [hrk]) f2 (fun j hj => xJ_0 r _ j) (fun i hi j hj => by rw [← hv]; exact xJ_s r _ i hi j) f1 hs
 ·obtain ⟨c1, e1, l1⟩ := (hs.pick 1).rowKC
  obtain ⟨c2, e2, l2⟩ := (hs.pick 2).rowKC
  have hq : decide ((⟨1, e, spOf a b c d ps ts, id, task, tick, wait, pid, nonce, code⟩ : RE) = (⟨1, (xJ r (fieldsL r.kind) (fieldsL r.kind).length 0), spOf a b c d ps ts, (xJ r (fieldsL r.kind) (fieldsL r.kind).length 1), (xJ r (fieldsL r.kind) (fieldsL r.kind).length 2), (xJ r (fieldsL r.kind) (fieldsL r.kind).length 3), (xJ r (fieldsL r.kind) (fieldsL r.kind).length 4), (xJ r (fieldsL r.kind) (fieldsL r.kind).length 5), (xJ r (fieldsL r.kind) (fieldsL r.kind).length 6), 0⟩ : RE)) = decide (r = plainR r) := by rw [hP, ← hr]
  rw [← hq]
  subst e1; subst e2
  refine (sacristankit_EqualRec.calls 1001 1 e a b c d A p ps B q ts id task tick wait pid nonce code 1 (xJ r (fieldsL r.kind) (fieldsL r.kind).length 0) a b c d A p ps B q ts (xJ r (fieldsL r.kind) (fieldsL r.kind).length 1) (xJ r (fieldsL r.kind) (fieldsL r.kind).length 2) (xJ r (fieldsL r.kind) (fieldsL r.kind).length 3) (xJ r (fieldsL r.kind) (fieldsL r.kind).length 4) (xJ r (fieldsL r.kind) (fieldsL r.kind).length 5) (xJ r (fieldsL r.kind) (fieldsL r.kind).length 6) 0 _ W c1 l1 c2 l2 c1 l1 c2 l2 (PureC.eqRec 1001 _ _ _ _ _ _ _ _ _ _ _ _ _ _ _ _ _ _ _ _ _ _ _ _ _ _ _ _ _ _ hp ht (by omega) (by omega))).mono ?_
  rintro ee w' ⟨rfl, hb⟩
  exact ⟨rfl, hs.more hb⟩
 ·obtain ⟨c1, e1, l1⟩ := (hs.pick 1).rowKC
  obtain ⟨c2, e2, l2⟩ := (hs.pick 2).rowKC
  subst e1; subst e2
  refine (sacristanref13_Check.calls 30 a b c d A p ps B q ts _ W c1 l1 c2 l2 (PureR.check_eq 0 a b c d ps ts)).mono ?_
  rintro ee w' ⟨rfl, hb⟩
  exact ⟨rfl, hs.more hb⟩
 ·exact recE_eq0 r (by rw [hrk]; omega) (of_decide_eq_false he)
 ·rw [recE_eq1 r (by rw [hrk]; omega) (of_decide_eq_true he), if_pos (badB_one r i hi hb)]
 ·rw [recE_eq1 r (by rw [hrk]; omega) (of_decide_eq_true he), if_neg (by rw [badB_all r hb]; decide), if_pos hrk, hrs]
set_option maxRecDepth 100000 in
set_option maxHeartbeats 1000000 in
theorem rchk17s_8 {w0 w : World} {L : List HP} (e a b c d id task tick wait pid nonce code : Int) {A B : Option Addr} {n m p q : Nat} (ps : List Int) (ts : List TX) (hp : ps.length ≤ 1000) (ht : ts.length ≤ 1000) (h : St w0 w (RI (.slice A n p) ps :: RT (.slice B m q) ts :: L)) :
  Calls Try.prog 30 #[.agg (Rec15 8 e a b c d A n p B m q id task tick wait pid nonce code)] w fun ee w' => ee = .returned (.int .i64 (recE ⟨8, e, spOf a b c d ps ts, id, task, tick, wait, pid, nonce, code⟩)) ∧ St w0 w' (RI (.slice A n p) ps :: RT (.slice B m q) ts :: L) := by
 obtain ⟨r, hr⟩ : ∃ r : RE, r = ⟨8, e, spOf a b c d ps ts, id, task, tick, wait, pid, nonce, code⟩ := ⟨_, rfl⟩
 rw [← hr]
 have hrk : r.kind = 8 := by rw [hr]
 have hrs : r.spec = spOf a b c d ps ts := by rw [hr]
 have hrc : r.code = code := by rw [hr]
 have hv : valsR r = [e, id, task, tick, wait, pid, nonce] := by rw [hr]; rfl
 obtain ⟨f1, f2, f3⟩ := fields_all r.kind
 have hP : (⟨8, (xJ r (fieldsL r.kind) (fieldsL r.kind).length 0), zSP, (xJ r (fieldsL r.kind) (fieldsL r.kind).length 1), (xJ r (fieldsL r.kind) (fieldsL r.kind).length 2), (xJ r (fieldsL r.kind) (fieldsL r.kind).length 3), (xJ r (fieldsL r.kind) (fieldsL r.kind).length 4), (xJ r (fieldsL r.kind) (fieldsL r.kind).length 5), (xJ r (fieldsL r.kind) (fieldsL r.kind).length 6), code⟩ : RE) = plainR r := by
  unfold plainR
  rw [xJ_end r 0 (by omega), xJ_end r 1 (by omega), xJ_end r 2 (by omega), xJ_end r 3 (by omega), xJ_end r 4 (by omega), xJ_end r 5 (by omega), xJ_end r 6 (by omega)]
  simp [hrk, hrs, hrc]
 refine rchk17_N 8 e a b c d id task tick wait pid nonce code (xJ r (fieldsL r.kind) (fieldsL r.kind).length 0) 0 0 0 0 (xJ r (fieldsL r.kind) (fieldsL r.kind).length 1) (xJ r (fieldsL r.kind) (fieldsL r.kind).length 2) (xJ r (fieldsL r.kind) (fieldsL r.kind).length 3) (xJ r (fieldsL r.kind) (fieldsL r.kind).length 4) (xJ r (fieldsL r.kind) (fieldsL r.kind).length 5) (xJ r (fieldsL r.kind) (fieldsL r.kind).length 6) code A B none none n m p q 0 0 0 0 ps ts (fieldsL r.kind) (fun i => rd (valsR r) (rd (fieldsL r.kind) i)) (fun i => mostI (rd (fieldsL r.kind) i)) (decide (r = plainR r)) (specE (spOf a b c d ps ts)) (recE r) (by omega) (by rw [hrk]) (fun i hi W M hs => ?_) f1 (fun i hi W M hs => rmost_s _ hs) (fun W M hs => ?_) (fun W x M hs => ?_) (fun W x M hs => ?_) (fun he => ?_) (fun he i hi hb => ?_) (fun he hb => ?_) h
 ·have q := rget_s (w0 := w0) (w := W) (L := M) 8 e a b c d id task tick wait pid nonce code A B n m p q (rd (fieldsL r.kind) i) (f2 i hi) hs
  rw [← hv] at q
  exact q
 ·exact rplain_8 e a b c d id task tick wait pid nonce code A B n m p q (fieldsL r.kind) (xJ r (fieldsL r.kind)) (by rw [hrk]) f2 (fun j hj => xJ_0 r _ j) (fun i hi j hj => by rw [← hv]; exact xJ_s r _ i hi j) f1 hs
 ·obtain ⟨c1, e1, l1⟩ := (hs.pick 1).rowKC
  obtain ⟨c2, e2, l2⟩ := (hs.pick 2).rowKC
  have hq : decide ((⟨8, e, spOf a b c d ps ts, id, task, tick, wait, pid, nonce, code⟩ : RE) = (⟨8, (xJ r (fieldsL r.kind) (fieldsL r.kind).length 0), zSP, (xJ r (fieldsL r.kind) (fieldsL r.kind).length 1), (xJ r (fieldsL r.kind) (fieldsL r.kind).length 2), (xJ r (fieldsL r.kind) (fieldsL r.kind).length 3), (xJ r (fieldsL r.kind) (fieldsL r.kind).length 4), (xJ r (fieldsL r.kind) (fieldsL r.kind).length 5), (xJ r (fieldsL r.kind) (fieldsL r.kind).length 6), code⟩ : RE)) = decide (r = plainR r) := by rw [hP, ← hr]
  rw [← hq]
  subst e1; subst e2
  refine (sacristankit_EqualRec.calls 1001 8 e a b c d A p ps B q ts id task tick wait pid nonce code 8 (xJ r (fieldsL r.kind) (fieldsL r.kind).length 0) 0 0 0 0 none 0 [] none 0 [] (xJ r (fieldsL r.kind) (fieldsL r.kind).length 1) (xJ r (fieldsL r.kind) (fieldsL r.kind).length 2) (xJ r (fieldsL r.kind) (fieldsL r.kind).length 3) (xJ r (fieldsL r.kind) (fieldsL r.kind).length 4) (xJ r (fieldsL r.kind) (fieldsL r.kind).length 5) (xJ r (fieldsL r.kind) (fieldsL r.kind).length 6) code _ W c1 l1 c2 l2 (Kd.C_nil _ _) (Nat.le_refl _) (Kd.C_nil _ _) (Nat.le_refl _) (PureC.eqRec 1001 _ _ _ _ _ _ _ _ _ _ _ _ _ _ _ _ _ _ _ _ _ _ _ _ _ _ _ _ _ _ hp ht (by omega) (by omega))).mono ?_
  rintro ee w' ⟨rfl, hb⟩
  exact ⟨rfl, hs.more hb⟩
 ·obtain ⟨c1, e1, l1⟩ := (hs.pick 1).rowKC
  obtain ⟨c2, e2, l2⟩ := (hs.pick 2).rowKC
  subst e1; subst e2
  refine (sacristanref13_Check.calls 30 a b c d A p ps B q ts _ W c1 l1 c2 l2 (PureR.check_eq 0 a b c d ps ts)).mono ?_
  rintro ee w' ⟨rfl, hb⟩
  exact ⟨rfl, hs.more hb⟩
 ·exact recE_eq0 r (by rw [hrk]; omega) (of_decide_eq_false he)
 ·rw [recE_eq1 r (by rw [hrk]; omega) (of_decide_eq_true he), if_pos (badB_one r i hi hb)]
 ·rw [recE_eq1 r (by rw [hrk]; omega) (of_decide_eq_true he), if_neg (by rw [badB_all r hb]; decide), if_neg (by rw [hrk]; omega)]
set_option maxRecDepth 100000 in
set_option maxHeartbeats 1000000 in
theorem rchk17s_N {w0 w : World} {L : List HP} (kind e a b c d id task tick wait pid nonce code : Int) {A B : Option Addr} {n m p q : Nat} (ps : List Int) (ts : List TX) (hp : ps.length ≤ 1000) (ht : ts.length ≤ 1000) (hk : 2 ≤ kind ∧ kind ≤ 9) (hk8 : kind ≠ 8) (h : St w0 w (RI (.slice A n p) ps :: RT (.slice B m q) ts :: L)) :
  Calls Try.prog 30 #[.agg (Rec15 kind e a b c d A n p B m q id task tick wait pid nonce code)] w fun ee w' => ee = .returned (.int .i64 (recE ⟨kind, e, spOf a b c d ps ts, id, task, tick, wait, pid, nonce, code⟩)) ∧ St w0 w' (RI (.slice A n p) ps :: RT (.slice B m q) ts :: L) := by
 obtain ⟨r, hr⟩ : ∃ r : RE, r = ⟨kind, e, spOf a b c d ps ts, id, task, tick, wait, pid, nonce, code⟩ := ⟨_, rfl⟩
 rw [← hr]
 have hrk : r.kind = kind := by rw [hr]
 have hrs : r.spec = spOf a b c d ps ts := by rw [hr]
 have hrc : r.code = code := by rw [hr]
 have hv : valsR r = [e, id, task, tick, wait, pid, nonce] := by rw [hr]; rfl
 obtain ⟨f1, f2, f3⟩ := fields_all r.kind
 have hP : (⟨kind, (xJ r (fieldsL r.kind) (fieldsL r.kind).length 0), zSP, (xJ r (fieldsL r.kind) (fieldsL r.kind).length 1), (xJ r (fieldsL r.kind) (fieldsL r.kind).length 2), (xJ r (fieldsL r.kind) (fieldsL r.kind).length 3), (xJ r (fieldsL r.kind) (fieldsL r.kind).length 4), (xJ r (fieldsL r.kind) (fieldsL r.kind).length 5), (xJ r (fieldsL r.kind) (fieldsL r.kind).length 6), 0⟩ : RE) = plainR r := by
  unfold plainR
  rw [xJ_end r 0 (by omega), xJ_end r 1 (by omega), xJ_end r 2 (by omega), xJ_end r 3 (by omega), xJ_end r 4 (by omega), xJ_end r 5 (by omega), xJ_end r 6 (by omega)]
  simp [hrk, hrs, hrc, hk8, show kind ≠ 1 by omega]
 refine rchk17_N kind e a b c d id task tick wait pid nonce code (xJ r (fieldsL r.kind) (fieldsL r.kind).length 0) 0 0 0 0 (xJ r (fieldsL r.kind) (fieldsL r.kind).length 1) (xJ r (fieldsL r.kind) (fieldsL r.kind).length 2) (xJ r (fieldsL r.kind) (fieldsL r.kind).length 3) (xJ r (fieldsL r.kind) (fieldsL r.kind).length 4) (xJ r (fieldsL r.kind) (fieldsL r.kind).length 5) (xJ r (fieldsL r.kind) (fieldsL r.kind).length 6) 0 A B none none n m p q 0 0 0 0 ps ts (fieldsL r.kind) (fun i => rd (valsR r) (rd (fieldsL r.kind) i)) (fun i => mostI (rd (fieldsL r.kind) i)) (decide (r = plainR r)) (specE (spOf a b c d ps ts)) (recE r) (by omega) (by rw [hrk]) (fun i hi W M hs => ?_) f1 (fun i hi W M hs => rmost_s _ hs) (fun W M hs => ?_) (fun W x M hs => ?_) (fun W x M hs => ?_) (fun he => ?_) (fun he i hi hb => ?_) (fun he hb => ?_) h
 ·have q := rget_s (w0 := w0) (w := W) (L := M) kind e a b c d id task tick wait pid nonce code A B n m p q (rd (fieldsL r.kind) i) (f2 i hi) hs
  rw [← hv] at q
  exact q
 ·exact rplain_N kind e a b c d id task tick wait pid nonce code A B n m p q (fieldsL r.kind) (xJ r (fieldsL r.kind)) ⟨by omega, hk8⟩ (by rw [hrk]) f2 (fun j hj => xJ_0 r _ j) (fun i hi j hj => by rw [← hv]; exact xJ_s r _ i hi j) f1 hs
 ·obtain ⟨c1, e1, l1⟩ := (hs.pick 1).rowKC
  obtain ⟨c2, e2, l2⟩ := (hs.pick 2).rowKC
  have hq : decide ((⟨kind, e, spOf a b c d ps ts, id, task, tick, wait, pid, nonce, code⟩ : RE) = (⟨kind, (xJ r (fieldsL r.kind) (fieldsL r.kind).length 0), zSP, (xJ r (fieldsL r.kind) (fieldsL r.kind).length 1), (xJ r (fieldsL r.kind) (fieldsL r.kind).length 2), (xJ r (fieldsL r.kind) (fieldsL r.kind).length 3), (xJ r (fieldsL r.kind) (fieldsL r.kind).length 4), (xJ r (fieldsL r.kind) (fieldsL r.kind).length 5), (xJ r (fieldsL r.kind) (fieldsL r.kind).length 6), 0⟩ : RE)) = decide (r = plainR r) := by rw [hP, ← hr]
  rw [← hq]
  subst e1; subst e2
  refine (sacristankit_EqualRec.calls 1001 kind e a b c d A p ps B q ts id task tick wait pid nonce code kind (xJ r (fieldsL r.kind) (fieldsL r.kind).length 0) 0 0 0 0 none 0 [] none 0 [] (xJ r (fieldsL r.kind) (fieldsL r.kind).length 1) (xJ r (fieldsL r.kind) (fieldsL r.kind).length 2) (xJ r (fieldsL r.kind) (fieldsL r.kind).length 3) (xJ r (fieldsL r.kind) (fieldsL r.kind).length 4) (xJ r (fieldsL r.kind) (fieldsL r.kind).length 5) (xJ r (fieldsL r.kind) (fieldsL r.kind).length 6) 0 _ W c1 l1 c2 l2 (Kd.C_nil _ _) (Nat.le_refl _) (Kd.C_nil _ _) (Nat.le_refl _) (PureC.eqRec 1001 _ _ _ _ _ _ _ _ _ _ _ _ _ _ _ _ _ _ _ _ _ _ _ _ _ _ _ _ _ _ hp ht (by omega) (by omega))).mono ?_
  rintro ee w' ⟨rfl, hb⟩
  exact ⟨rfl, hs.more hb⟩
 ·obtain ⟨c1, e1, l1⟩ := (hs.pick 1).rowKC
  obtain ⟨c2, e2, l2⟩ := (hs.pick 2).rowKC
  subst e1; subst e2
  refine (sacristanref13_Check.calls 30 a b c d A p ps B q ts _ W c1 l1 c2 l2 (PureR.check_eq 0 a b c d ps ts)).mono ?_
  rintro ee w' ⟨rfl, hb⟩
  exact ⟨rfl, hs.more hb⟩
 ·exact recE_eq0 r (by rw [hrk]; omega) (of_decide_eq_false he)
 ·rw [recE_eq1 r (by rw [hrk]; omega) (of_decide_eq_true he), if_pos (badB_one r i hi hb)]
 ·rw [recE_eq1 r (by rw [hrk]; omega) (of_decide_eq_true he), if_neg (by rw [badB_all r hb]; decide), if_neg (by rw [hrk]; omega)]
theorem rchk17_s {w0 w : World} {L : List HP} (kind e a b c d id task tick wait pid nonce code : Int) {A B : Option Addr} {n m p q : Nat} (ps : List Int) (ts : List TX) (hp : ps.length ≤ 1000) (ht : ts.length ≤ 1000) (h : St w0 w (RI (.slice A n p) ps :: RT (.slice B m q) ts :: L)) (r : Int) (hr : recE ⟨kind, e, spOf a b c d ps ts, id, task, tick, wait, pid, nonce, code⟩ = r) :
  Calls Try.prog 30 #[.agg (Rec15 kind e a b c d A n p B m q id task tick wait pid nonce code)] w fun ee w' => ee = .returned (.int .i64 r) ∧ St w0 w' (RI (.slice A n p) ps :: RT (.slice B m q) ts :: L) := by
 subst hr
 by_cases h1 : kind < 1
 ·rw [recE_out _ (by simp only; omega)]
  exact rchk17_lo kind e a b c d id task tick wait pid nonce code A B n m p q h1 h
 by_cases h9 : 9 < kind
 ·rw [recE_out _ (by simp only; omega)]
  exact rchk17_hi kind e a b c d id task tick wait pid nonce code A B n m p q h9 h
 by_cases k1 : kind = 1
 ·subst k1; exact rchk17s_1 e a b c d id task tick wait pid nonce code ps ts hp ht h
 by_cases k8 : kind = 8
 ·subst k8; exact rchk17s_8 e a b c d id task tick wait pid nonce code ps ts hp ht h
 exact rchk17s_N kind e a b c d id task tick wait pid nonce code ps ts hp ht (by omega) k8 h
end Go.Proofs.YtkhcdichdnbcmaaR
end
