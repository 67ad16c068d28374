/- Texts of this session, merged (wip/gen/shake.py). -/
import Derived.Test.YtkhcdichdnbcmaaRRm5
import Derived.Test.YtkhcdichdnbcmaaRRm13
import Derived.Test.YtkhcdichdnbcmaaRRm17
section
namespace Go.Proofs.YtkhcdichdnbcmaaR
open Go.RowKit Go.Proofs.YtkhcdichdnbcmaaR Go.Proofs.YtkhcdichdnbcmaaR.Ext Go.Proofs.YtkhcdichdnbcmaaR.C Go.Proofs.YtkhcdichdnbcmaaR.Sp Go.Proofs.YtkhcdichdnbcmaaRW.PrintWords Go.Proofs.YtkhcdichdnbcmaaRW.PrintLast
set_option linter.unusedVariables false
set_option linter.unusedSimpArgs false
theorem offJ_cell (kind e a b c d id task tick wait pid nonce code : Int) (A B : Option Addr) (n m p q : Nat) (j : Nat) (hj : j < 7) : (Rec15 kind e a b c d A n p B m q id task tick wait pid nonce code)[offJ j]? = some (.int .i64 ([e, id, task, tick, wait, pid, nonce].getD j 0)) := by
 have : j = 0 ∨ j = 1 ∨ j = 2 ∨ j = 3 ∨ j = 4 ∨ j = 5 ∨ j = 6 := by omega
 rcases this with rfl | rfl | rfl | rfl | rfl | rfl | rfl <;> rfl
theorem sequ_s {w0 w : World} {L : List HP} (x : HP) (y : HP) (a b c d a' b' c' d' : Int) {A B A' B' : Option Addr} {n m p q n' m' p' q' : Nat} (ps ps' : List Int) (ts ts' : List TX) (hp : ps.length ≤ 1000) (ht : ts.length ≤ 1000) (h : St w0 w (x :: y :: RI (.slice A n p) ps :: RT (.slice B m q) ts :: RI (.slice A' n' p') ps' :: RT (.slice B' m' q') ts' :: L)) :
  Calls Try.prog 53 #[.agg #[.int .i64 a, .int .i64 b, .int .i64 c, .int .i64 d, .slice A n p, .slice B m q], .agg #[.int .i64 a', .int .i64 b', .int .i64 c', .int .i64 d', .slice A' n' p', .slice B' m' q']] w fun e w' => e = .returned (.bool (decide (spOf a b c d ps ts = spOf a' b' c' d' ps' ts'))) ∧ St w0 w' (x :: y :: RI (.slice A n p) ps :: RT (.slice B m q) ts :: RI (.slice A' n' p') ps' :: RT (.slice B' m' q') ts' :: L) := by
 obtain ⟨c1, e1, l1⟩ := (h.pick 2).rowKC
 obtain ⟨c2, e2, l2⟩ := (h.pick 3).rowKC
 obtain ⟨c3, e3, l3⟩ := (h.pick 4).rowKC
 obtain ⟨c4, e4, l4⟩ := (h.pick 5).rowKC
 subst e1; subst e2; subst e3; subst e4
 refine (spec_Equal.calls 1001 a b c d A p ps B q ts a' b' c' d' A' p' ps' B' q' ts' _ w c1 l1 c2 l2 c3 l3 c4 l4 (PureC.sEqual 1001 a b c d a' b' c' d' ps ps' ts ts' hp ht (by omega) (by omega))).mono ?_
 rintro e w' ⟨rfl, hb⟩
 exact ⟨rfl, h.more hb⟩
set_option maxRecDepth 100000 in
set_option maxHeartbeats 4000000 in
theorem requal_w {w0 w : World} {L : List HP} (k e a b c d id task tick wait pid nonce code k' e' a' b' c' d' id' task' tick' wait' pid' nonce' code' : Int) {A B A' B' : Option Addr} {n m p q n' m' p' q' : Nat} (ps ps' : List Int) (ts ts' : List TX) (xv yv : Nat → Int) (se rr : Bool)
  (hQ : ∀ W x y, St w0 W (x :: y :: RI (.slice A n p) ps :: RT (.slice B m q) ts :: RI (.slice A' n' p') ps' :: RT (.slice B' m' q') ts' :: L) → Calls Try.prog 53 #[.agg #[.int .i64 a, .int .i64 b, .int .i64 c, .int .i64 d, .slice A n p, .slice B m q], .agg #[.int .i64 a', .int .i64 b', .int .i64 c', .int .i64 d', .slice A' n' p', .slice B' m' q']] W fun e w' => e = .returned (.bool se) ∧ St w0 w' (x :: y :: RI (.slice A n p) ps :: RT (.slice B m q) ts :: RI (.slice A' n' p') ps' :: RT (.slice B' m' q') ts' :: L))
  (hr1 : se = false → rr = false) (hr2 : k ≠ k' → rr = false) (hr3 : code ≠ code' → rr = false) (hr4 : (∀ i, i < 7 → xv i = [e, id, task, tick, wait, pid, nonce].getD i 0) ∧ (∀ i, i < 7 → yv i = [e', id', task', tick', wait', pid', nonce'].getD i 0) ∧ ∀ i, i < 7 → xv i ≠ yv i → rr = false)
  (hr5 : se = true → k = k' → code = code' → (∀ i, i < 7 → xv i = yv i) → rr = true) (h : St w0 w (RI (.slice A n p) ps :: RT (.slice B m q) ts :: RI (.slice A' n' p') ps' :: RT (.slice B' m' q') ts' :: L)) :
  Calls Try.prog 31 #[.agg #[.int .u8 k, .int .i64 e, .int .i64 a, .int .i64 b, .int .i64 c, .int .i64 d, .slice A n p, .slice B m q, .int .i64 id, .int .i64 task, .int .i64 tick, .int .i64 wait, .int .i64 pid, .int .i64 nonce, .int .i64 code], .agg #[.int .u8 k', .int .i64 e', .int .i64 a', .int .i64 b', .int .i64 c', .int .i64 d', .slice A' n' p', .slice B' m' q', .int .i64 id', .int .i64 task', .int .i64 tick', .int .i64 wait', .int .i64 pid', .int .i64 nonce', .int .i64 code']] w fun ee w' => ee = .returned (.bool rr) ∧ St w0 w' (RI (.slice A n p) ps :: RT (.slice B m q) ts :: RI (.slice A' n' p') ps' :: RT (.slice B' m' q') ts' :: L) := by
 have s0 := (h.alloc #[.int .u8 k, .int .i64 e, .int .i64 a, .int .i64 b, .int .i64 c, .int .i64 d, .slice A n p, .slice B m q, .int .i64 id, .int .i64 task, .int .i64 tick, .int .i64 wait, .int .i64 pid, .int .i64 nonce, .int .i64 code] tRe).alloc #[.int .u8 k', .int .i64 e', .int .i64 a', .int .i64 b', .int .i64 c', .int .i64 d', .slice A' n' p', .slice B' m' q', .int .i64 id', .int .i64 task', .int .i64 tick', .int .i64 wait', .int .i64 pid', .int .i64 nonce', .int .i64 code'] tRe
 have hn1 : (w.alloc (Obj.cells #[.int .u8 k, .int .i64 e, .int .i64 a, .int .i64 b, .int .i64 c, .int .i64 d, .slice A n p, .slice B m q, .int .i64 id, .int .i64 task, .int .i64 tick, .int .i64 wait, .int .i64 pid, .int .i64 nonce, .int .i64 code] tRe)).heap.size = w.heap.size + 1 := by simp
 rw [hn1] at s0
 clear h hn1
 have hc2 := (s0.pick 1).cells
 have hc3 := s0.cells
 have HR := Lib.hid (And.intro hr1 (And.intro hr2 (And.intro hr3 (And.intro hr4 hr5))))
 have HQ := Lib.hid hQ
 clear hr1 hr2 hr3 hr4 hr5 hQ
 have S0 := Lib.hid s0
 clear s0
 go_enter Try.func31, Try.ntmps31
 go_wp2_with fail
 refine (HQ.out _ _ _ S0.out).mono ?_
 rintro ee w1 ⟨rfl, s1⟩
 clear S0 HQ hc2 hc3
 generalize w.heap.size + 1 = b3 at *
 generalize w.heap.size = b2 at *
 have hc2 := (s1.pick 1).cells
 have hc3 := s1.cells
 have S1 := Lib.hid s1
 clear s1
 cases hse : se
 ·go_wp2
  go_returns
  rw [HR.out.1 hse]
  exact ⟨rfl, S1.out.drop.drop⟩
 ·have h := HR.out.2
  clear HR
  have HR := Lib.hid h
  clear h
  by_cases hk : k = k'
  case neg =>
   have g1 : (k != k') = true := bne_iff_ne.mpr hk
   go_wp2
   go_returns
   rw [HR.out.1 hk]
   exact ⟨rfl, S1.out.drop.drop⟩
  case pos =>
   subst hk
   by_cases hc : code = code'
   case neg =>
    have g1 : (code != code') = true := bne_iff_ne.mpr hc
    go_wp2
    go_returns
    rw [HR.out.2.1 hc]
    exact ⟨rfl, S1.out.drop.drop⟩
   case pos =>
    as_aux_lemma =>
    subst hc
    have HE := Lib.hid (HR.out.2.2.2 hse rfl rfl)
    have h := HR.out.2.2.1
    clear HR hse
    have HD := Lib.hid h
    clear h
    go_wp2_with fail
    refine (fields_c b2 _).mono ?_
    rintro ee w3 ⟨F, rfl, hF1, hF2, hb⟩
    have s3 := S1.out.new hb (blk_loc F (fldC b2) tFl) ⟨hF2, rfl⟩ (fun i hi => by subst hi; exact hF1)
    clear hF1 hF2 hb S1 hc2 hc3
    have S3 := Lib.hid s3
    clear s3
    go_wp2_with fail
    refine (fields_c b3 _).mono ?_
    rintro ee w4 ⟨G, rfl, hF1, hF2, hb⟩
    have s4 := S3.out.new hb (blk_loc G (fldC b3) tFl) ⟨hF2, rfl⟩ (fun i hi => by subst hi; exact hF1)
    clear hF1 hF2 hb S3
    have S4 := Lib.hid s4
    clear s4
    go_wp2_with fail
    go_loopw [32] (fun y wr => ∃ i : Nat, i ≤ 7 ∧ y = .int .i64 i ∧ St w0 wr (Go.Proofs.YtkhcdichdnbcmaaR.blk G (fldC b3) tFl :: Go.Proofs.YtkhcdichdnbcmaaR.blk F (fldC b2) tFl :: Go.Proofs.YtkhcdichdnbcmaaR.blk b3 #[.int .u8 k, .int .i64 e', .int .i64 a', .int .i64 b', .int .i64 c', .int .i64 d', .slice A' n' p', .slice B' m' q', .int .i64 id', .int .i64 task', .int .i64 tick', .int .i64 wait', .int .i64 pid', .int .i64 nonce', .int .i64 code] tRe :: Go.Proofs.YtkhcdichdnbcmaaR.blk b2 #[.int .u8 k, .int .i64 e, .int .i64 a, .int .i64 b, .int .i64 c, .int .i64 d, .slice A n p, .slice B m q, .int .i64 id, .int .i64 task, .int .i64 tick, .int .i64 wait, .int .i64 pid, .int .i64 nonce, .int .i64 code] tRe :: RI (.slice A n p) ps :: RT (.slice B m q) ts :: RI (.slice A' n' p') ps' :: RT (.slice B' m' q') ts' :: L) ∧ ∀ j, j < i → xv j = yv j) (fun y _ => 7 - (intOf y).toNat)
    case atStart => exact ⟨0, by omega, rfl, S4.out, fun j hj => by omega⟩
    case round =>
     clear S4
     obtain ⟨i, hi, rfl, hs, hz⟩ := hrel
     have HZ := Lib.hid hz
     clear hz
     by_cases hlt : i < 7
     ·as_aux_lemma =>
      obtain ⟨-, q1, -⟩ := fld_at b2 i hlt
      obtain ⟨-, q2, -⟩ := fld_at b3 i hlt
      have y1 := ((hs.pick 1).cells (i * 3 + 1)).trans q1
      have y2 := (hs.cells (i * 3 + 1)).trans q2
      have x2 := ((hs.pick 3).cells (offJ i)).trans (offJ_cell _ _ _ _ _ _ _ _ _ _ _ _ _ _ _ _ _ _ _ i hlt)
      have x3 := ((hs.pick 2).cells (offJ i)).trans (offJ_cell _ _ _ _ _ _ _ _ _ _ _ _ _ _ _ _ _ _ _ i hlt)
      have hx := HD.out.1 i hlt
      have hy := HD.out.2.1 i hlt
      rw [← hx] at x2
      rw [← hy] at x3
      clear q1 q2 hx hy
      generalize offJ i = off at *
      generalize hu : xv i = u at *
      generalize hv : yv i = v at *
      have HU := Lib.hid (And.intro hu hv)
      clear hu hv
      have hg1 : decide ((i : Int) < 7) = true := decide_eq_true (by omega)
      have hg2 : ((i : Int) < 7) = True := eq_true (by omega)
      have hg3 : (0 ≤ (i : Int)) = True := eq_true (by omega)
      have hg4 : decide (i < 7) = true := decide_eq_true hlt
      have hg5 : (i < 7) = True := eq_true hlt
      go_upto_region 7 with fail
      refine start_ (n := 15) (S := fun w' => w'.cell? ⟨F, i * 3 + 1, none⟩ = some (.pointer (some ⟨b2, off, none⟩)) ∧ w'.cell? ⟨G, i * 3 + 1, none⟩ = some (.pointer (some ⟨b3, off, none⟩)) ∧ w'.cell? ⟨b2, off, none⟩ = some (.int .i64 u) ∧ w'.cell? ⟨b3, off, none⟩ = some (.int .i64 v)) (ds := []) #[false, false, false, false, false, false, false, false, false, false, false, false, false, false, false] (by kernel_rfl) rfl rfl ⟨y1, y2, x2, x3⟩ (fun hHeld => ?_)
      have sd := hs.drew
      clear hs y1 y2 x2 x3
      generalize wr.drew = wd at *
      refine pure_ (i := 0) (N := some 35) (v := ?_) (a' := ?_) #[true, false, false, false, false, false, false, false, false, false, false, false, false, false, false] rfl rfl (by as_aux_lemma => kernel_rfl) (fun _ _ _ h => h) (Or.inl ⟨by rfl, ?_⟩) ?_ ?_
      rotate_left
      ·intro w'
       go_simp
       with_reducible rfl
      rotate_left
      ·simp only [Act.put, List.setIfInBounds_toArray, List.set_cons_zero, List.set_cons_succ, i64_w, i32_w]
       rfl
      refine pure_ (i := 1) (N := some 36) (v := ?_) (a' := ?_) #[true, true, false, false, false, false, false, false, false, false, false, false, false, false, false] rfl rfl (by as_aux_lemma => kernel_rfl) (fun _ _ _ h => h) (Or.inl ⟨by rfl, ?_⟩) ?_ ?_
      rotate_left
      ·intro w'
       go_simp
       with_reducible rfl
      rotate_left
      ·simp only [Act.put, List.setIfInBounds_toArray, List.set_cons_zero, List.set_cons_succ, i64_w, i32_w]
       rfl
      refine pure_ (i := 2) (N := some 37) (v := ?_) (a' := ?_) #[true, true, true, false, false, false, false, false, false, false, false, false, false, false, false] rfl rfl (by as_aux_lemma => kernel_rfl) (fun _ _ _ h => h) (Or.inl ⟨by rfl, ?_⟩) ?_ ?_
      rotate_left
      ·intro w'
       go_simp
       with_reducible rfl
      rotate_left
      ·simp only [Act.put, List.setIfInBounds_toArray, List.set_cons_zero, List.set_cons_succ, i64_w, i32_w]
       rfl
      refine pure_ (i := 3) (N := some 38) (v := ?_) (a' := ?_) #[true, true, true, true, false, false, false, false, false, false, false, false, false, false, false] rfl rfl (by as_aux_lemma => kernel_rfl) (fun _ _ _ h => h) (Or.inl ⟨by rfl, ?_⟩) ?_ ?_
      rotate_left
      ·intro w'
       go_simp
       with_reducible rfl
      rotate_left
      ·simp only [Act.put, List.setIfInBounds_toArray, List.set_cons_zero, List.set_cons_succ, i64_w, i32_w]
       rfl
      refine take_ (i := 4) (N := some 39) (v := ?_) (a' := ?_) #[true, true, true, true, true, false, false, false, false, false, false, false, false, false, false] rfl rfl (by as_aux_lemma => kernel_rfl) (fun _ _ _ h => h) (Or.inl ⟨by rfl, ?_⟩) hHeld ?_ ?_
      rotate_left
      ·rintro w' ⟨s0, s1, s2, s3⟩
       go_simp
       with_reducible rfl
      rotate_left
      ·simp only [Act.put, List.setIfInBounds_toArray, List.set_cons_zero, List.set_cons_succ, i64_w, i32_w]
       rfl
      refine pure_ (i := 5) (N := some 40) (v := ?_) (a' := ?_) #[true, true, true, true, true, true, false, false, false, false, false, false, false, false, false] rfl rfl (by as_aux_lemma => kernel_rfl) (fun _ _ _ h => h) (Or.inl ⟨by rfl, ?_⟩) ?_ ?_
      rotate_left
      ·intro w'
       go_simp
       with_reducible rfl
      rotate_left
      ·simp only [Act.put, List.setIfInBounds_toArray, List.set_cons_zero, List.set_cons_succ, i64_w, i32_w]
       rfl
      refine take_ (i := 6) (N := some 41) (v := ?_) (a' := ?_) #[true, true, true, true, true, true, true, false, false, false, false, false, false, false, false] rfl rfl (by as_aux_lemma => kernel_rfl) (fun _ _ _ h => h) (Or.inl ⟨by rfl, ?_⟩) hHeld ?_ ?_
      rotate_left
      ·rintro w' ⟨s0, s1, s2, s3⟩
       go_simp
       with_reducible rfl
      rotate_left
      ·simp only [Act.put, List.setIfInBounds_toArray, List.set_cons_zero, List.set_cons_succ, i64_w, i32_w]
       rfl
      refine pure_ (i := 7) (N := some 42) (v := ?_) (a' := ?_) #[true, true, true, true, true, true, true, true, false, false, false, false, false, false, false] rfl rfl (by as_aux_lemma => kernel_rfl) (fun _ _ _ h => h) (Or.inl ⟨by rfl, ?_⟩) ?_ ?_
      rotate_left
      ·intro w'
       go_simp
       with_reducible rfl
      rotate_left
      ·simp only [Act.put, List.setIfInBounds_toArray, List.set_cons_zero, List.set_cons_succ, i64_w, i32_w]
       rfl
      refine pure_ (i := 8) (N := some 43) (v := ?_) (a' := ?_) #[true, true, true, true, true, true, true, true, true, false, false, false, false, false, false] rfl rfl (by as_aux_lemma => kernel_rfl) (fun _ _ _ h => h) (Or.inl ⟨by rfl, ?_⟩) ?_ ?_
      rotate_left
      ·intro w'
       go_simp
       with_reducible rfl
      rotate_left
      ·simp only [Act.put, List.setIfInBounds_toArray, List.set_cons_zero, List.set_cons_succ, i64_w, i32_w]
       rfl
      refine pure_ (i := 9) (N := some 44) (v := ?_) (a' := ?_) #[true, true, true, true, true, true, true, true, true, true, false, false, false, false, false] rfl rfl (by as_aux_lemma => kernel_rfl) (fun _ _ _ h => h) (Or.inl ⟨by rfl, ?_⟩) ?_ ?_
      rotate_left
      ·intro w'
       go_simp
       with_reducible rfl
      rotate_left
      ·simp only [Act.put, List.setIfInBounds_toArray, List.set_cons_zero, List.set_cons_succ, i64_w, i32_w]
       rfl
      refine pure_ (i := 10) (N := some 45) (v := ?_) (a' := ?_) #[true, true, true, true, true, true, true, true, true, true, true, false, false, false, false] rfl rfl (by as_aux_lemma => kernel_rfl) (fun _ _ _ h => h) (Or.inl ⟨by rfl, ?_⟩) ?_ ?_
      rotate_left
      ·intro w'
       go_simp
       with_reducible rfl
      rotate_left
      ·simp only [Act.put, List.setIfInBounds_toArray, List.set_cons_zero, List.set_cons_succ, i64_w, i32_w]
       rfl
      refine take_ (i := 11) (N := some 46) (v := ?_) (a' := ?_) #[true, true, true, true, true, true, true, true, true, true, true, true, false, false, false] rfl rfl (by as_aux_lemma => kernel_rfl) (fun _ _ _ h => h) (Or.inl ⟨by rfl, ?_⟩) hHeld ?_ ?_
      rotate_left
      ·rintro w' ⟨s0, s1, s2, s3⟩
       go_simp
       with_reducible rfl
      rotate_left
      ·simp only [Act.put, List.setIfInBounds_toArray, List.set_cons_zero, List.set_cons_succ, i64_w, i32_w]
       rfl
      refine pure_ (i := 12) (N := some 47) (v := ?_) (a' := ?_) #[true, true, true, true, true, true, true, true, true, true, true, true, true, false, false] rfl rfl (by as_aux_lemma => kernel_rfl) (fun _ _ _ h => h) (Or.inl ⟨by rfl, ?_⟩) ?_ ?_
      rotate_left
      ·intro w'
       go_simp
       with_reducible rfl
      rotate_left
      ·simp only [Act.put, List.setIfInBounds_toArray, List.set_cons_zero, List.set_cons_succ, i64_w, i32_w]
       rfl
      refine take_ (i := 13) (N := some 48) (v := ?_) (a' := ?_) #[true, true, true, true, true, true, true, true, true, true, true, true, true, true, false] rfl rfl (by as_aux_lemma => kernel_rfl) (fun _ _ _ h => h) (Or.inl ⟨by rfl, ?_⟩) hHeld ?_ ?_
      rotate_left
      ·rintro w' ⟨s0, s1, s2, s3⟩
       go_simp
       with_reducible rfl
      rotate_left
      ·simp only [Act.put, List.setIfInBounds_toArray, List.set_cons_zero, List.set_cons_succ, i64_w, i32_w]
       rfl
      refine pure_ (i := 14) (N := some 49) (v := ?_) (a' := ?_) #[true, true, true, true, true, true, true, true, true, true, true, true, true, true, true] rfl rfl (by as_aux_lemma => kernel_rfl) (fun _ _ _ h => h) (Or.inl ⟨by rfl, ?_⟩) ?_ ?_
      rotate_left
      ·intro w'
       go_simp
       with_reducible rfl
      rotate_left
      ·simp only [Act.put, List.setIfInBounds_toArray, List.set_cons_zero, List.set_cons_succ, i64_w, i32_w]
       rfl
      refine done_ (by as_aux_lemma => kernel_rfl) ?_
      clear hHeld
      by_cases hne : u = v
      case neg =>
       have g1 : (u != v) = true := bne_iff_ne.mpr hne
       have SD := Lib.hid sd
       clear sd
       go_wp2
       go_returns
       rw [HD.out.2.2 i hlt (by rw [HU.out.1, HU.out.2]; exact hne)]
       exact ⟨rfl, SD.out.drop.drop.drop.drop⟩
      case pos =>
       subst hne
       go_wp2_with fail
       all_goals go_roundw
       all_goals first | exact ⟨i + 1, by omega, by go_num, sd, fun j hj => by
        rcases Nat.lt_or_ge j i with q | q
        ·exact HZ.out j q
        ·obtain rfl : j = i := by omega
         rw [HU.out.1, HU.out.2]⟩ | (simp [intOf]; omega)
     ·obtain rfl : i = 7 := by omega
      have S9 := Lib.hid hs
      clear hs
      go_wp2
      go_returns
      rw [HE.out HZ.out]
      exact ⟨rfl, S9.out.drop.drop.drop.drop⟩
theorem requal_s {w0 w : World} {L : List HP} (k e a b c d id task tick wait pid nonce code k' e' a' b' c' d' id' task' tick' wait' pid' nonce' code' : Int) {A B A' B' : Option Addr} {n m p q n' m' p' q' : Nat} (ps ps' : List Int) (ts ts' : List TX) (hp : ps.length ≤ 1000) (ht : ts.length ≤ 1000) (r : Bool) (hr : decide ((⟨k, e, spOf a b c d ps ts, id, task, tick, wait, pid, nonce, code⟩ : RE) = (⟨k', e', spOf a' b' c' d' ps' ts', id', task', tick', wait', pid', nonce', code'⟩ : RE)) = r) (h : St w0 w (RI (.slice A n p) ps :: RT (.slice B m q) ts :: RI (.slice A' n' p') ps' :: RT (.slice B' m' q') ts' :: L)) :
  Calls Try.prog 31 #[.agg #[.int .u8 k, .int .i64 e, .int .i64 a, .int .i64 b, .int .i64 c, .int .i64 d, .slice A n p, .slice B m q, .int .i64 id, .int .i64 task, .int .i64 tick, .int .i64 wait, .int .i64 pid, .int .i64 nonce, .int .i64 code], .agg #[.int .u8 k', .int .i64 e', .int .i64 a', .int .i64 b', .int .i64 c', .int .i64 d', .slice A' n' p', .slice B' m' q', .int .i64 id', .int .i64 task', .int .i64 tick', .int .i64 wait', .int .i64 pid', .int .i64 nonce', .int .i64 code']] w fun ee w' => ee = .returned (.bool r) ∧ St w0 w' (RI (.slice A n p) ps :: RT (.slice B m q) ts :: RI (.slice A' n' p') ps' :: RT (.slice B' m' q') ts' :: L) := by
 subst hr
 refine requal_w k e a b c d id task tick wait pid nonce code k' e' a' b' c' d' id' task' tick' wait' pid' nonce' code' ps ps' ts ts' (fun i => [e, id, task, tick, wait, pid, nonce].getD i 0) (fun i => [e', id', task', tick', wait', pid', nonce'].getD i 0) _ _ (fun W x y hs => sequ_s x y a b c d a' b' c' d' ps ps' ts ts' hp ht hs) (fun h => ?_) (fun h => ?_) (fun h => ?_) ⟨fun _ _ => rfl, fun _ _ => rfl, fun i hi h => ?_⟩ (fun h1 h2 h3 h4 => ?_) h
 ·have h := of_decide_eq_false h
  exact decide_eq_false (fun q => h (by injection q))
 ·exact decide_eq_false (fun q => h (by injection q))
 ·exact decide_eq_false (fun q => h (by injection q))
 ·refine decide_eq_false (fun q => h ?_)
  injection q with q0 q1 q2 q3 q4 q5 q6 q7 q8 q9
  rw [q1, q3, q4, q5, q6, q7, q8]
 ·have h1 := of_decide_eq_true h1
  rw [all7] at h4
  obtain ⟨z0, z1, z2, z3, z4, z5, z6⟩ := h4
  simp only [List.getD_cons_zero, List.getD_cons_succ] at z0 z1 z2 z3 z4 z5 z6
  refine decide_eq_true ?_
  rw [h1, h2, h3, z0, z1, z2, z3, z4, z5, z6]
end Go.Proofs.YtkhcdichdnbcmaaR
end
