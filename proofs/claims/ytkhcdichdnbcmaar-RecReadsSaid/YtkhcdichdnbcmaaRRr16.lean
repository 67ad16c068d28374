/- Texts of this session, merged (wip/gen/shake.py). -/
import Derived.Deep.Cut
import Derived.Deep.CutRange
import Derived.Deep.RegionWith
import Derived.Test.YtkhcdichdnbcmaaRRr15
section
namespace Go.Proofs.YtkhcdichdnbcmaaR
open Go.RowKit Go.Proofs.YtkhcdichdnbcmaaR Go.Proofs.YtkhcdichdnbcmaaR.Ext Go.Proofs.YtkhcdichdnbcmaaR.C Go.Proofs.YtkhcdichdnbcmaaR.Sp Go.Proofs.YtkhcdichdnbcmaaRW.PrintWords Go.Proofs.YtkhcdichdnbcmaaRW.PrintLast
set_option linter.unusedVariables false
set_option linter.unusedSimpArgs false
theorem RI_atN {w0 w : World} {L : List HP} {A : Option Addr} {n c : Nat} {xs : List Int} (h : St w0 w (RI (.slice A n c) xs :: L)) (i : Nat) (q : i < xs.length) : ∃ ad, A = some ad ∧ w.cell? (ad.add i) = some (.int .i64 (rd xs i)) := by
 obtain ⟨ad, h1, h2⟩ := RI_at h (i : Int) (by omega) (by omega)
 exact ⟨ad, h1, by simpa using h2⟩
set_option maxRecDepth 100000 in
set_option maxHeartbeats 4000000 in
theorem rplain_N {w0 w : World} {L : List HP} (kind e a b c d id task tick wait pid nonce code : Int) (A B : Option Addr) (n m p q : Nat) (l : List Int) (x : Nat → Nat → Int) (hk : kind ≠ 1 ∧ kind ≠ 8) (hl : fieldsL kind = l) (hf : ∀ i, i < l.length → 0 ≤ rd l i ∧ rd l i < 7) (hx0 : ∀ j, j < 7 → x 0 j = 0)
  (hx : ∀ i, i < l.length → ∀ j, j < 7 → x (i + 1) j = if rd l i = (j : Int) then rd [e, id, task, tick, wait, pid, nonce] (rd l i) else x i j) (hle : l.length ≤ 7) (h : St w0 w L) :
  Calls Try.prog 57 #[.agg #[.int .u8 kind, .int .i64 e, .int .i64 a, .int .i64 b, .int .i64 c, .int .i64 d, .slice A n p, .slice B m q, .int .i64 id, .int .i64 task, .int .i64 tick, .int .i64 wait, .int .i64 pid, .int .i64 nonce, .int .i64 code]] w fun ee w' => ee = .returned (.agg #[.int .u8 kind, .int .i64 (x l.length 0), .int .i64 0, .int .i64 0, .int .i64 0, .int .i64 0, .slice none 0 0, .slice none 0 0, .int .i64 (x l.length 1), .int .i64 (x l.length 2), .int .i64 (x l.length 3), .int .i64 (x l.length 4), .int .i64 (x l.length 5), .int .i64 (x l.length 6), .int .i64 0]) ∧ St w0 w' L := by
 have s0 := ((h.alloc #[.int .u8 kind, .int .i64 e, .int .i64 a, .int .i64 b, .int .i64 c, .int .i64 d, .slice A n p, .slice B m q, .int .i64 id, .int .i64 task, .int .i64 tick, .int .i64 wait, .int .i64 pid, .int .i64 nonce, .int .i64 code] tRe).alloc #[.int .u8 0, .int .i64 0, .int .i64 0, .int .i64 0, .int .i64 0, .int .i64 0, .slice none 0 0, .slice none 0 0, .int .i64 0, .int .i64 0, .int .i64 0, .int .i64 0, .int .i64 0, .int .i64 0, .int .i64 0] tRe).alloc #[.int .u8 kind, .int .i64 0, .int .i64 0, .int .i64 0, .int .i64 0, .int .i64 0, .slice none 0 0, .slice none 0 0, .int .i64 0, .int .i64 0, .int .i64 0, .int .i64 0, .int .i64 0, .int .i64 0, .int .i64 0] tRe
 have hn1 : (w.alloc (Obj.cells #[.int .u8 kind, .int .i64 e, .int .i64 a, .int .i64 b, .int .i64 c, .int .i64 d, .slice A n p, .slice B m q, .int .i64 id, .int .i64 task, .int .i64 tick, .int .i64 wait, .int .i64 pid, .int .i64 nonce, .int .i64 code] tRe)).heap.size = w.heap.size + 1 := by simp
 have hn2 : ((w.alloc (Obj.cells #[.int .u8 kind, .int .i64 e, .int .i64 a, .int .i64 b, .int .i64 c, .int .i64 d, .slice A n p, .slice B m q, .int .i64 id, .int .i64 task, .int .i64 tick, .int .i64 wait, .int .i64 pid, .int .i64 nonce, .int .i64 code] tRe)).alloc (Obj.cells #[.int .u8 0, .int .i64 0, .int .i64 0, .int .i64 0, .int .i64 0, .int .i64 0, .slice none 0 0, .slice none 0 0, .int .i64 0, .int .i64 0, .int .i64 0, .int .i64 0, .int .i64 0, .int .i64 0, .int .i64 0] tRe)).heap.size = w.heap.size + 2 := by simp
 rw [hn1, hn2] at s0
 clear h hn1 hn2
 have hc1 := (s0.pick 2).cells
 have HW := Lib.hid (And.intro hl (And.intro hf (And.intro hx0 hx)))
 have HLE := Lib.hid hle
 have S0 := Lib.hid s0
 clear s0 hl hf hx0 hx hle
 go_enter Try.func57, Try.ntmps57
 go_wp2_with fail
 refine (rfields_s kind S0.out).mono ?_
 rintro ee w1 ⟨v, rfl, s1⟩
 clear S0 hc1
 rw [HW.out.1] at s1
 obtain ⟨F, cF, rfl⟩ := RI_sl s1
 generalize w.heap.size + 2 = b3 at *
 generalize w.heap.size + 1 = b2 at *
 generalize w.heap.size = b1 at *
 have hq0 : (#[.int .u8 kind, .int .i64 0, .int .i64 0, .int .i64 0, .int .i64 0, .int .i64 0, .slice none 0 0, .slice none 0 0, .int .i64 0, .int .i64 0, .int .i64 0, .int .i64 0, .int .i64 0, .int .i64 0, .int .i64 0] : Array Value) = #[.int .u8 kind, .int .i64 (x 0 0), .int .i64 0, .int .i64 0, .int .i64 0, .int .i64 0, .slice none 0 0, .slice none 0 0, .int .i64 (x 0 1), .int .i64 (x 0 2), .int .i64 (x 0 3), .int .i64 (x 0 4), .int .i64 (x 0 5), .int .i64 (x 0 6), .int .i64 0] := by rw [HW.out.2.2.1 0 (by omega), HW.out.2.2.1 1 (by omega), HW.out.2.2.1 2 (by omega), HW.out.2.2.1 3 (by omega), HW.out.2.2.1 4 (by omega), HW.out.2.2.1 5 (by omega), HW.out.2.2.1 6 (by omega)]
 rw [hq0] at s1
 clear hq0
 have S1 := Lib.hid s1
 clear s1
 go_wp2_with fail
 go_loopw [5] (fun y wr => ∃ i : Nat, i ≤ l.length ∧ y = .int .i64 i ∧ St w0 wr (RI (.slice F l.length cF) l :: Go.Proofs.YtkhcdichdnbcmaaR.blk b3 #[.int .u8 kind, .int .i64 (x i 0), .int .i64 0, .int .i64 0, .int .i64 0, .int .i64 0, .slice none 0 0, .slice none 0 0, .int .i64 (x i 1), .int .i64 (x i 2), .int .i64 (x i 3), .int .i64 (x i 4), .int .i64 (x i 5), .int .i64 (x i 6), .int .i64 0] tRe :: Go.Proofs.YtkhcdichdnbcmaaR.blk b2 #[.int .u8 0, .int .i64 0, .int .i64 0, .int .i64 0, .int .i64 0, .int .i64 0, .slice none 0 0, .slice none 0 0, .int .i64 0, .int .i64 0, .int .i64 0, .int .i64 0, .int .i64 0, .int .i64 0, .int .i64 0] tRe :: Go.Proofs.YtkhcdichdnbcmaaR.blk b1 #[.int .u8 kind, .int .i64 e, .int .i64 a, .int .i64 b, .int .i64 c, .int .i64 d, .slice A n p, .slice B m q, .int .i64 id, .int .i64 task, .int .i64 tick, .int .i64 wait, .int .i64 pid, .int .i64 nonce, .int .i64 code] tRe :: L)) (fun y _ => l.length - (intOf y).toNat)
 case atStart => exact ⟨0, by omega, rfl, S1.out⟩
 case round =>
  clear S1
  obtain ⟨i, hi, rfl, hs⟩ := hrel
  by_cases hlt : i < l.length
  ·as_aux_lemma =>
   obtain ⟨ad, rfl, hcF⟩ := RI_atN hs i hlt
   have hle := HLE.out
   have hf := HW.out.2.1 i hlt
   have hx : ∀ j, j < 7 → x (i + 1) j = if rd l i = (j : Int) then rd [e, id, task, tick, wait, pid, nonce] (rd l i) else x i j := fun j hj => HW.out.2.2.2 i hlt j hj
   have HWi := Lib.hid (fun (W : World) (M : List HP) (hS : St w0 W M) => rwith_s (w0 := w0) (w := W) (L := M) kind (x i 0) 0 0 0 0 (x i 1) (x i 2) (x i 3) (x i 4) (x i 5) (x i 6) 0 (rd [e, id, task, tick, wait, pid, nonce] (rd l i)) none none 0 0 0 0 (rd l i) hf hS)
   have hz : (#[.int .u8 kind, .int .i64 (if rd l i = 0 then rd [e, id, task, tick, wait, pid, nonce] (rd l i) else x i 0), .int .i64 0, .int .i64 0, .int .i64 0, .int .i64 0, .slice none 0 0, .slice none 0 0, .int .i64 (if rd l i = 1 then rd [e, id, task, tick, wait, pid, nonce] (rd l i) else x i 1), .int .i64 (if rd l i = 2 then rd [e, id, task, tick, wait, pid, nonce] (rd l i) else x i 2), .int .i64 (if rd l i = 3 then rd [e, id, task, tick, wait, pid, nonce] (rd l i) else x i 3), .int .i64 (if rd l i = 4 then rd [e, id, task, tick, wait, pid, nonce] (rd l i) else x i 4), .int .i64 (if rd l i = 5 then rd [e, id, task, tick, wait, pid, nonce] (rd l i) else x i 5), .int .i64 (if rd l i = 6 then rd [e, id, task, tick, wait, pid, nonce] (rd l i) else x i 6), .int .i64 0] : Array Value) = #[.int .u8 kind, .int .i64 (x (i + 1) 0), .int .i64 0, .int .i64 0, .int .i64 0, .int .i64 0, .slice none 0 0, .slice none 0 0, .int .i64 (x (i + 1) 1), .int .i64 (x (i + 1) 2), .int .i64 (x (i + 1) 3), .int .i64 (x (i + 1) 4), .int .i64 (x (i + 1) 5), .int .i64 (x (i + 1) 6), .int .i64 0] := by rw [hx 0 (by omega), hx 1 (by omega), hx 2 (by omega), hx 3 (by omega), hx 4 (by omega), hx 5 (by omega), hx 6 (by omega)]; rfl
   rw [hz] at HWi
   have HGi := Lib.hid (fun (W : World) (M : List HP) (hS : St w0 W M) => rget_s (w0 := w0) (w := W) (L := M) kind e a b c d id task tick wait pid nonce code A B n m p q (rd l i) hf hS)
   clear hz hx hf
   generalize hV : rd [e, id, task, tick, wait, pid, nonce] (rd l i) = V at *
   clear hV
   generalize hz0 : x (i + 1) 0 = z0 at *
   generalize hz1 : x (i + 1) 1 = z1 at *
   generalize hz2 : x (i + 1) 2 = z2 at *
   generalize hz3 : x (i + 1) 3 = z3 at *
   generalize hz4 : x (i + 1) 4 = z4 at *
   generalize hz5 : x (i + 1) 5 = z5 at *
   generalize hz6 : x (i + 1) 6 = z6 at *
   have HZ := Lib.hid (And.intro hz0 (And.intro hz1 (And.intro hz2 (And.intro hz3 (And.intro hz4 (And.intro hz5 hz6))))))
   clear hz0 hz1 hz2 hz3 hz4 hz5 hz6
   generalize x i 0 = y0 at *
   generalize x i 1 = y1 at *
   generalize x i 2 = y2 at *
   generalize x i 3 = y3 at *
   generalize x i 4 = y4 at *
   generalize x i 5 = y5 at *
   generalize x i 6 = y6 at *
   have hg1 : decide ((i : Int) < (l.length : Int)) = true := decide_eq_true (by omega)
   have hg2 : ((i : Int) < (l.length : Int)) = True := eq_true (by omega)
   have hg3 : (0 ≤ (i : Int)) = True := eq_true (by omega)
   have hg4 : decide (i < l.length) = true := decide_eq_true hlt
   have hg5 : (i < l.length) = True := eq_true hlt
   go_upto_region 6 with fail
   refine start_ (n := 13) (S := fun w' => w'.cell? ⟨b3, 0, none⟩ = some (.int .u8 kind) ∧ w'.cell? ⟨b3, 1, none⟩ = some (.int .i64 y0) ∧ w'.cell? ⟨b3, 2, none⟩ = some (.int .i64 0) ∧ w'.cell? ⟨b3, 3, none⟩ = some (.int .i64 0) ∧ w'.cell? ⟨b3, 4, none⟩ = some (.int .i64 0) ∧ w'.cell? ⟨b3, 5, none⟩ = some (.int .i64 0) ∧ w'.cell? ⟨b3, 6, none⟩ = some (.slice none 0 0) ∧ w'.cell? ⟨b3, 7, none⟩ = some (.slice none 0 0) ∧ w'.cell? ⟨b3, 8, none⟩ = some (.int .i64 y1) ∧ w'.cell? ⟨b3, 9, none⟩ = some (.int .i64 y2) ∧ w'.cell? ⟨b3, 10, none⟩ = some (.int .i64 y3) ∧ w'.cell? ⟨b3, 11, none⟩ = some (.int .i64 y4) ∧ w'.cell? ⟨b3, 12, none⟩ = some (.int .i64 y5) ∧ w'.cell? ⟨b3, 13, none⟩ = some (.int .i64 y6) ∧ w'.cell? ⟨b3, 14, none⟩ = some (.int .i64 0) ∧ w'.cell? ⟨b1, 0, none⟩ = some (.int .u8 kind) ∧ w'.cell? ⟨b1, 1, none⟩ = some (.int .i64 e) ∧ w'.cell? ⟨b1, 2, none⟩ = some (.int .i64 a) ∧ w'.cell? ⟨b1, 3, none⟩ = some (.int .i64 b) ∧ w'.cell? ⟨b1, 4, none⟩ = some (.int .i64 c) ∧ w'.cell? ⟨b1, 5, none⟩ = some (.int .i64 d) ∧ w'.cell? ⟨b1, 6, none⟩ = some (.slice A n p) ∧ w'.cell? ⟨b1, 7, none⟩ = some (.slice B m q) ∧ w'.cell? ⟨b1, 8, none⟩ = some (.int .i64 id) ∧ w'.cell? ⟨b1, 9, none⟩ = some (.int .i64 task) ∧ w'.cell? ⟨b1, 10, none⟩ = some (.int .i64 tick) ∧ w'.cell? ⟨b1, 11, none⟩ = some (.int .i64 wait) ∧ w'.cell? ⟨b1, 12, none⟩ = some (.int .i64 pid) ∧ w'.cell? ⟨b1, 13, none⟩ = some (.int .i64 nonce) ∧ w'.cell? ⟨b1, 14, none⟩ = some (.int .i64 code) ∧ w'.cell? (ad.add i) = some (.int .i64 (rd l i))) (ds := [12]) #[false, false, false, false, false, false, false, false, false, false, false, false, false] (by kernel_rfl) rfl rfl ⟨(hs.pick 1).cells 0, (hs.pick 1).cells 1, (hs.pick 1).cells 2, (hs.pick 1).cells 3, (hs.pick 1).cells 4, (hs.pick 1).cells 5, (hs.pick 1).cells 6, (hs.pick 1).cells 7, (hs.pick 1).cells 8, (hs.pick 1).cells 9, (hs.pick 1).cells 10, (hs.pick 1).cells 11, (hs.pick 1).cells 12, (hs.pick 1).cells 13, (hs.pick 1).cells 14, (hs.pick 3).cells 0, (hs.pick 3).cells 1, (hs.pick 3).cells 2, (hs.pick 3).cells 3, (hs.pick 3).cells 4, (hs.pick 3).cells 5, (hs.pick 3).cells 6, (hs.pick 3).cells 7, (hs.pick 3).cells 8, (hs.pick 3).cells 9, (hs.pick 3).cells 10, (hs.pick 3).cells 11, (hs.pick 3).cells 12, (hs.pick 3).cells 13, (hs.pick 3).cells 14, hcF⟩ (fun hHeld => ?_)
   have sd := hs.drew
   clear hs hcF
   generalize wr.drew = wd at *
   refine pure_ (i := 1) (N := some 19) (v := ?_) (a' := ?_) #[false, true, false, false, false, false, false, false, false, false, false, false, false] rfl rfl (by as_aux_lemma => kernel_rfl) (fun _ _ _ h => h) (Or.inl ⟨by rfl, ?_⟩) ?_ ?_
   rotate_left
   ·intro w'
    go_simp
    with_reducible rfl
   rotate_left
   ·simp only [Act.put, List.setIfInBounds_toArray, List.set_cons_zero, List.set_cons_succ, i64_w, i32_w]
    rfl
   refine pure_ (i := 2) (N := some 20) (v := ?_) (a' := ?_) #[false, true, true, false, false, false, false, false, false, false, false, false, false] rfl rfl (by as_aux_lemma => kernel_rfl) (fun _ _ _ h => h) (Or.inl ⟨by rfl, ?_⟩) ?_ ?_
   rotate_left
   ·intro w'
    go_simp
    with_reducible rfl
   rotate_left
   ·simp only [Act.put, List.setIfInBounds_toArray, List.set_cons_zero, List.set_cons_succ, i64_w, i32_w]
    rfl
   refine pure_ (i := 3) (N := some 21) (v := ?_) (a' := ?_) #[false, true, true, true, false, false, false, false, false, false, false, false, false] rfl rfl (by as_aux_lemma => kernel_rfl) (fun _ _ _ h => h) (Or.inl ⟨by rfl, ?_⟩) ?_ ?_
   rotate_left
   ·intro w'
    go_simp
    with_reducible rfl
   rotate_left
   ·simp only [Act.put, List.setIfInBounds_toArray, List.set_cons_zero, List.set_cons_succ, i64_w, i32_w]
    rfl
   refine pure_ (i := 6) (N := some 24) (v := ?_) (a' := ?_) #[false, true, true, true, false, false, true, false, false, false, false, false, false] rfl rfl (by as_aux_lemma => kernel_rfl) (fun _ _ _ h => h) (Or.inl ⟨by rfl, ?_⟩) ?_ ?_
   rotate_left
   ·intro w'
    go_simp
    with_reducible rfl
   rotate_left
   ·simp only [Act.put, List.setIfInBounds_toArray, List.set_cons_zero, List.set_cons_succ, i64_w, i32_w]
    rfl
   refine pure_ (i := 7) (N := some 25) (v := ?_) (a' := ?_) #[false, true, true, true, false, false, true, true, false, false, false, false, false] rfl rfl (by as_aux_lemma => kernel_rfl) (fun _ _ _ h => h) (Or.inl ⟨by rfl, ?_⟩) ?_ ?_
   rotate_left
   ·intro w'
    go_simp
    with_reducible rfl
   rotate_left
   ·simp only [Act.put, List.setIfInBounds_toArray, List.set_cons_zero, List.set_cons_succ, i64_w, i32_w]
    rfl
   refine pure_ (i := 8) (N := some 26) (v := ?_) (a' := ?_) #[false, true, true, true, false, false, true, true, true, false, false, false, false] rfl rfl (by as_aux_lemma => kernel_rfl) (fun _ _ _ h => h) (Or.inl ⟨by rfl, ?_⟩) ?_ ?_
   rotate_left
   ·intro w'
    go_simp
    with_reducible rfl
   rotate_left
   ·simp only [Act.put, List.setIfInBounds_toArray, List.set_cons_zero, List.set_cons_succ, i64_w, i32_w]
    rfl
   refine take_ (i := 0) (N := some 18) (v := ?_) (a' := ?_) #[true, true, true, true, false, false, true, true, true, false, false, false, false] rfl rfl (by as_aux_lemma => kernel_rfl) (fun _ _ _ h => h) (Or.inl ⟨by rfl, ?_⟩) hHeld ?_ ?_
   rotate_left
   ·rintro w' ⟨s0, s1, s2, s3, s4, s5, s6, s7, s8, s9, s10, s11, s12, s13, s14, s15, s16, s17, s18, s19, s20, s21, s22, s23, s24, s25, s26, s27, s28, s29, s30⟩
    go_simp
    with_reducible rfl
   rotate_left
   ·simp only [Act.put, List.setIfInBounds_toArray, List.set_cons_zero, List.set_cons_succ, i64_w, i32_w]
    rfl
   refine take_ (i := 4) (N := some 22) (v := ?_) (a' := ?_) #[true, true, true, true, true, false, true, true, true, false, false, false, false] rfl rfl (by as_aux_lemma => kernel_rfl) (fun _ _ _ h => h) (Or.inl ⟨by rfl, ?_⟩) hHeld ?_ ?_
   rotate_left
   ·rintro w' ⟨s0, s1, s2, s3, s4, s5, s6, s7, s8, s9, s10, s11, s12, s13, s14, s15, s16, s17, s18, s19, s20, s21, s22, s23, s24, s25, s26, s27, s28, s29, s30⟩
    go_simp
    with_reducible rfl
   rotate_left
   ·simp only [Act.put, List.setIfInBounds_toArray, List.set_cons_zero, List.set_cons_succ, i64_w, i32_w]
    rfl
   refine take_ (i := 5) (N := some 23) (v := ?_) (a' := ?_) #[true, true, true, true, true, true, true, true, true, false, false, false, false] rfl rfl (by as_aux_lemma => kernel_rfl) (fun _ _ _ h => h) (Or.inl ⟨by rfl, ?_⟩) hHeld ?_ ?_
   rotate_left
   ·rintro w' ⟨s0, s1, s2, s3, s4, s5, s6, s7, s8, s9, s10, s11, s12, s13, s14, s15, s16, s17, s18, s19, s20, s21, s22, s23, s24, s25, s26, s27, s28, s29, s30⟩
    go_simp
    with_reducible rfl
   rotate_left
   ·simp only [Act.put, List.setIfInBounds_toArray, List.set_cons_zero, List.set_cons_succ, i64_w, i32_w]
    rfl
   refine take_ (i := 9) (N := some 27) (v := ?_) (a' := ?_) #[true, true, true, true, true, true, true, true, true, true, false, false, false] rfl rfl (by as_aux_lemma => kernel_rfl) (fun _ _ _ h => h) (Or.inl ⟨by rfl, ?_⟩) hHeld ?_ ?_
   rotate_left
   ·rintro w' ⟨s0, s1, s2, s3, s4, s5, s6, s7, s8, s9, s10, s11, s12, s13, s14, s15, s16, s17, s18, s19, s20, s21, s22, s23, s24, s25, s26, s27, s28, s29, s30⟩
    go_simp
    with_reducible rfl
   rotate_left
   ·simp only [Act.put, List.setIfInBounds_toArray, List.set_cons_zero, List.set_cons_succ, i64_w, i32_w]
    rfl
   refine one_ (i := 10) (N := some 28) #[true, true, true, true, true, true, true, true, true, true, true, false, false] rfl rfl (by as_aux_lemma => kernel_rfl) (by decide) (fun K hK => ?_)
   refine goes_ Try.func55 (by as_aux_lemma => kernel_rfl) rfl #[.agg #[.int .u8 kind, .int .i64 e, .int .i64 a, .int .i64 b, .int .i64 c, .int .i64 d, .slice A n p, .slice B m q, .int .i64 id, .int .i64 task, .int .i64 tick, .int .i64 wait, .int .i64 pid, .int .i64 nonce, .int .i64 code], .int .i64 (rd l i)] (by rfl) rfl rfl (by (try simp only [List.map_toArray, List.map_cons, List.map_nil]); first | done | rfl) ?_
   with_reducible refine (HGi.out _ _ sd).mono ?_
   rintro ee w5 ⟨rfl, s5⟩
   refine ⟨_, rfl, ?_⟩
   obtain ⟨ad', e', hcF⟩ := RI_atN s5 i hlt
   injection e' with e'
   subst e'
   refine hK.out _ _ ⟨(s5.pick 1).cells 0, (s5.pick 1).cells 1, (s5.pick 1).cells 2, (s5.pick 1).cells 3, (s5.pick 1).cells 4, (s5.pick 1).cells 5, (s5.pick 1).cells 6, (s5.pick 1).cells 7, (s5.pick 1).cells 8, (s5.pick 1).cells 9, (s5.pick 1).cells 10, (s5.pick 1).cells 11, (s5.pick 1).cells 12, (s5.pick 1).cells 13, (s5.pick 1).cells 14, (s5.pick 3).cells 0, (s5.pick 3).cells 1, (s5.pick 3).cells 2, (s5.pick 3).cells 3, (s5.pick 3).cells 4, (s5.pick 3).cells 5, (s5.pick 3).cells 6, (s5.pick 3).cells 7, (s5.pick 3).cells 8, (s5.pick 3).cells 9, (s5.pick 3).cells 10, (s5.pick 3).cells 11, (s5.pick 3).cells 12, (s5.pick 3).cells 13, (s5.pick 3).cells 14, hcF⟩ (fun hHeld => ?_)
   clear hK K hcF sd
   refine norm_ (a' := ?_) ?_ ?_
   rotate_left
   ·show Act.put _ (some 28) _ = _
    simp only [Act.put, List.setIfInBounds_toArray, List.set_cons_zero, List.set_cons_succ, i64_w, i32_w]
    rfl
   refine one_ (i := 11) (N := some 29) #[true, true, true, true, true, true, true, true, true, true, true, true, false] rfl rfl (by as_aux_lemma => kernel_rfl) (by decide) (fun K hK => ?_)
   refine goes_ Try.func50 (by as_aux_lemma => kernel_rfl) rfl #[.agg #[.int .u8 kind, .int .i64 y0, .int .i64 0, .int .i64 0, .int .i64 0, .int .i64 0, .slice none 0 0, .slice none 0 0, .int .i64 y1, .int .i64 y2, .int .i64 y3, .int .i64 y4, .int .i64 y5, .int .i64 y6, .int .i64 0], .int .i64 (rd l i), .int .i64 V] (by rfl) rfl rfl (by (try simp only [List.map_toArray, List.map_cons, List.map_nil]); first | done | rfl) ?_
   with_reducible refine (HWi.out _ _ s5).mono ?_
   rintro ee w6 ⟨rfl, s6⟩
   refine ⟨_, rfl, ?_⟩
   obtain ⟨ad', e', hcF⟩ := RI_atN s6 i hlt
   injection e' with e'
   subst e'
   refine hK.out _ _ ⟨(s6.pick 1).cells 0, (s6.pick 1).cells 1, (s6.pick 1).cells 2, (s6.pick 1).cells 3, (s6.pick 1).cells 4, (s6.pick 1).cells 5, (s6.pick 1).cells 6, (s6.pick 1).cells 7, (s6.pick 1).cells 8, (s6.pick 1).cells 9, (s6.pick 1).cells 10, (s6.pick 1).cells 11, (s6.pick 1).cells 12, (s6.pick 1).cells 13, (s6.pick 1).cells 14, (s6.pick 3).cells 0, (s6.pick 3).cells 1, (s6.pick 3).cells 2, (s6.pick 3).cells 3, (s6.pick 3).cells 4, (s6.pick 3).cells 5, (s6.pick 3).cells 6, (s6.pick 3).cells 7, (s6.pick 3).cells 8, (s6.pick 3).cells 9, (s6.pick 3).cells 10, (s6.pick 3).cells 11, (s6.pick 3).cells 12, (s6.pick 3).cells 13, (s6.pick 3).cells 14, hcF⟩ (fun hHeld => ?_)
   clear hK K hcF s5
   refine norm_ (a' := ?_) ?_ ?_
   rotate_left
   ·show Act.put _ (some 29) _ = _
    simp only [Act.put, List.setIfInBounds_toArray, List.set_cons_zero, List.set_cons_succ, i64_w, i32_w]
    rfl
   clear hHeld HGi HWi
   have s7 := s6.pick 1
   simp only [List.getElem_cons_succ, List.getElem_cons_zero, List.eraseIdx_cons_succ, List.eraseIdx_cons_zero] at s7
   clear s6
   refine last_ (i := 12) (N := none) #[true, true, true, true, true, true, true, true, true, true, true, true, true] rfl rfl (by as_aux_lemma => kernel_rfl) (by decide) (fun K hK => ?_)
   refine skip_ (w1 := w6.setRow b3 #[.int .u8 kind, .int .i64 z0, .int .i64 0, .int .i64 0, .int .i64 0, .int .i64 0, .slice none 0 0, .slice none 0 0, .int .i64 z1, .int .i64 z2, .int .i64 z3, .int .i64 z4, .int .i64 z5, .int .i64 z6, .int .i64 0]) (by rfl) rfl (run_storeM w6 _ _ 35 rfl b3 0 #[.int .u8 kind, .int .i64 z0, .int .i64 0, .int .i64 0, .int .i64 0, .int .i64 0, .slice none 0 0, .slice none 0 0, .int .i64 z1, .int .i64 z2, .int .i64 z3, .int .i64 z4, .int .i64 z5, .int .i64 z6, .int .i64 0] size_rec rfl rfl rfl s7.at0 (by simp) (by simp [Value.oneCell']) rfl) ?_
   refine hK.out _ _ ?_
   clear hK K
   have s8 := (s7.setRow #[.int .u8 kind, .int .i64 z0, .int .i64 0, .int .i64 0, .int .i64 0, .int .i64 0, .slice none 0 0, .slice none 0 0, .int .i64 z1, .int .i64 z2, .int .i64 z3, .int .i64 z4, .int .i64 z5, .int .i64 z6, .int .i64 0]).pick 1
   simp only [List.getElem_cons_succ, List.getElem_cons_zero, List.eraseIdx_cons_succ, List.eraseIdx_cons_zero] at s8
   clear s7
   generalize w6.setRow b3 #[.int .u8 kind, .int .i64 z0, .int .i64 0, .int .i64 0, .int .i64 0, .int .i64 0, .slice none 0 0, .slice none 0 0, .int .i64 z1, .int .i64 z2, .int .i64 z3, .int .i64 z4, .int .i64 z5, .int .i64 z6, .int .i64 0] = w8 at *
   refine done_ (by as_aux_lemma => kernel_rfl) ?_
   go_wp2_with fail
   all_goals go_roundw
   all_goals first | exact ⟨i + 1, by omega, by go_num, by obtain ⟨rfl, rfl, rfl, rfl, rfl, rfl, rfl⟩ := HZ.out; exact s8⟩ | (simp [intOf]; omega)
  ·obtain rfl : i = l.length := by omega
   have hg1 : decide ((l.length : Int) < (l.length : Int)) = false := decide_eq_false (by omega)
   have s9 := hs.drop
   clear hs
   have hk1 : (kind == 1) = false := beq_eq_false_iff_ne.mpr hk.1
   have hk8 : (kind == 8) = false := beq_eq_false_iff_ne.mpr hk.2
   have hk1' : decide (kind = 1) = false := decide_eq_false hk.1
   have hk8' : decide (kind = 8) = false := decide_eq_false hk.2
   have hc1 := (s9.pick 2).cells
   have hc3 := s9.cells
   have t := s9.pick 1
   simp only [List.getElem_cons_succ, List.getElem_cons_zero, List.eraseIdx_cons_succ, List.eraseIdx_cons_zero] at t
   have T := Lib.hid t
   clear s9 t
   go_wp2_with (first | ((with_reducible refine wpList_storeSt T.out rfl _ _ 35 rfl 0 #[.int .u8 kind, .int .i64 (x l.length 0), .int .i64 0, .int .i64 0, .int .i64 0, .int .i64 0, .slice none 0 0, .slice none 0 0, .int .i64 (x l.length 1), .int .i64 (x l.length 2), .int .i64 (x l.length 3), .int .i64 (x l.length 4), .int .i64 (x l.length 5), .int .i64 (x l.length 6), .int .i64 0] #[.int .u8 kind, .int .i64 (x l.length 0), .int .i64 0, .int .i64 0, .int .i64 0, .int .i64 0, .slice none 0 0, .slice none 0 0, .int .i64 (x l.length 1), .int .i64 (x l.length 2), .int .i64 (x l.length 3), .int .i64 (x l.length 4), .int .i64 (x l.length 5), .int .i64 (x l.length 6), .int .i64 0] size_rec ?hn ?hx ?hv ?hf ?h1 ?he ?_); (case hn => rfl); (case hx => rfl); (case hv => rfl); (case hf => simp); (case h1 => simp [Value.oneCell']); (case he => rfl); intro wz sz; have hcz := sz.cells; have hfz := sz.free; have SZ := Lib.hid sz; clear sz) | fail)
   refine bodyPost_ret (v := .agg #[.int .u8 kind, .int .i64 (x l.length 0), .int .i64 0, .int .i64 0, .int .i64 0, .int .i64 0, .slice none 0 0, .slice none 0 0, .int .i64 (x l.length 1), .int .i64 (x l.length 2), .int .i64 (x l.length 3), .int .i64 (x l.length 4), .int .i64 (x l.length 5), .int .i64 (x l.length 6), .int .i64 0]) (by simp [results, Try.results57, go_sem, hcz]) rfl ?_
   exact ⟨rfl, SZ.out.drop.drop.drop⟩
set_option maxRecDepth 100000 in
set_option maxHeartbeats 4000000 in
theorem rplain_8 {w0 w : World} {L : List HP} (e a b c d id task tick wait pid nonce code : Int) (A B : Option Addr) (n m p q : Nat) (l : List Int) (x : Nat → Nat → Int) (hl : fieldsL 8 = l) (hf : ∀ i, i < l.length → 0 ≤ rd l i ∧ rd l i < 7) (hx0 : ∀ j, j < 7 → x 0 j = 0)
  (hx : ∀ i, i < l.length → ∀ j, j < 7 → x (i + 1) j = if rd l i = (j : Int) then rd [e, id, task, tick, wait, pid, nonce] (rd l i) else x i j) (hle : l.length ≤ 7) (h : St w0 w L) :
  Calls Try.prog 57 #[.agg #[.int .u8 8, .int .i64 e, .int .i64 a, .int .i64 b, .int .i64 c, .int .i64 d, .slice A n p, .slice B m q, .int .i64 id, .int .i64 task, .int .i64 tick, .int .i64 wait, .int .i64 pid, .int .i64 nonce, .int .i64 code]] w fun ee w' => ee = .returned (.agg #[.int .u8 8, .int .i64 (x l.length 0), .int .i64 0, .int .i64 0, .int .i64 0, .int .i64 0, .slice none 0 0, .slice none 0 0, .int .i64 (x l.length 1), .int .i64 (x l.length 2), .int .i64 (x l.length 3), .int .i64 (x l.length 4), .int .i64 (x l.length 5), .int .i64 (x l.length 6), .int .i64 code]) ∧ St w0 w' L := by
 have s0 := ((h.alloc #[.int .u8 8, .int .i64 e, .int .i64 a, .int .i64 b, .int .i64 c, .int .i64 d, .slice A n p, .slice B m q, .int .i64 id, .int .i64 task, .int .i64 tick, .int .i64 wait, .int .i64 pid, .int .i64 nonce, .int .i64 code] tRe).alloc #[.int .u8 0, .int .i64 0, .int .i64 0, .int .i64 0, .int .i64 0, .int .i64 0, .slice none 0 0, .slice none 0 0, .int .i64 0, .int .i64 0, .int .i64 0, .int .i64 0, .int .i64 0, .int .i64 0, .int .i64 0] tRe).alloc #[.int .u8 8, .int .i64 0, .int .i64 0, .int .i64 0, .int .i64 0, .int .i64 0, .slice none 0 0, .slice none 0 0, .int .i64 0, .int .i64 0, .int .i64 0, .int .i64 0, .int .i64 0, .int .i64 0, .int .i64 0] tRe
 have hn1 : (w.alloc (Obj.cells #[.int .u8 8, .int .i64 e, .int .i64 a, .int .i64 b, .int .i64 c, .int .i64 d, .slice A n p, .slice B m q, .int .i64 id, .int .i64 task, .int .i64 tick, .int .i64 wait, .int .i64 pid, .int .i64 nonce, .int .i64 code] tRe)).heap.size = w.heap.size + 1 := by simp
 have hn2 : ((w.alloc (Obj.cells #[.int .u8 8, .int .i64 e, .int .i64 a, .int .i64 b, .int .i64 c, .int .i64 d, .slice A n p, .slice B m q, .int .i64 id, .int .i64 task, .int .i64 tick, .int .i64 wait, .int .i64 pid, .int .i64 nonce, .int .i64 code] tRe)).alloc (Obj.cells #[.int .u8 0, .int .i64 0, .int .i64 0, .int .i64 0, .int .i64 0, .int .i64 0, .slice none 0 0, .slice none 0 0, .int .i64 0, .int .i64 0, .int .i64 0, .int .i64 0, .int .i64 0, .int .i64 0, .int .i64 0] tRe)).heap.size = w.heap.size + 2 := by simp
 rw [hn1, hn2] at s0
 clear h hn1 hn2
 have hc1 := (s0.pick 2).cells
 have HW := Lib.hid (And.intro hl (And.intro hf (And.intro hx0 hx)))
 have HLE := Lib.hid hle
 have S0 := Lib.hid s0
 clear s0 hl hf hx0 hx hle
 go_enter Try.func57, Try.ntmps57
 go_wp2_with fail
 refine (rfields_s 8 S0.out).mono ?_
 rintro ee w1 ⟨v, rfl, s1⟩
 clear S0 hc1
 rw [HW.out.1] at s1
 obtain ⟨F, cF, rfl⟩ := RI_sl s1
 generalize w.heap.size + 2 = b3 at *
 generalize w.heap.size + 1 = b2 at *
 generalize w.heap.size = b1 at *
 have hq0 : (#[.int .u8 8, .int .i64 0, .int .i64 0, .int .i64 0, .int .i64 0, .int .i64 0, .slice none 0 0, .slice none 0 0, .int .i64 0, .int .i64 0, .int .i64 0, .int .i64 0, .int .i64 0, .int .i64 0, .int .i64 0] : Array Value) = #[.int .u8 8, .int .i64 (x 0 0), .int .i64 0, .int .i64 0, .int .i64 0, .int .i64 0, .slice none 0 0, .slice none 0 0, .int .i64 (x 0 1), .int .i64 (x 0 2), .int .i64 (x 0 3), .int .i64 (x 0 4), .int .i64 (x 0 5), .int .i64 (x 0 6), .int .i64 0] := by rw [HW.out.2.2.1 0 (by omega), HW.out.2.2.1 1 (by omega), HW.out.2.2.1 2 (by omega), HW.out.2.2.1 3 (by omega), HW.out.2.2.1 4 (by omega), HW.out.2.2.1 5 (by omega), HW.out.2.2.1 6 (by omega)]
 rw [hq0] at s1
 clear hq0
 have S1 := Lib.hid s1
 clear s1
 go_wp2_with fail
 go_loopw [5] (fun y wr => ∃ i : Nat, i ≤ l.length ∧ y = .int .i64 i ∧ St w0 wr (RI (.slice F l.length cF) l :: Go.Proofs.YtkhcdichdnbcmaaR.blk b3 #[.int .u8 8, .int .i64 (x i 0), .int .i64 0, .int .i64 0, .int .i64 0, .int .i64 0, .slice none 0 0, .slice none 0 0, .int .i64 (x i 1), .int .i64 (x i 2), .int .i64 (x i 3), .int .i64 (x i 4), .int .i64 (x i 5), .int .i64 (x i 6), .int .i64 0] tRe :: Go.Proofs.YtkhcdichdnbcmaaR.blk b2 #[.int .u8 0, .int .i64 0, .int .i64 0, .int .i64 0, .int .i64 0, .int .i64 0, .slice none 0 0, .slice none 0 0, .int .i64 0, .int .i64 0, .int .i64 0, .int .i64 0, .int .i64 0, .int .i64 0, .int .i64 0] tRe :: Go.Proofs.YtkhcdichdnbcmaaR.blk b1 #[.int .u8 8, .int .i64 e, .int .i64 a, .int .i64 b, .int .i64 c, .int .i64 d, .slice A n p, .slice B m q, .int .i64 id, .int .i64 task, .int .i64 tick, .int .i64 wait, .int .i64 pid, .int .i64 nonce, .int .i64 code] tRe :: L)) (fun y _ => l.length - (intOf y).toNat)
 case atStart => exact ⟨0, by omega, rfl, S1.out⟩
 case round =>
  clear S1
  obtain ⟨i, hi, rfl, hs⟩ := hrel
  by_cases hlt : i < l.length
  ·as_aux_lemma =>
   obtain ⟨ad, rfl, hcF⟩ := RI_atN hs i hlt
   have hle := HLE.out
   have hf := HW.out.2.1 i hlt
   have hx : ∀ j, j < 7 → x (i + 1) j = if rd l i = (j : Int) then rd [e, id, task, tick, wait, pid, nonce] (rd l i) else x i j := fun j hj => HW.out.2.2.2 i hlt j hj
   have HWi := Lib.hid (fun (W : World) (M : List HP) (hS : St w0 W M) => rwith_s (w0 := w0) (w := W) (L := M) 8 (x i 0) 0 0 0 0 (x i 1) (x i 2) (x i 3) (x i 4) (x i 5) (x i 6) 0 (rd [e, id, task, tick, wait, pid, nonce] (rd l i)) none none 0 0 0 0 (rd l i) hf hS)
   have hz : (#[.int .u8 8, .int .i64 (if rd l i = 0 then rd [e, id, task, tick, wait, pid, nonce] (rd l i) else x i 0), .int .i64 0, .int .i64 0, .int .i64 0, .int .i64 0, .slice none 0 0, .slice none 0 0, .int .i64 (if rd l i = 1 then rd [e, id, task, tick, wait, pid, nonce] (rd l i) else x i 1), .int .i64 (if rd l i = 2 then rd [e, id, task, tick, wait, pid, nonce] (rd l i) else x i 2), .int .i64 (if rd l i = 3 then rd [e, id, task, tick, wait, pid, nonce] (rd l i) else x i 3), .int .i64 (if rd l i = 4 then rd [e, id, task, tick, wait, pid, nonce] (rd l i) else x i 4), .int .i64 (if rd l i = 5 then rd [e, id, task, tick, wait, pid, nonce] (rd l i) else x i 5), .int .i64 (if rd l i = 6 then rd [e, id, task, tick, wait, pid, nonce] (rd l i) else x i 6), .int .i64 0] : Array Value) = #[.int .u8 8, .int .i64 (x (i + 1) 0), .int .i64 0, .int .i64 0, .int .i64 0, .int .i64 0, .slice none 0 0, .slice none 0 0, .int .i64 (x (i + 1) 1), .int .i64 (x (i + 1) 2), .int .i64 (x (i + 1) 3), .int .i64 (x (i + 1) 4), .int .i64 (x (i + 1) 5), .int .i64 (x (i + 1) 6), .int .i64 0] := by rw [hx 0 (by omega), hx 1 (by omega), hx 2 (by omega), hx 3 (by omega), hx 4 (by omega), hx 5 (by omega), hx 6 (by omega)]; rfl
   rw [hz] at HWi
   have HGi := Lib.hid (fun (W : World) (M : List HP) (hS : St w0 W M) => rget_s (w0 := w0) (w := W) (L := M) 8 e a b c d id task tick wait pid nonce code A B n m p q (rd l i) hf hS)
   clear hz hx hf
   generalize hV : rd [e, id, task, tick, wait, pid, nonce] (rd l i) = V at *
   clear hV
   generalize hz0 : x (i + 1) 0 = z0 at *
   generalize hz1 : x (i + 1) 1 = z1 at *
   generalize hz2 : x (i + 1) 2 = z2 at *
   generalize hz3 : x (i + 1) 3 = z3 at *
   generalize hz4 : x (i + 1) 4 = z4 at *
   generalize hz5 : x (i + 1) 5 = z5 at *
   generalize hz6 : x (i + 1) 6 = z6 at *
   have HZ := Lib.hid (And.intro hz0 (And.intro hz1 (And.intro hz2 (And.intro hz3 (And.intro hz4 (And.intro hz5 hz6))))))
   clear hz0 hz1 hz2 hz3 hz4 hz5 hz6
   generalize x i 0 = y0 at *
   generalize x i 1 = y1 at *
   generalize x i 2 = y2 at *
   generalize x i 3 = y3 at *
   generalize x i 4 = y4 at *
   generalize x i 5 = y5 at *
   generalize x i 6 = y6 at *
   have hg1 : decide ((i : Int) < (l.length : Int)) = true := decide_eq_true (by omega)
   have hg2 : ((i : Int) < (l.length : Int)) = True := eq_true (by omega)
   have hg3 : (0 ≤ (i : Int)) = True := eq_true (by omega)
   have hg4 : decide (i < l.length) = true := decide_eq_true hlt
   have hg5 : (i < l.length) = True := eq_true hlt
   go_upto_region 6 with fail
   refine start_ (n := 13) (S := fun w' => w'.cell? ⟨b3, 0, none⟩ = some (.int .u8 8) ∧ w'.cell? ⟨b3, 1, none⟩ = some (.int .i64 y0) ∧ w'.cell? ⟨b3, 2, none⟩ = some (.int .i64 0) ∧ w'.cell? ⟨b3, 3, none⟩ = some (.int .i64 0) ∧ w'.cell? ⟨b3, 4, none⟩ = some (.int .i64 0) ∧ w'.cell? ⟨b3, 5, none⟩ = some (.int .i64 0) ∧ w'.cell? ⟨b3, 6, none⟩ = some (.slice none 0 0) ∧ w'.cell? ⟨b3, 7, none⟩ = some (.slice none 0 0) ∧ w'.cell? ⟨b3, 8, none⟩ = some (.int .i64 y1) ∧ w'.cell? ⟨b3, 9, none⟩ = some (.int .i64 y2) ∧ w'.cell? ⟨b3, 10, none⟩ = some (.int .i64 y3) ∧ w'.cell? ⟨b3, 11, none⟩ = some (.int .i64 y4) ∧ w'.cell? ⟨b3, 12, none⟩ = some (.int .i64 y5) ∧ w'.cell? ⟨b3, 13, none⟩ = some (.int .i64 y6) ∧ w'.cell? ⟨b3, 14, none⟩ = some (.int .i64 0) ∧ w'.cell? ⟨b1, 0, none⟩ = some (.int .u8 8) ∧ w'.cell? ⟨b1, 1, none⟩ = some (.int .i64 e) ∧ w'.cell? ⟨b1, 2, none⟩ = some (.int .i64 a) ∧ w'.cell? ⟨b1, 3, none⟩ = some (.int .i64 b) ∧ w'.cell? ⟨b1, 4, none⟩ = some (.int .i64 c) ∧ w'.cell? ⟨b1, 5, none⟩ = some (.int .i64 d) ∧ w'.cell? ⟨b1, 6, none⟩ = some (.slice A n p) ∧ w'.cell? ⟨b1, 7, none⟩ = some (.slice B m q) ∧ w'.cell? ⟨b1, 8, none⟩ = some (.int .i64 id) ∧ w'.cell? ⟨b1, 9, none⟩ = some (.int .i64 task) ∧ w'.cell? ⟨b1, 10, none⟩ = some (.int .i64 tick) ∧ w'.cell? ⟨b1, 11, none⟩ = some (.int .i64 wait) ∧ w'.cell? ⟨b1, 12, none⟩ = some (.int .i64 pid) ∧ w'.cell? ⟨b1, 13, none⟩ = some (.int .i64 nonce) ∧ w'.cell? ⟨b1, 14, none⟩ = some (.int .i64 code) ∧ w'.cell? (ad.add i) = some (.int .i64 (rd l i))) (ds := [12]) #[false, false, false, false, false, false, false, false, false, false, false, false, false] (by kernel_rfl) rfl rfl ⟨(hs.pick 1).cells 0, (hs.pick 1).cells 1, (hs.pick 1).cells 2, (hs.pick 1).cells 3, (hs.pick 1).cells 4, (hs.pick 1).cells 5, (hs.pick 1).cells 6, (hs.pick 1).cells 7, (hs.pick 1).cells 8, (hs.pick 1).cells 9, (hs.pick 1).cells 10, (hs.pick 1).cells 11, (hs.pick 1).cells 12, (hs.pick 1).cells 13, (hs.pick 1).cells 14, (hs.pick 3).cells 0, (hs.pick 3).cells 1, (hs.pick 3).cells 2, (hs.pick 3).cells 3, (hs.pick 3).cells 4, (hs.pick 3).cells 5, (hs.pick 3).cells 6, (hs.pick 3).cells 7, (hs.pick 3).cells 8, (hs.pick 3).cells 9, (hs.pick 3).cells 10, (hs.pick 3).cells 11, (hs.pick 3).cells 12, (hs.pick 3).cells 13, (hs.pick 3).cells 14, hcF⟩ (fun hHeld => ?_)
   have sd := hs.drew
   clear hs hcF
   generalize wr.drew = wd at *
   refine pure_ (i := 1) (N := some 19) (v := ?_) (a' := ?_) #[false, true, false, false, false, false, false, false, false, false, false, false, false] rfl rfl (by as_aux_lemma => kernel_rfl) (fun _ _ _ h => h) (Or.inl ⟨by rfl, ?_⟩) ?_ ?_
   rotate_left
   ·intro w'
    go_simp
    with_reducible rfl
   rotate_left
   ·simp only [Act.put, List.setIfInBounds_toArray, List.set_cons_zero, List.set_cons_succ, i64_w, i32_w]
    rfl
   refine pure_ (i := 2) (N := some 20) (v := ?_) (a' := ?_) #[false, true, true, false, false, false, false, false, false, false, false, false, false] rfl rfl (by as_aux_lemma => kernel_rfl) (fun _ _ _ h => h) (Or.inl ⟨by rfl, ?_⟩) ?_ ?_
   rotate_left
   ·intro w'
    go_simp
    with_reducible rfl
   rotate_left
   ·simp only [Act.put, List.setIfInBounds_toArray, List.set_cons_zero, List.set_cons_succ, i64_w, i32_w]
    rfl
   refine pure_ (i := 3) (N := some 21) (v := ?_) (a' := ?_) #[false, true, true, true, false, false, false, false, false, false, false, false, false] rfl rfl (by as_aux_lemma => kernel_rfl) (fun _ _ _ h => h) (Or.inl ⟨by rfl, ?_⟩) ?_ ?_
   rotate_left
   ·intro w'
    go_simp
    with_reducible rfl
   rotate_left
   ·simp only [Act.put, List.setIfInBounds_toArray, List.set_cons_zero, List.set_cons_succ, i64_w, i32_w]
    rfl
   refine pure_ (i := 6) (N := some 24) (v := ?_) (a' := ?_) #[false, true, true, true, false, false, true, false, false, false, false, false, false] rfl rfl (by as_aux_lemma => kernel_rfl) (fun _ _ _ h => h) (Or.inl ⟨by rfl, ?_⟩) ?_ ?_
   rotate_left
   ·intro w'
    go_simp
    with_reducible rfl
   rotate_left
   ·simp only [Act.put, List.setIfInBounds_toArray, List.set_cons_zero, List.set_cons_succ, i64_w, i32_w]
    rfl
   refine pure_ (i := 7) (N := some 25) (v := ?_) (a' := ?_) #[false, true, true, true, false, false, true, true, false, false, false, false, false] rfl rfl (by as_aux_lemma => kernel_rfl) (fun _ _ _ h => h) (Or.inl ⟨by rfl, ?_⟩) ?_ ?_
   rotate_left
   ·intro w'
    go_simp
    with_reducible rfl
   rotate_left
   ·simp only [Act.put, List.setIfInBounds_toArray, List.set_cons_zero, List.set_cons_succ, i64_w, i32_w]
    rfl
   refine pure_ (i := 8) (N := some 26) (v := ?_) (a' := ?_) #[false, true, true, true, false, false, true, true, true, false, false, false, false] rfl rfl (by as_aux_lemma => kernel_rfl) (fun _ _ _ h => h) (Or.inl ⟨by rfl, ?_⟩) ?_ ?_
   rotate_left
   ·intro w'
    go_simp
    with_reducible rfl
   rotate_left
   ·simp only [Act.put, List.setIfInBounds_toArray, List.set_cons_zero, List.set_cons_succ, i64_w, i32_w]
    rfl
   refine take_ (i := 0) (N := some 18) (v := ?_) (a' := ?_) #[true, true, true, true, false, false, true, true, true, false, false, false, false] rfl rfl (by as_aux_lemma => kernel_rfl) (fun _ _ _ h => h) (Or.inl ⟨by rfl, ?_⟩) hHeld ?_ ?_
   rotate_left
   ·rintro w' ⟨s0, s1, s2, s3, s4, s5, s6, s7, s8, s9, s10, s11, s12, s13, s14, s15, s16, s17, s18, s19, s20, s21, s22, s23, s24, s25, s26, s27, s28, s29, s30⟩
    go_simp
    with_reducible rfl
   rotate_left
   ·simp only [Act.put, List.setIfInBounds_toArray, List.set_cons_zero, List.set_cons_succ, i64_w, i32_w]
    rfl
   refine take_ (i := 4) (N := some 22) (v := ?_) (a' := ?_) #[true, true, true, true, true, false, true, true, true, false, false, false, false] rfl rfl (by as_aux_lemma => kernel_rfl) (fun _ _ _ h => h) (Or.inl ⟨by rfl, ?_⟩) hHeld ?_ ?_
   rotate_left
   ·rintro w' ⟨s0, s1, s2, s3, s4, s5, s6, s7, s8, s9, s10, s11, s12, s13, s14, s15, s16, s17, s18, s19, s20, s21, s22, s23, s24, s25, s26, s27, s28, s29, s30⟩
    go_simp
    with_reducible rfl
   rotate_left
   ·simp only [Act.put, List.setIfInBounds_toArray, List.set_cons_zero, List.set_cons_succ, i64_w, i32_w]
    rfl
   refine take_ (i := 5) (N := some 23) (v := ?_) (a' := ?_) #[true, true, true, true, true, true, true, true, true, false, false, false, false] rfl rfl (by as_aux_lemma => kernel_rfl) (fun _ _ _ h => h) (Or.inl ⟨by rfl, ?_⟩) hHeld ?_ ?_
   rotate_left
   ·rintro w' ⟨s0, s1, s2, s3, s4, s5, s6, s7, s8, s9, s10, s11, s12, s13, s14, s15, s16, s17, s18, s19, s20, s21, s22, s23, s24, s25, s26, s27, s28, s29, s30⟩
    go_simp
    with_reducible rfl
   rotate_left
   ·simp only [Act.put, List.setIfInBounds_toArray, List.set_cons_zero, List.set_cons_succ, i64_w, i32_w]
    rfl
   refine take_ (i := 9) (N := some 27) (v := ?_) (a' := ?_) #[true, true, true, true, true, true, true, true, true, true, false, false, false] rfl rfl (by as_aux_lemma => kernel_rfl) (fun _ _ _ h => h) (Or.inl ⟨by rfl, ?_⟩) hHeld ?_ ?_
   rotate_left
   ·rintro w' ⟨s0, s1, s2, s3, s4, s5, s6, s7, s8, s9, s10, s11, s12, s13, s14, s15, s16, s17, s18, s19, s20, s21, s22, s23, s24, s25, s26, s27, s28, s29, s30⟩
    go_simp
    with_reducible rfl
   rotate_left
   ·simp only [Act.put, List.setIfInBounds_toArray, List.set_cons_zero, List.set_cons_succ, i64_w, i32_w]
    rfl
   refine one_ (i := 10) (N := some 28) #[true, true, true, true, true, true, true, true, true, true, true, false, false] rfl rfl (by as_aux_lemma => kernel_rfl) (by decide) (fun K hK => ?_)
   refine goes_ Try.func55 (by as_aux_lemma => kernel_rfl) rfl #[.agg #[.int .u8 8, .int .i64 e, .int .i64 a, .int .i64 b, .int .i64 c, .int .i64 d, .slice A n p, .slice B m q, .int .i64 id, .int .i64 task, .int .i64 tick, .int .i64 wait, .int .i64 pid, .int .i64 nonce, .int .i64 code], .int .i64 (rd l i)] (by rfl) rfl rfl (by (try simp only [List.map_toArray, List.map_cons, List.map_nil]); first | done | rfl) ?_
   with_reducible refine (HGi.out _ _ sd).mono ?_
   rintro ee w5 ⟨rfl, s5⟩
   refine ⟨_, rfl, ?_⟩
   obtain ⟨ad', e', hcF⟩ := RI_atN s5 i hlt
   injection e' with e'
   subst e'
   refine hK.out _ _ ⟨(s5.pick 1).cells 0, (s5.pick 1).cells 1, (s5.pick 1).cells 2, (s5.pick 1).cells 3, (s5.pick 1).cells 4, (s5.pick 1).cells 5, (s5.pick 1).cells 6, (s5.pick 1).cells 7, (s5.pick 1).cells 8, (s5.pick 1).cells 9, (s5.pick 1).cells 10, (s5.pick 1).cells 11, (s5.pick 1).cells 12, (s5.pick 1).cells 13, (s5.pick 1).cells 14, (s5.pick 3).cells 0, (s5.pick 3).cells 1, (s5.pick 3).cells 2, (s5.pick 3).cells 3, (s5.pick 3).cells 4, (s5.pick 3).cells 5, (s5.pick 3).cells 6, (s5.pick 3).cells 7, (s5.pick 3).cells 8, (s5.pick 3).cells 9, (s5.pick 3).cells 10, (s5.pick 3).cells 11, (s5.pick 3).cells 12, (s5.pick 3).cells 13, (s5.pick 3).cells 14, hcF⟩ (fun hHeld => ?_)
   clear hK K hcF sd
   refine norm_ (a' := ?_) ?_ ?_
   rotate_left
   ·show Act.put _ (some 28) _ = _
    simp only [Act.put, List.setIfInBounds_toArray, List.set_cons_zero, List.set_cons_succ, i64_w, i32_w]
    rfl
   refine one_ (i := 11) (N := some 29) #[true, true, true, true, true, true, true, true, true, true, true, true, false] rfl rfl (by as_aux_lemma => kernel_rfl) (by decide) (fun K hK => ?_)
   refine goes_ Try.func50 (by as_aux_lemma => kernel_rfl) rfl #[.agg #[.int .u8 8, .int .i64 y0, .int .i64 0, .int .i64 0, .int .i64 0, .int .i64 0, .slice none 0 0, .slice none 0 0, .int .i64 y1, .int .i64 y2, .int .i64 y3, .int .i64 y4, .int .i64 y5, .int .i64 y6, .int .i64 0], .int .i64 (rd l i), .int .i64 V] (by rfl) rfl rfl (by (try simp only [List.map_toArray, List.map_cons, List.map_nil]); first | done | rfl) ?_
   with_reducible refine (HWi.out _ _ s5).mono ?_
   rintro ee w6 ⟨rfl, s6⟩
   refine ⟨_, rfl, ?_⟩
   obtain ⟨ad', e', hcF⟩ := RI_atN s6 i hlt
   injection e' with e'
   subst e'
   refine hK.out _ _ ⟨(s6.pick 1).cells 0, (s6.pick 1).cells 1, (s6.pick 1).cells 2, (s6.pick 1).cells 3, (s6.pick 1).cells 4, (s6.pick 1).cells 5, (s6.pick 1).cells 6, (s6.pick 1).cells 7, (s6.pick 1).cells 8, (s6.pick 1).cells 9, (s6.pick 1).cells 10, (s6.pick 1).cells 11, (s6.pick 1).cells 12, (s6.pick 1).cells 13, (s6.pick 1).cells 14, (s6.pick 3).cells 0, (s6.pick 3).cells 1, (s6.pick 3).cells 2, (s6.pick 3).cells 3, (s6.pick 3).cells 4, (s6.pick 3).cells 5, (s6.pick 3).cells 6, (s6.pick 3).cells 7, (s6.pick 3).cells 8, (s6.pick 3).cells 9, (s6.pick 3).cells 10, (s6.pick 3).cells 11, (s6.pick 3).cells 12, (s6.pick 3).cells 13, (s6.pick 3).cells 14, hcF⟩ (fun hHeld => ?_)
   clear hK K hcF s5
   refine norm_ (a' := ?_) ?_ ?_
   rotate_left
   ·show Act.put _ (some 29) _ = _
    simp only [Act.put, List.setIfInBounds_toArray, List.set_cons_zero, List.set_cons_succ, i64_w, i32_w]
    rfl
   clear hHeld HGi HWi
   have s7 := s6.pick 1
   simp only [List.getElem_cons_succ, List.getElem_cons_zero, List.eraseIdx_cons_succ, List.eraseIdx_cons_zero] at s7
   clear s6
   refine last_ (i := 12) (N := none) #[true, true, true, true, true, true, true, true, true, true, true, true, true] rfl rfl (by as_aux_lemma => kernel_rfl) (by decide) (fun K hK => ?_)
   refine skip_ (w1 := w6.setRow b3 #[.int .u8 8, .int .i64 z0, .int .i64 0, .int .i64 0, .int .i64 0, .int .i64 0, .slice none 0 0, .slice none 0 0, .int .i64 z1, .int .i64 z2, .int .i64 z3, .int .i64 z4, .int .i64 z5, .int .i64 z6, .int .i64 0]) (by rfl) rfl (run_storeM w6 _ _ 35 rfl b3 0 #[.int .u8 8, .int .i64 z0, .int .i64 0, .int .i64 0, .int .i64 0, .int .i64 0, .slice none 0 0, .slice none 0 0, .int .i64 z1, .int .i64 z2, .int .i64 z3, .int .i64 z4, .int .i64 z5, .int .i64 z6, .int .i64 0] size_rec rfl rfl rfl s7.at0 (by simp) (by simp [Value.oneCell']) rfl) ?_
   refine hK.out _ _ ?_
   clear hK K
   have s8 := (s7.setRow #[.int .u8 8, .int .i64 z0, .int .i64 0, .int .i64 0, .int .i64 0, .int .i64 0, .slice none 0 0, .slice none 0 0, .int .i64 z1, .int .i64 z2, .int .i64 z3, .int .i64 z4, .int .i64 z5, .int .i64 z6, .int .i64 0]).pick 1
   simp only [List.getElem_cons_succ, List.getElem_cons_zero, List.eraseIdx_cons_succ, List.eraseIdx_cons_zero] at s8
   clear s7
   generalize w6.setRow b3 #[.int .u8 8, .int .i64 z0, .int .i64 0, .int .i64 0, .int .i64 0, .int .i64 0, .slice none 0 0, .slice none 0 0, .int .i64 z1, .int .i64 z2, .int .i64 z3, .int .i64 z4, .int .i64 z5, .int .i64 z6, .int .i64 0] = w8 at *
   refine done_ (by as_aux_lemma => kernel_rfl) ?_
   go_wp2_with fail
   all_goals go_roundw
   all_goals first | exact ⟨i + 1, by omega, by go_num, by obtain ⟨rfl, rfl, rfl, rfl, rfl, rfl, rfl⟩ := HZ.out; exact s8⟩ | (simp [intOf]; omega)
  ·obtain rfl : i = l.length := by omega
   have hg1 : decide ((l.length : Int) < (l.length : Int)) = false := decide_eq_false (by omega)
   have s9 := hs.drop
   clear hs
   have hc1 := (s9.pick 2).cells
   have hc3 := s9.cells
   have hf3 := s9.free
   have t := s9.setb 14 (.int .i64 code) rfl
   have hc4 := t.cells
   have t2 := t.pick 1
   simp only [List.getElem_cons_succ, List.getElem_cons_zero, List.eraseIdx_cons_succ, List.eraseIdx_cons_zero] at t2
   have T := Lib.hid t2
   clear s9 t t2
   go_wp2_with (first | ((with_reducible refine wpList_storeSt T.out rfl _ _ 35 rfl 0 #[.int .u8 8, .int .i64 (x l.length 0), .int .i64 0, .int .i64 0, .int .i64 0, .int .i64 0, .slice none 0 0, .slice none 0 0, .int .i64 (x l.length 1), .int .i64 (x l.length 2), .int .i64 (x l.length 3), .int .i64 (x l.length 4), .int .i64 (x l.length 5), .int .i64 (x l.length 6), .int .i64 code] #[.int .u8 8, .int .i64 (x l.length 0), .int .i64 0, .int .i64 0, .int .i64 0, .int .i64 0, .slice none 0 0, .slice none 0 0, .int .i64 (x l.length 1), .int .i64 (x l.length 2), .int .i64 (x l.length 3), .int .i64 (x l.length 4), .int .i64 (x l.length 5), .int .i64 (x l.length 6), .int .i64 code] size_rec ?hn ?hx ?hv ?hf ?h1 ?he ?_); (case hn => rfl); (case hx => rfl); (case hv => rfl); (case hf => simp); (case h1 => simp [Value.oneCell']); (case he => rfl); intro wz sz; have hcz := sz.cells; have hfz := sz.free; have SZ := Lib.hid sz; clear sz) | fail)
   refine bodyPost_ret (v := .agg #[.int .u8 8, .int .i64 (x l.length 0), .int .i64 0, .int .i64 0, .int .i64 0, .int .i64 0, .slice none 0 0, .slice none 0 0, .int .i64 (x l.length 1), .int .i64 (x l.length 2), .int .i64 (x l.length 3), .int .i64 (x l.length 4), .int .i64 (x l.length 5), .int .i64 (x l.length 6), .int .i64 code]) (by simp [results, Try.results57, go_sem, hcz]) rfl ?_
   exact ⟨rfl, SZ.out.drop.drop.drop⟩
set_option maxRecDepth 100000 in
set_option maxHeartbeats 4000000 in
theorem rplain_1 {w0 w : World} {L : List HP} (e a b c d id task tick wait pid nonce code : Int) (A B : Option Addr) (n m p q : Nat) (l : List Int) (x : Nat → Nat → Int) (hl : fieldsL 1 = l) (hf : ∀ i, i < l.length → 0 ≤ rd l i ∧ rd l i < 7) (hx0 : ∀ j, j < 7 → x 0 j = 0)
  (hx : ∀ i, i < l.length → ∀ j, j < 7 → x (i + 1) j = if rd l i = (j : Int) then rd [e, id, task, tick, wait, pid, nonce] (rd l i) else x i j) (hle : l.length ≤ 7) (h : St w0 w L) :
  Calls Try.prog 57 #[.agg #[.int .u8 1, .int .i64 e, .int .i64 a, .int .i64 b, .int .i64 c, .int .i64 d, .slice A n p, .slice B m q, .int .i64 id, .int .i64 task, .int .i64 tick, .int .i64 wait, .int .i64 pid, .int .i64 nonce, .int .i64 code]] w fun ee w' => ee = .returned (.agg #[.int .u8 1, .int .i64 (x l.length 0), .int .i64 a, .int .i64 b, .int .i64 c, .int .i64 d, .slice A n p, .slice B m q, .int .i64 (x l.length 1), .int .i64 (x l.length 2), .int .i64 (x l.length 3), .int .i64 (x l.length 4), .int .i64 (x l.length 5), .int .i64 (x l.length 6), .int .i64 0]) ∧ St w0 w' L := by
 have s0 := ((h.alloc #[.int .u8 1, .int .i64 e, .int .i64 a, .int .i64 b, .int .i64 c, .int .i64 d, .slice A n p, .slice B m q, .int .i64 id, .int .i64 task, .int .i64 tick, .int .i64 wait, .int .i64 pid, .int .i64 nonce, .int .i64 code] tRe).alloc #[.int .u8 0, .int .i64 0, .int .i64 0, .int .i64 0, .int .i64 0, .int .i64 0, .slice none 0 0, .slice none 0 0, .int .i64 0, .int .i64 0, .int .i64 0, .int .i64 0, .int .i64 0, .int .i64 0, .int .i64 0] tRe).alloc #[.int .u8 1, .int .i64 0, .int .i64 0, .int .i64 0, .int .i64 0, .int .i64 0, .slice none 0 0, .slice none 0 0, .int .i64 0, .int .i64 0, .int .i64 0, .int .i64 0, .int .i64 0, .int .i64 0, .int .i64 0] tRe
 have hn1 : (w.alloc (Obj.cells #[.int .u8 1, .int .i64 e, .int .i64 a, .int .i64 b, .int .i64 c, .int .i64 d, .slice A n p, .slice B m q, .int .i64 id, .int .i64 task, .int .i64 tick, .int .i64 wait, .int .i64 pid, .int .i64 nonce, .int .i64 code] tRe)).heap.size = w.heap.size + 1 := by simp
 have hn2 : ((w.alloc (Obj.cells #[.int .u8 1, .int .i64 e, .int .i64 a, .int .i64 b, .int .i64 c, .int .i64 d, .slice A n p, .slice B m q, .int .i64 id, .int .i64 task, .int .i64 tick, .int .i64 wait, .int .i64 pid, .int .i64 nonce, .int .i64 code] tRe)).alloc (Obj.cells #[.int .u8 0, .int .i64 0, .int .i64 0, .int .i64 0, .int .i64 0, .int .i64 0, .slice none 0 0, .slice none 0 0, .int .i64 0, .int .i64 0, .int .i64 0, .int .i64 0, .int .i64 0, .int .i64 0, .int .i64 0] tRe)).heap.size = w.heap.size + 2 := by simp
 rw [hn1, hn2] at s0
 clear h hn1 hn2
 have hc1 := (s0.pick 2).cells
 have HW := Lib.hid (And.intro hl (And.intro hf (And.intro hx0 hx)))
 have HLE := Lib.hid hle
 have S0 := Lib.hid s0
 clear s0 hl hf hx0 hx hle
 go_enter Try.func57, Try.ntmps57
 go_wp2_with fail
 refine (rfields_s 1 S0.out).mono ?_
 rintro ee w1 ⟨v, rfl, s1⟩
 clear S0 hc1
 rw [HW.out.1] at s1
 obtain ⟨F, cF, rfl⟩ := RI_sl s1
 generalize w.heap.size + 2 = b3 at *
 generalize w.heap.size + 1 = b2 at *
 generalize w.heap.size = b1 at *
 have hq0 : (#[.int .u8 1, .int .i64 0, .int .i64 0, .int .i64 0, .int .i64 0, .int .i64 0, .slice none 0 0, .slice none 0 0, .int .i64 0, .int .i64 0, .int .i64 0, .int .i64 0, .int .i64 0, .int .i64 0, .int .i64 0] : Array Value) = #[.int .u8 1, .int .i64 (x 0 0), .int .i64 0, .int .i64 0, .int .i64 0, .int .i64 0, .slice none 0 0, .slice none 0 0, .int .i64 (x 0 1), .int .i64 (x 0 2), .int .i64 (x 0 3), .int .i64 (x 0 4), .int .i64 (x 0 5), .int .i64 (x 0 6), .int .i64 0] := by rw [HW.out.2.2.1 0 (by omega), HW.out.2.2.1 1 (by omega), HW.out.2.2.1 2 (by omega), HW.out.2.2.1 3 (by omega), HW.out.2.2.1 4 (by omega), HW.out.2.2.1 5 (by omega), HW.out.2.2.1 6 (by omega)]
 rw [hq0] at s1
 clear hq0
 have S1 := Lib.hid s1
 clear s1
 go_wp2_with fail
 go_loopw [5] (fun y wr => ∃ i : Nat, i ≤ l.length ∧ y = .int .i64 i ∧ St w0 wr (RI (.slice F l.length cF) l :: Go.Proofs.YtkhcdichdnbcmaaR.blk b3 #[.int .u8 1, .int .i64 (x i 0), .int .i64 0, .int .i64 0, .int .i64 0, .int .i64 0, .slice none 0 0, .slice none 0 0, .int .i64 (x i 1), .int .i64 (x i 2), .int .i64 (x i 3), .int .i64 (x i 4), .int .i64 (x i 5), .int .i64 (x i 6), .int .i64 0] tRe :: Go.Proofs.YtkhcdichdnbcmaaR.blk b2 #[.int .u8 0, .int .i64 0, .int .i64 0, .int .i64 0, .int .i64 0, .int .i64 0, .slice none 0 0, .slice none 0 0, .int .i64 0, .int .i64 0, .int .i64 0, .int .i64 0, .int .i64 0, .int .i64 0, .int .i64 0] tRe :: Go.Proofs.YtkhcdichdnbcmaaR.blk b1 #[.int .u8 1, .int .i64 e, .int .i64 a, .int .i64 b, .int .i64 c, .int .i64 d, .slice A n p, .slice B m q, .int .i64 id, .int .i64 task, .int .i64 tick, .int .i64 wait, .int .i64 pid, .int .i64 nonce, .int .i64 code] tRe :: L)) (fun y _ => l.length - (intOf y).toNat)
 case atStart => exact ⟨0, by omega, rfl, S1.out⟩
 case round =>
  clear S1
  obtain ⟨i, hi, rfl, hs⟩ := hrel
  by_cases hlt : i < l.length
  ·as_aux_lemma =>
   obtain ⟨ad, rfl, hcF⟩ := RI_atN hs i hlt
   have hle := HLE.out
   have hf := HW.out.2.1 i hlt
   have hx : ∀ j, j < 7 → x (i + 1) j = if rd l i = (j : Int) then rd [e, id, task, tick, wait, pid, nonce] (rd l i) else x i j := fun j hj => HW.out.2.2.2 i hlt j hj
   have HWi := Lib.hid (fun (W : World) (M : List HP) (hS : St w0 W M) => rwith_s (w0 := w0) (w := W) (L := M) 1 (x i 0) 0 0 0 0 (x i 1) (x i 2) (x i 3) (x i 4) (x i 5) (x i 6) 0 (rd [e, id, task, tick, wait, pid, nonce] (rd l i)) none none 0 0 0 0 (rd l i) hf hS)
   have hz : (#[.int .u8 1, .int .i64 (if rd l i = 0 then rd [e, id, task, tick, wait, pid, nonce] (rd l i) else x i 0), .int .i64 0, .int .i64 0, .int .i64 0, .int .i64 0, .slice none 0 0, .slice none 0 0, .int .i64 (if rd l i = 1 then rd [e, id, task, tick, wait, pid, nonce] (rd l i) else x i 1), .int .i64 (if rd l i = 2 then rd [e, id, task, tick, wait, pid, nonce] (rd l i) else x i 2), .int .i64 (if rd l i = 3 then rd [e, id, task, tick, wait, pid, nonce] (rd l i) else x i 3), .int .i64 (if rd l i = 4 then rd [e, id, task, tick, wait, pid, nonce] (rd l i) else x i 4), .int .i64 (if rd l i = 5 then rd [e, id, task, tick, wait, pid, nonce] (rd l i) else x i 5), .int .i64 (if rd l i = 6 then rd [e, id, task, tick, wait, pid, nonce] (rd l i) else x i 6), .int .i64 0] : Array Value) = #[.int .u8 1, .int .i64 (x (i + 1) 0), .int .i64 0, .int .i64 0, .int .i64 0, .int .i64 0, .slice none 0 0, .slice none 0 0, .int .i64 (x (i + 1) 1), .int .i64 (x (i + 1) 2), .int .i64 (x (i + 1) 3), .int .i64 (x (i + 1) 4), .int .i64 (x (i + 1) 5), .int .i64 (x (i + 1) 6), .int .i64 0] := by rw [hx 0 (by omega), hx 1 (by omega), hx 2 (by omega), hx 3 (by omega), hx 4 (by omega), hx 5 (by omega), hx 6 (by omega)]; rfl
   rw [hz] at HWi
   have HGi := Lib.hid (fun (W : World) (M : List HP) (hS : St w0 W M) => rget_s (w0 := w0) (w := W) (L := M) 1 e a b c d id task tick wait pid nonce code A B n m p q (rd l i) hf hS)
   clear hz hx hf
   generalize hV : rd [e, id, task, tick, wait, pid, nonce] (rd l i) = V at *
   clear hV
   generalize hz0 : x (i + 1) 0 = z0 at *
   generalize hz1 : x (i + 1) 1 = z1 at *
   generalize hz2 : x (i + 1) 2 = z2 at *
   generalize hz3 : x (i + 1) 3 = z3 at *
   generalize hz4 : x (i + 1) 4 = z4 at *
   generalize hz5 : x (i + 1) 5 = z5 at *
   generalize hz6 : x (i + 1) 6 = z6 at *
   have HZ := Lib.hid (And.intro hz0 (And.intro hz1 (And.intro hz2 (And.intro hz3 (And.intro hz4 (And.intro hz5 hz6))))))
   clear hz0 hz1 hz2 hz3 hz4 hz5 hz6
   generalize x i 0 = y0 at *
   generalize x i 1 = y1 at *
   generalize x i 2 = y2 at *
   generalize x i 3 = y3 at *
   generalize x i 4 = y4 at *
   generalize x i 5 = y5 at *
   generalize x i 6 = y6 at *
   have hg1 : decide ((i : Int) < (l.length : Int)) = true := decide_eq_true (by omega)
   have hg2 : ((i : Int) < (l.length : Int)) = True := eq_true (by omega)
   have hg3 : (0 ≤ (i : Int)) = True := eq_true (by omega)
   have hg4 : decide (i < l.length) = true := decide_eq_true hlt
   have hg5 : (i < l.length) = True := eq_true hlt
   go_upto_region 6 with fail
   refine start_ (n := 13) (S := fun w' => w'.cell? ⟨b3, 0, none⟩ = some (.int .u8 1) ∧ w'.cell? ⟨b3, 1, none⟩ = some (.int .i64 y0) ∧ w'.cell? ⟨b3, 2, none⟩ = some (.int .i64 0) ∧ w'.cell? ⟨b3, 3, none⟩ = some (.int .i64 0) ∧ w'.cell? ⟨b3, 4, none⟩ = some (.int .i64 0) ∧ w'.cell? ⟨b3, 5, none⟩ = some (.int .i64 0) ∧ w'.cell? ⟨b3, 6, none⟩ = some (.slice none 0 0) ∧ w'.cell? ⟨b3, 7, none⟩ = some (.slice none 0 0) ∧ w'.cell? ⟨b3, 8, none⟩ = some (.int .i64 y1) ∧ w'.cell? ⟨b3, 9, none⟩ = some (.int .i64 y2) ∧ w'.cell? ⟨b3, 10, none⟩ = some (.int .i64 y3) ∧ w'.cell? ⟨b3, 11, none⟩ = some (.int .i64 y4) ∧ w'.cell? ⟨b3, 12, none⟩ = some (.int .i64 y5) ∧ w'.cell? ⟨b3, 13, none⟩ = some (.int .i64 y6) ∧ w'.cell? ⟨b3, 14, none⟩ = some (.int .i64 0) ∧ w'.cell? ⟨b1, 0, none⟩ = some (.int .u8 1) ∧ w'.cell? ⟨b1, 1, none⟩ = some (.int .i64 e) ∧ w'.cell? ⟨b1, 2, none⟩ = some (.int .i64 a) ∧ w'.cell? ⟨b1, 3, none⟩ = some (.int .i64 b) ∧ w'.cell? ⟨b1, 4, none⟩ = some (.int .i64 c) ∧ w'.cell? ⟨b1, 5, none⟩ = some (.int .i64 d) ∧ w'.cell? ⟨b1, 6, none⟩ = some (.slice A n p) ∧ w'.cell? ⟨b1, 7, none⟩ = some (.slice B m q) ∧ w'.cell? ⟨b1, 8, none⟩ = some (.int .i64 id) ∧ w'.cell? ⟨b1, 9, none⟩ = some (.int .i64 task) ∧ w'.cell? ⟨b1, 10, none⟩ = some (.int .i64 tick) ∧ w'.cell? ⟨b1, 11, none⟩ = some (.int .i64 wait) ∧ w'.cell? ⟨b1, 12, none⟩ = some (.int .i64 pid) ∧ w'.cell? ⟨b1, 13, none⟩ = some (.int .i64 nonce) ∧ w'.cell? ⟨b1, 14, none⟩ = some (.int .i64 code) ∧ w'.cell? (ad.add i) = some (.int .i64 (rd l i))) (ds := [12]) #[false, false, false, false, false, false, false, false, false, false, false, false, false] (by kernel_rfl) rfl rfl ⟨(hs.pick 1).cells 0, (hs.pick 1).cells 1, (hs.pick 1).cells 2, (hs.pick 1).cells 3, (hs.pick 1).cells 4, (hs.pick 1).cells 5, (hs.pick 1).cells 6, (hs.pick 1).cells 7, (hs.pick 1).cells 8, (hs.pick 1).cells 9, (hs.pick 1).cells 10, (hs.pick 1).cells 11, (hs.pick 1).cells 12, (hs.pick 1).cells 13, (hs.pick 1).cells 14, (hs.pick 3).cells 0, (hs.pick 3).cells 1, (hs.pick 3).cells 2, (hs.pick 3).cells 3, (hs.pick 3).cells 4, (hs.pick 3).cells 5, (hs.pick 3).cells 6, (hs.pick 3).cells 7, (hs.pick 3).cells 8, (hs.pick 3).cells 9, (hs.pick 3).cells 10, (hs.pick 3).cells 11, (hs.pick 3).cells 12, (hs.pick 3).cells 13, (hs.pick 3).cells 14, hcF⟩ (fun hHeld => ?_)
   have sd := hs.drew
   clear hs hcF
   generalize wr.drew = wd at *
   refine pure_ (i := 1) (N := some 19) (v := ?_) (a' := ?_) #[false, true, false, false, false, false, false, false, false, false, false, false, false] rfl rfl (by as_aux_lemma => kernel_rfl) (fun _ _ _ h => h) (Or.inl ⟨by rfl, ?_⟩) ?_ ?_
   rotate_left
   ·intro w'
    go_simp
    with_reducible rfl
   rotate_left
   ·simp only [Act.put, List.setIfInBounds_toArray, List.set_cons_zero, List.set_cons_succ, i64_w, i32_w]
    rfl
   refine pure_ (i := 2) (N := some 20) (v := ?_) (a' := ?_) #[false, true, true, false, false, false, false, false, false, false, false, false, false] rfl rfl (by as_aux_lemma => kernel_rfl) (fun _ _ _ h => h) (Or.inl ⟨by rfl, ?_⟩) ?_ ?_
   rotate_left
   ·intro w'
    go_simp
    with_reducible rfl
   rotate_left
   ·simp only [Act.put, List.setIfInBounds_toArray, List.set_cons_zero, List.set_cons_succ, i64_w, i32_w]
    rfl
   refine pure_ (i := 3) (N := some 21) (v := ?_) (a' := ?_) #[false, true, true, true, false, false, false, false, false, false, false, false, false] rfl rfl (by as_aux_lemma => kernel_rfl) (fun _ _ _ h => h) (Or.inl ⟨by rfl, ?_⟩) ?_ ?_
   rotate_left
   ·intro w'
    go_simp
    with_reducible rfl
   rotate_left
   ·simp only [Act.put, List.setIfInBounds_toArray, List.set_cons_zero, List.set_cons_succ, i64_w, i32_w]
    rfl
   refine pure_ (i := 6) (N := some 24) (v := ?_) (a' := ?_) #[false, true, true, true, false, false, true, false, false, false, false, false, false] rfl rfl (by as_aux_lemma => kernel_rfl) (fun _ _ _ h => h) (Or.inl ⟨by rfl, ?_⟩) ?_ ?_
   rotate_left
   ·intro w'
    go_simp
    with_reducible rfl
   rotate_left
   ·simp only [Act.put, List.setIfInBounds_toArray, List.set_cons_zero, List.set_cons_succ, i64_w, i32_w]
    rfl
   refine pure_ (i := 7) (N := some 25) (v := ?_) (a' := ?_) #[false, true, true, true, false, false, true, true, false, false, false, false, false] rfl rfl (by as_aux_lemma => kernel_rfl) (fun _ _ _ h => h) (Or.inl ⟨by rfl, ?_⟩) ?_ ?_
   rotate_left
   ·intro w'
    go_simp
    with_reducible rfl
   rotate_left
   ·simp only [Act.put, List.setIfInBounds_toArray, List.set_cons_zero, List.set_cons_succ, i64_w, i32_w]
    rfl
   refine pure_ (i := 8) (N := some 26) (v := ?_) (a' := ?_) #[false, true, true, true, false, false, true, true, true, false, false, false, false] rfl rfl (by as_aux_lemma => kernel_rfl) (fun _ _ _ h => h) (Or.inl ⟨by rfl, ?_⟩) ?_ ?_
   rotate_left
   ·intro w'
    go_simp
    with_reducible rfl
   rotate_left
   ·simp only [Act.put, List.setIfInBounds_toArray, List.set_cons_zero, List.set_cons_succ, i64_w, i32_w]
    rfl
   refine take_ (i := 0) (N := some 18) (v := ?_) (a' := ?_) #[true, true, true, true, false, false, true, true, true, false, false, false, false] rfl rfl (by as_aux_lemma => kernel_rfl) (fun _ _ _ h => h) (Or.inl ⟨by rfl, ?_⟩) hHeld ?_ ?_
   rotate_left
   ·rintro w' ⟨s0, s1, s2, s3, s4, s5, s6, s7, s8, s9, s10, s11, s12, s13, s14, s15, s16, s17, s18, s19, s20, s21, s22, s23, s24, s25, s26, s27, s28, s29, s30⟩
    go_simp
    with_reducible rfl
   rotate_left
   ·simp only [Act.put, List.setIfInBounds_toArray, List.set_cons_zero, List.set_cons_succ, i64_w, i32_w]
    rfl
   refine take_ (i := 4) (N := some 22) (v := ?_) (a' := ?_) #[true, true, true, true, true, false, true, true, true, false, false, false, false] rfl rfl (by as_aux_lemma => kernel_rfl) (fun _ _ _ h => h) (Or.inl ⟨by rfl, ?_⟩) hHeld ?_ ?_
   rotate_left
   ·rintro w' ⟨s0, s1, s2, s3, s4, s5, s6, s7, s8, s9, s10, s11, s12, s13, s14, s15, s16, s17, s18, s19, s20, s21, s22, s23, s24, s25, s26, s27, s28, s29, s30⟩
    go_simp
    with_reducible rfl
   rotate_left
   ·simp only [Act.put, List.setIfInBounds_toArray, List.set_cons_zero, List.set_cons_succ, i64_w, i32_w]
    rfl
   refine take_ (i := 5) (N := some 23) (v := ?_) (a' := ?_) #[true, true, true, true, true, true, true, true, true, false, false, false, false] rfl rfl (by as_aux_lemma => kernel_rfl) (fun _ _ _ h => h) (Or.inl ⟨by rfl, ?_⟩) hHeld ?_ ?_
   rotate_left
   ·rintro w' ⟨s0, s1, s2, s3, s4, s5, s6, s7, s8, s9, s10, s11, s12, s13, s14, s15, s16, s17, s18, s19, s20, s21, s22, s23, s24, s25, s26, s27, s28, s29, s30⟩
    go_simp
    with_reducible rfl
   rotate_left
   ·simp only [Act.put, List.setIfInBounds_toArray, List.set_cons_zero, List.set_cons_succ, i64_w, i32_w]
    rfl
   refine take_ (i := 9) (N := some 27) (v := ?_) (a' := ?_) #[true, true, true, true, true, true, true, true, true, true, false, false, false] rfl rfl (by as_aux_lemma => kernel_rfl) (fun _ _ _ h => h) (Or.inl ⟨by rfl, ?_⟩) hHeld ?_ ?_
   rotate_left
   ·rintro w' ⟨s0, s1, s2, s3, s4, s5, s6, s7, s8, s9, s10, s11, s12, s13, s14, s15, s16, s17, s18, s19, s20, s21, s22, s23, s24, s25, s26, s27, s28, s29, s30⟩
    go_simp
    with_reducible rfl
   rotate_left
   ·simp only [Act.put, List.setIfInBounds_toArray, List.set_cons_zero, List.set_cons_succ, i64_w, i32_w]
    rfl
   refine one_ (i := 10) (N := some 28) #[true, true, true, true, true, true, true, true, true, true, true, false, false] rfl rfl (by as_aux_lemma => kernel_rfl) (by decide) (fun K hK => ?_)
   refine goes_ Try.func55 (by as_aux_lemma => kernel_rfl) rfl #[.agg #[.int .u8 1, .int .i64 e, .int .i64 a, .int .i64 b, .int .i64 c, .int .i64 d, .slice A n p, .slice B m q, .int .i64 id, .int .i64 task, .int .i64 tick, .int .i64 wait, .int .i64 pid, .int .i64 nonce, .int .i64 code], .int .i64 (rd l i)] (by rfl) rfl rfl (by (try simp only [List.map_toArray, List.map_cons, List.map_nil]); first | done | rfl) ?_
   with_reducible refine (HGi.out _ _ sd).mono ?_
   rintro ee w5 ⟨rfl, s5⟩
   refine ⟨_, rfl, ?_⟩
   obtain ⟨ad', e', hcF⟩ := RI_atN s5 i hlt
   injection e' with e'
   subst e'
   refine hK.out _ _ ⟨(s5.pick 1).cells 0, (s5.pick 1).cells 1, (s5.pick 1).cells 2, (s5.pick 1).cells 3, (s5.pick 1).cells 4, (s5.pick 1).cells 5, (s5.pick 1).cells 6, (s5.pick 1).cells 7, (s5.pick 1).cells 8, (s5.pick 1).cells 9, (s5.pick 1).cells 10, (s5.pick 1).cells 11, (s5.pick 1).cells 12, (s5.pick 1).cells 13, (s5.pick 1).cells 14, (s5.pick 3).cells 0, (s5.pick 3).cells 1, (s5.pick 3).cells 2, (s5.pick 3).cells 3, (s5.pick 3).cells 4, (s5.pick 3).cells 5, (s5.pick 3).cells 6, (s5.pick 3).cells 7, (s5.pick 3).cells 8, (s5.pick 3).cells 9, (s5.pick 3).cells 10, (s5.pick 3).cells 11, (s5.pick 3).cells 12, (s5.pick 3).cells 13, (s5.pick 3).cells 14, hcF⟩ (fun hHeld => ?_)
   clear hK K hcF sd
   refine norm_ (a' := ?_) ?_ ?_
   rotate_left
   ·show Act.put _ (some 28) _ = _
    simp only [Act.put, List.setIfInBounds_toArray, List.set_cons_zero, List.set_cons_succ, i64_w, i32_w]
    rfl
   refine one_ (i := 11) (N := some 29) #[true, true, true, true, true, true, true, true, true, true, true, true, false] rfl rfl (by as_aux_lemma => kernel_rfl) (by decide) (fun K hK => ?_)
   refine goes_ Try.func50 (by as_aux_lemma => kernel_rfl) rfl #[.agg #[.int .u8 1, .int .i64 y0, .int .i64 0, .int .i64 0, .int .i64 0, .int .i64 0, .slice none 0 0, .slice none 0 0, .int .i64 y1, .int .i64 y2, .int .i64 y3, .int .i64 y4, .int .i64 y5, .int .i64 y6, .int .i64 0], .int .i64 (rd l i), .int .i64 V] (by rfl) rfl rfl (by (try simp only [List.map_toArray, List.map_cons, List.map_nil]); first | done | rfl) ?_
   with_reducible refine (HWi.out _ _ s5).mono ?_
   rintro ee w6 ⟨rfl, s6⟩
   refine ⟨_, rfl, ?_⟩
   obtain ⟨ad', e', hcF⟩ := RI_atN s6 i hlt
   injection e' with e'
   subst e'
   refine hK.out _ _ ⟨(s6.pick 1).cells 0, (s6.pick 1).cells 1, (s6.pick 1).cells 2, (s6.pick 1).cells 3, (s6.pick 1).cells 4, (s6.pick 1).cells 5, (s6.pick 1).cells 6, (s6.pick 1).cells 7, (s6.pick 1).cells 8, (s6.pick 1).cells 9, (s6.pick 1).cells 10, (s6.pick 1).cells 11, (s6.pick 1).cells 12, (s6.pick 1).cells 13, (s6.pick 1).cells 14, (s6.pick 3).cells 0, (s6.pick 3).cells 1, (s6.pick 3).cells 2, (s6.pick 3).cells 3, (s6.pick 3).cells 4, (s6.pick 3).cells 5, (s6.pick 3).cells 6, (s6.pick 3).cells 7, (s6.pick 3).cells 8, (s6.pick 3).cells 9, (s6.pick 3).cells 10, (s6.pick 3).cells 11, (s6.pick 3).cells 12, (s6.pick 3).cells 13, (s6.pick 3).cells 14, hcF⟩ (fun hHeld => ?_)
   clear hK K hcF s5
   refine norm_ (a' := ?_) ?_ ?_
   rotate_left
   ·show Act.put _ (some 29) _ = _
    simp only [Act.put, List.setIfInBounds_toArray, List.set_cons_zero, List.set_cons_succ, i64_w, i32_w]
    rfl
   clear hHeld HGi HWi
   have s7 := s6.pick 1
   simp only [List.getElem_cons_succ, List.getElem_cons_zero, List.eraseIdx_cons_succ, List.eraseIdx_cons_zero] at s7
   clear s6
   refine last_ (i := 12) (N := none) #[true, true, true, true, true, true, true, true, true, true, true, true, true] rfl rfl (by as_aux_lemma => kernel_rfl) (by decide) (fun K hK => ?_)
   refine skip_ (w1 := w6.setRow b3 #[.int .u8 1, .int .i64 z0, .int .i64 0, .int .i64 0, .int .i64 0, .int .i64 0, .slice none 0 0, .slice none 0 0, .int .i64 z1, .int .i64 z2, .int .i64 z3, .int .i64 z4, .int .i64 z5, .int .i64 z6, .int .i64 0]) (by rfl) rfl (run_storeM w6 _ _ 35 rfl b3 0 #[.int .u8 1, .int .i64 z0, .int .i64 0, .int .i64 0, .int .i64 0, .int .i64 0, .slice none 0 0, .slice none 0 0, .int .i64 z1, .int .i64 z2, .int .i64 z3, .int .i64 z4, .int .i64 z5, .int .i64 z6, .int .i64 0] size_rec rfl rfl rfl s7.at0 (by simp) (by simp [Value.oneCell']) rfl) ?_
   refine hK.out _ _ ?_
   clear hK K
   have s8 := (s7.setRow #[.int .u8 1, .int .i64 z0, .int .i64 0, .int .i64 0, .int .i64 0, .int .i64 0, .slice none 0 0, .slice none 0 0, .int .i64 z1, .int .i64 z2, .int .i64 z3, .int .i64 z4, .int .i64 z5, .int .i64 z6, .int .i64 0]).pick 1
   simp only [List.getElem_cons_succ, List.getElem_cons_zero, List.eraseIdx_cons_succ, List.eraseIdx_cons_zero] at s8
   clear s7
   generalize w6.setRow b3 #[.int .u8 1, .int .i64 z0, .int .i64 0, .int .i64 0, .int .i64 0, .int .i64 0, .slice none 0 0, .slice none 0 0, .int .i64 z1, .int .i64 z2, .int .i64 z3, .int .i64 z4, .int .i64 z5, .int .i64 z6, .int .i64 0] = w8 at *
   refine done_ (by as_aux_lemma => kernel_rfl) ?_
   go_wp2_with fail
   all_goals go_roundw
   all_goals first | exact ⟨i + 1, by omega, by go_num, by obtain ⟨rfl, rfl, rfl, rfl, rfl, rfl, rfl⟩ := HZ.out; exact s8⟩ | (simp [intOf]; omega)
  ·obtain rfl : i = l.length := by omega
   have hg1 : decide ((l.length : Int) < (l.length : Int)) = false := decide_eq_false (by omega)
   have s9 := hs.drop
   clear hs
   have hc1 := (s9.pick 2).cells
   have hc3 := s9.cells
   have hf3 := s9.free
   have S9 := Lib.hid s9
   clear s9
   go_wp2_with (first | ((with_reducible refine wpList_storeSt S9.out rfl _ _ 27 rfl 2 #[.int .i64 a, .int .i64 b, .int .i64 c, .int .i64 d, .slice A n p, .slice B m q] #[.int .u8 1, .int .i64 (x l.length 0), .int .i64 a, .int .i64 b, .int .i64 c, .int .i64 d, .slice A n p, .slice B m q, .int .i64 (x l.length 1), .int .i64 (x l.length 2), .int .i64 (x l.length 3), .int .i64 (x l.length 4), .int .i64 (x l.length 5), .int .i64 (x l.length 6), .int .i64 0] size_spec ?hn ?hx ?hv ?hf ?h1 ?he ?_); (case hn => rfl); (case hx => rfl); (case hv => rfl); (case hf => simp); (case h1 => simp [Value.oneCell']); (case he => rfl); intro w4 t; clear S9 hc3 hf3; have hc4 := t.cells; have hc5 := (t.pick 2).cells; have t2 := t.pick 1; simp only [List.getElem_cons_succ, List.getElem_cons_zero, List.eraseIdx_cons_succ, List.eraseIdx_cons_zero] at t2; clear t; have T := Lib.hid t2; clear t2) | ((with_reducible refine wpList_storeSt T.out rfl _ _ 35 rfl 0 #[.int .u8 1, .int .i64 (x l.length 0), .int .i64 a, .int .i64 b, .int .i64 c, .int .i64 d, .slice A n p, .slice B m q, .int .i64 (x l.length 1), .int .i64 (x l.length 2), .int .i64 (x l.length 3), .int .i64 (x l.length 4), .int .i64 (x l.length 5), .int .i64 (x l.length 6), .int .i64 0] #[.int .u8 1, .int .i64 (x l.length 0), .int .i64 a, .int .i64 b, .int .i64 c, .int .i64 d, .slice A n p, .slice B m q, .int .i64 (x l.length 1), .int .i64 (x l.length 2), .int .i64 (x l.length 3), .int .i64 (x l.length 4), .int .i64 (x l.length 5), .int .i64 (x l.length 6), .int .i64 0] size_rec ?hn ?hx ?hv ?hf ?h1 ?he ?_); (case hn => rfl); (case hx => rfl); (case hv => rfl); (case hf => simp); (case h1 => simp [Value.oneCell']); (case he => rfl); intro wz sz; have hcz := sz.cells; have hfz := sz.free; have SZ := Lib.hid sz; clear sz) | fail)
   refine bodyPost_ret (v := .agg #[.int .u8 1, .int .i64 (x l.length 0), .int .i64 a, .int .i64 b, .int .i64 c, .int .i64 d, .slice A n p, .slice B m q, .int .i64 (x l.length 1), .int .i64 (x l.length 2), .int .i64 (x l.length 3), .int .i64 (x l.length 4), .int .i64 (x l.length 5), .int .i64 (x l.length 6), .int .i64 0]) (by simp [results, Try.results57, go_sem, hcz]) rfl ?_
   exact ⟨rfl, SZ.out.drop.drop.drop⟩
end Go.Proofs.YtkhcdichdnbcmaaR
end
