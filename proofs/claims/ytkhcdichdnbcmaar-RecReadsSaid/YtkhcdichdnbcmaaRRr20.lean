/- Texts of this session, merged (wip/gen/shake.py). -/
import Derived.Test.YtkhcdichdnbcmaaRRr14
import Derived.Test.YtkhcdichdnbcmaaRRr18
import Derived.Test.YtkhcdichdnbcmaaRRr19
section
namespace Go.Proofs.YtkhcdichdnbcmaaR
open Go.RowKit Go.Proofs.YtkhcdichdnbcmaaR Go.Proofs.YtkhcdichdnbcmaaR.Ext Go.Proofs.YtkhcdichdnbcmaaR.C Go.Proofs.YtkhcdichdnbcmaaR.Sp Go.Proofs.YtkhcdichdnbcmaaRW.PrintWords Go.Proofs.YtkhcdichdnbcmaaRW.PrintLast
set_option linter.unusedVariables false
set_option linter.unusedSimpArgs false
set_option maxRecDepth 100000 in
set_option maxHeartbeats 4000000 in
theorem rdec17_8 {w0 w : World} {L : List HP} (l r1 : List UInt8) (fl : List Int) (rs : Nat → List UInt8) (bs : Nat → Bool) (nn : Nat → Int) (x : Nat → Nat → Int) (cd er4 : Int) (r4 : List UInt8) (E : Int) (Q : Ending → World → Prop)
  (H1 : ∀ (W : World) (g : Nat) (M : List HP), St w0 W (Go.Proofs.YtkhcdichdnbcmaaR.blk g #[.string (YtkhcdichdnbcmaaR.Ext.mkB l), .bool false] tRd :: M) → Calls Try.prog 45 #[.pointer (some ⟨g, 0, none⟩)] W fun ee w' => ee = .returned (.int .i64 8) ∧ St w0 w' (Go.Proofs.YtkhcdichdnbcmaaR.blk g #[.string (YtkhcdichdnbcmaaR.Ext.mkB r1), .bool false] tRd :: M)) (hfl : fieldsL 8 = fl) (hf : ∀ i, i < fl.length → 0 ≤ rd fl i ∧ rd fl i < 7) (hle : fl.length ≤ 7)
  (hN : ∀ i, i < fl.length → ∀ (W : World) (g : Nat) (M : List HP), St w0 W (Go.Proofs.YtkhcdichdnbcmaaR.blk g #[.string (YtkhcdichdnbcmaaR.Ext.mkB (rs i)), .bool (bs i)] tRd :: M) → Calls Try.prog 45 #[.pointer (some ⟨g, 0, none⟩)] W fun ee w' => ee = .returned (.int .i64 (nn i)) ∧ St w0 w' (Go.Proofs.YtkhcdichdnbcmaaR.blk g #[.string (YtkhcdichdnbcmaaR.Ext.mkB (rs (i + 1))), .bool (bs (i + 1))] tRd :: M))
  (hx0 : ∀ j, j < 7 → x 0 j = 0) (hx : ∀ i, i < fl.length → ∀ j, j < 7 → x (i + 1) j = if rd fl i = (j : Int) then nn i else x i j) (hr0 : rs 0 = r1) (hb0 : bs 0 = false)
  (hU : bs fl.length = false → ∀ W M, St w0 W M → Calls Try.prog 51 #[.string (YtkhcdichdnbcmaaR.Ext.mkB (rs fl.length))] W fun ee w' => ee = .returned (.tuple #[.int .i64 cd, .string (YtkhcdichdnbcmaaR.Ext.mkB r4), .int .i64 er4]) ∧ St w0 w' M)
  (hC : ∀ W M, St w0 W M → Calls Try.prog 30 #[.agg #[.int .u8 8, .int .i64 (x fl.length 0), .int .i64 0, .int .i64 0, .int .i64 0, .int .i64 0, .slice none 0 0, .slice none 0 0, .int .i64 (x fl.length 1), .int .i64 (x fl.length 2), .int .i64 (x fl.length 3), .int .i64 (x fl.length 4), .int .i64 (x fl.length 5), .int .i64 (x fl.length 6), .int .i64 cd]] W fun ee w' => ee = .returned (.int .i64 E) ∧ St w0 w' M)
  (hbad : (bs fl.length = true ∨ er4 ≠ 0 ∨ r4 ≠ [] ∨ E ≠ 0) → ∀ w', St w0 w' L → Q (.returned (.tuple #[.agg #[.int .u8 0, .int .i64 0, .int .i64 0, .int .i64 0, .int .i64 0, .int .i64 0, .slice none 0 0, .slice none 0 0, .int .i64 0, .int .i64 0, .int .i64 0, .int .i64 0, .int .i64 0, .int .i64 0, .int .i64 0], .int .i64 4])) w')
  (hok : bs fl.length = false → er4 = 0 → r4 = [] → E = 0 → ∀ w', St w0 w' L → Q (.returned (.tuple #[.agg #[.int .u8 8, .int .i64 (x fl.length 0), .int .i64 0, .int .i64 0, .int .i64 0, .int .i64 0, .slice none 0 0, .slice none 0 0, .int .i64 (x fl.length 1), .int .i64 (x fl.length 2), .int .i64 (x fl.length 3), .int .i64 (x fl.length 4), .int .i64 (x fl.length 5), .int .i64 (x fl.length 6), .int .i64 cd], .int .i64 0])) w') (h : St w0 w L) :
  Calls Try.prog 24 #[.string (YtkhcdichdnbcmaaR.Ext.mkB l)] w Q := by
 have HW := Lib.hid (And.intro hfl (And.intro hf (And.intro hx0 hx)))
 have HLE := Lib.hid hle
 have HN := Lib.hid hN
 have H00 := Lib.hid (And.intro hr0 hb0)
 have HC := Lib.hid hC
 have HZ := Lib.hid hbad
 have HY := Lib.hid hok
 clear hfl hf hx0 hx hle hN hr0 hb0 hC hbad hok
 have HU := Lib.hid hU
 clear hU
 have s0 := h.alloc #[.int .u8 0, .int .i64 0, .int .i64 0, .int .i64 0, .int .i64 0, .int .i64 0, .slice none 0 0, .slice none 0 0, .int .i64 0, .int .i64 0, .int .i64 0, .int .i64 0, .int .i64 0, .int .i64 0, .int .i64 0] tRe
 clear h
 have s1 := s0.alloc #[.string (YtkhcdichdnbcmaaR.Ext.mkB l), .bool false] tRd
 clear s0
 have S0 := Lib.hid s1
 clear s1
 have H1 := Lib.hid H1
 go_enter Try.func24, Try.ntmps24
 go_wp2_with fail
 have hn1 : (w.alloc (Obj.cells #[.int .u8 0, .int .i64 0, .int .i64 0, .int .i64 0, .int .i64 0, .int .i64 0, .slice none 0 0, .slice none 0 0, .int .i64 0, .int .i64 0, .int .i64 0, .int .i64 0, .int .i64 0, .int .i64 0, .int .i64 0] tRe)).heap.size = w.heap.size + 1 := by simp
 rw [hn1] at S0
 clear hn1
 generalize w.heap.size + 1 = b4 at *
 generalize w.heap.size = b2 at *
 refine (H1.out _ _ _ S0.out).mono ?_
 rintro ee w1 ⟨rfl, s1⟩
 clear S0 H1
 have hc1 := s1.cells
 have hf1 := s1.free
 have s2 := s1.alloc #[.int .u8 8, .int .i64 0, .int .i64 0, .int .i64 0, .int .i64 0, .int .i64 0, .slice none 0 0, .slice none 0 0, .int .i64 0, .int .i64 0, .int .i64 0, .int .i64 0, .int .i64 0, .int .i64 0, .int .i64 0] tRe
 clear s1
 have hc2 := s2.cells
 have S2 := Lib.hid s2
 clear s2
 go_wp2_with fail
 refine (rfields_s 8 S2.out).mono ?_
 rintro ee w3 ⟨v, rfl, s3⟩
 clear S2 hc1 hf1 hc2
 generalize w1.heap.size = b6 at *
 rw [HW.out.1] at s3
 obtain ⟨F, cF, rfl⟩ := RI_sl s3
 have hq0 : (#[.int .u8 8, .int .i64 0, .int .i64 0, .int .i64 0, .int .i64 0, .int .i64 0, .slice none 0 0, .slice none 0 0, .int .i64 0, .int .i64 0, .int .i64 0, .int .i64 0, .int .i64 0, .int .i64 0, .int .i64 0] : Array Value) = #[.int .u8 8, .int .i64 (x 0 0), .int .i64 0, .int .i64 0, .int .i64 0, .int .i64 0, .slice none 0 0, .slice none 0 0, .int .i64 (x 0 1), .int .i64 (x 0 2), .int .i64 (x 0 3), .int .i64 (x 0 4), .int .i64 (x 0 5), .int .i64 (x 0 6), .int .i64 0] := by rw [HW.out.2.2.1 0 (by omega), HW.out.2.2.1 1 (by omega), HW.out.2.2.1 2 (by omega), HW.out.2.2.1 3 (by omega), HW.out.2.2.1 4 (by omega), HW.out.2.2.1 5 (by omega), HW.out.2.2.1 6 (by omega)]
 rw [hq0] at s3
 clear hq0
 have hq1 : (#[.string (YtkhcdichdnbcmaaR.Ext.mkB r1), .bool false] : Array Value) = #[.string (YtkhcdichdnbcmaaR.Ext.mkB (rs 0)), .bool (bs 0)] := by rw [H00.out.1, H00.out.2]
 rw [hq1] at s3
 clear hq1 H00
 have S3 := Lib.hid s3
 clear s3
 go_wp2_with fail
 go_loopw [8] (fun y wr => ∃ i : Nat, i ≤ fl.length ∧ y = .int .i64 i ∧ St w0 wr (RI (.slice F fl.length cF) fl :: Go.Proofs.YtkhcdichdnbcmaaR.blk b6 #[.int .u8 8, .int .i64 (x i 0), .int .i64 0, .int .i64 0, .int .i64 0, .int .i64 0, .slice none 0 0, .slice none 0 0, .int .i64 (x i 1), .int .i64 (x i 2), .int .i64 (x i 3), .int .i64 (x i 4), .int .i64 (x i 5), .int .i64 (x i 6), .int .i64 0] tRe :: Go.Proofs.YtkhcdichdnbcmaaR.blk b4 #[.string (YtkhcdichdnbcmaaR.Ext.mkB (rs i)), .bool (bs i)] tRd :: Go.Proofs.YtkhcdichdnbcmaaR.blk b2 #[.int .u8 0, .int .i64 0, .int .i64 0, .int .i64 0, .int .i64 0, .int .i64 0, .slice none 0 0, .slice none 0 0, .int .i64 0, .int .i64 0, .int .i64 0, .int .i64 0, .int .i64 0, .int .i64 0, .int .i64 0] tRe :: L)) (fun y _ => fl.length - (intOf y).toNat)
 case atStart => exact ⟨0, by omega, rfl, S3.out⟩
 case round =>
  clear S3
  obtain ⟨i, hi, rfl, hs⟩ := hrel
  by_cases hlt : i < fl.length
  ·as_aux_lemma =>
   obtain ⟨ad, rfl, hcF⟩ := RI_atN hs i hlt
   have hle := HLE.out
   have hf := HW.out.2.1 i hlt
   have hx : ∀ j, j < 7 → x (i + 1) j = if rd fl i = (j : Int) then nn i else x i j := fun j hj => HW.out.2.2.2 i hlt j hj
   have HNi := Lib.hid (HN.out i hlt)
   have HWi := Lib.hid (fun (W : World) (M : List HP) (hS : St w0 W M) => rwith_s (w0 := w0) (w := W) (L := M) 8 (x i 0) 0 0 0 0 (x i 1) (x i 2) (x i 3) (x i 4) (x i 5) (x i 6) 0 (nn i) none none 0 0 0 0 (rd fl i) hf hS)
   have hz : (#[.int .u8 8, .int .i64 (if rd fl i = 0 then nn i else x i 0), .int .i64 0, .int .i64 0, .int .i64 0, .int .i64 0, .slice none 0 0, .slice none 0 0, .int .i64 (if rd fl i = 1 then nn i else x i 1), .int .i64 (if rd fl i = 2 then nn i else x i 2), .int .i64 (if rd fl i = 3 then nn i else x i 3), .int .i64 (if rd fl i = 4 then nn i else x i 4), .int .i64 (if rd fl i = 5 then nn i else x i 5), .int .i64 (if rd fl i = 6 then nn i else x i 6), .int .i64 0] : Array Value) = #[.int .u8 8, .int .i64 (x (i + 1) 0), .int .i64 0, .int .i64 0, .int .i64 0, .int .i64 0, .slice none 0 0, .slice none 0 0, .int .i64 (x (i + 1) 1), .int .i64 (x (i + 1) 2), .int .i64 (x (i + 1) 3), .int .i64 (x (i + 1) 4), .int .i64 (x (i + 1) 5), .int .i64 (x (i + 1) 6), .int .i64 0] := by rw [hx 0 (by omega), hx 1 (by omega), hx 2 (by omega), hx 3 (by omega), hx 4 (by omega), hx 5 (by omega), hx 6 (by omega)]; rfl
   rw [hz] at HWi
   clear hz hx hf HN HW HC HZ HY HU
   generalize hz0 : x (i + 1) 0 = z0 at *
   generalize hz1 : x (i + 1) 1 = z1 at *
   generalize hz2 : x (i + 1) 2 = z2 at *
   generalize hz3 : x (i + 1) 3 = z3 at *
   generalize hz4 : x (i + 1) 4 = z4 at *
   generalize hz5 : x (i + 1) 5 = z5 at *
   generalize hz6 : x (i + 1) 6 = z6 at *
   have HZZ := Lib.hid (And.intro hz0 (And.intro hz1 (And.intro hz2 (And.intro hz3 (And.intro hz4 (And.intro hz5 hz6))))))
   clear hz0 hz1 hz2 hz3 hz4 hz5 hz6
   generalize x i 0 = y0 at *
   generalize x i 1 = y1 at *
   generalize x i 2 = y2 at *
   generalize x i 3 = y3 at *
   generalize x i 4 = y4 at *
   generalize x i 5 = y5 at *
   generalize x i 6 = y6 at *
   generalize nn i = V at *
   generalize hrs : rs (i + 1) = r' at *
   generalize hbs : bs (i + 1) = b' at *
   have HRS := Lib.hid (And.intro hrs hbs)
   clear hrs hbs
   generalize rs i = ri at *
   generalize bs i = bi at *
   generalize hff : rd fl i = f at *
   have HFE := Lib.hid hff
   clear hff
   have hg1 : decide ((i : Int) < (fl.length : Int)) = true := decide_eq_true (by omega)
   have hg2 : ((i : Int) < (fl.length : Int)) = True := eq_true (by omega)
   have hg3 : (0 ≤ (i : Int)) = True := eq_true (by omega)
   have hg4 : decide (i < fl.length) = true := decide_eq_true hlt
   have hg5 : (i < fl.length) = True := eq_true hlt
   go_upto_region 10 with fail
   refine start_ (n := 9) (S := fun w' => w'.cell? ⟨b6, 0, none⟩ = some (.int .u8 8) ∧ w'.cell? ⟨b6, 1, none⟩ = some (.int .i64 y0) ∧ w'.cell? ⟨b6, 2, none⟩ = some (.int .i64 0) ∧ w'.cell? ⟨b6, 3, none⟩ = some (.int .i64 0) ∧ w'.cell? ⟨b6, 4, none⟩ = some (.int .i64 0) ∧ w'.cell? ⟨b6, 5, none⟩ = some (.int .i64 0) ∧ w'.cell? ⟨b6, 6, none⟩ = some (.slice none 0 0) ∧ w'.cell? ⟨b6, 7, none⟩ = some (.slice none 0 0) ∧ w'.cell? ⟨b6, 8, none⟩ = some (.int .i64 y1) ∧ w'.cell? ⟨b6, 9, none⟩ = some (.int .i64 y2) ∧ w'.cell? ⟨b6, 10, none⟩ = some (.int .i64 y3) ∧ w'.cell? ⟨b6, 11, none⟩ = some (.int .i64 y4) ∧ w'.cell? ⟨b6, 12, none⟩ = some (.int .i64 y5) ∧ w'.cell? ⟨b6, 13, none⟩ = some (.int .i64 y6) ∧ w'.cell? ⟨b6, 14, none⟩ = some (.int .i64 0) ∧ w'.cell? (ad.add i) = some (.int .i64 f)) (ds := [8]) #[false, false, false, false, false, false, false, false, false] (by kernel_rfl) rfl rfl ⟨(hs.pick 1).cells 0, (hs.pick 1).cells 1, (hs.pick 1).cells 2, (hs.pick 1).cells 3, (hs.pick 1).cells 4, (hs.pick 1).cells 5, (hs.pick 1).cells 6, (hs.pick 1).cells 7, (hs.pick 1).cells 8, (hs.pick 1).cells 9, (hs.pick 1).cells 10, (hs.pick 1).cells 11, (hs.pick 1).cells 12, (hs.pick 1).cells 13, (hs.pick 1).cells 14, hcF⟩ (fun hHeld => ?_)
   have sd := hs.drew
   clear hs hcF
   generalize wr.drew = wd at *
   refine take_ (i := 0) (N := some 38) (v := ?_) (a' := ?_) #[true, false, false, false, false, false, false, false, false] rfl rfl (by as_aux_lemma => kernel_rfl) (fun _ _ _ h => h) (Or.inl ⟨by rfl, ?_⟩) hHeld ?_ ?_
   rotate_left
   ·rintro w' ⟨s0, s1, s2, s3, s4, s5, s6, s7, s8, s9, s10, s11, s12, s13, s14, s15⟩
    go_simp
    with_reducible rfl
   rotate_left
   ·simp only [Act.put, List.setIfInBounds_toArray, List.set_cons_zero, List.set_cons_succ, i64_w, i32_w]
    rfl
   refine pure_ (i := 1) (N := some 39) (v := ?_) (a' := ?_) #[true, true, false, false, false, false, false, false, false] rfl rfl (by as_aux_lemma => kernel_rfl) (fun _ _ _ h => h) (Or.inl ⟨by rfl, ?_⟩) ?_ ?_
   rotate_left
   ·intro w'
    go_simp
    with_reducible rfl
   rotate_left
   ·simp only [Act.put, List.setIfInBounds_toArray, List.set_cons_zero, List.set_cons_succ, i64_w, i32_w]
    rfl
   refine pure_ (i := 2) (N := some 40) (v := ?_) (a' := ?_) #[true, true, true, false, false, false, false, false, false] rfl rfl (by as_aux_lemma => kernel_rfl) (fun _ _ _ h => h) (Or.inl ⟨by rfl, ?_⟩) ?_ ?_
   rotate_left
   ·intro w'
    go_simp
    with_reducible rfl
   rotate_left
   ·simp only [Act.put, List.setIfInBounds_toArray, List.set_cons_zero, List.set_cons_succ, i64_w, i32_w]
    rfl
   refine pure_ (i := 3) (N := some 41) (v := ?_) (a' := ?_) #[true, true, true, true, false, false, false, false, false] rfl rfl (by as_aux_lemma => kernel_rfl) (fun _ _ _ h => h) (Or.inl ⟨by rfl, ?_⟩) ?_ ?_
   rotate_left
   ·intro w'
    go_simp
    with_reducible rfl
   rotate_left
   ·simp only [Act.put, List.setIfInBounds_toArray, List.set_cons_zero, List.set_cons_succ, i64_w, i32_w]
    rfl
   refine take_ (i := 4) (N := some 42) (v := ?_) (a' := ?_) #[true, true, true, true, true, false, false, false, false] rfl rfl (by as_aux_lemma => kernel_rfl) (fun _ _ _ h => h) (Or.inl ⟨by rfl, ?_⟩) hHeld ?_ ?_
   rotate_left
   ·rintro w' ⟨s0, s1, s2, s3, s4, s5, s6, s7, s8, s9, s10, s11, s12, s13, s14, s15⟩
    go_simp
    with_reducible rfl
   rotate_left
   ·simp only [Act.put, List.setIfInBounds_toArray, List.set_cons_zero, List.set_cons_succ, i64_w, i32_w]
    rfl
   refine pure_ (i := 5) (N := some 43) (v := ?_) (a' := ?_) #[true, true, true, true, true, true, false, false, false] rfl rfl (by as_aux_lemma => kernel_rfl) (fun _ _ _ h => h) (Or.inl ⟨by rfl, ?_⟩) ?_ ?_
   rotate_left
   ·intro w'
    go_simp
    with_reducible rfl
   rotate_left
   ·simp only [Act.put, List.setIfInBounds_toArray, List.set_cons_zero, List.set_cons_succ, i64_w, i32_w]
    rfl
   have s21 := sd.pick 2
   simp only [List.getElem_cons_succ, List.getElem_cons_zero, List.eraseIdx_cons_succ, List.eraseIdx_cons_zero] at s21
   clear sd
   refine one_ (i := 6) (N := some 44) #[true, true, true, true, true, true, true, false, false] rfl rfl (by as_aux_lemma => kernel_rfl) (by decide) (fun K hK => ?_)
   refine goes_ Try.func45 (by as_aux_lemma => kernel_rfl) rfl #[.pointer (some ⟨b4, 0, none⟩)] (by rfl) rfl rfl (by (try simp only [List.map_toArray, List.map_cons, List.map_nil]); first | done | rfl) ?_
   with_reducible refine (HNi.out _ _ _ s21).mono ?_
   rintro ee w5 ⟨rfl, s30⟩
   refine ⟨_, rfl, ?_⟩
   have hcF : w5.cell? (ad.add i) = some (.int .i64 f) := by
    obtain ⟨ad', e', hcF⟩ := RI_atN (s30.pick 1) i hlt
    injection e' with e'
    subst e'
    rw [hcF, HFE.out]
   refine hK.out _ _ ⟨(s30.pick 2).cells 0, (s30.pick 2).cells 1, (s30.pick 2).cells 2, (s30.pick 2).cells 3, (s30.pick 2).cells 4, (s30.pick 2).cells 5, (s30.pick 2).cells 6, (s30.pick 2).cells 7, (s30.pick 2).cells 8, (s30.pick 2).cells 9, (s30.pick 2).cells 10, (s30.pick 2).cells 11, (s30.pick 2).cells 12, (s30.pick 2).cells 13, (s30.pick 2).cells 14, hcF⟩ (fun hHeld => ?_)
   clear hK K s21
   refine norm_ (a' := ?_) ?_ ?_
   rotate_left
   ·show Act.put _ (some 44) _ = _
    simp only [Act.put, List.setIfInBounds_toArray, List.set_cons_zero, List.set_cons_succ, i64_w, i32_w]
    rfl
   clear hcF
   refine one_ (i := 7) (N := some 45) #[true, true, true, true, true, true, true, true, false] rfl rfl (by as_aux_lemma => kernel_rfl) (by decide) (fun K hK => ?_)
   refine goes_ Try.func50 (by as_aux_lemma => kernel_rfl) rfl #[.agg #[.int .u8 8, .int .i64 y0, .int .i64 0, .int .i64 0, .int .i64 0, .int .i64 0, .slice none 0 0, .slice none 0 0, .int .i64 y1, .int .i64 y2, .int .i64 y3, .int .i64 y4, .int .i64 y5, .int .i64 y6, .int .i64 0], .int .i64 f, .int .i64 V] (by rfl) rfl rfl (by (try simp only [List.map_toArray, List.map_cons, List.map_nil]); first | done | rfl) ?_
   with_reducible refine (HWi.out _ _ s30).mono ?_
   rintro ee w6 ⟨rfl, s31⟩
   refine ⟨_, rfl, ?_⟩
   have hcF : w6.cell? (ad.add i) = some (.int .i64 f) := by
    obtain ⟨ad', e', hcF⟩ := RI_atN (s31.pick 1) i hlt
    injection e' with e'
    subst e'
    rw [hcF, HFE.out]
   refine hK.out _ _ ⟨(s31.pick 2).cells 0, (s31.pick 2).cells 1, (s31.pick 2).cells 2, (s31.pick 2).cells 3, (s31.pick 2).cells 4, (s31.pick 2).cells 5, (s31.pick 2).cells 6, (s31.pick 2).cells 7, (s31.pick 2).cells 8, (s31.pick 2).cells 9, (s31.pick 2).cells 10, (s31.pick 2).cells 11, (s31.pick 2).cells 12, (s31.pick 2).cells 13, (s31.pick 2).cells 14, hcF⟩ (fun hHeld => ?_)
   clear hK K s30
   refine norm_ (a' := ?_) ?_ ?_
   rotate_left
   ·show Act.put _ (some 45) _ = _
    simp only [Act.put, List.setIfInBounds_toArray, List.set_cons_zero, List.set_cons_succ, i64_w, i32_w]
    rfl
   clear hcF hHeld HWi HNi
   have s41 := s31.pick 2
   simp only [List.getElem_cons_succ, List.getElem_cons_zero, List.eraseIdx_cons_succ, List.eraseIdx_cons_zero] at s41
   clear s31
   refine last_ (i := 8) (N := none) #[true, true, true, true, true, true, true, true, true] rfl rfl (by as_aux_lemma => kernel_rfl) (by decide) (fun K hK => ?_)
   refine skip_ (w1 := w6.setRow b6 #[.int .u8 8, .int .i64 z0, .int .i64 0, .int .i64 0, .int .i64 0, .int .i64 0, .slice none 0 0, .slice none 0 0, .int .i64 z1, .int .i64 z2, .int .i64 z3, .int .i64 z4, .int .i64 z5, .int .i64 z6, .int .i64 0]) (by rfl) rfl (run_storeM w6 _ _ 35 rfl b6 0 #[.int .u8 8, .int .i64 z0, .int .i64 0, .int .i64 0, .int .i64 0, .int .i64 0, .slice none 0 0, .slice none 0 0, .int .i64 z1, .int .i64 z2, .int .i64 z3, .int .i64 z4, .int .i64 z5, .int .i64 z6, .int .i64 0] size_rec rfl rfl rfl s41.at0 (by simp) (by simp [Value.oneCell']) rfl) ?_
   refine hK.out _ _ ?_
   clear hK K
   have s60 := s41.setRow #[.int .u8 8, .int .i64 z0, .int .i64 0, .int .i64 0, .int .i64 0, .int .i64 0, .slice none 0 0, .slice none 0 0, .int .i64 z1, .int .i64 z2, .int .i64 z3, .int .i64 z4, .int .i64 z5, .int .i64 z6, .int .i64 0]
   clear s41
   generalize w6.setRow b6 #[.int .u8 8, .int .i64 z0, .int .i64 0, .int .i64 0, .int .i64 0, .int .i64 0, .slice none 0 0, .slice none 0 0, .int .i64 z1, .int .i64 z2, .int .i64 z3, .int .i64 z4, .int .i64 z5, .int .i64 z6, .int .i64 0] = w8 at *
   refine done_ (by as_aux_lemma => kernel_rfl) ?_
   have s61 := s60.pick 3
   simp only [List.getElem_cons_succ, List.getElem_cons_zero, List.eraseIdx_cons_succ, List.eraseIdx_cons_zero] at s61
   clear s60
   have s62 := s61.pick 2
   simp only [List.getElem_cons_succ, List.getElem_cons_zero, List.eraseIdx_cons_succ, List.eraseIdx_cons_zero] at s62
   clear s61
   have s63 := s62.pick 2
   simp only [List.getElem_cons_succ, List.getElem_cons_zero, List.eraseIdx_cons_succ, List.eraseIdx_cons_zero] at s63
   clear s62
   have s64 := s63.pick 3
   simp only [List.getElem_cons_succ, List.getElem_cons_zero, List.eraseIdx_cons_succ, List.eraseIdx_cons_zero] at s64
   clear s63
   go_wp2_with fail
   all_goals go_roundw
   all_goals first | exact ⟨i + 1, by omega, by go_num, by obtain ⟨rfl, rfl, rfl, rfl, rfl, rfl, rfl⟩ := HZZ.out; obtain ⟨rfl, rfl⟩ := HRS.out; exact s64⟩ | (simp [intOf]; omega)
  ·obtain rfl : i = fl.length := by omega
   have hg1 : decide ((fl.length : Int) < (fl.length : Int)) = false := decide_eq_false (by omega)
   have s9 := hs.drop
   clear hs HN HW
   as_aux_lemma =>
   cases hb : bs fl.length
   case true =>
    as_aux_lemma =>
    rw [hb] at s9
    have hcb6 := s9.cells
    have hfb6 := s9.free
    have hcb4 := (s9.pick 1).cells
    have hfb4 := (s9.pick 1).free
    have s81 := s9.pick 2
    simp only [List.getElem_cons_succ, List.getElem_cons_zero, List.eraseIdx_cons_succ, List.eraseIdx_cons_zero] at s81
    clear s9
    have T := Lib.hid s81
    clear s81
    go_wp2_with (first | ((with_reducible refine wpList_storeSt T.out rfl _ _ 35 rfl 0 #[.int .u8 0, .int .i64 0, .int .i64 0, .int .i64 0, .int .i64 0, .int .i64 0, .slice none 0 0, .slice none 0 0, .int .i64 0, .int .i64 0, .int .i64 0, .int .i64 0, .int .i64 0, .int .i64 0, .int .i64 0] #[.int .u8 0, .int .i64 0, .int .i64 0, .int .i64 0, .int .i64 0, .int .i64 0, .slice none 0 0, .slice none 0 0, .int .i64 0, .int .i64 0, .int .i64 0, .int .i64 0, .int .i64 0, .int .i64 0, .int .i64 0] size_rec ?hn ?hx ?hv ?hf ?h1 ?he ?_); (case hn => rfl); (case hx => rfl); (case hv => rfl); (case hf => simp); (case h1 => simp [Value.oneCell']); (case he => rfl); intro wz sz; have hcz := sz.cells; have hfz := sz.free; have SZ := Lib.hid sz; clear sz) | fail)
    refine bodyPost_ret (v := .tuple #[.agg #[.int .u8 0, .int .i64 0, .int .i64 0, .int .i64 0, .int .i64 0, .int .i64 0, .slice none 0 0, .slice none 0 0, .int .i64 0, .int .i64 0, .int .i64 0, .int .i64 0, .int .i64 0, .int .i64 0, .int .i64 0], .int .i64 4]) (by simp [results, Try.results24, go_sem, hcz]) rfl ?_
    exact HZ.out (Or.inl hb) _ SZ.out.drop.drop.drop
   case false =>
    rw [hb] at s9
    have HUU := Lib.hid (HU.out hb)
    have HB := Lib.hid hb
    clear hb HU
    have hcb6 := s9.cells
    have hfb6 := s9.free
    have hcb4 := (s9.pick 1).cells
    have hfb4 := (s9.pick 1).free
    have T := Lib.hid s9
    clear s9
    go_wp2_with fail
    refine (HUU.out _ _ T.out).mono ?_
    rintro ee w9 ⟨rfl, s70⟩
    clear T HUU hcb6 hfb6 hcb4 hfb4
    have hcb6 := s70.cells
    have hfb6 := s70.free
    have hcb4 := (s70.pick 1).cells
    have hfb4 := (s70.pick 1).free
    have hne := St.ne s70
    have hne' : ¬ b4 = b6 := fun q => hne q.symm
    have s71 := s70.setb 14 (.int .i64 cd) rfl
    have s72 := s71.pick 1
    simp only [List.getElem_cons_succ, List.getElem_cons_zero, List.eraseIdx_cons_succ, List.eraseIdx_cons_zero] at s72
    have s73 := (s72.setb 0 (.string (YtkhcdichdnbcmaaR.Ext.mkB r4)) rfl).setb 1 (.bool (er4 != 0)) rfl
    have s74 := s73.pick 1
    simp only [List.getElem_cons_succ, List.getElem_cons_zero, List.eraseIdx_cons_succ, List.eraseIdx_cons_zero] at s74
    have T := Lib.hid s74
    clear s70 s71 s72 s73 s74
    go_upto_region 16 with fail
    have s75 := T.out
    clear T hne hne' hcb6 hfb6 hcb4 hfb4
    obtain ⟨wy, hwy⟩ : ∃ wy, wy = ((w9.setCell ⟨b6, 14, none⟩ (.int .i64 cd)).setCell ⟨b4, 0, none⟩ (.string (YtkhcdichdnbcmaaR.Ext.mkB r4))).setCell ⟨b4, 1, none⟩ (.bool (er4 != 0)) := ⟨_, rfl⟩
    rw [← hwy] at s75 ⊢
    clear hwy
    by_cases her : er4 = 0
    case neg =>
     as_aux_lemma =>
     obtain ⟨g5, g6⟩ := ne_t her
     rw [g5] at s75
     have hcb6 := s75.cells
     have hfb6 := s75.free
     have hcb4 := (s75.pick 1).cells
     have hfb4 := (s75.pick 1).free
     have s81 := s75.pick 2
     simp only [List.getElem_cons_succ, List.getElem_cons_zero, List.eraseIdx_cons_succ, List.eraseIdx_cons_zero] at s81
     clear s75
     have T := Lib.hid s81
     clear s81
     go_wp2_with (first | ((with_reducible refine wpList_storeSt T.out rfl _ _ 35 rfl 0 #[.int .u8 0, .int .i64 0, .int .i64 0, .int .i64 0, .int .i64 0, .int .i64 0, .slice none 0 0, .slice none 0 0, .int .i64 0, .int .i64 0, .int .i64 0, .int .i64 0, .int .i64 0, .int .i64 0, .int .i64 0] #[.int .u8 0, .int .i64 0, .int .i64 0, .int .i64 0, .int .i64 0, .int .i64 0, .slice none 0 0, .slice none 0 0, .int .i64 0, .int .i64 0, .int .i64 0, .int .i64 0, .int .i64 0, .int .i64 0, .int .i64 0] size_rec ?hn ?hx ?hv ?hf ?h1 ?he ?_); (case hn => rfl); (case hx => rfl); (case hv => rfl); (case hf => simp); (case h1 => simp [Value.oneCell']); (case he => rfl); intro wz sz; have hcz := sz.cells; have hfz := sz.free; have SZ := Lib.hid sz; clear sz) | fail)
     refine bodyPost_ret (v := .tuple #[.agg #[.int .u8 0, .int .i64 0, .int .i64 0, .int .i64 0, .int .i64 0, .int .i64 0, .slice none 0 0, .slice none 0 0, .int .i64 0, .int .i64 0, .int .i64 0, .int .i64 0, .int .i64 0, .int .i64 0, .int .i64 0], .int .i64 4]) (by simp [results, Try.results24, go_sem, hcz]) rfl ?_
     exact HZ.out (Or.inr (Or.inl her)) _ SZ.out.drop.drop.drop
    case pos =>
     have g5 : (er4 != 0) = false := by subst her; rfl
     rw [g5] at s75
     have HER := Lib.hid her
     clear her
     by_cases hr : r4 = []
     case neg =>
      as_aux_lemma =>
      obtain ⟨g1, g2⟩ := emp_f _ hr
      have hcb6 := s75.cells
      have hfb6 := s75.free
      have hcb4 := (s75.pick 1).cells
      have hfb4 := (s75.pick 1).free
      have s81 := s75.pick 2
      simp only [List.getElem_cons_succ, List.getElem_cons_zero, List.eraseIdx_cons_succ, List.eraseIdx_cons_zero] at s81
      clear s75
      have T := Lib.hid s81
      clear s81
      go_wp2_with (first | ((with_reducible refine wpList_storeSt T.out rfl _ _ 35 rfl 0 #[.int .u8 0, .int .i64 0, .int .i64 0, .int .i64 0, .int .i64 0, .int .i64 0, .slice none 0 0, .slice none 0 0, .int .i64 0, .int .i64 0, .int .i64 0, .int .i64 0, .int .i64 0, .int .i64 0, .int .i64 0] #[.int .u8 0, .int .i64 0, .int .i64 0, .int .i64 0, .int .i64 0, .int .i64 0, .slice none 0 0, .slice none 0 0, .int .i64 0, .int .i64 0, .int .i64 0, .int .i64 0, .int .i64 0, .int .i64 0, .int .i64 0] size_rec ?hn ?hx ?hv ?hf ?h1 ?he ?_); (case hn => rfl); (case hx => rfl); (case hv => rfl); (case hf => simp); (case h1 => simp [Value.oneCell']); (case he => rfl); intro wz sz; have hcz := sz.cells; have hfz := sz.free; have SZ := Lib.hid sz; clear sz) | fail)
      refine bodyPost_ret (v := .tuple #[.agg #[.int .u8 0, .int .i64 0, .int .i64 0, .int .i64 0, .int .i64 0, .int .i64 0, .slice none 0 0, .slice none 0 0, .int .i64 0, .int .i64 0, .int .i64 0, .int .i64 0, .int .i64 0, .int .i64 0, .int .i64 0], .int .i64 4]) (by simp [results, Try.results24, go_sem, hcz]) rfl ?_
      exact HZ.out (Or.inr (Or.inr (Or.inl hr))) _ SZ.out.drop.drop.drop
     case pos =>
      obtain ⟨g1, g2⟩ := emp_t _ hr
      have HRR := Lib.hid hr
      clear hr
      have hcb6 := s75.cells
      have hfb6 := s75.free
      have hcb4 := (s75.pick 1).cells
      have hfb4 := (s75.pick 1).free
      have T := Lib.hid s75
      clear s75
      go_wp2_with fail
      refine (HC.out _ _ T.out).mono ?_
      rintro ee wc ⟨rfl, s81⟩
      clear T hcb6 hfb6 hcb4 hfb4
      by_cases hE : E = 0
      case neg =>
       as_aux_lemma =>
       obtain ⟨g7, g8⟩ := ne_t hE
       have hcb6 := s81.cells
       have hfb6 := s81.free
       have hcb4 := (s81.pick 1).cells
       have hfb4 := (s81.pick 1).free
       have s82 := s81.pick 2
       simp only [List.getElem_cons_succ, List.getElem_cons_zero, List.eraseIdx_cons_succ, List.eraseIdx_cons_zero] at s82
       clear s81
       have T := Lib.hid s82
       clear s82
       go_wp2_with (first | ((with_reducible refine wpList_storeSt T.out rfl _ _ 35 rfl 0 #[.int .u8 0, .int .i64 0, .int .i64 0, .int .i64 0, .int .i64 0, .int .i64 0, .slice none 0 0, .slice none 0 0, .int .i64 0, .int .i64 0, .int .i64 0, .int .i64 0, .int .i64 0, .int .i64 0, .int .i64 0] #[.int .u8 0, .int .i64 0, .int .i64 0, .int .i64 0, .int .i64 0, .int .i64 0, .slice none 0 0, .slice none 0 0, .int .i64 0, .int .i64 0, .int .i64 0, .int .i64 0, .int .i64 0, .int .i64 0, .int .i64 0] size_rec ?hn ?hx ?hv ?hf ?h1 ?he ?_); (case hn => rfl); (case hx => rfl); (case hv => rfl); (case hf => simp); (case h1 => simp [Value.oneCell']); (case he => rfl); intro wz sz; have hcz := sz.cells; have hfz := sz.free; have SZ := Lib.hid sz; clear sz) | fail)
       refine bodyPost_ret (v := .tuple #[.agg #[.int .u8 0, .int .i64 0, .int .i64 0, .int .i64 0, .int .i64 0, .int .i64 0, .slice none 0 0, .slice none 0 0, .int .i64 0, .int .i64 0, .int .i64 0, .int .i64 0, .int .i64 0, .int .i64 0, .int .i64 0], .int .i64 4]) (by simp [results, Try.results24, go_sem, hcz]) rfl ?_
       exact HZ.out (Or.inr (Or.inr (Or.inr hE))) _ SZ.out.drop.drop.drop
      case pos =>
       as_aux_lemma =>
       have g7 : (E != 0) = false := by subst hE; rfl
       have hE0 := Lib.hid hE
       clear hE
       have hcb6 := s81.cells
       have hfb6 := s81.free
       have hcb4 := (s81.pick 1).cells
       have hfb4 := (s81.pick 1).free
       have s82 := s81.pick 2
       simp only [List.getElem_cons_succ, List.getElem_cons_zero, List.eraseIdx_cons_succ, List.eraseIdx_cons_zero] at s82
       clear s81
       have T := Lib.hid s82
       clear s82
       go_wp2_with (first | ((with_reducible refine wpList_storeSt T.out rfl _ _ 35 rfl 0 #[.int .u8 8, .int .i64 (x fl.length 0), .int .i64 0, .int .i64 0, .int .i64 0, .int .i64 0, .slice none 0 0, .slice none 0 0, .int .i64 (x fl.length 1), .int .i64 (x fl.length 2), .int .i64 (x fl.length 3), .int .i64 (x fl.length 4), .int .i64 (x fl.length 5), .int .i64 (x fl.length 6), .int .i64 cd] #[.int .u8 8, .int .i64 (x fl.length 0), .int .i64 0, .int .i64 0, .int .i64 0, .int .i64 0, .slice none 0 0, .slice none 0 0, .int .i64 (x fl.length 1), .int .i64 (x fl.length 2), .int .i64 (x fl.length 3), .int .i64 (x fl.length 4), .int .i64 (x fl.length 5), .int .i64 (x fl.length 6), .int .i64 cd] size_rec ?hn ?hx ?hv ?hf ?h1 ?he ?_); (case hn => rfl); (case hx => rfl); (case hv => rfl); (case hf => simp); (case h1 => simp [Value.oneCell']); (case he => rfl); intro wz sz; have hcz := sz.cells; have hfz := sz.free; have SZ := Lib.hid sz; clear sz) | fail)
       refine bodyPost_ret (v := .tuple #[.agg #[.int .u8 8, .int .i64 (x fl.length 0), .int .i64 0, .int .i64 0, .int .i64 0, .int .i64 0, .slice none 0 0, .slice none 0 0, .int .i64 (x fl.length 1), .int .i64 (x fl.length 2), .int .i64 (x fl.length 3), .int .i64 (x fl.length 4), .int .i64 (x fl.length 5), .int .i64 (x fl.length 6), .int .i64 cd], .int .i64 0]) (by simp [results, Try.results24, go_sem, hcz]) rfl ?_
       exact HY.out HB.out HER.out HRR.out hE0.out _ SZ.out.drop.drop.drop
end Go.Proofs.YtkhcdichdnbcmaaR
end
