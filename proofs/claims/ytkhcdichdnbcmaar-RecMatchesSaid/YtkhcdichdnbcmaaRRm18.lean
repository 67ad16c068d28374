/- Texts of this session, merged (wip/gen/shake.py). -/
import Derived.Test.YtkhcdichdnbcmaaRRm17
section
namespace Go.Proofs.YtkhcdichdnbcmaaR.PureC
open Go.RowKit Go.Proofs.YtkhcdichdnbcmaaR Go.Proofs.YtkhcdichdnbcmaaR.Ext Go.Proofs.YtkhcdichdnbcmaaR.C Go.Proofs.YtkhcdichdnbcmaaRW.PrintWords Go.Proofs.YtkhcdichdnbcmaaRW.PrintLast Go.Proofs.YtkhcdichdnbcmaaRW.PrintMore
open Go.Proofs.YtkhcdichdnbcmaaR.Sp Go.Proofs.YtkhcdichdnbcmaaR.Pk
theorem rint_eq (i : Int) (h1 : -9223372036854775808 ≤ i) (h2 : i ≤ 9223372036854775807) : sacristanref02_Int.f 20 i = some (mkB (encI i)) := by
 unfold sacristanref02_Int.f encI
 by_cases h : i < 0
 ·rw [if_pos h]
  have e1 : wrap64 (-(wrap64 (i + 1))) = -(i + 1) := by unfold wrap64; omega
  have e2 : IntKind.u64.wrap (-(i + 1)) = -(i + 1) := IntWalk.u64_in _ (by omega)
  have e3 : IntKind.u64.wrap (2 * -(i + 1)) = 2 * -(i + 1) := IntWalk.u64_in _ (by omega)
  have e4 : IntKind.u64.wrap (2 * -(i + 1) + 1) = ((zig i : Nat) : Int) := by
   rw [IntWalk.u64_in _ (by omega)]
   unfold zig
   rw [if_pos h]
   omega
  rw [e1, e2, e3, e4, PureR.rvar_eq 20 (Nat.le_refl _) (zig i) (zig_lt h1 h2)]
  rfl
 ·rw [if_neg h]
  have e2 : IntKind.u64.wrap i = i := IntWalk.u64_in _ (by omega)
  have e4 : IntKind.u64.wrap (2 * i) = ((zig i : Nat) : Int) := by
   rw [IntWalk.u64_in _ (by omega)]
   unfold zig
   rw [if_neg h]
   omega
  rw [e2, e4, PureR.rvar_eq 20 (Nat.le_refl _) (zig i) (zig_lt h1 h2)]
  rfl
end Go.Proofs.YtkhcdichdnbcmaaR.PureC
namespace Go.Proofs.YtkhcdichdnbcmaaR
open Go.RowKit Go.Proofs.YtkhcdichdnbcmaaR Go.Proofs.YtkhcdichdnbcmaaR.Ext Go.Proofs.YtkhcdichdnbcmaaR.C Go.Proofs.YtkhcdichdnbcmaaR.Sp Go.Proofs.YtkhcdichdnbcmaaRW.PrintWords Go.Proofs.YtkhcdichdnbcmaaRW.PrintLast
set_option linter.unusedVariables false
set_option linter.unusedSimpArgs false
theorem rstr_var {w0 : World} (x : Int) (h0 : 0 ≤ x) (h1 : x < 18446744073709551616) : ∀ W M, St w0 W M → Calls Try.prog 39 #[.int .u64 x] W fun ee w' => ee = .returned (.string (YtkhcdichdnbcmaaR.Ext.mkB (encN x))) ∧ St w0 w' M := by
 intro W M hs
 obtain ⟨n, rfl⟩ : ∃ n : Nat, x = n := ⟨x.toNat, by omega⟩
 refine (rvar_c n (by omega) W).mono ?_
 rintro ee w' ⟨rfl, hb⟩
 refine ⟨?_, hs.more hb⟩
 unfold encN
 rw [Int.toNat_natCast]
theorem rstr_int {w0 : World} (x : Int) (h0 : -9223372036854775808 ≤ x) (h1 : x ≤ 9223372036854775807) : ∀ W M, St w0 W M → Calls Try.prog 56 #[.int .i64 x] W fun ee w' => ee = .returned (.string (YtkhcdichdnbcmaaR.Ext.mkB (encI x))) ∧ St w0 w' M := by
 intro W M hs
 refine (sacristanref02_Int.calls 20 x _ W (PureC.rint_eq x h0 h1)).mono ?_
 rintro ee w' ⟨rfl, hb⟩
 exact ⟨rfl, hs.more hb⟩
set_option maxRecDepth 100000 in
set_option maxHeartbeats 1000000 in
theorem renc17_no {w0 w : World} {L : List HP} (kind e a b c d id task tick wait pid nonce code : Int) (A B : Option Addr) (n m p q : Nat) (ps : List Int) (ts : List TX) (E : Int) (h0 : E ≠ 0)
  (hC : ∀ W x, St w0 W (x :: RI (.slice A n p) ps :: RT (.slice B m q) ts :: L) → Calls Try.prog 30 #[.agg #[.int .u8 kind, .int .i64 e, .int .i64 a, .int .i64 b, .int .i64 c, .int .i64 d, .slice A n p, .slice B m q, .int .i64 id, .int .i64 task, .int .i64 tick, .int .i64 wait, .int .i64 pid, .int .i64 nonce, .int .i64 code]] W fun ee w' => ee = .returned (.int .i64 E) ∧ St w0 w' (x :: RI (.slice A n p) ps :: RT (.slice B m q) ts :: L)) (h : St w0 w (RI (.slice A n p) ps :: RT (.slice B m q) ts :: L)) :
  Calls Try.prog 29 #[.agg #[.int .u8 kind, .int .i64 e, .int .i64 a, .int .i64 b, .int .i64 c, .int .i64 d, .slice A n p, .slice B m q, .int .i64 id, .int .i64 task, .int .i64 tick, .int .i64 wait, .int .i64 pid, .int .i64 nonce, .int .i64 code]] w fun ee w' => ee = .returned (.tuple #[.string (YtkhcdichdnbcmaaR.Ext.mkB []), .int .i64 E]) ∧ St w0 w' (RI (.slice A n p) ps :: RT (.slice B m q) ts :: L) := by
 have h0b : (E != 0) = true := bne_iff_ne.mpr h0
 clear h0
 have s0 := h.alloc #[.int .u8 kind, .int .i64 e, .int .i64 a, .int .i64 b, .int .i64 c, .int .i64 d, .slice A n p, .slice B m q, .int .i64 id, .int .i64 task, .int .i64 tick, .int .i64 wait, .int .i64 pid, .int .i64 nonce, .int .i64 code] tRe
 clear h
 have hc1 := s0.cells
 have HC := Lib.hid hC
 clear hC
 have S0 := Lib.hid s0
 clear s0
 go_enter Try.func29, Try.ntmps29
 go_wp2_with fail
 refine (HC.out _ _ S0.out).mono ?_
 rintro ee w1 ⟨rfl, s1⟩
 clear S0 HC hc1
 have S1 := Lib.hid s1
 clear s1
 go_wp2
 go_returns
 exact ⟨rfl, S1.out.drop⟩
set_option maxRecDepth 100000 in
set_option maxHeartbeats 4000000 in
theorem renc17_N {w0 w : World} {L : List HP} (kind e a b c d id task tick wait pid nonce code : Int) (A B : Option Addr) (n m p q : Nat) (ps : List Int) (ts : List TX) (l : List Int) (vv : Nat → Int) (acc oo : Nat → List UInt8) (hk : (0 ≤ kind ∧ kind ≤ 255) ∧ kind ≠ 1 ∧ kind ≠ 8)
  (hC : ∀ W x, St w0 W (x :: RI (.slice A n p) ps :: RT (.slice B m q) ts :: L) → Calls Try.prog 30 #[.agg #[.int .u8 kind, .int .i64 e, .int .i64 a, .int .i64 b, .int .i64 c, .int .i64 d, .slice A n p, .slice B m q, .int .i64 id, .int .i64 task, .int .i64 tick, .int .i64 wait, .int .i64 pid, .int .i64 nonce, .int .i64 code]] W fun ee w' => ee = .returned (.int .i64 0) ∧ St w0 w' (x :: RI (.slice A n p) ps :: RT (.slice B m q) ts :: L)) (hl : fieldsL kind = l) (hf : ∀ i, i < l.length → ∀ W M, St w0 W M → Calls Try.prog 55 #[.agg #[.int .u8 kind, .int .i64 e, .int .i64 a, .int .i64 b, .int .i64 c, .int .i64 d, .slice A n p, .slice B m q, .int .i64 id, .int .i64 task, .int .i64 tick, .int .i64 wait, .int .i64 pid, .int .i64 nonce, .int .i64 code], .int .i64 (rd l i)] W fun ee w' => ee = .returned (.int .i64 (vv i)) ∧ St w0 w' M)
  (hv : ∀ i, i < l.length → ∀ W M, St w0 W M → Calls Try.prog 39 #[.int .u64 (vv i)] W fun ee w' => ee = .returned (.string (YtkhcdichdnbcmaaR.Ext.mkB (oo i))) ∧ St w0 w' M) (hvr : ∀ i, i < l.length → 0 ≤ vv i ∧ vv i ≤ 9223372036854775807) (hle : l.length ≤ 7)
  (hacc : ∀ i, i < l.length → acc (i + 1) = acc i ++ oo i) (hlen : ∀ i, i < l.length → (acc i).length + (oo i).length ≤ 100000)
  (hV : ∀ W M, St w0 W M → Calls Try.prog 39 #[.int .u64 kind] W fun ee w' => ee = .returned (.string (YtkhcdichdnbcmaaR.Ext.mkB (acc 0))) ∧ St w0 w' M) (h : St w0 w (RI (.slice A n p) ps :: RT (.slice B m q) ts :: L)) :
  Calls Try.prog 29 #[.agg #[.int .u8 kind, .int .i64 e, .int .i64 a, .int .i64 b, .int .i64 c, .int .i64 d, .slice A n p, .slice B m q, .int .i64 id, .int .i64 task, .int .i64 tick, .int .i64 wait, .int .i64 pid, .int .i64 nonce, .int .i64 code]] w fun ee w' => ee = .returned (.tuple #[.string (YtkhcdichdnbcmaaR.Ext.mkB (acc l.length)), .int .i64 0]) ∧ St w0 w' (RI (.slice A n p) ps :: RT (.slice B m q) ts :: L) := by
 have s0 := h.alloc #[.int .u8 kind, .int .i64 e, .int .i64 a, .int .i64 b, .int .i64 c, .int .i64 d, .slice A n p, .slice B m q, .int .i64 id, .int .i64 task, .int .i64 tick, .int .i64 wait, .int .i64 pid, .int .i64 nonce, .int .i64 code] tRe
 clear h
 have hc1 := s0.cells
 have HC := Lib.hid hC
 have HL := Lib.hid (And.intro hl (And.intro hf (And.intro hv (And.intro hvr hle))))
 have HA := Lib.hid (And.intro hacc hlen)
 have HV := Lib.hid hV
 clear hC hl hf hv hvr hle hacc hlen hV
 have hk1 : (kind == 1) = false := beq_eq_false_iff_ne.mpr hk.2.1
 have hk8 : (kind == 8) = false := beq_eq_false_iff_ne.mpr hk.2.2
 have hk1' : decide (kind = 1) = false := decide_eq_false hk.2.1
 have hk8' : decide (kind = 8) = false := decide_eq_false hk.2.2
 have hkw : IntKind.u64.wrap kind = kind := IntWalk.u64_in _ (by omega)
 clear hk
 have S0 := Lib.hid s0
 clear s0
 go_enter Try.func29, Try.ntmps29
 go_wp2_with fail
 refine (HC.out _ _ S0.out).mono ?_
 rintro ee w1 ⟨rfl, s1⟩
 clear S0 HC hc1
 generalize w.heap.size = b1 at *
 have hc1 := s1.cells
 have S1 := Lib.hid s1
 clear s1
 go_wp2_with fail
 refine (HV.out _ _ S1.out).mono ?_
 rintro ee w2 ⟨rfl, s2⟩
 clear S1 hc1 HV
 have hc2 := s2.cells
 have S2 := Lib.hid s2
 clear s2
 go_wp2_with fail
 refine (rfields_s kind S2.out).mono ?_
 rintro ee w3 ⟨v, rfl, s3⟩
 clear S2 hc2
 rw [HL.out.1] at s3
 obtain ⟨F, cF, rfl⟩ := RI_sl s3
 have S3 := Lib.hid s3
 clear s3
 go_wp2_with fail
 go_loopw [7, 5] (fun y z wr => ∃ i : Nat, i ≤ l.length ∧ y = .int .i64 i ∧ z = .string (YtkhcdichdnbcmaaR.Ext.mkB (acc i)) ∧ St w0 wr (RI (.slice F l.length cF) l :: Go.Proofs.YtkhcdichdnbcmaaR.blk b1 #[.int .u8 kind, .int .i64 e, .int .i64 a, .int .i64 b, .int .i64 c, .int .i64 d, .slice A n p, .slice B m q, .int .i64 id, .int .i64 task, .int .i64 tick, .int .i64 wait, .int .i64 pid, .int .i64 nonce, .int .i64 code] tRe :: RI (.slice A n p) ps :: RT (.slice B m q) ts :: L)) (fun y _ _ => l.length - (intOf y).toNat)
 case atStart => exact ⟨0, by omega, rfl, rfl, S3.out⟩
 case round =>
  clear S3
  obtain ⟨i, hi, rfl, rfl, hs⟩ := hrel
  by_cases hlt : i < l.length
  ·as_aux_lemma =>
   obtain ⟨ad, rfl, hcF⟩ := RI_atN hs i hlt
   have hle := HL.out.2.2.2.2
   have hG := HL.out.2.1 i hlt
   have hVi := HL.out.2.2.1 i hlt
   have hvr := HL.out.2.2.2.1 i hlt
   have hac := HA.out.1 i hlt
   have hln := HA.out.2 i hlt
   generalize hfe : rd l i = f at *
   generalize hV : vv i = V at *
   generalize hoo : oo i = o at *
   generalize ha1 : acc (i + 1) = a1 at *
   generalize ha0 : acc i = a0 at *
   have HG := Lib.hid hG
   have HVI := Lib.hid hVi
   have HFE := Lib.hid hfe
   have HA1 := Lib.hid (And.intro ha1 hac)
   clear hG hVi hfe hV hoo ha1 ha0
   have hx1 : YtkhcdichdnbcmaaR.Ext.mkB a0 ++ YtkhcdichdnbcmaaR.Ext.mkB o = YtkhcdichdnbcmaaR.Ext.mkB (a0 ++ o) := mkB_append a0 o
   have hx2 := add_ok a0 o hln
   have hw : IntKind.u64.wrap V = V := IntWalk.u64_in _ (by omega)
   clear hln hac
   have hg1 : decide ((i : Int) < (l.length : Int)) = true := decide_eq_true (by omega)
   have hg2 : ((i : Int) < (l.length : Int)) = True := eq_true (by omega)
   have hg3 : (0 ≤ (i : Int)) = True := eq_true (by omega)
   have hg4 : decide (i < l.length) = true := decide_eq_true hlt
   have hg5 : (i < l.length) = True := eq_true hlt
   go_upto_region 9 with fail
   refine start_ (n := 11) (S := fun w' => w'.cell? ⟨b1, 0, none⟩ = some (.int .u8 kind) ∧ w'.cell? ⟨b1, 1, none⟩ = some (.int .i64 e) ∧ w'.cell? ⟨b1, 2, none⟩ = some (.int .i64 a) ∧ w'.cell? ⟨b1, 3, none⟩ = some (.int .i64 b) ∧ w'.cell? ⟨b1, 4, none⟩ = some (.int .i64 c) ∧ w'.cell? ⟨b1, 5, none⟩ = some (.int .i64 d) ∧ w'.cell? ⟨b1, 6, none⟩ = some (.slice A n p) ∧ w'.cell? ⟨b1, 7, none⟩ = some (.slice B m q) ∧ w'.cell? ⟨b1, 8, none⟩ = some (.int .i64 id) ∧ w'.cell? ⟨b1, 9, none⟩ = some (.int .i64 task) ∧ w'.cell? ⟨b1, 10, none⟩ = some (.int .i64 tick) ∧ w'.cell? ⟨b1, 11, none⟩ = some (.int .i64 wait) ∧ w'.cell? ⟨b1, 12, none⟩ = some (.int .i64 pid) ∧ w'.cell? ⟨b1, 13, none⟩ = some (.int .i64 nonce) ∧ w'.cell? ⟨b1, 14, none⟩ = some (.int .i64 code) ∧ w'.cell? (ad.add i) = some (.int .i64 f)) (ds := []) #[false, false, false, false, false, false, false, false, false, false, false] (by kernel_rfl) rfl rfl ⟨(hs.pick 1).cells 0, (hs.pick 1).cells 1, (hs.pick 1).cells 2, (hs.pick 1).cells 3, (hs.pick 1).cells 4, (hs.pick 1).cells 5, (hs.pick 1).cells 6, (hs.pick 1).cells 7, (hs.pick 1).cells 8, (hs.pick 1).cells 9, (hs.pick 1).cells 10, (hs.pick 1).cells 11, (hs.pick 1).cells 12, (hs.pick 1).cells 13, (hs.pick 1).cells 14, hcF⟩ (fun hHeld => ?_)
   have sd := hs.drew
   clear hs hcF
   generalize wr.drew = wd at *
   refine pure_ (i := 0) (N := some 28) (v := ?_) (a' := ?_) #[true, false, false, false, false, false, false, false, false, false, false] rfl rfl (by as_aux_lemma => kernel_rfl) (fun _ _ _ h => h) (Or.inl ⟨by rfl, ?_⟩) ?_ ?_
   rotate_left
   ·intro w'
    go_simp
    with_reducible rfl
   rotate_left
   ·simp only [Act.put, List.setIfInBounds_toArray, List.set_cons_zero, List.set_cons_succ, i64_w, i32_w]
    rfl
   refine take_ (i := 1) (N := some 29) (v := ?_) (a' := ?_) #[true, true, false, false, false, false, false, false, false, false, false] rfl rfl (by as_aux_lemma => kernel_rfl) (fun _ _ _ h => h) (Or.inl ⟨by rfl, ?_⟩) hHeld ?_ ?_
   rotate_left
   ·rintro w' ⟨s0, s1, s2, s3, s4, s5, s6, s7, s8, s9, s10, s11, s12, s13, s14, s15⟩
    go_simp
    with_reducible rfl
   rotate_left
   ·simp only [Act.put, List.setIfInBounds_toArray, List.set_cons_zero, List.set_cons_succ, i64_w, i32_w]
    rfl
   refine pure_ (i := 2) (N := some 30) (v := ?_) (a' := ?_) #[true, true, true, false, false, false, false, false, false, false, false] rfl rfl (by as_aux_lemma => kernel_rfl) (fun _ _ _ h => h) (Or.inl ⟨by rfl, ?_⟩) ?_ ?_
   rotate_left
   ·intro w'
    go_simp
    with_reducible rfl
   rotate_left
   ·simp only [Act.put, List.setIfInBounds_toArray, List.set_cons_zero, List.set_cons_succ, i64_w, i32_w]
    rfl
   refine pure_ (i := 3) (N := some 31) (v := ?_) (a' := ?_) #[true, true, true, true, false, false, false, false, false, false, false] rfl rfl (by as_aux_lemma => kernel_rfl) (fun _ _ _ h => h) (Or.inl ⟨by rfl, ?_⟩) ?_ ?_
   rotate_left
   ·intro w'
    go_simp
    with_reducible rfl
   rotate_left
   ·simp only [Act.put, List.setIfInBounds_toArray, List.set_cons_zero, List.set_cons_succ, i64_w, i32_w]
    rfl
   refine pure_ (i := 4) (N := some 32) (v := ?_) (a' := ?_) #[true, true, true, true, true, false, false, false, false, false, false] rfl rfl (by as_aux_lemma => kernel_rfl) (fun _ _ _ h => h) (Or.inl ⟨by rfl, ?_⟩) ?_ ?_
   rotate_left
   ·intro w'
    go_simp
    with_reducible rfl
   rotate_left
   ·simp only [Act.put, List.setIfInBounds_toArray, List.set_cons_zero, List.set_cons_succ, i64_w, i32_w]
    rfl
   refine take_ (i := 5) (N := some 33) (v := ?_) (a' := ?_) #[true, true, true, true, true, true, false, false, false, false, false] rfl rfl (by as_aux_lemma => kernel_rfl) (fun _ _ _ h => h) (Or.inl ⟨by rfl, ?_⟩) hHeld ?_ ?_
   rotate_left
   ·rintro w' ⟨s0, s1, s2, s3, s4, s5, s6, s7, s8, s9, s10, s11, s12, s13, s14, s15⟩
    go_simp
    with_reducible rfl
   rotate_left
   ·simp only [Act.put, List.setIfInBounds_toArray, List.set_cons_zero, List.set_cons_succ, i64_w, i32_w]
    rfl
   refine one_ (i := 6) (N := some 34) #[true, true, true, true, true, true, true, false, false, false, false] rfl rfl (by as_aux_lemma => kernel_rfl) (by decide) (fun K hK => ?_)
   refine goes_ Try.func55 (by as_aux_lemma => kernel_rfl) rfl #[.agg #[.int .u8 kind, .int .i64 e, .int .i64 a, .int .i64 b, .int .i64 c, .int .i64 d, .slice A n p, .slice B m q, .int .i64 id, .int .i64 task, .int .i64 tick, .int .i64 wait, .int .i64 pid, .int .i64 nonce, .int .i64 code], .int .i64 f] (by rfl) rfl rfl (by (try simp only [List.map_toArray, List.map_cons, List.map_nil]); first | done | rfl) ?_
   with_reducible refine (HG.out _ _ sd).mono ?_
   rintro ee w5 ⟨rfl, s5⟩
   refine ⟨_, rfl, ?_⟩
   have hcF : w5.cell? (ad.add i) = some (.int .i64 f) := by
    obtain ⟨ad', e', hcF⟩ := RI_atN s5 i hlt
    injection e' with e'
    subst e'
    rw [hcF, HFE.out]
   refine hK.out _ _ ⟨(s5.pick 1).cells 0, (s5.pick 1).cells 1, (s5.pick 1).cells 2, (s5.pick 1).cells 3, (s5.pick 1).cells 4, (s5.pick 1).cells 5, (s5.pick 1).cells 6, (s5.pick 1).cells 7, (s5.pick 1).cells 8, (s5.pick 1).cells 9, (s5.pick 1).cells 10, (s5.pick 1).cells 11, (s5.pick 1).cells 12, (s5.pick 1).cells 13, (s5.pick 1).cells 14, hcF⟩ (fun hHeld => ?_)
   clear hK K sd
   refine norm_ (a' := ?_) ?_ ?_
   rotate_left
   ·show Act.put _ (some 34) _ = _
    simp only [Act.put, List.setIfInBounds_toArray, List.set_cons_zero, List.set_cons_succ, i64_w, i32_w]
    rfl
   clear hcF
   refine pure_ (i := 7) (N := some 35) (v := (.int .u64 V)) (a' := ?_) #[true, true, true, true, true, true, true, true, false, false, false] rfl rfl (by as_aux_lemma => kernel_rfl) (fun _ _ _ h => h) (Or.inl ⟨by rfl, ?_⟩) ?_ ?_
   ·intro w'
    go_simp
   rotate_left
   ·simp only [Act.put, List.setIfInBounds_toArray, List.set_cons_zero, List.set_cons_succ, i64_w, i32_w]
    rfl
   refine one_ (i := 8) (N := some 36) #[true, true, true, true, true, true, true, true, true, false, false] rfl rfl (by as_aux_lemma => kernel_rfl) (by decide) (fun K hK => ?_)
   refine goes_ Try.func39 (by as_aux_lemma => kernel_rfl) rfl #[.int .u64 V] (by rfl) rfl rfl (by (try simp only [List.map_toArray, List.map_cons, List.map_nil]); first | done | rfl) ?_
   with_reducible refine (HVI.out _ _ s5).mono ?_
   rintro ee w6 ⟨rfl, s6⟩
   refine ⟨_, rfl, ?_⟩
   have hcF : w6.cell? (ad.add i) = some (.int .i64 f) := by
    obtain ⟨ad', e', hcF⟩ := RI_atN s6 i hlt
    injection e' with e'
    subst e'
    rw [hcF, HFE.out]
   refine hK.out _ _ ⟨(s6.pick 1).cells 0, (s6.pick 1).cells 1, (s6.pick 1).cells 2, (s6.pick 1).cells 3, (s6.pick 1).cells 4, (s6.pick 1).cells 5, (s6.pick 1).cells 6, (s6.pick 1).cells 7, (s6.pick 1).cells 8, (s6.pick 1).cells 9, (s6.pick 1).cells 10, (s6.pick 1).cells 11, (s6.pick 1).cells 12, (s6.pick 1).cells 13, (s6.pick 1).cells 14, hcF⟩ (fun hHeld => ?_)
   clear hK K s5
   refine norm_ (a' := ?_) ?_ ?_
   rotate_left
   ·show Act.put _ (some 36) _ = _
    simp only [Act.put, List.setIfInBounds_toArray, List.set_cons_zero, List.set_cons_succ, i64_w, i32_w]
    rfl
   refine pure_ (i := 9) (N := some 37) (v := (.string (YtkhcdichdnbcmaaR.Ext.mkB (a0 ++ o)))) (a' := ?_) #[true, true, true, true, true, true, true, true, true, true, false] rfl rfl (by as_aux_lemma => kernel_rfl) (fun _ _ _ h => h) (Or.inl ⟨by rfl, ?_⟩) ?_ ?_
   ·intro w'
    go_simp
   rotate_left
   ·simp only [Act.put, List.setIfInBounds_toArray, List.set_cons_zero, List.set_cons_succ, i64_w, i32_w]
    rfl
   refine pure_ (i := 10) (N := some 5) (v := (.string (YtkhcdichdnbcmaaR.Ext.mkB (a0 ++ o)))) (a' := ?_) #[true, true, true, true, true, true, true, true, true, true, true] rfl rfl (by as_aux_lemma => kernel_rfl) (fun _ _ _ h => h) (Or.inl ⟨by rfl, ?_⟩) ?_ ?_
   ·intro w'
    go_simp
   rotate_left
   ·simp only [Act.put, List.setIfInBounds_toArray, List.set_cons_zero, List.set_cons_succ, i64_w, i32_w]
    rfl
   refine done_ (by as_aux_lemma => kernel_rfl) ?_
   clear hcF
   go_wp2_with fail
   all_goals go_roundw
   all_goals first | exact ⟨i + 1, by omega, by go_num, by rw [HA1.out.1, HA1.out.2], s6⟩ | (simp [intOf]; omega)
  ·obtain rfl : i = l.length := by omega
   have hg1 : decide ((l.length : Int) < (l.length : Int)) = false := decide_eq_false (by omega)
   have s9 := hs.drop
   clear hs
   have hc9 := s9.cells
   have S9 := Lib.hid s9
   clear s9
   go_wp2
   go_returns
   exact ⟨rfl, S9.out.drop⟩
set_option maxRecDepth 100000 in
set_option maxHeartbeats 4000000 in
theorem renc17_8 {w0 w : World} {L : List HP} (e a b c d id task tick wait pid nonce code : Int) (A B : Option Addr) (n m p q : Nat) (ps : List Int) (ts : List TX) (l : List Int) (vv : Nat → Int) (acc oo : Nat → List UInt8) (oS : List UInt8)
  (hC : ∀ W x, St w0 W (x :: RI (.slice A n p) ps :: RT (.slice B m q) ts :: L) → Calls Try.prog 30 #[.agg #[.int .u8 8, .int .i64 e, .int .i64 a, .int .i64 b, .int .i64 c, .int .i64 d, .slice A n p, .slice B m q, .int .i64 id, .int .i64 task, .int .i64 tick, .int .i64 wait, .int .i64 pid, .int .i64 nonce, .int .i64 code]] W fun ee w' => ee = .returned (.int .i64 0) ∧ St w0 w' (x :: RI (.slice A n p) ps :: RT (.slice B m q) ts :: L)) (hl : fieldsL 8 = l) (hf : ∀ i, i < l.length → ∀ W M, St w0 W M → Calls Try.prog 55 #[.agg #[.int .u8 8, .int .i64 e, .int .i64 a, .int .i64 b, .int .i64 c, .int .i64 d, .slice A n p, .slice B m q, .int .i64 id, .int .i64 task, .int .i64 tick, .int .i64 wait, .int .i64 pid, .int .i64 nonce, .int .i64 code], .int .i64 (rd l i)] W fun ee w' => ee = .returned (.int .i64 (vv i)) ∧ St w0 w' M)
  (hv : ∀ i, i < l.length → ∀ W M, St w0 W M → Calls Try.prog 39 #[.int .u64 (vv i)] W fun ee w' => ee = .returned (.string (YtkhcdichdnbcmaaR.Ext.mkB (oo i))) ∧ St w0 w' M) (hvr : ∀ i, i < l.length → 0 ≤ vv i ∧ vv i ≤ 9223372036854775807) (hle : l.length ≤ 7)
  (hacc : ∀ i, i < l.length → acc (i + 1) = acc i ++ oo i) (hlen : ∀ i, i < l.length → (acc i).length + (oo i).length ≤ 100000)
  (hV : ∀ W M, St w0 W M → Calls Try.prog 39 #[.int .u64 8] W fun ee w' => ee = .returned (.string (YtkhcdichdnbcmaaR.Ext.mkB (acc 0))) ∧ St w0 w' M)
  (hT : (acc l.length).length + oS.length ≤ 100000 ∧ ∀ W M, St w0 W M → Calls Try.prog 56 #[.int .i64 code] W fun ee w' => ee = .returned (.string (YtkhcdichdnbcmaaR.Ext.mkB oS)) ∧ St w0 w' M) (h : St w0 w (RI (.slice A n p) ps :: RT (.slice B m q) ts :: L)) :
  Calls Try.prog 29 #[.agg #[.int .u8 8, .int .i64 e, .int .i64 a, .int .i64 b, .int .i64 c, .int .i64 d, .slice A n p, .slice B m q, .int .i64 id, .int .i64 task, .int .i64 tick, .int .i64 wait, .int .i64 pid, .int .i64 nonce, .int .i64 code]] w fun ee w' => ee = .returned (.tuple #[.string (YtkhcdichdnbcmaaR.Ext.mkB (acc l.length ++ oS)), .int .i64 0]) ∧ St w0 w' (RI (.slice A n p) ps :: RT (.slice B m q) ts :: L) := by
 have s0 := h.alloc #[.int .u8 8, .int .i64 e, .int .i64 a, .int .i64 b, .int .i64 c, .int .i64 d, .slice A n p, .slice B m q, .int .i64 id, .int .i64 task, .int .i64 tick, .int .i64 wait, .int .i64 pid, .int .i64 nonce, .int .i64 code] tRe
 clear h
 have hc1 := s0.cells
 have HC := Lib.hid hC
 have HL := Lib.hid (And.intro hl (And.intro hf (And.intro hv (And.intro hvr hle))))
 have HA := Lib.hid (And.intro hacc hlen)
 have HV := Lib.hid hV
 have HT := Lib.hid hT
 clear hT
 clear hC hl hf hv hvr hle hacc hlen hV
 have S0 := Lib.hid s0
 clear s0
 go_enter Try.func29, Try.ntmps29
 go_wp2_with fail
 refine (HC.out _ _ S0.out).mono ?_
 rintro ee w1 ⟨rfl, s1⟩
 clear S0 HC hc1
 generalize w.heap.size = b1 at *
 have hc1 := s1.cells
 have S1 := Lib.hid s1
 clear s1
 go_wp2_with fail
 refine (HV.out _ _ S1.out).mono ?_
 rintro ee w2 ⟨rfl, s2⟩
 clear S1 hc1 HV
 have hc2 := s2.cells
 have S2 := Lib.hid s2
 clear s2
 go_wp2_with fail
 refine (rfields_s 8 S2.out).mono ?_
 rintro ee w3 ⟨v, rfl, s3⟩
 clear S2 hc2
 rw [HL.out.1] at s3
 obtain ⟨F, cF, rfl⟩ := RI_sl s3
 have S3 := Lib.hid s3
 clear s3
 go_wp2_with fail
 go_loopw [7, 5] (fun y z wr => ∃ i : Nat, i ≤ l.length ∧ y = .int .i64 i ∧ z = .string (YtkhcdichdnbcmaaR.Ext.mkB (acc i)) ∧ St w0 wr (RI (.slice F l.length cF) l :: Go.Proofs.YtkhcdichdnbcmaaR.blk b1 #[.int .u8 8, .int .i64 e, .int .i64 a, .int .i64 b, .int .i64 c, .int .i64 d, .slice A n p, .slice B m q, .int .i64 id, .int .i64 task, .int .i64 tick, .int .i64 wait, .int .i64 pid, .int .i64 nonce, .int .i64 code] tRe :: RI (.slice A n p) ps :: RT (.slice B m q) ts :: L)) (fun y _ _ => l.length - (intOf y).toNat)
 case atStart => exact ⟨0, by omega, rfl, rfl, S3.out⟩
 case round =>
  clear S3
  obtain ⟨i, hi, rfl, rfl, hs⟩ := hrel
  by_cases hlt : i < l.length
  ·as_aux_lemma =>
   obtain ⟨ad, rfl, hcF⟩ := RI_atN hs i hlt
   have hle := HL.out.2.2.2.2
   have hG := HL.out.2.1 i hlt
   have hVi := HL.out.2.2.1 i hlt
   have hvr := HL.out.2.2.2.1 i hlt
   have hac := HA.out.1 i hlt
   have hln := HA.out.2 i hlt
   generalize hfe : rd l i = f at *
   generalize hV : vv i = V at *
   generalize hoo : oo i = o at *
   generalize ha1 : acc (i + 1) = a1 at *
   generalize ha0 : acc i = a0 at *
   have HG := Lib.hid hG
   have HVI := Lib.hid hVi
   have HFE := Lib.hid hfe
   have HA1 := Lib.hid (And.intro ha1 hac)
   clear hG hVi hfe hV hoo ha1 ha0
   have hx1 : YtkhcdichdnbcmaaR.Ext.mkB a0 ++ YtkhcdichdnbcmaaR.Ext.mkB o = YtkhcdichdnbcmaaR.Ext.mkB (a0 ++ o) := mkB_append a0 o
   have hx2 := add_ok a0 o hln
   have hw : IntKind.u64.wrap V = V := IntWalk.u64_in _ (by omega)
   clear hln hac
   have hg1 : decide ((i : Int) < (l.length : Int)) = true := decide_eq_true (by omega)
   have hg2 : ((i : Int) < (l.length : Int)) = True := eq_true (by omega)
   have hg3 : (0 ≤ (i : Int)) = True := eq_true (by omega)
   have hg4 : decide (i < l.length) = true := decide_eq_true hlt
   have hg5 : (i < l.length) = True := eq_true hlt
   go_upto_region 9 with fail
   refine start_ (n := 11) (S := fun w' => w'.cell? ⟨b1, 0, none⟩ = some (.int .u8 8) ∧ w'.cell? ⟨b1, 1, none⟩ = some (.int .i64 e) ∧ w'.cell? ⟨b1, 2, none⟩ = some (.int .i64 a) ∧ w'.cell? ⟨b1, 3, none⟩ = some (.int .i64 b) ∧ w'.cell? ⟨b1, 4, none⟩ = some (.int .i64 c) ∧ w'.cell? ⟨b1, 5, none⟩ = some (.int .i64 d) ∧ w'.cell? ⟨b1, 6, none⟩ = some (.slice A n p) ∧ w'.cell? ⟨b1, 7, none⟩ = some (.slice B m q) ∧ w'.cell? ⟨b1, 8, none⟩ = some (.int .i64 id) ∧ w'.cell? ⟨b1, 9, none⟩ = some (.int .i64 task) ∧ w'.cell? ⟨b1, 10, none⟩ = some (.int .i64 tick) ∧ w'.cell? ⟨b1, 11, none⟩ = some (.int .i64 wait) ∧ w'.cell? ⟨b1, 12, none⟩ = some (.int .i64 pid) ∧ w'.cell? ⟨b1, 13, none⟩ = some (.int .i64 nonce) ∧ w'.cell? ⟨b1, 14, none⟩ = some (.int .i64 code) ∧ w'.cell? (ad.add i) = some (.int .i64 f)) (ds := []) #[false, false, false, false, false, false, false, false, false, false, false] (by kernel_rfl) rfl rfl ⟨(hs.pick 1).cells 0, (hs.pick 1).cells 1, (hs.pick 1).cells 2, (hs.pick 1).cells 3, (hs.pick 1).cells 4, (hs.pick 1).cells 5, (hs.pick 1).cells 6, (hs.pick 1).cells 7, (hs.pick 1).cells 8, (hs.pick 1).cells 9, (hs.pick 1).cells 10, (hs.pick 1).cells 11, (hs.pick 1).cells 12, (hs.pick 1).cells 13, (hs.pick 1).cells 14, hcF⟩ (fun hHeld => ?_)
   have sd := hs.drew
   clear hs hcF
   generalize wr.drew = wd at *
   refine pure_ (i := 0) (N := some 28) (v := ?_) (a' := ?_) #[true, false, false, false, false, false, false, false, false, false, false] rfl rfl (by as_aux_lemma => kernel_rfl) (fun _ _ _ h => h) (Or.inl ⟨by rfl, ?_⟩) ?_ ?_
   rotate_left
   ·intro w'
    go_simp
    with_reducible rfl
   rotate_left
   ·simp only [Act.put, List.setIfInBounds_toArray, List.set_cons_zero, List.set_cons_succ, i64_w, i32_w]
    rfl
   refine take_ (i := 1) (N := some 29) (v := ?_) (a' := ?_) #[true, true, false, false, false, false, false, false, false, false, false] rfl rfl (by as_aux_lemma => kernel_rfl) (fun _ _ _ h => h) (Or.inl ⟨by rfl, ?_⟩) hHeld ?_ ?_
   rotate_left
   ·rintro w' ⟨s0, s1, s2, s3, s4, s5, s6, s7, s8, s9, s10, s11, s12, s13, s14, s15⟩
    go_simp
    with_reducible rfl
   rotate_left
   ·simp only [Act.put, List.setIfInBounds_toArray, List.set_cons_zero, List.set_cons_succ, i64_w, i32_w]
    rfl
   refine pure_ (i := 2) (N := some 30) (v := ?_) (a' := ?_) #[true, true, true, false, false, false, false, false, false, false, false] rfl rfl (by as_aux_lemma => kernel_rfl) (fun _ _ _ h => h) (Or.inl ⟨by rfl, ?_⟩) ?_ ?_
   rotate_left
   ·intro w'
    go_simp
    with_reducible rfl
   rotate_left
   ·simp only [Act.put, List.setIfInBounds_toArray, List.set_cons_zero, List.set_cons_succ, i64_w, i32_w]
    rfl
   refine pure_ (i := 3) (N := some 31) (v := ?_) (a' := ?_) #[true, true, true, true, false, false, false, false, false, false, false] rfl rfl (by as_aux_lemma => kernel_rfl) (fun _ _ _ h => h) (Or.inl ⟨by rfl, ?_⟩) ?_ ?_
   rotate_left
   ·intro w'
    go_simp
    with_reducible rfl
   rotate_left
   ·simp only [Act.put, List.setIfInBounds_toArray, List.set_cons_zero, List.set_cons_succ, i64_w, i32_w]
    rfl
   refine pure_ (i := 4) (N := some 32) (v := ?_) (a' := ?_) #[true, true, true, true, true, false, false, false, false, false, false] rfl rfl (by as_aux_lemma => kernel_rfl) (fun _ _ _ h => h) (Or.inl ⟨by rfl, ?_⟩) ?_ ?_
   rotate_left
   ·intro w'
    go_simp
    with_reducible rfl
   rotate_left
   ·simp only [Act.put, List.setIfInBounds_toArray, List.set_cons_zero, List.set_cons_succ, i64_w, i32_w]
    rfl
   refine take_ (i := 5) (N := some 33) (v := ?_) (a' := ?_) #[true, true, true, true, true, true, false, false, false, false, false] rfl rfl (by as_aux_lemma => kernel_rfl) (fun _ _ _ h => h) (Or.inl ⟨by rfl, ?_⟩) hHeld ?_ ?_
   rotate_left
   ·rintro w' ⟨s0, s1, s2, s3, s4, s5, s6, s7, s8, s9, s10, s11, s12, s13, s14, s15⟩
    go_simp
    with_reducible rfl
   rotate_left
   ·simp only [Act.put, List.setIfInBounds_toArray, List.set_cons_zero, List.set_cons_succ, i64_w, i32_w]
    rfl
   refine one_ (i := 6) (N := some 34) #[true, true, true, true, true, true, true, false, false, false, false] rfl rfl (by as_aux_lemma => kernel_rfl) (by decide) (fun K hK => ?_)
   refine goes_ Try.func55 (by as_aux_lemma => kernel_rfl) rfl #[.agg #[.int .u8 8, .int .i64 e, .int .i64 a, .int .i64 b, .int .i64 c, .int .i64 d, .slice A n p, .slice B m q, .int .i64 id, .int .i64 task, .int .i64 tick, .int .i64 wait, .int .i64 pid, .int .i64 nonce, .int .i64 code], .int .i64 f] (by rfl) rfl rfl (by (try simp only [List.map_toArray, List.map_cons, List.map_nil]); first | done | rfl) ?_
   with_reducible refine (HG.out _ _ sd).mono ?_
   rintro ee w5 ⟨rfl, s5⟩
   refine ⟨_, rfl, ?_⟩
   have hcF : w5.cell? (ad.add i) = some (.int .i64 f) := by
    obtain ⟨ad', e', hcF⟩ := RI_atN s5 i hlt
    injection e' with e'
    subst e'
    rw [hcF, HFE.out]
   refine hK.out _ _ ⟨(s5.pick 1).cells 0, (s5.pick 1).cells 1, (s5.pick 1).cells 2, (s5.pick 1).cells 3, (s5.pick 1).cells 4, (s5.pick 1).cells 5, (s5.pick 1).cells 6, (s5.pick 1).cells 7, (s5.pick 1).cells 8, (s5.pick 1).cells 9, (s5.pick 1).cells 10, (s5.pick 1).cells 11, (s5.pick 1).cells 12, (s5.pick 1).cells 13, (s5.pick 1).cells 14, hcF⟩ (fun hHeld => ?_)
   clear hK K sd
   refine norm_ (a' := ?_) ?_ ?_
   rotate_left
   ·show Act.put _ (some 34) _ = _
    simp only [Act.put, List.setIfInBounds_toArray, List.set_cons_zero, List.set_cons_succ, i64_w, i32_w]
    rfl
   clear hcF
   refine pure_ (i := 7) (N := some 35) (v := (.int .u64 V)) (a' := ?_) #[true, true, true, true, true, true, true, true, false, false, false] rfl rfl (by as_aux_lemma => kernel_rfl) (fun _ _ _ h => h) (Or.inl ⟨by rfl, ?_⟩) ?_ ?_
   ·intro w'
    go_simp
   rotate_left
   ·simp only [Act.put, List.setIfInBounds_toArray, List.set_cons_zero, List.set_cons_succ, i64_w, i32_w]
    rfl
   refine one_ (i := 8) (N := some 36) #[true, true, true, true, true, true, true, true, true, false, false] rfl rfl (by as_aux_lemma => kernel_rfl) (by decide) (fun K hK => ?_)
   refine goes_ Try.func39 (by as_aux_lemma => kernel_rfl) rfl #[.int .u64 V] (by rfl) rfl rfl (by (try simp only [List.map_toArray, List.map_cons, List.map_nil]); first | done | rfl) ?_
   with_reducible refine (HVI.out _ _ s5).mono ?_
   rintro ee w6 ⟨rfl, s6⟩
   refine ⟨_, rfl, ?_⟩
   have hcF : w6.cell? (ad.add i) = some (.int .i64 f) := by
    obtain ⟨ad', e', hcF⟩ := RI_atN s6 i hlt
    injection e' with e'
    subst e'
    rw [hcF, HFE.out]
   refine hK.out _ _ ⟨(s6.pick 1).cells 0, (s6.pick 1).cells 1, (s6.pick 1).cells 2, (s6.pick 1).cells 3, (s6.pick 1).cells 4, (s6.pick 1).cells 5, (s6.pick 1).cells 6, (s6.pick 1).cells 7, (s6.pick 1).cells 8, (s6.pick 1).cells 9, (s6.pick 1).cells 10, (s6.pick 1).cells 11, (s6.pick 1).cells 12, (s6.pick 1).cells 13, (s6.pick 1).cells 14, hcF⟩ (fun hHeld => ?_)
   clear hK K s5
   refine norm_ (a' := ?_) ?_ ?_
   rotate_left
   ·show Act.put _ (some 36) _ = _
    simp only [Act.put, List.setIfInBounds_toArray, List.set_cons_zero, List.set_cons_succ, i64_w, i32_w]
    rfl
   refine pure_ (i := 9) (N := some 37) (v := (.string (YtkhcdichdnbcmaaR.Ext.mkB (a0 ++ o)))) (a' := ?_) #[true, true, true, true, true, true, true, true, true, true, false] rfl rfl (by as_aux_lemma => kernel_rfl) (fun _ _ _ h => h) (Or.inl ⟨by rfl, ?_⟩) ?_ ?_
   ·intro w'
    go_simp
   rotate_left
   ·simp only [Act.put, List.setIfInBounds_toArray, List.set_cons_zero, List.set_cons_succ, i64_w, i32_w]
    rfl
   refine pure_ (i := 10) (N := some 5) (v := (.string (YtkhcdichdnbcmaaR.Ext.mkB (a0 ++ o)))) (a' := ?_) #[true, true, true, true, true, true, true, true, true, true, true] rfl rfl (by as_aux_lemma => kernel_rfl) (fun _ _ _ h => h) (Or.inl ⟨by rfl, ?_⟩) ?_ ?_
   ·intro w'
    go_simp
   rotate_left
   ·simp only [Act.put, List.setIfInBounds_toArray, List.set_cons_zero, List.set_cons_succ, i64_w, i32_w]
    rfl
   refine done_ (by as_aux_lemma => kernel_rfl) ?_
   clear hcF
   go_wp2_with fail
   all_goals go_roundw
   all_goals first | exact ⟨i + 1, by omega, by go_num, by rw [HA1.out.1, HA1.out.2], s6⟩ | (simp [intOf]; omega)
  ·obtain rfl : i = l.length := by omega
   have hg1 : decide ((l.length : Int) < (l.length : Int)) = false := decide_eq_false (by omega)
   have s9 := hs.drop
   clear hs
   have hc9 := s9.cells
   have S9 := Lib.hid s9
   clear s9
   have hx1 : YtkhcdichdnbcmaaR.Ext.mkB (acc l.length) ++ YtkhcdichdnbcmaaR.Ext.mkB oS = YtkhcdichdnbcmaaR.Ext.mkB (acc l.length ++ oS) := mkB_append (acc l.length) oS
   have hx2 := add_ok (acc l.length) oS HT.out.1
   go_wp2_with fail
   refine (HT.out.2 _ _ S9.out).mono ?_
   rintro ee w7 ⟨rfl, s10⟩
   clear S9 hc9
   have hc10 := s10.cells
   have S10 := Lib.hid s10
   clear s10
   go_wp2
   go_returns
   exact ⟨rfl, S10.out.drop⟩
set_option maxRecDepth 100000 in
set_option maxHeartbeats 4000000 in
theorem renc17_1 {w0 w : World} {L : List HP} (e a b c d id task tick wait pid nonce code : Int) (A B : Option Addr) (n m p q : Nat) (ps : List Int) (ts : List TX) (l : List Int) (vv : Nat → Int) (acc oo : Nat → List UInt8) (oS : List UInt8) (er : Int)
  (hC : ∀ W x, St w0 W (x :: RI (.slice A n p) ps :: RT (.slice B m q) ts :: L) → Calls Try.prog 30 #[.agg #[.int .u8 1, .int .i64 e, .int .i64 a, .int .i64 b, .int .i64 c, .int .i64 d, .slice A n p, .slice B m q, .int .i64 id, .int .i64 task, .int .i64 tick, .int .i64 wait, .int .i64 pid, .int .i64 nonce, .int .i64 code]] W fun ee w' => ee = .returned (.int .i64 0) ∧ St w0 w' (x :: RI (.slice A n p) ps :: RT (.slice B m q) ts :: L)) (hl : fieldsL 1 = l) (hf : ∀ i, i < l.length → ∀ W M, St w0 W M → Calls Try.prog 55 #[.agg #[.int .u8 1, .int .i64 e, .int .i64 a, .int .i64 b, .int .i64 c, .int .i64 d, .slice A n p, .slice B m q, .int .i64 id, .int .i64 task, .int .i64 tick, .int .i64 wait, .int .i64 pid, .int .i64 nonce, .int .i64 code], .int .i64 (rd l i)] W fun ee w' => ee = .returned (.int .i64 (vv i)) ∧ St w0 w' M)
  (hv : ∀ i, i < l.length → ∀ W M, St w0 W M → Calls Try.prog 39 #[.int .u64 (vv i)] W fun ee w' => ee = .returned (.string (YtkhcdichdnbcmaaR.Ext.mkB (oo i))) ∧ St w0 w' M) (hvr : ∀ i, i < l.length → 0 ≤ vv i ∧ vv i ≤ 9223372036854775807) (hle : l.length ≤ 7)
  (hacc : ∀ i, i < l.length → acc (i + 1) = acc i ++ oo i) (hlen : ∀ i, i < l.length → (acc i).length + (oo i).length ≤ 100000)
  (hV : ∀ W M, St w0 W M → Calls Try.prog 39 #[.int .u64 1] W fun ee w' => ee = .returned (.string (YtkhcdichdnbcmaaR.Ext.mkB (acc 0))) ∧ St w0 w' M)
  (hT : (acc l.length).length + oS.length ≤ 100000 ∧ ∀ W x, St w0 W (x :: RI (.slice A n p) ps :: RT (.slice B m q) ts :: L) → Calls Try.prog 40 #[.agg #[.int .i64 a, .int .i64 b, .int .i64 c, .int .i64 d, .slice A n p, .slice B m q]] W fun ee w' => ee = .returned (.tuple #[.string (YtkhcdichdnbcmaaR.Ext.mkB oS), .int .i64 er]) ∧ St w0 w' (x :: RI (.slice A n p) ps :: RT (.slice B m q) ts :: L)) (h : St w0 w (RI (.slice A n p) ps :: RT (.slice B m q) ts :: L)) :
  Calls Try.prog 29 #[.agg #[.int .u8 1, .int .i64 e, .int .i64 a, .int .i64 b, .int .i64 c, .int .i64 d, .slice A n p, .slice B m q, .int .i64 id, .int .i64 task, .int .i64 tick, .int .i64 wait, .int .i64 pid, .int .i64 nonce, .int .i64 code]] w fun ee w' => ee = .returned (.tuple #[.string (YtkhcdichdnbcmaaR.Ext.mkB (acc l.length ++ oS)), .int .i64 0]) ∧ St w0 w' (RI (.slice A n p) ps :: RT (.slice B m q) ts :: L) := by
 have s0 := h.alloc #[.int .u8 1, .int .i64 e, .int .i64 a, .int .i64 b, .int .i64 c, .int .i64 d, .slice A n p, .slice B m q, .int .i64 id, .int .i64 task, .int .i64 tick, .int .i64 wait, .int .i64 pid, .int .i64 nonce, .int .i64 code] tRe
 clear h
 have hc1 := s0.cells
 have HC := Lib.hid hC
 have HL := Lib.hid (And.intro hl (And.intro hf (And.intro hv (And.intro hvr hle))))
 have HA := Lib.hid (And.intro hacc hlen)
 have HV := Lib.hid hV
 have HT := Lib.hid hT
 clear hT
 clear hC hl hf hv hvr hle hacc hlen hV
 have S0 := Lib.hid s0
 clear s0
 go_enter Try.func29, Try.ntmps29
 go_wp2_with fail
 refine (HC.out _ _ S0.out).mono ?_
 rintro ee w1 ⟨rfl, s1⟩
 clear S0 HC hc1
 generalize w.heap.size = b1 at *
 have hc1 := s1.cells
 have S1 := Lib.hid s1
 clear s1
 go_wp2_with fail
 refine (HV.out _ _ S1.out).mono ?_
 rintro ee w2 ⟨rfl, s2⟩
 clear S1 hc1 HV
 have hc2 := s2.cells
 have S2 := Lib.hid s2
 clear s2
 go_wp2_with fail
 refine (rfields_s 1 S2.out).mono ?_
 rintro ee w3 ⟨v, rfl, s3⟩
 clear S2 hc2
 rw [HL.out.1] at s3
 obtain ⟨F, cF, rfl⟩ := RI_sl s3
 have S3 := Lib.hid s3
 clear s3
 go_wp2_with fail
 go_loopw [7, 5] (fun y z wr => ∃ i : Nat, i ≤ l.length ∧ y = .int .i64 i ∧ z = .string (YtkhcdichdnbcmaaR.Ext.mkB (acc i)) ∧ St w0 wr (RI (.slice F l.length cF) l :: Go.Proofs.YtkhcdichdnbcmaaR.blk b1 #[.int .u8 1, .int .i64 e, .int .i64 a, .int .i64 b, .int .i64 c, .int .i64 d, .slice A n p, .slice B m q, .int .i64 id, .int .i64 task, .int .i64 tick, .int .i64 wait, .int .i64 pid, .int .i64 nonce, .int .i64 code] tRe :: RI (.slice A n p) ps :: RT (.slice B m q) ts :: L)) (fun y _ _ => l.length - (intOf y).toNat)
 case atStart => exact ⟨0, by omega, rfl, rfl, S3.out⟩
 case round =>
  clear S3
  obtain ⟨i, hi, rfl, rfl, hs⟩ := hrel
  by_cases hlt : i < l.length
  ·as_aux_lemma =>
   obtain ⟨ad, rfl, hcF⟩ := RI_atN hs i hlt
   have hle := HL.out.2.2.2.2
   have hG := HL.out.2.1 i hlt
   have hVi := HL.out.2.2.1 i hlt
   have hvr := HL.out.2.2.2.1 i hlt
   have hac := HA.out.1 i hlt
   have hln := HA.out.2 i hlt
   generalize hfe : rd l i = f at *
   generalize hV : vv i = V at *
   generalize hoo : oo i = o at *
   generalize ha1 : acc (i + 1) = a1 at *
   generalize ha0 : acc i = a0 at *
   have HG := Lib.hid hG
   have HVI := Lib.hid hVi
   have HFE := Lib.hid hfe
   have HA1 := Lib.hid (And.intro ha1 hac)
   clear hG hVi hfe hV hoo ha1 ha0
   have hx1 : YtkhcdichdnbcmaaR.Ext.mkB a0 ++ YtkhcdichdnbcmaaR.Ext.mkB o = YtkhcdichdnbcmaaR.Ext.mkB (a0 ++ o) := mkB_append a0 o
   have hx2 := add_ok a0 o hln
   have hw : IntKind.u64.wrap V = V := IntWalk.u64_in _ (by omega)
   clear hln hac
   have hg1 : decide ((i : Int) < (l.length : Int)) = true := decide_eq_true (by omega)
   have hg2 : ((i : Int) < (l.length : Int)) = True := eq_true (by omega)
   have hg3 : (0 ≤ (i : Int)) = True := eq_true (by omega)
   have hg4 : decide (i < l.length) = true := decide_eq_true hlt
   have hg5 : (i < l.length) = True := eq_true hlt
   go_upto_region 9 with fail
   refine start_ (n := 11) (S := fun w' => w'.cell? ⟨b1, 0, none⟩ = some (.int .u8 1) ∧ w'.cell? ⟨b1, 1, none⟩ = some (.int .i64 e) ∧ w'.cell? ⟨b1, 2, none⟩ = some (.int .i64 a) ∧ w'.cell? ⟨b1, 3, none⟩ = some (.int .i64 b) ∧ w'.cell? ⟨b1, 4, none⟩ = some (.int .i64 c) ∧ w'.cell? ⟨b1, 5, none⟩ = some (.int .i64 d) ∧ w'.cell? ⟨b1, 6, none⟩ = some (.slice A n p) ∧ w'.cell? ⟨b1, 7, none⟩ = some (.slice B m q) ∧ w'.cell? ⟨b1, 8, none⟩ = some (.int .i64 id) ∧ w'.cell? ⟨b1, 9, none⟩ = some (.int .i64 task) ∧ w'.cell? ⟨b1, 10, none⟩ = some (.int .i64 tick) ∧ w'.cell? ⟨b1, 11, none⟩ = some (.int .i64 wait) ∧ w'.cell? ⟨b1, 12, none⟩ = some (.int .i64 pid) ∧ w'.cell? ⟨b1, 13, none⟩ = some (.int .i64 nonce) ∧ w'.cell? ⟨b1, 14, none⟩ = some (.int .i64 code) ∧ w'.cell? (ad.add i) = some (.int .i64 f)) (ds := []) #[false, false, false, false, false, false, false, false, false, false, false] (by kernel_rfl) rfl rfl ⟨(hs.pick 1).cells 0, (hs.pick 1).cells 1, (hs.pick 1).cells 2, (hs.pick 1).cells 3, (hs.pick 1).cells 4, (hs.pick 1).cells 5, (hs.pick 1).cells 6, (hs.pick 1).cells 7, (hs.pick 1).cells 8, (hs.pick 1).cells 9, (hs.pick 1).cells 10, (hs.pick 1).cells 11, (hs.pick 1).cells 12, (hs.pick 1).cells 13, (hs.pick 1).cells 14, hcF⟩ (fun hHeld => ?_)
   have sd := hs.drew
   clear hs hcF
   generalize wr.drew = wd at *
   refine pure_ (i := 0) (N := some 28) (v := ?_) (a' := ?_) #[true, false, false, false, false, false, false, false, false, false, false] rfl rfl (by as_aux_lemma => kernel_rfl) (fun _ _ _ h => h) (Or.inl ⟨by rfl, ?_⟩) ?_ ?_
   rotate_left
   ·intro w'
    go_simp
    with_reducible rfl
   rotate_left
   ·simp only [Act.put, List.setIfInBounds_toArray, List.set_cons_zero, List.set_cons_succ, i64_w, i32_w]
    rfl
   refine take_ (i := 1) (N := some 29) (v := ?_) (a' := ?_) #[true, true, false, false, false, false, false, false, false, false, false] rfl rfl (by as_aux_lemma => kernel_rfl) (fun _ _ _ h => h) (Or.inl ⟨by rfl, ?_⟩) hHeld ?_ ?_
   rotate_left
   ·rintro w' ⟨s0, s1, s2, s3, s4, s5, s6, s7, s8, s9, s10, s11, s12, s13, s14, s15⟩
    go_simp
    with_reducible rfl
   rotate_left
   ·simp only [Act.put, List.setIfInBounds_toArray, List.set_cons_zero, List.set_cons_succ, i64_w, i32_w]
    rfl
   refine pure_ (i := 2) (N := some 30) (v := ?_) (a' := ?_) #[true, true, true, false, false, false, false, false, false, false, false] rfl rfl (by as_aux_lemma => kernel_rfl) (fun _ _ _ h => h) (Or.inl ⟨by rfl, ?_⟩) ?_ ?_
   rotate_left
   ·intro w'
    go_simp
    with_reducible rfl
   rotate_left
   ·simp only [Act.put, List.setIfInBounds_toArray, List.set_cons_zero, List.set_cons_succ, i64_w, i32_w]
    rfl
   refine pure_ (i := 3) (N := some 31) (v := ?_) (a' := ?_) #[true, true, true, true, false, false, false, false, false, false, false] rfl rfl (by as_aux_lemma => kernel_rfl) (fun _ _ _ h => h) (Or.inl ⟨by rfl, ?_⟩) ?_ ?_
   rotate_left
   ·intro w'
    go_simp
    with_reducible rfl
   rotate_left
   ·simp only [Act.put, List.setIfInBounds_toArray, List.set_cons_zero, List.set_cons_succ, i64_w, i32_w]
    rfl
   refine pure_ (i := 4) (N := some 32) (v := ?_) (a' := ?_) #[true, true, true, true, true, false, false, false, false, false, false] rfl rfl (by as_aux_lemma => kernel_rfl) (fun _ _ _ h => h) (Or.inl ⟨by rfl, ?_⟩) ?_ ?_
   rotate_left
   ·intro w'
    go_simp
    with_reducible rfl
   rotate_left
   ·simp only [Act.put, List.setIfInBounds_toArray, List.set_cons_zero, List.set_cons_succ, i64_w, i32_w]
    rfl
   refine take_ (i := 5) (N := some 33) (v := ?_) (a' := ?_) #[true, true, true, true, true, true, false, false, false, false, false] rfl rfl (by as_aux_lemma => kernel_rfl) (fun _ _ _ h => h) (Or.inl ⟨by rfl, ?_⟩) hHeld ?_ ?_
   rotate_left
   ·rintro w' ⟨s0, s1, s2, s3, s4, s5, s6, s7, s8, s9, s10, s11, s12, s13, s14, s15⟩
    go_simp
    with_reducible rfl
   rotate_left
   ·simp only [Act.put, List.setIfInBounds_toArray, List.set_cons_zero, List.set_cons_succ, i64_w, i32_w]
    rfl
   refine one_ (i := 6) (N := some 34) #[true, true, true, true, true, true, true, false, false, false, false] rfl rfl (by as_aux_lemma => kernel_rfl) (by decide) (fun K hK => ?_)
   refine goes_ Try.func55 (by as_aux_lemma => kernel_rfl) rfl #[.agg #[.int .u8 1, .int .i64 e, .int .i64 a, .int .i64 b, .int .i64 c, .int .i64 d, .slice A n p, .slice B m q, .int .i64 id, .int .i64 task, .int .i64 tick, .int .i64 wait, .int .i64 pid, .int .i64 nonce, .int .i64 code], .int .i64 f] (by rfl) rfl rfl (by (try simp only [List.map_toArray, List.map_cons, List.map_nil]); first | done | rfl) ?_
   with_reducible refine (HG.out _ _ sd).mono ?_
   rintro ee w5 ⟨rfl, s5⟩
   refine ⟨_, rfl, ?_⟩
   have hcF : w5.cell? (ad.add i) = some (.int .i64 f) := by
    obtain ⟨ad', e', hcF⟩ := RI_atN s5 i hlt
    injection e' with e'
    subst e'
    rw [hcF, HFE.out]
   refine hK.out _ _ ⟨(s5.pick 1).cells 0, (s5.pick 1).cells 1, (s5.pick 1).cells 2, (s5.pick 1).cells 3, (s5.pick 1).cells 4, (s5.pick 1).cells 5, (s5.pick 1).cells 6, (s5.pick 1).cells 7, (s5.pick 1).cells 8, (s5.pick 1).cells 9, (s5.pick 1).cells 10, (s5.pick 1).cells 11, (s5.pick 1).cells 12, (s5.pick 1).cells 13, (s5.pick 1).cells 14, hcF⟩ (fun hHeld => ?_)
   clear hK K sd
   refine norm_ (a' := ?_) ?_ ?_
   rotate_left
   ·show Act.put _ (some 34) _ = _
    simp only [Act.put, List.setIfInBounds_toArray, List.set_cons_zero, List.set_cons_succ, i64_w, i32_w]
    rfl
   clear hcF
   refine pure_ (i := 7) (N := some 35) (v := (.int .u64 V)) (a' := ?_) #[true, true, true, true, true, true, true, true, false, false, false] rfl rfl (by as_aux_lemma => kernel_rfl) (fun _ _ _ h => h) (Or.inl ⟨by rfl, ?_⟩) ?_ ?_
   ·intro w'
    go_simp
   rotate_left
   ·simp only [Act.put, List.setIfInBounds_toArray, List.set_cons_zero, List.set_cons_succ, i64_w, i32_w]
    rfl
   refine one_ (i := 8) (N := some 36) #[true, true, true, true, true, true, true, true, true, false, false] rfl rfl (by as_aux_lemma => kernel_rfl) (by decide) (fun K hK => ?_)
   refine goes_ Try.func39 (by as_aux_lemma => kernel_rfl) rfl #[.int .u64 V] (by rfl) rfl rfl (by (try simp only [List.map_toArray, List.map_cons, List.map_nil]); first | done | rfl) ?_
   with_reducible refine (HVI.out _ _ s5).mono ?_
   rintro ee w6 ⟨rfl, s6⟩
   refine ⟨_, rfl, ?_⟩
   have hcF : w6.cell? (ad.add i) = some (.int .i64 f) := by
    obtain ⟨ad', e', hcF⟩ := RI_atN s6 i hlt
    injection e' with e'
    subst e'
    rw [hcF, HFE.out]
   refine hK.out _ _ ⟨(s6.pick 1).cells 0, (s6.pick 1).cells 1, (s6.pick 1).cells 2, (s6.pick 1).cells 3, (s6.pick 1).cells 4, (s6.pick 1).cells 5, (s6.pick 1).cells 6, (s6.pick 1).cells 7, (s6.pick 1).cells 8, (s6.pick 1).cells 9, (s6.pick 1).cells 10, (s6.pick 1).cells 11, (s6.pick 1).cells 12, (s6.pick 1).cells 13, (s6.pick 1).cells 14, hcF⟩ (fun hHeld => ?_)
   clear hK K s5
   refine norm_ (a' := ?_) ?_ ?_
   rotate_left
   ·show Act.put _ (some 36) _ = _
    simp only [Act.put, List.setIfInBounds_toArray, List.set_cons_zero, List.set_cons_succ, i64_w, i32_w]
    rfl
   refine pure_ (i := 9) (N := some 37) (v := (.string (YtkhcdichdnbcmaaR.Ext.mkB (a0 ++ o)))) (a' := ?_) #[true, true, true, true, true, true, true, true, true, true, false] rfl rfl (by as_aux_lemma => kernel_rfl) (fun _ _ _ h => h) (Or.inl ⟨by rfl, ?_⟩) ?_ ?_
   ·intro w'
    go_simp
   rotate_left
   ·simp only [Act.put, List.setIfInBounds_toArray, List.set_cons_zero, List.set_cons_succ, i64_w, i32_w]
    rfl
   refine pure_ (i := 10) (N := some 5) (v := (.string (YtkhcdichdnbcmaaR.Ext.mkB (a0 ++ o)))) (a' := ?_) #[true, true, true, true, true, true, true, true, true, true, true] rfl rfl (by as_aux_lemma => kernel_rfl) (fun _ _ _ h => h) (Or.inl ⟨by rfl, ?_⟩) ?_ ?_
   ·intro w'
    go_simp
   rotate_left
   ·simp only [Act.put, List.setIfInBounds_toArray, List.set_cons_zero, List.set_cons_succ, i64_w, i32_w]
    rfl
   refine done_ (by as_aux_lemma => kernel_rfl) ?_
   clear hcF
   go_wp2_with fail
   all_goals go_roundw
   all_goals first | exact ⟨i + 1, by omega, by go_num, by rw [HA1.out.1, HA1.out.2], s6⟩ | (simp [intOf]; omega)
  ·obtain rfl : i = l.length := by omega
   have hg1 : decide ((l.length : Int) < (l.length : Int)) = false := decide_eq_false (by omega)
   have s9 := hs.drop
   clear hs
   have hc9 := s9.cells
   have S9 := Lib.hid s9
   clear s9
   have hx1 : YtkhcdichdnbcmaaR.Ext.mkB (acc l.length) ++ YtkhcdichdnbcmaaR.Ext.mkB oS = YtkhcdichdnbcmaaR.Ext.mkB (acc l.length ++ oS) := mkB_append (acc l.length) oS
   have hx2 := add_ok (acc l.length) oS HT.out.1
   go_wp2_with fail
   refine (HT.out.2 _ _ S9.out).mono ?_
   rintro ee w7 ⟨rfl, s10⟩
   clear S9 hc9
   have hc10 := s10.cells
   have S10 := Lib.hid s10
   clear s10
   go_wp2
   go_returns
   exact ⟨rfl, S10.out.drop⟩
end Go.Proofs.YtkhcdichdnbcmaaR
end
section
namespace Go.Proofs.YtkhcdichdnbcmaaR
open Go.RowKit Go.Proofs.YtkhcdichdnbcmaaR Go.Proofs.YtkhcdichdnbcmaaR.Ext Go.Proofs.YtkhcdichdnbcmaaR.C Go.Proofs.YtkhcdichdnbcmaaR.Sp Go.Proofs.YtkhcdichdnbcmaaRW.PrintWords Go.Proofs.YtkhcdichdnbcmaaRW.PrintLast
set_option linter.unusedVariables false
set_option linter.unusedSimpArgs false
def vvL (r : RE) (i : Nat) : Int := rd (valsR r) (rd (fieldsL r.kind) i)
def accL (r : RE) : Nat → List UInt8
 | 0 => encN r.kind
 | i + 1 => accL r i ++ encN (vvL r i)
theorem accL_end (r : RE) : accL r (fieldsL r.kind).length = encN r.kind ++ encF (fldK r.kind) (valsR r) := by
 obtain ⟨k, e, s, id, t, ti, wa, pi, no, co⟩ := r
 rcases nine_cases k with h | h
 ·rcases h with rfl | rfl | rfl | rfl | rfl | rfl | rfl | rfl | rfl <;> simp [accL, vvL, fieldsL, fldK, usesB, mostsR, valsR, encF, rd]
 ·obtain ⟨h1, h2, h3, h4, h5, h6, h7, h8, h9⟩ := h
  simp [accL, vvL, fieldsL, fldK, usesB, mostsR, valsR, encF, rd, h1, h2, h3, h4, h5, h6, h7, h8, h9]
theorem encN_le (x : Int) (h : x ≤ 1099511627776) : (encN x).length ≤ 7 := by
 by_cases h0 : 0 ≤ x
 ·exact encN_7 (n := x) (by omega)
 ·have : encN x = encN 0 := by unfold encN; rw [show x.toNat = (0 : Int).toNat by omega]
  rw [this]
  exact encN_7 (n := 0) (by omega)
theorem vvL_bd (r : RE) (h : recE r = 0) (i : Nat) (hi : i < (fieldsL r.kind).length) : 0 ≤ vvL r i ∧ vvL r i ≤ 1099511627776 := by
 obtain ⟨h1, h2, h3⟩ := okRec r h
 obtain ⟨f1, f2, f3⟩ := fields_all r.kind
 have hf := f2 i hi
 unfold vvL
 rw [rd_vals]
 exact h2 _ (by omega)
theorem accL_len (r : RE) (h : recE r = 0) : ∀ i, i ≤ (fieldsL r.kind).length → (accL r i).length ≤ 7 + 7 * i
 | 0, _ => by
  have := (okRec r h).1
  exact encN_le _ (by omega)
 | i + 1, hi => by
  have h1 := accL_len r h i (by omega)
  have h2 := encN_le (vvL r i) (vvL_bd r h i (by omega)).2
  simp only [accL, List.length_append]
  omega
set_option maxRecDepth 100000 in
set_option maxHeartbeats 1000000 in
theorem renc17s_N {w0 w : World} {L : List HP} (kind e a b c d id task tick wait pid nonce code : Int) {A B : Option Addr} {n m p q : Nat} (ps : List Int) (ts : List TX) (hp : ps.length ≤ 20) (ht : ts.length ≤ 10) (hcr : -9223372036854775808 ≤ code ∧ code ≤ 9223372036854775807) (hk : (0 ≤ kind ∧ kind ≤ 255) ∧ kind ≠ 1 ∧ kind ≠ 8) (h0 : recE ⟨kind, e, spOf a b c d ps ts, id, task, tick, wait, pid, nonce, code⟩ = 0) (h : St w0 w (RI (.slice A n p) ps :: RT (.slice B m q) ts :: L)) :
  Calls Try.prog 29 #[.agg (Rec15 kind e a b c d A n p B m q id task tick wait pid nonce code)] w fun ee w' => ee = .returned (.tuple #[.string (YtkhcdichdnbcmaaR.Ext.mkB (encRe ⟨kind, e, spOf a b c d ps ts, id, task, tick, wait, pid, nonce, code⟩)), .int .i64 0]) ∧ St w0 w' (RI (.slice A n p) ps :: RT (.slice B m q) ts :: L) := by
 obtain ⟨r, hr⟩ : ∃ r : RE, r = (⟨kind, e, spOf a b c d ps ts, id, task, tick, wait, pid, nonce, code⟩ : RE) := ⟨_, rfl⟩
 have hC : ∀ W x, St w0 W (x :: RI (.slice A n p) ps :: RT (.slice B m q) ts :: L) → Calls Try.prog 30 #[.agg (Rec15 kind e a b c d A n p B m q id task tick wait pid nonce code)] W fun ee w' => ee = .returned (.int .i64 0) ∧ St w0 w' (x :: RI (.slice A n p) ps :: RT (.slice B m q) ts :: L) := by
  intro W x hs
  have s1 := hs.pick 1
  have s2 := s1.pick 2
  simp only [List.getElem_cons_succ, List.getElem_cons_zero, List.eraseIdx_cons_succ, List.eraseIdx_cons_zero] at s1 s2
  have s3 := s2.pick 1
  simp only [List.getElem_cons_succ, List.getElem_cons_zero, List.eraseIdx_cons_succ, List.eraseIdx_cons_zero] at s3
  refine (rchk17_s kind e a b c d id task tick wait pid nonce code ps ts (by omega) (by omega) s3 0 h0).mono ?_
  rintro ee w' ⟨rfl, s⟩
  have t1 := s.pick 2
  simp only [List.getElem_cons_succ, List.getElem_cons_zero, List.eraseIdx_cons_succ, List.eraseIdx_cons_zero] at t1
  exact ⟨rfl, t1⟩
 rw [← hr] at h0 ⊢
 have hrk : r.kind = kind := by rw [hr]
 have hrs : r.spec = spOf a b c d ps ts := by rw [hr]
 have hrc : r.code = code := by rw [hr]
 have hv : valsR r = [e, id, task, tick, wait, pid, nonce] := by rw [hr]; rfl
 obtain ⟨f1, f2, f3⟩ := fields_all r.kind
 have hE : encRe r = accL r (fieldsL r.kind).length := by
  unfold encRe tailRW
  rw [accL_end]
  rw [if_neg (by rw [hrk]; exact hk.2.1), if_neg (by rw [hrk]; exact hk.2.2), List.append_nil]
 rw [hE]
 refine renc17_N kind e a b c d id task tick wait pid nonce code A B n m p q ps ts (fieldsL r.kind) (vvL r) (accL r) (fun i => encN (vvL r i)) hk hC (by rw [hrk]) (fun i hi W M hs => ?_) (fun i hi => rstr_var _ (vvL_bd r h0 i hi).1 (by have := (vvL_bd r h0 i hi).2; omega)) (fun i hi => ⟨(vvL_bd r h0 i hi).1, by have := (vvL_bd r h0 i hi).2; omega⟩) f1 (fun i hi => rfl) (fun i hi => ?_) (by rw [show accL r 0 = encN r.kind from rfl, hrk]; exact rstr_var _ (by omega) (by omega)) h
 ·have q := rget_s (w0 := w0) (w := W) (L := M) kind e a b c d id task tick wait pid nonce code A B n m p q (rd (fieldsL r.kind) i) (f2 i hi) hs
  rw [← hv] at q
  exact q
 ·have h1 := accL_len r h0 i (by omega)
  have h2 := encN_le (vvL r i) (vvL_bd r h0 i hi).2
  show (accL r i).length + (encN (vvL r i)).length ≤ 100000
  omega
set_option maxRecDepth 100000 in
set_option maxHeartbeats 1000000 in
theorem renc17s_8 {w0 w : World} {L : List HP} (e a b c d id task tick wait pid nonce code : Int) {A B : Option Addr} {n m p q : Nat} (ps : List Int) (ts : List TX) (hp : ps.length ≤ 20) (ht : ts.length ≤ 10) (hcr : -9223372036854775808 ≤ code ∧ code ≤ 9223372036854775807) (h0 : recE ⟨8, e, spOf a b c d ps ts, id, task, tick, wait, pid, nonce, code⟩ = 0) (h : St w0 w (RI (.slice A n p) ps :: RT (.slice B m q) ts :: L)) :
  Calls Try.prog 29 #[.agg (Rec15 8 e a b c d A n p B m q id task tick wait pid nonce code)] w fun ee w' => ee = .returned (.tuple #[.string (YtkhcdichdnbcmaaR.Ext.mkB (encRe ⟨8, e, spOf a b c d ps ts, id, task, tick, wait, pid, nonce, code⟩)), .int .i64 0]) ∧ St w0 w' (RI (.slice A n p) ps :: RT (.slice B m q) ts :: L) := by
 obtain ⟨r, hr⟩ : ∃ r : RE, r = (⟨8, e, spOf a b c d ps ts, id, task, tick, wait, pid, nonce, code⟩ : RE) := ⟨_, rfl⟩
 have hC : ∀ W x, St w0 W (x :: RI (.slice A n p) ps :: RT (.slice B m q) ts :: L) → Calls Try.prog 30 #[.agg (Rec15 8 e a b c d A n p B m q id task tick wait pid nonce code)] W fun ee w' => ee = .returned (.int .i64 0) ∧ St w0 w' (x :: RI (.slice A n p) ps :: RT (.slice B m q) ts :: L) := by
  intro W x hs
  have s1 := hs.pick 1
  have s2 := s1.pick 2
  simp only [List.getElem_cons_succ, List.getElem_cons_zero, List.eraseIdx_cons_succ, List.eraseIdx_cons_zero] at s1 s2
  have s3 := s2.pick 1
  simp only [List.getElem_cons_succ, List.getElem_cons_zero, List.eraseIdx_cons_succ, List.eraseIdx_cons_zero] at s3
  refine (rchk17_s 8 e a b c d id task tick wait pid nonce code ps ts (by omega) (by omega) s3 0 h0).mono ?_
  rintro ee w' ⟨rfl, s⟩
  have t1 := s.pick 2
  simp only [List.getElem_cons_succ, List.getElem_cons_zero, List.eraseIdx_cons_succ, List.eraseIdx_cons_zero] at t1
  exact ⟨rfl, t1⟩
 rw [← hr] at h0 ⊢
 have hrk : r.kind = 8 := by rw [hr]
 have hrs : r.spec = spOf a b c d ps ts := by rw [hr]
 have hrc : r.code = code := by rw [hr]
 have hv : valsR r = [e, id, task, tick, wait, pid, nonce] := by rw [hr]; rfl
 obtain ⟨f1, f2, f3⟩ := fields_all r.kind
 have hE : encRe r = accL r (fieldsL r.kind).length ++ encI code := by
  unfold encRe tailRW
  rw [accL_end]
  rw [if_neg (by rw [hrk]; decide), if_pos hrk]
  rw [hrc]
 rw [hE]
 refine renc17_8 e a b c d id task tick wait pid nonce code A B n m p q ps ts (fieldsL r.kind) (vvL r) (accL r) (fun i => encN (vvL r i)) (encI code) hC (by rw [hrk]) (fun i hi W M hs => ?_) (fun i hi => rstr_var _ (vvL_bd r h0 i hi).1 (by have := (vvL_bd r h0 i hi).2; omega)) (fun i hi => ⟨(vvL_bd r h0 i hi).1, by have := (vvL_bd r h0 i hi).2; omega⟩) f1 (fun i hi => rfl) (fun i hi => ?_) (by rw [show accL r 0 = encN r.kind from rfl, hrk]; exact rstr_var _ (by omega) (by omega)) ⟨?_, rstr_int code hcr.1 hcr.2⟩ h
 ·have q := rget_s (w0 := w0) (w := W) (L := M) 8 e a b c d id task tick wait pid nonce code A B n m p q (rd (fieldsL r.kind) i) (f2 i hi) hs
  rw [← hv] at q
  exact q
 ·have h1 := accL_len r h0 i (by omega)
  have h2 := encN_le (vvL r i) (vvL_bd r h0 i hi).2
  show (accL r i).length + (encN (vvL r i)).length ≤ 100000
  omega
 ·have h1 := accL_len r h0 _ (Nat.le_refl _)
  have : (encI code).length ≤ 9 := (Pk.varL_length _ (Pk.zig_lt hcr.1 hcr.2)).2
  omega
set_option maxRecDepth 100000 in
set_option maxHeartbeats 1000000 in
theorem renc17s_1 {w0 w : World} {L : List HP} (e a b c d id task tick wait pid nonce code : Int) {A B : Option Addr} {n m p q : Nat} (ps : List Int) (ts : List TX) (hp : ps.length ≤ 20) (ht : ts.length ≤ 10) (hcr : -9223372036854775808 ≤ code ∧ code ≤ 9223372036854775807) (h0 : recE ⟨1, e, spOf a b c d ps ts, id, task, tick, wait, pid, nonce, code⟩ = 0) (h : St w0 w (RI (.slice A n p) ps :: RT (.slice B m q) ts :: L)) :
  Calls Try.prog 29 #[.agg (Rec15 1 e a b c d A n p B m q id task tick wait pid nonce code)] w fun ee w' => ee = .returned (.tuple #[.string (YtkhcdichdnbcmaaR.Ext.mkB (encRe ⟨1, e, spOf a b c d ps ts, id, task, tick, wait, pid, nonce, code⟩)), .int .i64 0]) ∧ St w0 w' (RI (.slice A n p) ps :: RT (.slice B m q) ts :: L) := by
 obtain ⟨r, hr⟩ : ∃ r : RE, r = (⟨1, e, spOf a b c d ps ts, id, task, tick, wait, pid, nonce, code⟩ : RE) := ⟨_, rfl⟩
 have hC : ∀ W x, St w0 W (x :: RI (.slice A n p) ps :: RT (.slice B m q) ts :: L) → Calls Try.prog 30 #[.agg (Rec15 1 e a b c d A n p B m q id task tick wait pid nonce code)] W fun ee w' => ee = .returned (.int .i64 0) ∧ St w0 w' (x :: RI (.slice A n p) ps :: RT (.slice B m q) ts :: L) := by
  intro W x hs
  have s1 := hs.pick 1
  have s2 := s1.pick 2
  simp only [List.getElem_cons_succ, List.getElem_cons_zero, List.eraseIdx_cons_succ, List.eraseIdx_cons_zero] at s1 s2
  have s3 := s2.pick 1
  simp only [List.getElem_cons_succ, List.getElem_cons_zero, List.eraseIdx_cons_succ, List.eraseIdx_cons_zero] at s3
  refine (rchk17_s 1 e a b c d id task tick wait pid nonce code ps ts (by omega) (by omega) s3 0 h0).mono ?_
  rintro ee w' ⟨rfl, s⟩
  have t1 := s.pick 2
  simp only [List.getElem_cons_succ, List.getElem_cons_zero, List.eraseIdx_cons_succ, List.eraseIdx_cons_zero] at t1
  exact ⟨rfl, t1⟩
 rw [← hr] at h0 ⊢
 have hrk : r.kind = 1 := by rw [hr]
 have hrs : r.spec = spOf a b c d ps ts := by rw [hr]
 have hrc : r.code = code := by rw [hr]
 have hv : valsR r = [e, id, task, tick, wait, pid, nonce] := by rw [hr]; rfl
 obtain ⟨f1, f2, f3⟩ := fields_all r.kind
 have hE : encRe r = accL r (fieldsL r.kind).length ++ encS (spOf a b c d ps ts) := by
  unfold encRe tailRW
  rw [accL_end]
  rw [if_pos hrk]
  rw [hrs]
 rw [hE]
 refine renc17_1 e a b c d id task tick wait pid nonce code A B n m p q ps ts (fieldsL r.kind) (vvL r) (accL r) (fun i => encN (vvL r i)) (encS (spOf a b c d ps ts)) 0 hC (by rw [hrk]) (fun i hi W M hs => ?_) (fun i hi => rstr_var _ (vvL_bd r h0 i hi).1 (by have := (vvL_bd r h0 i hi).2; omega)) (fun i hi => ⟨(vvL_bd r h0 i hi).1, by have := (vvL_bd r h0 i hi).2; omega⟩) f1 (fun i hi => rfl) (fun i hi => ?_) (by rw [show accL r 0 = encN r.kind from rfl, hrk]; exact rstr_var _ (by omega) (by omega)) ⟨?_, fun W x hs => ?_⟩ h
 ·have q := rget_s (w0 := w0) (w := W) (L := M) 1 e a b c d id task tick wait pid nonce code A B n m p q (rd (fieldsL r.kind) i) (f2 i hi) hs
  rw [← hv] at q
  exact q
 ·have h1 := accL_len r h0 i (by omega)
  have h2 := encN_le (vvL r i) (vvL_bd r h0 i hi).2
  show (accL r i).length + (encN (vvL r i)).length ≤ 100000
  omega
 ·have h1 := accL_len r h0 _ (Nat.le_refl _)
  have hs := (okRec r h0).2.2 hrk
  rw [hrs] at hs
  have : (encS (spOf a b c d ps ts)).length ≤ 156 := encS_length (okS_gS (by unfold okS; exact decide_eq_true hs))
  omega
 ·have hq := (okRec r h0).2.2 hrk
  rw [hrs] at hq
  obtain ⟨c1, e1, l1⟩ := (hs.pick 1).rowKC
  obtain ⟨c2, e2, l2⟩ := (hs.pick 2).rowKC
  subst e1; subst e2
  have hQ := PureR.rencode_eq 0 a b c d ps ts hp ht
  rw [hq, show Go.Proofs.YtkhcdichdnbcmaaR.encR (spOf a b c d ps ts) = encS (spOf a b c d ps ts) by unfold encR; rw [if_pos (by first | exact hq | (unfold okS; exact decide_eq_true hq))]] at hQ
  refine (sacristanref13_Encode.calls 200 a b c d A p ps B q ts _ _ W c1 l1 c2 l2 hQ).mono ?_
  rintro ee w' ⟨rfl, hb⟩
  exact ⟨rfl, hs.more hb⟩
theorem renc17_s {w0 w : World} {L : List HP} (kind e a b c d id task tick wait pid nonce code : Int) {A B : Option Addr} {n m p q : Nat} (ps : List Int) (ts : List TX) (hp : ps.length ≤ 20) (ht : ts.length ≤ 10) (hcr : -9223372036854775808 ≤ code ∧ code ≤ 9223372036854775807) (h : St w0 w (RI (.slice A n p) ps :: RT (.slice B m q) ts :: L)) (x : List UInt8) (r : Int) (hx : encRR ⟨kind, e, spOf a b c d ps ts, id, task, tick, wait, pid, nonce, code⟩ = x) (hr : recE ⟨kind, e, spOf a b c d ps ts, id, task, tick, wait, pid, nonce, code⟩ = r) :
  Calls Try.prog 29 #[.agg (Rec15 kind e a b c d A n p B m q id task tick wait pid nonce code)] w fun ee w' => ee = .returned (.tuple #[.string (YtkhcdichdnbcmaaR.Ext.mkB x), .int .i64 r]) ∧ St w0 w' (RI (.slice A n p) ps :: RT (.slice B m q) ts :: L) := by
 subst hx
 by_cases h0 : r = 0
 ·subst h0
  have hk := (okRec _ hr).1
  simp only at hk
  unfold encRR
  rw [if_pos hr]
  by_cases k1 : kind = 1
  ·subst k1; exact renc17s_1 e a b c d id task tick wait pid nonce code ps ts hp ht hcr hr h
  by_cases k8 : kind = 8
  ·subst k8; exact renc17s_8 e a b c d id task tick wait pid nonce code ps ts hp ht hcr hr h
  exact renc17s_N kind e a b c d id task tick wait pid nonce code ps ts hp ht hcr ⟨by omega, k1, k8⟩ hr h
 ·unfold encRR
  rw [if_neg (by rw [hr]; exact h0)]
  refine renc17_no kind e a b c d id task tick wait pid nonce code A B n m p q ps ts r h0 (fun W x hs => ?_) h
  have s1 := hs.pick 1
  have s2 := s1.pick 2
  simp only [List.getElem_cons_succ, List.getElem_cons_zero, List.eraseIdx_cons_succ, List.eraseIdx_cons_zero] at s1 s2
  have s3 := s2.pick 1
  simp only [List.getElem_cons_succ, List.getElem_cons_zero, List.eraseIdx_cons_succ, List.eraseIdx_cons_zero] at s3
  refine (rchk17_s kind e a b c d id task tick wait pid nonce code ps ts (by omega) (by omega) s3 r hr).mono ?_
  rintro ee w' ⟨rfl, s⟩
  have t1 := s.pick 2
  simp only [List.getElem_cons_succ, List.getElem_cons_zero, List.eraseIdx_cons_succ, List.eraseIdx_cons_zero] at t1
  exact ⟨rfl, t1⟩
end Go.Proofs.YtkhcdichdnbcmaaR
end
