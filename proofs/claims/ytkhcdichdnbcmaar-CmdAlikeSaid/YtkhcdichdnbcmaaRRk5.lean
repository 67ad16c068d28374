/- Texts of this session, merged (wip/gen/shake.py). -/
import Derived.Laws.MakeOwn
import Derived.Laws.OwnMore
import Derived.Test.YtkhcdichdnbcmaaRRk3
import Derived.Test.YtkhcdichdnbcmaaRRk4
section
namespace Go.Proofs.YtkhcdichdnbcmaaR
open Go.RowKit Go.Proofs.YtkhcdichdnbcmaaR Go.Proofs.YtkhcdichdnbcmaaR.Ext Go.Proofs.YtkhcdichdnbcmaaR.C Go.Proofs.YtkhcdichdnbcmaaR.Sp Go.Proofs.YtkhcdichdnbcmaaRW.PrintWords Go.Proofs.YtkhcdichdnbcmaaRW.PrintLast
set_option linter.unusedVariables false
set_option linter.unusedSimpArgs false
theorem toList_mkB (l : List UInt8) : (YtkhcdichdnbcmaaR.Ext.mkB l).toList = l := by rw [ByteArray.toList_eq]; rfl
def numT (most : Int) (l : List UInt8) : Int × List UInt8 × Bool := match numL most l with | some (n, r) => (n, r, true) | none => (0, [], false)
theorem number_eq (most : Int) (h0 : 0 ≤ most) (h1 : most ≤ 9223372036854775807) (l : List UInt8) : cmd_number.f (YtkhcdichdnbcmaaR.Ext.mkB l) most = some ((numT most l).1, YtkhcdichdnbcmaaR.Ext.mkB (numT most l).2.1, (numT most l).2.2) := by
 unfold cmd_number.f pack_Unvar.f numT numL
 have hm : IntKind.u64.wrap most = most := IntWalk.u64_in _ (by omega)
 rw [hm]
 have hd : (YtkhcdichdnbcmaaR.Ext.mkB l).data.toList = l := rfl
 rw [hd]
 unfold Go.Proofs.YtkhcdichdnbcmaaR.Ext.unvarR
 cases hu : Pk.unvarL l with
 | none => rfl
 | some x =>
  obtain ⟨n, r⟩ := x
  simp only [Option.bind_some]
  rw [if_pos trivial]
  by_cases hn : (n : Int) ≤ most
  ·rw [if_neg (by omega), if_pos hn]
   have : wrap64 (n : Int) = n := by unfold wrap64; omega
   rw [this]
  ·rw [if_pos (by omega), if_neg hn]
   rfl
theorem number_s {w0 w : World} {L : List HP} (most : Int) (h0 : 0 ≤ most) (h1 : most ≤ 9223372036854775807) (l : List UInt8) (n : Int) (r : List UInt8) (o : Bool) (hx : numT most l = (n, r, o)) (h : St w0 w L) :
  Calls Try.prog 43 #[.string (YtkhcdichdnbcmaaR.Ext.mkB l), .int .i64 most] w fun e w' => e = .returned (.tuple #[.int .i64 n, .string (YtkhcdichdnbcmaaR.Ext.mkB r), .bool o]) ∧ St w0 w' L := by
 have q := number_eq most h0 h1 l
 rw [hx] at q
 refine (cmd_number.calls _ _ _ _ _ w q).mono ?_
 rintro e w' ⟨rfl, ⟨k, rfl⟩⟩
 exact ⟨rfl, h.drewN k⟩
theorem dec_s {w0 w : World} {L : List HP} (bs : List UInt8) (x1 x2 x3 x4 : Int) (ps : List Int) (ts : List Sp.TS) (rest : List UInt8) (er : Int) (hx : decR bs = (⟨x1, x2, x3, x4, ps, ts⟩, rest, er)) (h : St w0 w L) : Calls Try.prog 44 #[.string (YtkhcdichdnbcmaaR.Ext.mkB bs)] w fun e w' => ∃ A B c d n m, e = .returned (.tuple #[.agg #[.int .i64 x1, .int .i64 x2, .int .i64 x3, .int .i64 x4, .slice A n c, .slice B m d], .string (YtkhcdichdnbcmaaR.Ext.mkB rest), .int .i64 er]) ∧ St w0 w' (RI (.slice A n c) ps :: RT (.slice B m d) (ts.map ofTS) :: L) := by
 have q := decode_c bs w
 rw [hx] at q
 refine q.mono ?_
 rintro e w' ⟨v4, v5, rfl, h4, h5, hb⟩
 obtain ⟨A, n, c, rfl⟩ := R_slice3 h4
 obtain ⟨B, m, d, rfl⟩ := R_slice3 h5
 exact ⟨A, B, c, d, n, m, rfl, h.rows2 (flat_int _) kX_flat (by decide) hb h4 (k_of h5)⟩
theorem chk9_s {w0 w : World} {L : List HP} (k e a b c d : Int) {A B : Option Addr} {n m p q : Nat} (id : Int) (ps : List Int) (ts : List TX) (h : St w0 w (RI (.slice A n p) ps :: RT (.slice B m q) ts :: L)) (r : Int) (hr : Sp.cmdE ⟨k, e, spOf a b c d ps ts, id⟩ = r) :
  Calls Try.prog 17 #[.agg #[.int .u8 k, .int .i64 e, .int .i64 a, .int .i64 b, .int .i64 c, .int .i64 d, .slice A n p, .slice B m q, .int .i64 id]] w fun e w' => e = .returned (.int .i64 r) ∧ St w0 w' (RI (.slice A n p) ps :: RT (.slice B m q) ts :: L) := by
 obtain ⟨c1, e1, l1⟩ := h.rowKC
 obtain ⟨c2, e2, l2⟩ := (h.pick 1).rowKC
 subst e1; subst e2
 refine (cmd_Check.calls k e a b c d A p ps B q ts id r w c1 l1 c2 l2 (by unfold cmd_Check.f; rw [hr])).mono ?_
 rintro e w' ⟨rfl, hb⟩
 exact ⟨rfl, h.more hb⟩
theorem enc9_s {w0 w : World} {L : List HP} (k e a b c d : Int) {A B : Option Addr} {n m p q : Nat} (id : Int) (ps : List Int) (ts : List TX) (h : St w0 w (RI (.slice A n p) ps :: RT (.slice B m q) ts :: L)) (x : List UInt8) (r : Int) (hx : Sp.encCR ⟨k, e, spOf a b c d ps ts, id⟩ = x) (hr : Sp.cmdE ⟨k, e, spOf a b c d ps ts, id⟩ = r) :
  Calls Try.prog 13 #[.agg #[.int .u8 k, .int .i64 e, .int .i64 a, .int .i64 b, .int .i64 c, .int .i64 d, .slice A n p, .slice B m q, .int .i64 id]] w fun e w' => e = .returned (.tuple #[.string (YtkhcdichdnbcmaaR.Ext.mkB x), .int .i64 r]) ∧ St w0 w' (RI (.slice A n p) ps :: RT (.slice B m q) ts :: L) := by
 obtain ⟨c1, e1, l1⟩ := h.rowKC
 obtain ⟨c2, e2, l2⟩ := (h.pick 1).rowKC
 subst e1; subst e2
 refine (cmd_Encode.calls k e a b c d A p ps B q ts id _ _ w c1 l1 c2 l2 (by unfold cmd_Encode.f encCB; rw [hr, hx])).mono ?_
 rintro e w' ⟨rfl, hb⟩
 exact ⟨rfl, h.more hb⟩
set_option maxRecDepth 100000 in
set_option maxHeartbeats 1000000 in
theorem cdec_long {w0 w : World} {L : List HP} (l : List UInt8) (h : St w0 w L)
  (hl : 1024 < l.length) :
  Calls Try.prog 20 #[.string (YtkhcdichdnbcmaaR.Ext.mkB l)] w fun ee w' => ee = .returned (.tuple #[.agg #[.int .u8 0, .int .i64 0, .int .i64 0, .int .i64 0, .int .i64 0, .int .i64 0, .slice none 0 0, .slice none 0 0, .int .i64 0], .int .i64 5]) ∧ St w0 w' L := by
 have hsz := mkB_size l
 have f1 : decide (1024 < ((YtkhcdichdnbcmaaR.Ext.mkB l).size : Int)) = true := decide_eq_true (by rw [hsz]; omega)
 have f2 : decide (1024 < (YtkhcdichdnbcmaaR.Ext.mkB l).size) = true := decide_eq_true (by rw [hsz]; omega)
 have f3 : (1024 < (YtkhcdichdnbcmaaR.Ext.mkB l).size) = True := eq_true (by rw [hsz]; omega)
 clear hsz hl
 have s0 := h.alloc #[.int .u8 0, .int .i64 0, .int .i64 0, .int .i64 0, .int .i64 0, .int .i64 0, .slice none 0 0, .slice none 0 0, .int .i64 0] tCm
 clear h
 have S0 := Lib.hid s0
 clear s0
 go_enter Try.func20, Try.ntmps20
 go_wp2_with (first | ((with_reducible refine wpList_storeSt S0.out rfl _ _ 29 rfl 0 #[.int .u8 0, .int .i64 0, .int .i64 0, .int .i64 0, .int .i64 0, .int .i64 0, .slice none 0 0, .slice none 0 0, .int .i64 0] #[.int .u8 0, .int .i64 0, .int .i64 0, .int .i64 0, .int .i64 0, .int .i64 0, .slice none 0 0, .slice none 0 0, .int .i64 0] size_cmd ?hn ?hx ?hv ?hf ?h1 ?he ?_); (case hn => rfl); (case hx => rfl); (case hv => rfl); (case hf => simp); (case h1 => simp [Value.oneCell']); (case he => rfl); intro wz sz; have hcz := sz.cells; have hfz := sz.free; have SZ := Lib.hid sz; clear sz)| fail)
 refine bodyPost_ret (v := .tuple #[.agg #[.int .u8 0, .int .i64 0, .int .i64 0, .int .i64 0, .int .i64 0, .int .i64 0, .slice none 0 0, .slice none 0 0, .int .i64 0], .int .i64 5]) (by simp [results, Try.results20, go_sem, hcz]) rfl ?_
 exact ⟨rfl, SZ.out.drop⟩
set_option maxRecDepth 100000 in
set_option maxHeartbeats 1000000 in
theorem cdec_k {w0 w : World} {L : List HP} (l : List UInt8) (h : St w0 w L)
  (hl : l.length ≤ 1024)
  (H1 : Go.RowKit.Hid (∀ (W : World) (M : List HP), St w0 W M → Calls Try.prog 43 #[.string (YtkhcdichdnbcmaaR.Ext.mkB l), .int .i64 3] W fun ee w' => ee = .returned (.tuple #[.int .i64 0, .string (YtkhcdichdnbcmaaR.Ext.mkB []), .bool false]) ∧ St w0 w' M)) :
  Calls Try.prog 20 #[.string (YtkhcdichdnbcmaaR.Ext.mkB l)] w fun ee w' => ee = .returned (.tuple #[.agg #[.int .u8 0, .int .i64 0, .int .i64 0, .int .i64 0, .int .i64 0, .int .i64 0, .slice none 0 0, .slice none 0 0, .int .i64 0], .int .i64 4]) ∧ St w0 w' L := by
 have hsz := mkB_size l
 have f1 : decide (1024 < ((YtkhcdichdnbcmaaR.Ext.mkB l).size : Int)) = false := decide_eq_false (by rw [hsz]; omega)
 have f2 : decide (1024 < (YtkhcdichdnbcmaaR.Ext.mkB l).size) = false := decide_eq_false (by rw [hsz]; omega)
 have f3 : (1024 < (YtkhcdichdnbcmaaR.Ext.mkB l).size) = False := eq_false (by rw [hsz]; omega)
 clear hsz hl
 have s0 := h.alloc #[.int .u8 0, .int .i64 0, .int .i64 0, .int .i64 0, .int .i64 0, .int .i64 0, .slice none 0 0, .slice none 0 0, .int .i64 0] tCm
 clear h
 have S0 := Lib.hid s0
 clear s0
 go_enter Try.func20, Try.ntmps20
 go_wp2_with fail
 generalize w.heap.size = b2 at *
 refine (H1.out _ _ S0.out).mono ?_
 rintro ee w1 ⟨rfl, s1⟩
 clear S0 H1 f1 f2 f3
 have S1 := Lib.hid s1
 clear s1
 go_wp2_with (first | ((with_reducible refine wpList_storeSt S1.out rfl _ _ 29 rfl 0 #[.int .u8 0, .int .i64 0, .int .i64 0, .int .i64 0, .int .i64 0, .int .i64 0, .slice none 0 0, .slice none 0 0, .int .i64 0] #[.int .u8 0, .int .i64 0, .int .i64 0, .int .i64 0, .int .i64 0, .int .i64 0, .slice none 0 0, .slice none 0 0, .int .i64 0] size_cmd ?hn ?hx ?hv ?hf ?h1 ?he ?_); (case hn => rfl); (case hx => rfl); (case hv => rfl); (case hf => simp); (case h1 => simp [Value.oneCell']); (case he => rfl); intro wz sz; have hcz := sz.cells; have hfz := sz.free; have SZ := Lib.hid sz; clear sz)| fail)
 refine bodyPost_ret (v := .tuple #[.agg #[.int .u8 0, .int .i64 0, .int .i64 0, .int .i64 0, .int .i64 0, .int .i64 0, .slice none 0 0, .slice none 0 0, .int .i64 0], .int .i64 4]) (by simp [results, Try.results20, go_sem, hcz]) rfl ?_
 exact ⟨rfl, SZ.out.drop⟩
set_option maxRecDepth 100000 in
set_option maxHeartbeats 1000000 in
theorem cdec_e {w0 w : World} {L : List HP} (l : List UInt8) (k : Int) (r1 : List UInt8) (h : St w0 w L)
  (hl : l.length ≤ 1024)
  (hk : 0 ≤ k ∧ k ≤ 3)
  (H1 : Go.RowKit.Hid (∀ (W : World) (M : List HP), St w0 W M → Calls Try.prog 43 #[.string (YtkhcdichdnbcmaaR.Ext.mkB l), .int .i64 3] W fun ee w' => ee = .returned (.tuple #[.int .i64 k, .string (YtkhcdichdnbcmaaR.Ext.mkB r1), .bool true]) ∧ St w0 w' M))
  (H2 : Go.RowKit.Hid (∀ (W : World) (M : List HP), St w0 W M → Calls Try.prog 43 #[.string (YtkhcdichdnbcmaaR.Ext.mkB r1), .int .i64 1099511627776] W fun ee w' => ee = .returned (.tuple #[.int .i64 0, .string (YtkhcdichdnbcmaaR.Ext.mkB []), .bool false]) ∧ St w0 w' M)) :
  Calls Try.prog 20 #[.string (YtkhcdichdnbcmaaR.Ext.mkB l)] w fun ee w' => ee = .returned (.tuple #[.agg #[.int .u8 0, .int .i64 0, .int .i64 0, .int .i64 0, .int .i64 0, .int .i64 0, .slice none 0 0, .slice none 0 0, .int .i64 0], .int .i64 4]) ∧ St w0 w' L := by
 have hcv : IntKind.u8.wrap k = k := by unfold IntKind.wrap; simp [IntKind.bits, IntKind.signed]; omega
 clear hk
 have hsz := mkB_size l
 have f1 : decide (1024 < ((YtkhcdichdnbcmaaR.Ext.mkB l).size : Int)) = false := decide_eq_false (by rw [hsz]; omega)
 have f2 : decide (1024 < (YtkhcdichdnbcmaaR.Ext.mkB l).size) = false := decide_eq_false (by rw [hsz]; omega)
 have f3 : (1024 < (YtkhcdichdnbcmaaR.Ext.mkB l).size) = False := eq_false (by rw [hsz]; omega)
 clear hsz hl
 have s0 := h.alloc #[.int .u8 0, .int .i64 0, .int .i64 0, .int .i64 0, .int .i64 0, .int .i64 0, .slice none 0 0, .slice none 0 0, .int .i64 0] tCm
 clear h
 have S0 := Lib.hid s0
 clear s0
 go_enter Try.func20, Try.ntmps20
 go_wp2_with fail
 generalize w.heap.size = b2 at *
 refine (H1.out _ _ S0.out).mono ?_
 rintro ee w1 ⟨rfl, s1⟩
 clear S0 H1 f1 f2 f3
 have s2 := s1.alloc #[.int .u8 k, .int .i64 0, .int .i64 0, .int .i64 0, .int .i64 0, .int .i64 0, .slice none 0 0, .slice none 0 0, .int .i64 0] tCm
 clear s1
 have S2 := Lib.hid s2
 clear s2
 go_wp2_with fail
 generalize w1.heap.size = b7 at *
 refine (H2.out _ _ S2.out).mono ?_
 rintro ee w2 ⟨rfl, s3⟩
 clear S2 H2
 have hcb7 := s3.cells
 have hfb7 := s3.free
 have s4 := s3.setb 1 (.int .i64 0) rfl
 have s5 := s4.pick 1
 simp only [List.getElem_cons_succ, List.getElem_cons_zero, List.eraseIdx_cons_succ, List.eraseIdx_cons_zero] at s5
 have S5 := Lib.hid s5
 clear s3 s4 s5
 go_wp2_with (first | ((with_reducible refine wpList_storeSt S5.out rfl _ _ 29 rfl 0 #[.int .u8 0, .int .i64 0, .int .i64 0, .int .i64 0, .int .i64 0, .int .i64 0, .slice none 0 0, .slice none 0 0, .int .i64 0] #[.int .u8 0, .int .i64 0, .int .i64 0, .int .i64 0, .int .i64 0, .int .i64 0, .slice none 0 0, .slice none 0 0, .int .i64 0] size_cmd ?hn ?hx ?hv ?hf ?h1 ?he ?_); (case hn => rfl); (case hx => rfl); (case hv => rfl); (case hf => simp); (case h1 => simp [Value.oneCell']); (case he => rfl); intro wz sz; have hcz := sz.cells; have hfz := sz.free; have SZ := Lib.hid sz; clear sz)| fail)
 refine bodyPost_ret (v := .tuple #[.agg #[.int .u8 0, .int .i64 0, .int .i64 0, .int .i64 0, .int .i64 0, .int .i64 0, .slice none 0 0, .slice none 0 0, .int .i64 0], .int .i64 4]) (by simp [results, Try.results20, go_sem, hcz]) rfl ?_
 exact ⟨rfl, SZ.out.drop.drop⟩
set_option maxRecDepth 100000 in
set_option maxHeartbeats 1000000 in
theorem cdec_ps {w0 w : World} {L : List HP} (l : List UInt8) (r1 r2 r3 : List UInt8) (e a b c d er : Int) (ps : List Int) (ts : List TX) (h : St w0 w L)
  (hl : l.length ≤ 1024)
  (H1 : Go.RowKit.Hid (∀ (W : World) (M : List HP), St w0 W M → Calls Try.prog 43 #[.string (YtkhcdichdnbcmaaR.Ext.mkB l), .int .i64 3] W fun ee w' => ee = .returned (.tuple #[.int .i64 1, .string (YtkhcdichdnbcmaaR.Ext.mkB r1), .bool true]) ∧ St w0 w' M))
  (H2 : Go.RowKit.Hid (∀ (W : World) (M : List HP), St w0 W M → Calls Try.prog 43 #[.string (YtkhcdichdnbcmaaR.Ext.mkB r1), .int .i64 1099511627776] W fun ee w' => ee = .returned (.tuple #[.int .i64 e, .string (YtkhcdichdnbcmaaR.Ext.mkB r2), .bool true]) ∧ St w0 w' M))
  (her : er ≠ 0)
  (HD : Go.RowKit.Hid (∀ (W : World) (M : List HP), St w0 W M → Calls Try.prog 44 #[.string (YtkhcdichdnbcmaaR.Ext.mkB r2)] W fun ee w' => ∃ A B p q n m, ee = .returned (.tuple #[.agg #[.int .i64 a, .int .i64 b, .int .i64 c, .int .i64 d, .slice A n p, .slice B m q], .string (YtkhcdichdnbcmaaR.Ext.mkB r3), .int .i64 er]) ∧ St w0 w' (RI (.slice A n p) ps :: RT (.slice B m q) ts :: M))) :
  Calls Try.prog 20 #[.string (YtkhcdichdnbcmaaR.Ext.mkB l)] w fun ee w' => ee = .returned (.tuple #[.agg #[.int .u8 0, .int .i64 0, .int .i64 0, .int .i64 0, .int .i64 0, .int .i64 0, .slice none 0 0, .slice none 0 0, .int .i64 0], .int .i64 4]) ∧ St w0 w' L := by
 have g3 : (er == 0) = false := beq_eq_false_iff_ne.mpr her
 clear her
 have hsz := mkB_size l
 have f1 : decide (1024 < ((YtkhcdichdnbcmaaR.Ext.mkB l).size : Int)) = false := decide_eq_false (by rw [hsz]; omega)
 have f2 : decide (1024 < (YtkhcdichdnbcmaaR.Ext.mkB l).size) = false := decide_eq_false (by rw [hsz]; omega)
 have f3 : (1024 < (YtkhcdichdnbcmaaR.Ext.mkB l).size) = False := eq_false (by rw [hsz]; omega)
 clear hsz hl
 have s0 := h.alloc #[.int .u8 0, .int .i64 0, .int .i64 0, .int .i64 0, .int .i64 0, .int .i64 0, .slice none 0 0, .slice none 0 0, .int .i64 0] tCm
 clear h
 have S0 := Lib.hid s0
 clear s0
 go_enter Try.func20, Try.ntmps20
 go_wp2_with fail
 generalize w.heap.size = b2 at *
 refine (H1.out _ _ S0.out).mono ?_
 rintro ee w1 ⟨rfl, s1⟩
 clear S0 H1 f1 f2 f3
 have s2 := s1.alloc #[.int .u8 1, .int .i64 0, .int .i64 0, .int .i64 0, .int .i64 0, .int .i64 0, .slice none 0 0, .slice none 0 0, .int .i64 0] tCm
 clear s1
 have S2 := Lib.hid s2
 clear s2
 go_wp2_with fail
 generalize w1.heap.size = b7 at *
 refine (H2.out _ _ S2.out).mono ?_
 rintro ee w2 ⟨rfl, s3⟩
 clear S2 H2
 have hcb7 := s3.cells
 have hfb7 := s3.free
 have s4 := s3.setb 1 (.int .i64 e) rfl
 clear s3
 have S4 := Lib.hid s4
 clear s4
 go_wp2_with fail
 refine (HD.out _ _ S4.out).mono ?_
 rintro ee w3 ⟨A, B, p, q, n, m, rfl, s5⟩
 clear S4 HD hcb7 hfb7
 have s6 := s5.pick 2
 simp only [List.getElem_cons_succ, List.getElem_cons_zero, List.eraseIdx_cons_succ, List.eraseIdx_cons_zero] at s6
 have S6 := Lib.hid s6
 clear s5 s6
 have hc6 := S6.out.cells
 have hf6 := S6.out.free
 go_wp2_with (first | ((with_reducible refine wpList_storeSt S6.out rfl _ _ 27 rfl 2 #[.int .i64 a, .int .i64 b, .int .i64 c, .int .i64 d, .slice A n p, .slice B m q] #[.int .u8 1, .int .i64 e, .int .i64 a, .int .i64 b, .int .i64 c, .int .i64 d, .slice A n p, .slice B m q, .int .i64 0] size_spec ?hn ?hx ?hv ?hf ?h1 ?he ?_); (case hn => rfl); (case hx => rfl); (case hv => rfl); (case hf => simp); (case h1 => simp [Value.oneCell']); (case he => rfl); intro w4 s7; clear hc6 hf6; have hc7 := s7.cells; have hf7 := s7.free; have S7 := Lib.hid s7; clear s7) | ((with_reducible refine wpList_storeSt (L := _) (w := w4) (cs := #[.int .u8 0, .int .i64 0, .int .i64 0, .int .i64 0, .int .i64 0, .int .i64 0, .slice none 0 0, .slice none 0 0, .int .i64 0]) (b := b2) (tb := tCm) (by have z := S7.out.pick 3; simp only [List.getElem_cons_succ, List.getElem_cons_zero, List.eraseIdx_cons_succ, List.eraseIdx_cons_zero] at z; exact z) rfl _ _ 29 rfl 0 #[.int .u8 0, .int .i64 0, .int .i64 0, .int .i64 0, .int .i64 0, .int .i64 0, .slice none 0 0, .slice none 0 0, .int .i64 0] #[.int .u8 0, .int .i64 0, .int .i64 0, .int .i64 0, .int .i64 0, .int .i64 0, .slice none 0 0, .slice none 0 0, .int .i64 0] size_cmd ?hn ?hx ?hv ?hf ?h1 ?he ?_); (case hn => rfl); (case hx => rfl); (case hv => rfl); (case hf => simp); (case h1 => simp [Value.oneCell']); (case he => rfl); intro wz sz; have hcz := sz.cells; have hfz := sz.free; have SZ := Lib.hid sz; clear sz)| fail)
 refine bodyPost_ret (v := .tuple #[.agg #[.int .u8 0, .int .i64 0, .int .i64 0, .int .i64 0, .int .i64 0, .int .i64 0, .slice none 0 0, .slice none 0 0, .int .i64 0], .int .i64 4]) (by simp [results, Try.results20, go_sem, hcz]) rfl ?_
 exact ⟨rfl, SZ.out.drop.drop.drop.drop⟩
set_option maxRecDepth 100000 in
set_option maxHeartbeats 1000000 in
theorem cdec_pr {w0 w : World} {L : List HP} (l : List UInt8) (r1 r2 r3 : List UInt8) (e a b c d er : Int) (ps : List Int) (ts : List TX) (h : St w0 w L)
  (hl : l.length ≤ 1024)
  (H1 : Go.RowKit.Hid (∀ (W : World) (M : List HP), St w0 W M → Calls Try.prog 43 #[.string (YtkhcdichdnbcmaaR.Ext.mkB l), .int .i64 3] W fun ee w' => ee = .returned (.tuple #[.int .i64 1, .string (YtkhcdichdnbcmaaR.Ext.mkB r1), .bool true]) ∧ St w0 w' M))
  (H2 : Go.RowKit.Hid (∀ (W : World) (M : List HP), St w0 W M → Calls Try.prog 43 #[.string (YtkhcdichdnbcmaaR.Ext.mkB r1), .int .i64 1099511627776] W fun ee w' => ee = .returned (.tuple #[.int .i64 e, .string (YtkhcdichdnbcmaaR.Ext.mkB r2), .bool true]) ∧ St w0 w' M))
  (her : er = 0) (hr : r3 ≠ [])
  (HD : Go.RowKit.Hid (∀ (W : World) (M : List HP), St w0 W M → Calls Try.prog 44 #[.string (YtkhcdichdnbcmaaR.Ext.mkB r2)] W fun ee w' => ∃ A B p q n m, ee = .returned (.tuple #[.agg #[.int .i64 a, .int .i64 b, .int .i64 c, .int .i64 d, .slice A n p, .slice B m q], .string (YtkhcdichdnbcmaaR.Ext.mkB r3), .int .i64 er]) ∧ St w0 w' (RI (.slice A n p) ps :: RT (.slice B m q) ts :: M))) :
  Calls Try.prog 20 #[.string (YtkhcdichdnbcmaaR.Ext.mkB l)] w fun ee w' => ee = .returned (.tuple #[.agg #[.int .u8 0, .int .i64 0, .int .i64 0, .int .i64 0, .int .i64 0, .int .i64 0, .slice none 0 0, .slice none 0 0, .int .i64 0], .int .i64 4]) ∧ St w0 w' L := by
 subst her
 have g1 : ((YtkhcdichdnbcmaaR.Ext.mkB r3).toList == ([] : List UInt8)) = false := by rw [toList_mkB]; exact beq_eq_false_iff_ne.mpr hr
 have g2 : ((YtkhcdichdnbcmaaR.Ext.mkB r3).toList != ([] : List UInt8)) = true := by rw [toList_mkB]; exact bne_iff_ne.mpr hr
 clear hr
 have hsz := mkB_size l
 have f1 : decide (1024 < ((YtkhcdichdnbcmaaR.Ext.mkB l).size : Int)) = false := decide_eq_false (by rw [hsz]; omega)
 have f2 : decide (1024 < (YtkhcdichdnbcmaaR.Ext.mkB l).size) = false := decide_eq_false (by rw [hsz]; omega)
 have f3 : (1024 < (YtkhcdichdnbcmaaR.Ext.mkB l).size) = False := eq_false (by rw [hsz]; omega)
 clear hsz hl
 have s0 := h.alloc #[.int .u8 0, .int .i64 0, .int .i64 0, .int .i64 0, .int .i64 0, .int .i64 0, .slice none 0 0, .slice none 0 0, .int .i64 0] tCm
 clear h
 have S0 := Lib.hid s0
 clear s0
 go_enter Try.func20, Try.ntmps20
 go_wp2_with fail
 generalize w.heap.size = b2 at *
 refine (H1.out _ _ S0.out).mono ?_
 rintro ee w1 ⟨rfl, s1⟩
 clear S0 H1 f1 f2 f3
 have s2 := s1.alloc #[.int .u8 1, .int .i64 0, .int .i64 0, .int .i64 0, .int .i64 0, .int .i64 0, .slice none 0 0, .slice none 0 0, .int .i64 0] tCm
 clear s1
 have S2 := Lib.hid s2
 clear s2
 go_wp2_with fail
 generalize w1.heap.size = b7 at *
 refine (H2.out _ _ S2.out).mono ?_
 rintro ee w2 ⟨rfl, s3⟩
 clear S2 H2
 have hcb7 := s3.cells
 have hfb7 := s3.free
 have s4 := s3.setb 1 (.int .i64 e) rfl
 clear s3
 have S4 := Lib.hid s4
 clear s4
 go_wp2_with fail
 refine (HD.out _ _ S4.out).mono ?_
 rintro ee w3 ⟨A, B, p, q, n, m, rfl, s5⟩
 clear S4 HD hcb7 hfb7
 have s6 := s5.pick 2
 simp only [List.getElem_cons_succ, List.getElem_cons_zero, List.eraseIdx_cons_succ, List.eraseIdx_cons_zero] at s6
 have S6 := Lib.hid s6
 clear s5 s6
 have hc6 := S6.out.cells
 have hf6 := S6.out.free
 go_wp2_with (first | ((with_reducible refine wpList_storeSt S6.out rfl _ _ 27 rfl 2 #[.int .i64 a, .int .i64 b, .int .i64 c, .int .i64 d, .slice A n p, .slice B m q] #[.int .u8 1, .int .i64 e, .int .i64 a, .int .i64 b, .int .i64 c, .int .i64 d, .slice A n p, .slice B m q, .int .i64 0] size_spec ?hn ?hx ?hv ?hf ?h1 ?he ?_); (case hn => rfl); (case hx => rfl); (case hv => rfl); (case hf => simp); (case h1 => simp [Value.oneCell']); (case he => rfl); intro w4 s7; clear hc6 hf6; have hc7 := s7.cells; have hf7 := s7.free; have S7 := Lib.hid s7; clear s7) | ((with_reducible refine wpList_storeSt (L := _) (w := w4) (cs := #[.int .u8 0, .int .i64 0, .int .i64 0, .int .i64 0, .int .i64 0, .int .i64 0, .slice none 0 0, .slice none 0 0, .int .i64 0]) (b := b2) (tb := tCm) (by have z := S7.out.pick 3; simp only [List.getElem_cons_succ, List.getElem_cons_zero, List.eraseIdx_cons_succ, List.eraseIdx_cons_zero] at z; exact z) rfl _ _ 29 rfl 0 #[.int .u8 0, .int .i64 0, .int .i64 0, .int .i64 0, .int .i64 0, .int .i64 0, .slice none 0 0, .slice none 0 0, .int .i64 0] #[.int .u8 0, .int .i64 0, .int .i64 0, .int .i64 0, .int .i64 0, .int .i64 0, .slice none 0 0, .slice none 0 0, .int .i64 0] size_cmd ?hn ?hx ?hv ?hf ?h1 ?he ?_); (case hn => rfl); (case hx => rfl); (case hv => rfl); (case hf => simp); (case h1 => simp [Value.oneCell']); (case he => rfl); intro wz sz; have hcz := sz.cells; have hfz := sz.free; have SZ := Lib.hid sz; clear sz)| fail)
 refine bodyPost_ret (v := .tuple #[.agg #[.int .u8 0, .int .i64 0, .int .i64 0, .int .i64 0, .int .i64 0, .int .i64 0, .slice none 0 0, .slice none 0 0, .int .i64 0], .int .i64 4]) (by simp [results, Try.results20, go_sem, hcz]) rfl ?_
 exact ⟨rfl, SZ.out.drop.drop.drop.drop⟩
set_option maxRecDepth 100000 in
set_option maxHeartbeats 1000000 in
theorem cdec_pc {w0 w : World} {L : List HP} (l : List UInt8) (r1 r2 r3 : List UInt8) (e a b c d er : Int) (ps : List Int) (ts : List TX) (E : Int) (h : St w0 w L)
  (hl : l.length ≤ 1024)
  (H1 : Go.RowKit.Hid (∀ (W : World) (M : List HP), St w0 W M → Calls Try.prog 43 #[.string (YtkhcdichdnbcmaaR.Ext.mkB l), .int .i64 3] W fun ee w' => ee = .returned (.tuple #[.int .i64 1, .string (YtkhcdichdnbcmaaR.Ext.mkB r1), .bool true]) ∧ St w0 w' M))
  (H2 : Go.RowKit.Hid (∀ (W : World) (M : List HP), St w0 W M → Calls Try.prog 43 #[.string (YtkhcdichdnbcmaaR.Ext.mkB r1), .int .i64 1099511627776] W fun ee w' => ee = .returned (.tuple #[.int .i64 e, .string (YtkhcdichdnbcmaaR.Ext.mkB r2), .bool true]) ∧ St w0 w' M))
  (her : er = 0) (hr : r3 = []) (hE : E ≠ 0)
  (HD : Go.RowKit.Hid (∀ (W : World) (M : List HP), St w0 W M → Calls Try.prog 44 #[.string (YtkhcdichdnbcmaaR.Ext.mkB r2)] W fun ee w' => ∃ A B p q n m, ee = .returned (.tuple #[.agg #[.int .i64 a, .int .i64 b, .int .i64 c, .int .i64 d, .slice A n p, .slice B m q], .string (YtkhcdichdnbcmaaR.Ext.mkB r3), .int .i64 er]) ∧ St w0 w' (RI (.slice A n p) ps :: RT (.slice B m q) ts :: M)))
  (HC : Go.RowKit.Hid (∀ (W : World) (M : List HP) (A B : Option Addr) (n m p q : Nat), St w0 W (RI (.slice A n p) ps :: RT (.slice B m q) ts :: M) → Calls Try.prog 17 #[.agg #[.int .u8 1, .int .i64 e, .int .i64 a, .int .i64 b, .int .i64 c, .int .i64 d, .slice A n p, .slice B m q, .int .i64 0]] W fun ee w' => ee = .returned (.int .i64 E) ∧ St w0 w' (RI (.slice A n p) ps :: RT (.slice B m q) ts :: M))) :
  Calls Try.prog 20 #[.string (YtkhcdichdnbcmaaR.Ext.mkB l)] w fun ee w' => ee = .returned (.tuple #[.agg #[.int .u8 0, .int .i64 0, .int .i64 0, .int .i64 0, .int .i64 0, .int .i64 0, .slice none 0 0, .slice none 0 0, .int .i64 0], .int .i64 4]) ∧ St w0 w' L := by
 subst her
 have g1 : ((YtkhcdichdnbcmaaR.Ext.mkB r3).toList == ([] : List UInt8)) = true := by rw [toList_mkB]; subst hr; rfl
 have g2 : ((YtkhcdichdnbcmaaR.Ext.mkB r3).toList != ([] : List UInt8)) = false := by rw [toList_mkB]; subst hr; rfl
 clear hr
 have g3 : (E != 0) = true := bne_iff_ne.mpr hE
 clear hE
 have hsz := mkB_size l
 have f1 : decide (1024 < ((YtkhcdichdnbcmaaR.Ext.mkB l).size : Int)) = false := decide_eq_false (by rw [hsz]; omega)
 have f2 : decide (1024 < (YtkhcdichdnbcmaaR.Ext.mkB l).size) = false := decide_eq_false (by rw [hsz]; omega)
 have f3 : (1024 < (YtkhcdichdnbcmaaR.Ext.mkB l).size) = False := eq_false (by rw [hsz]; omega)
 clear hsz hl
 have s0 := h.alloc #[.int .u8 0, .int .i64 0, .int .i64 0, .int .i64 0, .int .i64 0, .int .i64 0, .slice none 0 0, .slice none 0 0, .int .i64 0] tCm
 clear h
 have S0 := Lib.hid s0
 clear s0
 go_enter Try.func20, Try.ntmps20
 go_wp2_with fail
 generalize w.heap.size = b2 at *
 refine (H1.out _ _ S0.out).mono ?_
 rintro ee w1 ⟨rfl, s1⟩
 clear S0 H1 f1 f2 f3
 have s2 := s1.alloc #[.int .u8 1, .int .i64 0, .int .i64 0, .int .i64 0, .int .i64 0, .int .i64 0, .slice none 0 0, .slice none 0 0, .int .i64 0] tCm
 clear s1
 have S2 := Lib.hid s2
 clear s2
 go_wp2_with fail
 generalize w1.heap.size = b7 at *
 refine (H2.out _ _ S2.out).mono ?_
 rintro ee w2 ⟨rfl, s3⟩
 clear S2 H2
 have hcb7 := s3.cells
 have hfb7 := s3.free
 have s4 := s3.setb 1 (.int .i64 e) rfl
 clear s3
 have S4 := Lib.hid s4
 clear s4
 go_wp2_with fail
 refine (HD.out _ _ S4.out).mono ?_
 rintro ee w3 ⟨A, B, p, q, n, m, rfl, s5⟩
 clear S4 HD hcb7 hfb7
 have s6 := s5.pick 2
 simp only [List.getElem_cons_succ, List.getElem_cons_zero, List.eraseIdx_cons_succ, List.eraseIdx_cons_zero] at s6
 have S6 := Lib.hid s6
 clear s5 s6
 have hc6 := S6.out.cells
 have hf6 := S6.out.free
 go_wp2_with (first | ((with_reducible refine wpList_storeSt S6.out rfl _ _ 27 rfl 2 #[.int .i64 a, .int .i64 b, .int .i64 c, .int .i64 d, .slice A n p, .slice B m q] #[.int .u8 1, .int .i64 e, .int .i64 a, .int .i64 b, .int .i64 c, .int .i64 d, .slice A n p, .slice B m q, .int .i64 0] size_spec ?hn ?hx ?hv ?hf ?h1 ?he ?_); (case hn => rfl); (case hx => rfl); (case hv => rfl); (case hf => simp); (case h1 => simp [Value.oneCell']); (case he => rfl); intro w4 s7; clear hc6 hf6; have hc7 := s7.cells; have hf7 := s7.free; have S7 := Lib.hid s7; clear s7) | fail)
 have s8 := S7.out.pick 1
 simp only [List.getElem_cons_succ, List.getElem_cons_zero, List.eraseIdx_cons_succ, List.eraseIdx_cons_zero] at s8
 have s9 := s8.pick 2
 simp only [List.getElem_cons_succ, List.getElem_cons_zero, List.eraseIdx_cons_succ, List.eraseIdx_cons_zero] at s9
 have s10 := s9.pick 1
 simp only [List.getElem_cons_succ, List.getElem_cons_zero, List.eraseIdx_cons_succ, List.eraseIdx_cons_zero] at s10
 refine (HC.out _ _ _ _ _ _ _ _ s10).mono ?_
 rintro ee w5 ⟨rfl, s11⟩
 clear s8 s9 s10 S7 hc7 hf7 HC
 have s12 := s11.pick 3
 simp only [List.getElem_cons_succ, List.getElem_cons_zero, List.eraseIdx_cons_succ, List.eraseIdx_cons_zero] at s12
 have S12 := Lib.hid s12
 have hc12 := (S12.out.pick 3).cells
 clear s11 s12
 go_wp2_with (first | ((with_reducible refine wpList_storeSt S12.out rfl _ _ 29 rfl 0 #[.int .u8 0, .int .i64 0, .int .i64 0, .int .i64 0, .int .i64 0, .int .i64 0, .slice none 0 0, .slice none 0 0, .int .i64 0] #[.int .u8 0, .int .i64 0, .int .i64 0, .int .i64 0, .int .i64 0, .int .i64 0, .slice none 0 0, .slice none 0 0, .int .i64 0] size_cmd ?hn ?hx ?hv ?hf ?h1 ?he ?_); (case hn => rfl); (case hx => rfl); (case hv => rfl); (case hf => simp); (case h1 => simp [Value.oneCell']); (case he => rfl); intro wz sz; have hcz := sz.cells; have hfz := sz.free; have SZ := Lib.hid sz; clear sz)| fail)
 refine bodyPost_ret (v := .tuple #[.agg #[.int .u8 0, .int .i64 0, .int .i64 0, .int .i64 0, .int .i64 0, .int .i64 0, .slice none 0 0, .slice none 0 0, .int .i64 0], .int .i64 4]) (by simp [results, Try.results20, go_sem, hcz]) rfl ?_
 exact ⟨rfl, SZ.out.drop.drop.drop.drop⟩
set_option maxRecDepth 100000 in
set_option maxHeartbeats 1000000 in
theorem cdec_pok {w0 w : World} {L : List HP} (l : List UInt8) (r1 r2 r3 : List UInt8) (e a b c d er : Int) (ps : List Int) (ts : List TX) (E : Int) (h : St w0 w L)
  (hl : l.length ≤ 1024)
  (H1 : Go.RowKit.Hid (∀ (W : World) (M : List HP), St w0 W M → Calls Try.prog 43 #[.string (YtkhcdichdnbcmaaR.Ext.mkB l), .int .i64 3] W fun ee w' => ee = .returned (.tuple #[.int .i64 1, .string (YtkhcdichdnbcmaaR.Ext.mkB r1), .bool true]) ∧ St w0 w' M))
  (H2 : Go.RowKit.Hid (∀ (W : World) (M : List HP), St w0 W M → Calls Try.prog 43 #[.string (YtkhcdichdnbcmaaR.Ext.mkB r1), .int .i64 1099511627776] W fun ee w' => ee = .returned (.tuple #[.int .i64 e, .string (YtkhcdichdnbcmaaR.Ext.mkB r2), .bool true]) ∧ St w0 w' M))
  (her : er = 0) (hr : r3 = []) (hE : E = 0)
  (HD : Go.RowKit.Hid (∀ (W : World) (M : List HP), St w0 W M → Calls Try.prog 44 #[.string (YtkhcdichdnbcmaaR.Ext.mkB r2)] W fun ee w' => ∃ A B p q n m, ee = .returned (.tuple #[.agg #[.int .i64 a, .int .i64 b, .int .i64 c, .int .i64 d, .slice A n p, .slice B m q], .string (YtkhcdichdnbcmaaR.Ext.mkB r3), .int .i64 er]) ∧ St w0 w' (RI (.slice A n p) ps :: RT (.slice B m q) ts :: M)))
  (HC : Go.RowKit.Hid (∀ (W : World) (M : List HP) (A B : Option Addr) (n m p q : Nat), St w0 W (RI (.slice A n p) ps :: RT (.slice B m q) ts :: M) → Calls Try.prog 17 #[.agg #[.int .u8 1, .int .i64 e, .int .i64 a, .int .i64 b, .int .i64 c, .int .i64 d, .slice A n p, .slice B m q, .int .i64 0]] W fun ee w' => ee = .returned (.int .i64 E) ∧ St w0 w' (RI (.slice A n p) ps :: RT (.slice B m q) ts :: M))) :
  Calls Try.prog 20 #[.string (YtkhcdichdnbcmaaR.Ext.mkB l)] w fun ee w' => ∃ A B n m p q, ee = .returned (.tuple #[.agg #[.int .u8 1, .int .i64 e, .int .i64 a, .int .i64 b, .int .i64 c, .int .i64 d, .slice A n p, .slice B m q, .int .i64 0], .int .i64 0]) ∧ St w0 w' (RI (.slice A n p) ps :: RT (.slice B m q) ts :: L) := by
 subst her
 have g1 : ((YtkhcdichdnbcmaaR.Ext.mkB r3).toList == ([] : List UInt8)) = true := by rw [toList_mkB]; subst hr; rfl
 have g2 : ((YtkhcdichdnbcmaaR.Ext.mkB r3).toList != ([] : List UInt8)) = false := by rw [toList_mkB]; subst hr; rfl
 clear hr
 have g3 : (E != 0) = false := by subst hE; rfl
 clear hE
 have hsz := mkB_size l
 have f1 : decide (1024 < ((YtkhcdichdnbcmaaR.Ext.mkB l).size : Int)) = false := decide_eq_false (by rw [hsz]; omega)
 have f2 : decide (1024 < (YtkhcdichdnbcmaaR.Ext.mkB l).size) = false := decide_eq_false (by rw [hsz]; omega)
 have f3 : (1024 < (YtkhcdichdnbcmaaR.Ext.mkB l).size) = False := eq_false (by rw [hsz]; omega)
 clear hsz hl
 have s0 := h.alloc #[.int .u8 0, .int .i64 0, .int .i64 0, .int .i64 0, .int .i64 0, .int .i64 0, .slice none 0 0, .slice none 0 0, .int .i64 0] tCm
 clear h
 have S0 := Lib.hid s0
 clear s0
 go_enter Try.func20, Try.ntmps20
 go_wp2_with fail
 generalize w.heap.size = b2 at *
 refine (H1.out _ _ S0.out).mono ?_
 rintro ee w1 ⟨rfl, s1⟩
 clear S0 H1 f1 f2 f3
 have s2 := s1.alloc #[.int .u8 1, .int .i64 0, .int .i64 0, .int .i64 0, .int .i64 0, .int .i64 0, .slice none 0 0, .slice none 0 0, .int .i64 0] tCm
 clear s1
 have S2 := Lib.hid s2
 clear s2
 go_wp2_with fail
 generalize w1.heap.size = b7 at *
 refine (H2.out _ _ S2.out).mono ?_
 rintro ee w2 ⟨rfl, s3⟩
 clear S2 H2
 have hcb7 := s3.cells
 have hfb7 := s3.free
 have s4 := s3.setb 1 (.int .i64 e) rfl
 clear s3
 have S4 := Lib.hid s4
 clear s4
 go_wp2_with fail
 refine (HD.out _ _ S4.out).mono ?_
 rintro ee w3 ⟨A, B, p, q, n, m, rfl, s5⟩
 clear S4 HD hcb7 hfb7
 have s6 := s5.pick 2
 simp only [List.getElem_cons_succ, List.getElem_cons_zero, List.eraseIdx_cons_succ, List.eraseIdx_cons_zero] at s6
 have S6 := Lib.hid s6
 clear s5 s6
 have hc6 := S6.out.cells
 have hf6 := S6.out.free
 go_wp2_with (first | ((with_reducible refine wpList_storeSt S6.out rfl _ _ 27 rfl 2 #[.int .i64 a, .int .i64 b, .int .i64 c, .int .i64 d, .slice A n p, .slice B m q] #[.int .u8 1, .int .i64 e, .int .i64 a, .int .i64 b, .int .i64 c, .int .i64 d, .slice A n p, .slice B m q, .int .i64 0] size_spec ?hn ?hx ?hv ?hf ?h1 ?he ?_); (case hn => rfl); (case hx => rfl); (case hv => rfl); (case hf => simp); (case h1 => simp [Value.oneCell']); (case he => rfl); intro w4 s7; clear hc6 hf6; have hc7 := s7.cells; have hf7 := s7.free; have S7 := Lib.hid s7; clear s7) | fail)
 have s8 := S7.out.pick 1
 simp only [List.getElem_cons_succ, List.getElem_cons_zero, List.eraseIdx_cons_succ, List.eraseIdx_cons_zero] at s8
 have s9 := s8.pick 2
 simp only [List.getElem_cons_succ, List.getElem_cons_zero, List.eraseIdx_cons_succ, List.eraseIdx_cons_zero] at s9
 have s10 := s9.pick 1
 simp only [List.getElem_cons_succ, List.getElem_cons_zero, List.eraseIdx_cons_succ, List.eraseIdx_cons_zero] at s10
 refine (HC.out _ _ _ _ _ _ _ _ s10).mono ?_
 rintro ee w5 ⟨rfl, s11⟩
 clear s8 s9 s10 S7 hc7 hf7 HC
 have s12 := s11.pick 3
 simp only [List.getElem_cons_succ, List.getElem_cons_zero, List.eraseIdx_cons_succ, List.eraseIdx_cons_zero] at s12
 have S12 := Lib.hid s12
 have hc12 := (S12.out.pick 3).cells
 clear s11 s12
 go_wp2_with (first | ((with_reducible refine wpList_storeSt S12.out rfl _ _ 29 rfl 0 #[.int .u8 1, .int .i64 e, .int .i64 a, .int .i64 b, .int .i64 c, .int .i64 d, .slice A n p, .slice B m q, .int .i64 0] #[.int .u8 1, .int .i64 e, .int .i64 a, .int .i64 b, .int .i64 c, .int .i64 d, .slice A n p, .slice B m q, .int .i64 0] size_cmd ?hn ?hx ?hv ?hf ?h1 ?he ?_); (case hn => rfl); (case hx => rfl); (case hv => rfl); (case hf => simp); (case h1 => simp [Value.oneCell']); (case he => rfl); intro wz sz; have hcz := sz.cells; have hfz := sz.free; have SZ := Lib.hid sz; clear sz)| fail)
 refine bodyPost_ret (v := .tuple #[.agg #[.int .u8 1, .int .i64 e, .int .i64 a, .int .i64 b, .int .i64 c, .int .i64 d, .slice A n p, .slice B m q, .int .i64 0], .int .i64 0]) (by simp [results, Try.results20, go_sem, hcz]) rfl ?_
 have t1 := SZ.out.drop
 have t2 := t1.pick 2
 simp only [List.getElem_cons_succ, List.getElem_cons_zero, List.eraseIdx_cons_succ, List.eraseIdx_cons_zero] at t2
 exact ⟨A, B, n, m, p, q, rfl, t2.drop⟩
set_option maxRecDepth 100000 in
set_option maxHeartbeats 1000000 in
theorem cdec_in {w0 w : World} {L : List HP} (l : List UInt8) (r1 r2 r3 : List UInt8) (k e x : Int) (h : St w0 w L)
  (hl : l.length ≤ 1024)
  (hk : 0 ≤ k ∧ k ≤ 3) (hne : k ≠ 1)
  (H1 : Go.RowKit.Hid (∀ (W : World) (M : List HP), St w0 W M → Calls Try.prog 43 #[.string (YtkhcdichdnbcmaaR.Ext.mkB l), .int .i64 3] W fun ee w' => ee = .returned (.tuple #[.int .i64 k, .string (YtkhcdichdnbcmaaR.Ext.mkB r1), .bool true]) ∧ St w0 w' M))
  (H2 : Go.RowKit.Hid (∀ (W : World) (M : List HP), St w0 W M → Calls Try.prog 43 #[.string (YtkhcdichdnbcmaaR.Ext.mkB r1), .int .i64 1099511627776] W fun ee w' => ee = .returned (.tuple #[.int .i64 e, .string (YtkhcdichdnbcmaaR.Ext.mkB r2), .bool true]) ∧ St w0 w' M))
  (H3 : Go.RowKit.Hid (∀ (W : World) (M : List HP), St w0 W M → Calls Try.prog 43 #[.string (YtkhcdichdnbcmaaR.Ext.mkB r2), .int .i64 2147483648] W fun ee w' => ee = .returned (.tuple #[.int .i64 x, .string (YtkhcdichdnbcmaaR.Ext.mkB r3), .bool false]) ∧ St w0 w' M)) :
  Calls Try.prog 20 #[.string (YtkhcdichdnbcmaaR.Ext.mkB l)] w fun ee w' => ee = .returned (.tuple #[.agg #[.int .u8 0, .int .i64 0, .int .i64 0, .int .i64 0, .int .i64 0, .int .i64 0, .slice none 0 0, .slice none 0 0, .int .i64 0], .int .i64 4]) ∧ St w0 w' L := by
 have hcv : IntKind.u8.wrap k = k := by unfold IntKind.wrap; simp [IntKind.bits, IntKind.signed]; omega
 clear hk
 have hk1 : (k == 1) = false := beq_eq_false_iff_ne.mpr hne
 have hk2 : decide (k = 1) = false := decide_eq_false hne
 have hk3 : (k = 1) = False := eq_false hne
 clear hne
 have hsz := mkB_size l
 have f1 : decide (1024 < ((YtkhcdichdnbcmaaR.Ext.mkB l).size : Int)) = false := decide_eq_false (by rw [hsz]; omega)
 have f2 : decide (1024 < (YtkhcdichdnbcmaaR.Ext.mkB l).size) = false := decide_eq_false (by rw [hsz]; omega)
 have f3 : (1024 < (YtkhcdichdnbcmaaR.Ext.mkB l).size) = False := eq_false (by rw [hsz]; omega)
 clear hsz hl
 have s0 := h.alloc #[.int .u8 0, .int .i64 0, .int .i64 0, .int .i64 0, .int .i64 0, .int .i64 0, .slice none 0 0, .slice none 0 0, .int .i64 0] tCm
 clear h
 have S0 := Lib.hid s0
 clear s0
 go_enter Try.func20, Try.ntmps20
 go_wp2_with fail
 generalize w.heap.size = b2 at *
 refine (H1.out _ _ S0.out).mono ?_
 rintro ee w1 ⟨rfl, s1⟩
 clear S0 H1 f1 f2 f3
 have s2 := s1.alloc #[.int .u8 k, .int .i64 0, .int .i64 0, .int .i64 0, .int .i64 0, .int .i64 0, .slice none 0 0, .slice none 0 0, .int .i64 0] tCm
 clear s1
 have S2 := Lib.hid s2
 clear s2
 go_wp2_with fail
 generalize w1.heap.size = b7 at *
 refine (H2.out _ _ S2.out).mono ?_
 rintro ee w2 ⟨rfl, s3⟩
 clear S2 H2
 have hcb7 := s3.cells
 have hfb7 := s3.free
 have s4 := s3.setb 1 (.int .i64 e) rfl
 clear s3
 have S4 := Lib.hid s4
 clear s4
 go_wp2_with fail
 refine (H3.out _ _ S4.out).mono ?_
 rintro ee w3 ⟨rfl, s5⟩
 clear S4 H3 hcb7 hfb7
 have hc5 := s5.cells
 have hf5 := s5.free
 have s6 := s5.setb 8 (.int .i64 x) rfl
 clear s5
 have s7 := s6.pick 1
 simp only [List.getElem_cons_succ, List.getElem_cons_zero, List.eraseIdx_cons_succ, List.eraseIdx_cons_zero] at s7
 have S7 := Lib.hid s7
 clear s6 s7
 go_wp2_with (first | ((with_reducible refine wpList_storeSt S7.out rfl _ _ 29 rfl 0 #[.int .u8 0, .int .i64 0, .int .i64 0, .int .i64 0, .int .i64 0, .int .i64 0, .slice none 0 0, .slice none 0 0, .int .i64 0] #[.int .u8 0, .int .i64 0, .int .i64 0, .int .i64 0, .int .i64 0, .int .i64 0, .slice none 0 0, .slice none 0 0, .int .i64 0] size_cmd ?hn ?hx ?hv ?hf ?h1 ?he ?_); (case hn => rfl); (case hx => rfl); (case hv => rfl); (case hf => simp); (case h1 => simp [Value.oneCell']); (case he => rfl); intro wz sz; have hcz := sz.cells; have hfz := sz.free; have SZ := Lib.hid sz; clear sz) | fail)
 refine bodyPost_ret (v := .tuple #[.agg #[.int .u8 0, .int .i64 0, .int .i64 0, .int .i64 0, .int .i64 0, .int .i64 0, .slice none 0 0, .slice none 0 0, .int .i64 0], .int .i64 4]) (by simp [results, Try.results20, go_sem, hcz]) rfl ?_
 exact ⟨rfl, SZ.out.drop.drop⟩
set_option maxRecDepth 100000 in
set_option maxHeartbeats 1000000 in
theorem cdec_ir {w0 w : World} {L : List HP} (l : List UInt8) (r1 r2 r3 : List UInt8) (k e x : Int) (h : St w0 w L)
  (hl : l.length ≤ 1024)
  (hk : 0 ≤ k ∧ k ≤ 3) (hne : k ≠ 1)
  (H1 : Go.RowKit.Hid (∀ (W : World) (M : List HP), St w0 W M → Calls Try.prog 43 #[.string (YtkhcdichdnbcmaaR.Ext.mkB l), .int .i64 3] W fun ee w' => ee = .returned (.tuple #[.int .i64 k, .string (YtkhcdichdnbcmaaR.Ext.mkB r1), .bool true]) ∧ St w0 w' M))
  (H2 : Go.RowKit.Hid (∀ (W : World) (M : List HP), St w0 W M → Calls Try.prog 43 #[.string (YtkhcdichdnbcmaaR.Ext.mkB r1), .int .i64 1099511627776] W fun ee w' => ee = .returned (.tuple #[.int .i64 e, .string (YtkhcdichdnbcmaaR.Ext.mkB r2), .bool true]) ∧ St w0 w' M))
  (H3 : Go.RowKit.Hid (∀ (W : World) (M : List HP), St w0 W M → Calls Try.prog 43 #[.string (YtkhcdichdnbcmaaR.Ext.mkB r2), .int .i64 2147483648] W fun ee w' => ee = .returned (.tuple #[.int .i64 x, .string (YtkhcdichdnbcmaaR.Ext.mkB r3), .bool true]) ∧ St w0 w' M))
  (hr : r3 ≠ []) :
  Calls Try.prog 20 #[.string (YtkhcdichdnbcmaaR.Ext.mkB l)] w fun ee w' => ee = .returned (.tuple #[.agg #[.int .u8 0, .int .i64 0, .int .i64 0, .int .i64 0, .int .i64 0, .int .i64 0, .slice none 0 0, .slice none 0 0, .int .i64 0], .int .i64 4]) ∧ St w0 w' L := by
 have hcv : IntKind.u8.wrap k = k := by unfold IntKind.wrap; simp [IntKind.bits, IntKind.signed]; omega
 clear hk
 have hk1 : (k == 1) = false := beq_eq_false_iff_ne.mpr hne
 have hk2 : decide (k = 1) = false := decide_eq_false hne
 have hk3 : (k = 1) = False := eq_false hne
 clear hne
 have g1 : ((YtkhcdichdnbcmaaR.Ext.mkB r3).toList == ([] : List UInt8)) = false := by rw [toList_mkB]; exact beq_eq_false_iff_ne.mpr hr
 have g2 : ((YtkhcdichdnbcmaaR.Ext.mkB r3).toList != ([] : List UInt8)) = true := by rw [toList_mkB]; exact bne_iff_ne.mpr hr
 clear hr
 have hsz := mkB_size l
 have f1 : decide (1024 < ((YtkhcdichdnbcmaaR.Ext.mkB l).size : Int)) = false := decide_eq_false (by rw [hsz]; omega)
 have f2 : decide (1024 < (YtkhcdichdnbcmaaR.Ext.mkB l).size) = false := decide_eq_false (by rw [hsz]; omega)
 have f3 : (1024 < (YtkhcdichdnbcmaaR.Ext.mkB l).size) = False := eq_false (by rw [hsz]; omega)
 clear hsz hl
 have s0 := h.alloc #[.int .u8 0, .int .i64 0, .int .i64 0, .int .i64 0, .int .i64 0, .int .i64 0, .slice none 0 0, .slice none 0 0, .int .i64 0] tCm
 clear h
 have S0 := Lib.hid s0
 clear s0
 go_enter Try.func20, Try.ntmps20
 go_wp2_with fail
 generalize w.heap.size = b2 at *
 refine (H1.out _ _ S0.out).mono ?_
 rintro ee w1 ⟨rfl, s1⟩
 clear S0 H1 f1 f2 f3
 have s2 := s1.alloc #[.int .u8 k, .int .i64 0, .int .i64 0, .int .i64 0, .int .i64 0, .int .i64 0, .slice none 0 0, .slice none 0 0, .int .i64 0] tCm
 clear s1
 have S2 := Lib.hid s2
 clear s2
 go_wp2_with fail
 generalize w1.heap.size = b7 at *
 refine (H2.out _ _ S2.out).mono ?_
 rintro ee w2 ⟨rfl, s3⟩
 clear S2 H2
 have hcb7 := s3.cells
 have hfb7 := s3.free
 have s4 := s3.setb 1 (.int .i64 e) rfl
 clear s3
 have S4 := Lib.hid s4
 clear s4
 go_wp2_with fail
 refine (H3.out _ _ S4.out).mono ?_
 rintro ee w3 ⟨rfl, s5⟩
 clear S4 H3 hcb7 hfb7
 have hc5 := s5.cells
 have hf5 := s5.free
 have s6 := s5.setb 8 (.int .i64 x) rfl
 clear s5
 have s7 := s6.pick 1
 simp only [List.getElem_cons_succ, List.getElem_cons_zero, List.eraseIdx_cons_succ, List.eraseIdx_cons_zero] at s7
 have S7 := Lib.hid s7
 clear s6 s7
 go_wp2_with (first | ((with_reducible refine wpList_storeSt S7.out rfl _ _ 29 rfl 0 #[.int .u8 0, .int .i64 0, .int .i64 0, .int .i64 0, .int .i64 0, .int .i64 0, .slice none 0 0, .slice none 0 0, .int .i64 0] #[.int .u8 0, .int .i64 0, .int .i64 0, .int .i64 0, .int .i64 0, .int .i64 0, .slice none 0 0, .slice none 0 0, .int .i64 0] size_cmd ?hn ?hx ?hv ?hf ?h1 ?he ?_); (case hn => rfl); (case hx => rfl); (case hv => rfl); (case hf => simp); (case h1 => simp [Value.oneCell']); (case he => rfl); intro wz sz; have hcz := sz.cells; have hfz := sz.free; have SZ := Lib.hid sz; clear sz) | fail)
 refine bodyPost_ret (v := .tuple #[.agg #[.int .u8 0, .int .i64 0, .int .i64 0, .int .i64 0, .int .i64 0, .int .i64 0, .slice none 0 0, .slice none 0 0, .int .i64 0], .int .i64 4]) (by simp [results, Try.results20, go_sem, hcz]) rfl ?_
 exact ⟨rfl, SZ.out.drop.drop⟩
set_option maxRecDepth 100000 in
set_option maxHeartbeats 1000000 in
theorem cdec_ic {w0 w : World} {L : List HP} (l : List UInt8) (r1 r2 r3 : List UInt8) (k e x : Int) (E : Int) (h : St w0 w L)
  (hl : l.length ≤ 1024)
  (hk : 0 ≤ k ∧ k ≤ 3) (hne : k ≠ 1)
  (H1 : Go.RowKit.Hid (∀ (W : World) (M : List HP), St w0 W M → Calls Try.prog 43 #[.string (YtkhcdichdnbcmaaR.Ext.mkB l), .int .i64 3] W fun ee w' => ee = .returned (.tuple #[.int .i64 k, .string (YtkhcdichdnbcmaaR.Ext.mkB r1), .bool true]) ∧ St w0 w' M))
  (H2 : Go.RowKit.Hid (∀ (W : World) (M : List HP), St w0 W M → Calls Try.prog 43 #[.string (YtkhcdichdnbcmaaR.Ext.mkB r1), .int .i64 1099511627776] W fun ee w' => ee = .returned (.tuple #[.int .i64 e, .string (YtkhcdichdnbcmaaR.Ext.mkB r2), .bool true]) ∧ St w0 w' M))
  (H3 : Go.RowKit.Hid (∀ (W : World) (M : List HP), St w0 W M → Calls Try.prog 43 #[.string (YtkhcdichdnbcmaaR.Ext.mkB r2), .int .i64 2147483648] W fun ee w' => ee = .returned (.tuple #[.int .i64 x, .string (YtkhcdichdnbcmaaR.Ext.mkB r3), .bool true]) ∧ St w0 w' M))
  (hr : r3 = []) (hE : E ≠ 0)
  (HC : Go.RowKit.Hid (∀ (W : World) (M : List HP), St w0 W M → Calls Try.prog 17 #[.agg #[.int .u8 k, .int .i64 e, .int .i64 0, .int .i64 0, .int .i64 0, .int .i64 0, .slice none 0 0, .slice none 0 0, .int .i64 x]] W fun ee w' => ee = .returned (.int .i64 E) ∧ St w0 w' M)) :
  Calls Try.prog 20 #[.string (YtkhcdichdnbcmaaR.Ext.mkB l)] w fun ee w' => ee = .returned (.tuple #[.agg #[.int .u8 0, .int .i64 0, .int .i64 0, .int .i64 0, .int .i64 0, .int .i64 0, .slice none 0 0, .slice none 0 0, .int .i64 0], .int .i64 4]) ∧ St w0 w' L := by
 have hcv : IntKind.u8.wrap k = k := by unfold IntKind.wrap; simp [IntKind.bits, IntKind.signed]; omega
 clear hk
 have hk1 : (k == 1) = false := beq_eq_false_iff_ne.mpr hne
 have hk2 : decide (k = 1) = false := decide_eq_false hne
 have hk3 : (k = 1) = False := eq_false hne
 clear hne
 have g1 : ((YtkhcdichdnbcmaaR.Ext.mkB r3).toList == ([] : List UInt8)) = true := by rw [toList_mkB]; subst hr; rfl
 have g2 : ((YtkhcdichdnbcmaaR.Ext.mkB r3).toList != ([] : List UInt8)) = false := by rw [toList_mkB]; subst hr; rfl
 clear hr
 have g3 : (E != 0) = true := bne_iff_ne.mpr hE
 clear hE
 have hsz := mkB_size l
 have f1 : decide (1024 < ((YtkhcdichdnbcmaaR.Ext.mkB l).size : Int)) = false := decide_eq_false (by rw [hsz]; omega)
 have f2 : decide (1024 < (YtkhcdichdnbcmaaR.Ext.mkB l).size) = false := decide_eq_false (by rw [hsz]; omega)
 have f3 : (1024 < (YtkhcdichdnbcmaaR.Ext.mkB l).size) = False := eq_false (by rw [hsz]; omega)
 clear hsz hl
 have s0 := h.alloc #[.int .u8 0, .int .i64 0, .int .i64 0, .int .i64 0, .int .i64 0, .int .i64 0, .slice none 0 0, .slice none 0 0, .int .i64 0] tCm
 clear h
 have S0 := Lib.hid s0
 clear s0
 go_enter Try.func20, Try.ntmps20
 go_wp2_with fail
 generalize w.heap.size = b2 at *
 refine (H1.out _ _ S0.out).mono ?_
 rintro ee w1 ⟨rfl, s1⟩
 clear S0 H1 f1 f2 f3
 have s2 := s1.alloc #[.int .u8 k, .int .i64 0, .int .i64 0, .int .i64 0, .int .i64 0, .int .i64 0, .slice none 0 0, .slice none 0 0, .int .i64 0] tCm
 clear s1
 have S2 := Lib.hid s2
 clear s2
 go_wp2_with fail
 generalize w1.heap.size = b7 at *
 refine (H2.out _ _ S2.out).mono ?_
 rintro ee w2 ⟨rfl, s3⟩
 clear S2 H2
 have hcb7 := s3.cells
 have hfb7 := s3.free
 have s4 := s3.setb 1 (.int .i64 e) rfl
 clear s3
 have S4 := Lib.hid s4
 clear s4
 go_wp2_with fail
 refine (H3.out _ _ S4.out).mono ?_
 rintro ee w3 ⟨rfl, s5⟩
 clear S4 H3 hcb7 hfb7
 have hc5 := s5.cells
 have hf5 := s5.free
 have s6 := s5.setb 8 (.int .i64 x) rfl
 clear s5
 have S6 := Lib.hid s6
 clear s6
 go_wp2_with fail
 refine (HC.out _ _ S6.out).mono ?_
 rintro ee w5 ⟨rfl, s7⟩
 clear S6 hc5 hf5 HC
 have hc7 := s7.cells
 have s8 := s7.pick 1
 simp only [List.getElem_cons_succ, List.getElem_cons_zero, List.eraseIdx_cons_succ, List.eraseIdx_cons_zero] at s8
 have S8 := Lib.hid s8
 clear s7 s8
 go_wp2_with (first | ((with_reducible refine wpList_storeSt S8.out rfl _ _ 29 rfl 0 #[.int .u8 0, .int .i64 0, .int .i64 0, .int .i64 0, .int .i64 0, .int .i64 0, .slice none 0 0, .slice none 0 0, .int .i64 0] #[.int .u8 0, .int .i64 0, .int .i64 0, .int .i64 0, .int .i64 0, .int .i64 0, .slice none 0 0, .slice none 0 0, .int .i64 0] size_cmd ?hn ?hx ?hv ?hf ?h1 ?he ?_); (case hn => rfl); (case hx => rfl); (case hv => rfl); (case hf => simp); (case h1 => simp [Value.oneCell']); (case he => rfl); intro wz sz; have hcz := sz.cells; have hfz := sz.free; have SZ := Lib.hid sz; clear sz) | fail)
 refine bodyPost_ret (v := .tuple #[.agg #[.int .u8 0, .int .i64 0, .int .i64 0, .int .i64 0, .int .i64 0, .int .i64 0, .slice none 0 0, .slice none 0 0, .int .i64 0], .int .i64 4]) (by simp [results, Try.results20, go_sem, hcz]) rfl ?_
 exact ⟨rfl, SZ.out.drop.drop⟩
set_option maxRecDepth 100000 in
set_option maxHeartbeats 1000000 in
theorem cdec_iok {w0 w : World} {L : List HP} (l : List UInt8) (r1 r2 r3 : List UInt8) (k e x : Int) (E : Int) (h : St w0 w L)
  (hl : l.length ≤ 1024)
  (hk : 0 ≤ k ∧ k ≤ 3) (hne : k ≠ 1)
  (H1 : Go.RowKit.Hid (∀ (W : World) (M : List HP), St w0 W M → Calls Try.prog 43 #[.string (YtkhcdichdnbcmaaR.Ext.mkB l), .int .i64 3] W fun ee w' => ee = .returned (.tuple #[.int .i64 k, .string (YtkhcdichdnbcmaaR.Ext.mkB r1), .bool true]) ∧ St w0 w' M))
  (H2 : Go.RowKit.Hid (∀ (W : World) (M : List HP), St w0 W M → Calls Try.prog 43 #[.string (YtkhcdichdnbcmaaR.Ext.mkB r1), .int .i64 1099511627776] W fun ee w' => ee = .returned (.tuple #[.int .i64 e, .string (YtkhcdichdnbcmaaR.Ext.mkB r2), .bool true]) ∧ St w0 w' M))
  (H3 : Go.RowKit.Hid (∀ (W : World) (M : List HP), St w0 W M → Calls Try.prog 43 #[.string (YtkhcdichdnbcmaaR.Ext.mkB r2), .int .i64 2147483648] W fun ee w' => ee = .returned (.tuple #[.int .i64 x, .string (YtkhcdichdnbcmaaR.Ext.mkB r3), .bool true]) ∧ St w0 w' M))
  (hr : r3 = []) (hE : E = 0)
  (HC : Go.RowKit.Hid (∀ (W : World) (M : List HP), St w0 W M → Calls Try.prog 17 #[.agg #[.int .u8 k, .int .i64 e, .int .i64 0, .int .i64 0, .int .i64 0, .int .i64 0, .slice none 0 0, .slice none 0 0, .int .i64 x]] W fun ee w' => ee = .returned (.int .i64 E) ∧ St w0 w' M)) :
  Calls Try.prog 20 #[.string (YtkhcdichdnbcmaaR.Ext.mkB l)] w fun ee w' => ee = .returned (.tuple #[.agg #[.int .u8 k, .int .i64 e, .int .i64 0, .int .i64 0, .int .i64 0, .int .i64 0, .slice none 0 0, .slice none 0 0, .int .i64 x], .int .i64 0]) ∧ St w0 w' L := by
 have hcv : IntKind.u8.wrap k = k := by unfold IntKind.wrap; simp [IntKind.bits, IntKind.signed]; omega
 clear hk
 have hk1 : (k == 1) = false := beq_eq_false_iff_ne.mpr hne
 have hk2 : decide (k = 1) = false := decide_eq_false hne
 have hk3 : (k = 1) = False := eq_false hne
 clear hne
 have g1 : ((YtkhcdichdnbcmaaR.Ext.mkB r3).toList == ([] : List UInt8)) = true := by rw [toList_mkB]; subst hr; rfl
 have g2 : ((YtkhcdichdnbcmaaR.Ext.mkB r3).toList != ([] : List UInt8)) = false := by rw [toList_mkB]; subst hr; rfl
 clear hr
 have g3 : (E != 0) = false := by subst hE; rfl
 clear hE
 have hsz := mkB_size l
 have f1 : decide (1024 < ((YtkhcdichdnbcmaaR.Ext.mkB l).size : Int)) = false := decide_eq_false (by rw [hsz]; omega)
 have f2 : decide (1024 < (YtkhcdichdnbcmaaR.Ext.mkB l).size) = false := decide_eq_false (by rw [hsz]; omega)
 have f3 : (1024 < (YtkhcdichdnbcmaaR.Ext.mkB l).size) = False := eq_false (by rw [hsz]; omega)
 clear hsz hl
 have s0 := h.alloc #[.int .u8 0, .int .i64 0, .int .i64 0, .int .i64 0, .int .i64 0, .int .i64 0, .slice none 0 0, .slice none 0 0, .int .i64 0] tCm
 clear h
 have S0 := Lib.hid s0
 clear s0
 go_enter Try.func20, Try.ntmps20
 go_wp2_with fail
 generalize w.heap.size = b2 at *
 refine (H1.out _ _ S0.out).mono ?_
 rintro ee w1 ⟨rfl, s1⟩
 clear S0 H1 f1 f2 f3
 have s2 := s1.alloc #[.int .u8 k, .int .i64 0, .int .i64 0, .int .i64 0, .int .i64 0, .int .i64 0, .slice none 0 0, .slice none 0 0, .int .i64 0] tCm
 clear s1
 have S2 := Lib.hid s2
 clear s2
 go_wp2_with fail
 generalize w1.heap.size = b7 at *
 refine (H2.out _ _ S2.out).mono ?_
 rintro ee w2 ⟨rfl, s3⟩
 clear S2 H2
 have hcb7 := s3.cells
 have hfb7 := s3.free
 have s4 := s3.setb 1 (.int .i64 e) rfl
 clear s3
 have S4 := Lib.hid s4
 clear s4
 go_wp2_with fail
 refine (H3.out _ _ S4.out).mono ?_
 rintro ee w3 ⟨rfl, s5⟩
 clear S4 H3 hcb7 hfb7
 have hc5 := s5.cells
 have hf5 := s5.free
 have s6 := s5.setb 8 (.int .i64 x) rfl
 clear s5
 have S6 := Lib.hid s6
 clear s6
 go_wp2_with fail
 refine (HC.out _ _ S6.out).mono ?_
 rintro ee w5 ⟨rfl, s7⟩
 clear S6 hc5 hf5 HC
 have hc7 := s7.cells
 have s8 := s7.pick 1
 simp only [List.getElem_cons_succ, List.getElem_cons_zero, List.eraseIdx_cons_succ, List.eraseIdx_cons_zero] at s8
 have S8 := Lib.hid s8
 clear s7 s8
 go_wp2_with (first | ((with_reducible refine wpList_storeSt S8.out rfl _ _ 29 rfl 0 #[.int .u8 k, .int .i64 e, .int .i64 0, .int .i64 0, .int .i64 0, .int .i64 0, .slice none 0 0, .slice none 0 0, .int .i64 x] #[.int .u8 k, .int .i64 e, .int .i64 0, .int .i64 0, .int .i64 0, .int .i64 0, .slice none 0 0, .slice none 0 0, .int .i64 x] size_cmd ?hn ?hx ?hv ?hf ?h1 ?he ?_); (case hn => rfl); (case hx => rfl); (case hv => rfl); (case hf => simp); (case h1 => simp [Value.oneCell']); (case he => rfl); intro wz sz; have hcz := sz.cells; have hfz := sz.free; have SZ := Lib.hid sz; clear sz) | fail)
 refine bodyPost_ret (v := .tuple #[.agg #[.int .u8 k, .int .i64 e, .int .i64 0, .int .i64 0, .int .i64 0, .int .i64 0, .slice none 0 0, .slice none 0 0, .int .i64 x], .int .i64 0]) (by simp [results, Try.results20, go_sem, hcz]) rfl ?_
 exact ⟨rfl, SZ.out.drop.drop⟩
theorem chk9_nil {w0 w : World} {L : List HP} (k e id : Int) (h : St w0 w L) (r : Int) (hr : Sp.cmdE ⟨k, e, zSP, id⟩ = r) :
  Calls Try.prog 17 #[.agg #[.int .u8 k, .int .i64 e, .int .i64 0, .int .i64 0, .int .i64 0, .int .i64 0, .slice none 0 0, .slice none 0 0, .int .i64 id]] w fun e w' => e = .returned (.int .i64 r) ∧ St w0 w' L := by
 refine (cmd_Check.calls k e 0 0 0 0 none 0 [] none 0 [] id r w (Kd.C_nil _ _) (Nat.le_refl _) (Kd.C_nil _ _) (Nat.le_refl _) (by unfold cmd_Check.f; rw [← hr]; rfl)).mono ?_
 rintro e w' ⟨rfl, hb⟩
 exact ⟨rfl, h.more hb⟩
theorem back_map (l : List TS) : (l.map ofTS).map toTS = l := by
 rw [List.map_map]
 have : (toTS ∘ ofTS) = id := by funext x; rfl
 rw [this, List.map_id]
theorem spOf_of (s : SP) : spOf s.id s.cpu s.mem s.disk s.ports (s.tasks.map ofTS) = s := by unfold spOf; rw [back_map]
def Dec9 (w0 : World) (L : List HP) (x : CM) (er : Int) (ee : Ending) (w' : World) : Prop := ∃ A B n m p q, ee = .returned (.tuple #[.agg #[.int .u8 x.kind, .int .i64 x.epoch, .int .i64 x.spec.id, .int .i64 x.spec.cpu, .int .i64 x.spec.mem, .int .i64 x.spec.disk, .slice A n p, .slice B m q, .int .i64 x.id], .int .i64 er]) ∧ St w0 w' (RI (.slice A n p) x.spec.ports :: RT (.slice B m q) (x.spec.tasks.map ofTS) :: L)
theorem Dec9.zero {w0 w' : World} {L : List HP} {er : Int} {ee : Ending} (h : ee = .returned (.tuple #[.agg #[.int .u8 0, .int .i64 0, .int .i64 0, .int .i64 0, .int .i64 0, .int .i64 0, .slice none 0 0, .slice none 0 0, .int .i64 0], .int .i64 er]) ∧ St w0 w' L) : Dec9 w0 L zCM er ee w' := by
 obtain ⟨rfl, s⟩ := h
 exact ⟨none, none, 0, 0, 0, 0, rfl, St.rowKNil (flat_int _) (St.rowKNil kX_flat s)⟩
theorem tailP_1 (l : List UInt8) : tailP 1 l = (decS l).map fun x => ((x.1, 0), x.2) := rfl
theorem dec9 {w0 w : World} {L : List HP} (l : List UInt8) (x : CM) (er : Int) (hx : decCR l = (x, er)) (h : St w0 w L) : Calls Try.prog 20 #[.string (YtkhcdichdnbcmaaR.Ext.mkB l)] w (Dec9 w0 L x er) := by
 by_cases hl : 1024 < l.length
 ·unfold decCR at hx
  rw [if_pos hl] at hx
  obtain ⟨rfl, rfl⟩ := Prod.mk.inj hx
  exact (cdec_long l h hl).mono fun _ _ => Dec9.zero
 have hl : l.length ≤ 1024 := by omega
 have hx2 : (match decC l with | some (c, []) => (c, 0) | _ => (zCM, 4)) = (x, er) := by unfold decCR at hx; rw [if_neg (by omega)] at hx; exact hx
 clear hx
 unfold decC rdC wholeP headP seqP at hx2
 have ht : ∀ most : Int, ∀ l, numT most l = match numL most l with | some (n, r) => (n, r, true) | none => (0, [], false) := fun _ _ => rfl
 have N3 := fun (n : Int) (r : List UInt8) (o : Bool) (hq : numT 3 l = (n, r, o)) => Lib.hid (fun (W : World) (M : List HP) (hs : St w0 W M) => number_s 3 (by omega) (by omega) l n r o hq hs)
 cases h1 : numL 3 l with
 | none =>
  rw [h1] at hx2
  simp only [Option.bind_none, Option.map_none] at hx2
  obtain ⟨rfl, rfl⟩ := Prod.mk.inj hx2
  exact (cdec_k l h hl (N3 _ _ _ (by rw [ht, h1]))).mono fun _ _ => Dec9.zero
 | some y =>
  obtain ⟨k, r1⟩ := y
  rw [h1] at hx2
  have hk := ((num_codec (most := 3) (by omega) _ _ _).1 h1).1
  have N4 := fun (n : Int) (r : List UInt8) (o : Bool) (hq : numT 1099511627776 r1 = (n, r, o)) => Lib.hid (fun (W : World) (M : List HP) (hs : St w0 W M) => number_s 1099511627776 (by omega) (by omega) r1 n r o hq hs)
  have N3 := N3 k r1 true (by rw [ht, h1])
  simp only [Option.bind_some] at hx2
  cases h2 : numL 1099511627776 r1 with
  | none =>
   rw [h2] at hx2
   simp only [Option.map_none, Option.bind_none] at hx2
   obtain ⟨rfl, rfl⟩ := Prod.mk.inj hx2
   exact (cdec_e l k r1 h hl hk N3 (N4 _ _ _ (by rw [ht, h2]))).mono fun _ _ => Dec9.zero
  | some y =>
   obtain ⟨e, r2⟩ := y
   rw [h2] at hx2
   have N4 := N4 e r2 true (by rw [ht, h2])
   simp only [Option.map_some, Option.bind_some] at hx2
   by_cases hk1 : k = 1
   ·subst hk1
    rw [tailP_1] at hx2
    cases h3 : decS r2 with
    | none =>
     rw [h3] at hx2
     simp only [Option.map_none, Option.bind_none] at hx2
     obtain ⟨rfl, rfl⟩ := Prod.mk.inj hx2
     have hd : decR r2 = (⟨0, 0, 0, 0, [], []⟩, [], 4) := by unfold decR; rw [h3]; rfl
     exact (cdec_ps l r1 r2 [] e 0 0 0 0 4 [] [] h hl N3 N4 (by omega) (Lib.hid (fun W M hs => dec_s r2 0 0 0 0 [] [] [] 4 hd hs))).mono fun _ _ => Dec9.zero
    | some y =>
     obtain ⟨⟨a, b, c, d, ps, ts⟩, r3⟩ := y
     rw [h3] at hx2
     simp only [Option.map_some, Option.bind_some, toCM] at hx2
     have hd : decR r2 = (⟨a, b, c, d, ps, ts⟩, r3, 0) := by unfold decR; rw [h3]
     have HD := Lib.hid (fun (W : World) (M : List HP) (hs : St w0 W M) => dec_s r2 a b c d ps ts r3 0 hd hs)
     by_cases hr : r3 = []
     ·subst hr
      have hc : ∀ (W : World) (M : List HP) (A B : Option Addr) (n m p q : Nat), St w0 W (RI (.slice A n p) ps :: RT (.slice B m q) (ts.map ofTS) :: M) → _ := fun W M A B n m p q hs => chk9_s 1 e a b c d 0 ps (ts.map ofTS) hs (cmdE ⟨1, e, ⟨a, b, c, d, ps, ts⟩, 0⟩) (by have := spOf_of ⟨a, b, c, d, ps, ts⟩; rw [show spOf a b c d ps (ts.map ofTS) = ⟨a, b, c, d, ps, ts⟩ from this])
      by_cases hE : cmdE ⟨1, e, ⟨a, b, c, d, ps, ts⟩, 0⟩ = 0
      ·rw [if_pos ((okC_iff _).2 hE)] at hx2
       obtain ⟨rfl, rfl⟩ := Prod.mk.inj hx2
       exact cdec_pok l r1 r2 [] e a b c d 0 ps (ts.map ofTS) _ h hl N3 N4 rfl rfl hE HD (Lib.hid hc)
      ·rw [if_neg (fun q => hE ((okC_iff _).1 q))] at hx2
       obtain ⟨rfl, rfl⟩ := Prod.mk.inj hx2
       exact (cdec_pc l r1 r2 [] e a b c d 0 ps (ts.map ofTS) _ h hl N3 N4 rfl rfl hE HD (Lib.hid hc)).mono fun _ _ => Dec9.zero
     ·have hx3 : (zCM, (4 : Int)) = (x, er) := by
       rw [← hx2]
       split
       ·rename_i heq
        split at heq
        ·injection heq with heq
         injection heq with _ heq
         exact absurd heq hr
        ·cases heq
       ·rfl
      obtain ⟨rfl, rfl⟩ := Prod.mk.inj hx3
      exact (cdec_pr l r1 r2 r3 e a b c d 0 ps (ts.map ofTS) h hl N3 N4 rfl hr HD).mono fun _ _ => Dec9.zero
   ·have htp : tailP k r2 = (numL 2147483648 r2).map fun x => ((zSP, x.1), x.2) := by unfold tailP; rw [if_neg hk1]
    rw [htp] at hx2
    have N5 := fun (n : Int) (r : List UInt8) (o : Bool) (hq : numT 2147483648 r2 = (n, r, o)) => Lib.hid (fun (W : World) (M : List HP) (hs : St w0 W M) => number_s 2147483648 (by omega) (by omega) r2 n r o hq hs)
    cases h3 : numL 2147483648 r2 with
    | none =>
     rw [h3] at hx2
     simp only [Option.map_none, Option.bind_none] at hx2
     obtain ⟨rfl, rfl⟩ := Prod.mk.inj hx2
     exact (cdec_in l r1 r2 [] k e 0 h hl hk hk1 N3 N4 (N5 _ _ _ (by rw [ht, h3]))).mono fun _ _ => Dec9.zero
    | some y =>
     obtain ⟨i, r3⟩ := y
     rw [h3] at hx2
     simp only [Option.map_some, Option.bind_some, toCM] at hx2
     have N5 := N5 i r3 true (by rw [ht, h3])
     by_cases hr : r3 = []
     ·subst hr
      have hc := fun (W : World) (M : List HP) (hs : St w0 W M) => chk9_nil k e i hs (cmdE ⟨k, e, zSP, i⟩) rfl
      by_cases hE : cmdE ⟨k, e, zSP, i⟩ = 0
      ·rw [if_pos ((okC_iff _).2 hE)] at hx2
       obtain ⟨rfl, rfl⟩ := Prod.mk.inj hx2
       refine (cdec_iok l r1 r2 [] k e i _ h hl hk hk1 N3 N4 N5 rfl hE (Lib.hid hc)).mono ?_
       rintro ee w' ⟨rfl, s⟩
       exact ⟨none, none, 0, 0, 0, 0, rfl, St.rowKNil (flat_int _) (St.rowKNil kX_flat s)⟩
      ·rw [if_neg (fun q => hE ((okC_iff _).1 q))] at hx2
       obtain ⟨rfl, rfl⟩ := Prod.mk.inj hx2
       exact (cdec_ic l r1 r2 [] k e i _ h hl hk hk1 N3 N4 N5 rfl hE (Lib.hid hc)).mono fun _ _ => Dec9.zero
     ·have hx3 : (zCM, (4 : Int)) = (x, er) := by
       rw [← hx2]
       split
       ·rename_i heq
        split at heq
        ·injection heq with heq
         injection heq with _ heq
         exact absurd heq hr
        ·cases heq
       ·rfl
      obtain ⟨rfl, rfl⟩ := Prod.mk.inj hx3
      exact (cdec_ir l r1 r2 r3 k e i h hl hk hk1 N3 N4 N5 hr).mono fun _ _ => Dec9.zero
end Go.Proofs.YtkhcdichdnbcmaaR
end
section
namespace Go.Proofs.YtkhcdichdnbcmaaR.PureC
open Go.RowKit Go.Proofs.YtkhcdichdnbcmaaR Go.Proofs.YtkhcdichdnbcmaaR.Ext Go.Proofs.YtkhcdichdnbcmaaR.C Go.Proofs.YtkhcdichdnbcmaaRW.PrintWords Go.Proofs.YtkhcdichdnbcmaaRW.PrintLast Go.Proofs.YtkhcdichdnbcmaaRW.PrintMore
open Go.Proofs.YtkhcdichdnbcmaaR.Sp
set_option linter.unusedVariables false
set_option linter.unusedSimpArgs false
theorem w1 {i : Nat} (h : i ≤ 1000) : wrap64 ((i : Int) + 1) = ((i + 1 : Nat) : Int) := by unfold wrap64; omega
theorem rd_at (l : List Int) (i : Nat) (h : i < l.length) : rd l (i : Int) = l[i] := by simp [rd, h]
theorem rdT_at (l : List (S90)) (i : Nat) (h : i < l.length) : rd_T90 l (i : Int) = l[i] := by simp [rd_T90, h]
theorem drop_y {α : Type} (xs ys : List α) (i : Nat) (hx : i < xs.length) (hy : i < ys.length) (h : xs[i] = ys[i]) : (xs.drop i = ys.drop i) ↔ (xs.drop (i + 1) = ys.drop (i + 1)) := by
 rw [List.drop_eq_getElem_cons hx, List.drop_eq_getElem_cons hy, List.cons.injEq]; exact ⟨fun q => q.2, fun q => ⟨h, q⟩⟩
theorem drop_n {α : Type} (xs ys : List α) (i : Nat) (hx : i < xs.length) (hy : i < ys.length) (h : ¬ xs[i] = ys[i]) : ¬ (xs.drop i = ys.drop i) := by
 rw [List.drop_eq_getElem_cons hx, List.drop_eq_getElem_cons hy, List.cons.injEq]; exact fun q => h q.1
theorem eqInts_l0 (xs ys : List Int) (hl : xs.length = ys.length) (hm : xs.length ≤ 1000) (d : Nat) : ∀ k i : Nat, i + d = xs.length → d < k → sacristankit_EqualInts.l0 k xs ys i = some (decide (xs.drop i = ys.drop i)) := by
 induction d with
 | zero =>
  intro k i hi hk
  obtain ⟨k, rfl⟩ : ∃ m, k = m + 1 := ⟨k - 1, by omega⟩
  simp only [sacristankit_EqualInts.l0]
  rw [if_neg (by omega), List.drop_eq_nil_of_le (by omega), List.drop_eq_nil_of_le (by omega)]
  simp
 | succ d ih =>
  intro k i hi hk
  obtain ⟨k, rfl⟩ : ∃ m, k = m + 1 := ⟨k - 1, by omega⟩
  simp only [sacristankit_EqualInts.l0]
  rw [if_pos (by omega), if_pos (by omega), if_pos (by omega), rd_at xs i (by omega), rd_at ys i (by omega)]
  by_cases h : xs[i] = ys[i]
  ·rw [if_pos h, w1 (by omega), ih k (i + 1) (by omega) (by omega), decide_eq_decide.2 (drop_y xs ys i (by omega) (by omega) h)]
  ·rw [if_neg h, decide_eq_false (drop_n xs ys i (by omega) (by omega) h)]
theorem eqInts (k : Nat) (xs ys : List Int) (hm : xs.length ≤ 1000) (hk : xs.length < k) : sacristankit_EqualInts.f k xs ys = some (decide (xs = ys)) := by
 unfold sacristankit_EqualInts.f
 by_cases h : xs.length = ys.length
 ·rw [if_pos (by omega)]
  have := eqInts_l0 xs ys h hm xs.length k 0 (by omega) hk
  simpa using this
 ·rw [if_neg (by omega)]
  have : ¬ xs = ys := fun e => h (by rw [e])
  simp [this]
theorem cond_ne (x y : S90) : ((!(x.f0.f0 == y.f0.f0) || (!(x.f0.f1 == y.f0.f1) || (!(x.f0.f2 == y.f0.f2) || (!(x.f0.f3 == y.f0.f3) || (!(x.f0.f4 == y.f0.f4)))))) || (!(x.f1 == y.f1))) = !decide (toTS x = toTS y) := by
 rw [Bool.eq_iff_iff]
 simp [toTS, -Bool.not_eq_eq_eq_not]
 grind
theorem eqTs_l0 (xs ys : List (S90)) (hl : xs.length = ys.length) (hm : xs.length ≤ 1000) (d : Nat) : ∀ k i : Nat, i + d = xs.length → d < k → sacristankit_EqualTaskSpecs.l0 k xs ys i = some (decide ((xs.drop i).map toTS = (ys.drop i).map toTS)) := by
 induction d with
 | zero =>
  intro k i hi hk
  obtain ⟨k, rfl⟩ : ∃ m, k = m + 1 := ⟨k - 1, by omega⟩
  simp only [sacristankit_EqualTaskSpecs.l0]
  rw [if_neg (by omega), List.drop_eq_nil_of_le (by omega), List.drop_eq_nil_of_le (by omega)]
  simp
 | succ d ih =>
  intro k i hi hk
  obtain ⟨k, rfl⟩ : ∃ m, k = m + 1 := ⟨k - 1, by omega⟩
  simp only [sacristankit_EqualTaskSpecs.l0]
  rw [if_pos (by omega), if_pos (by omega), if_pos (by omega), cond_ne, rdT_at xs i (by omega), rdT_at ys i (by omega)]
  by_cases h : toTS xs[i] = toTS ys[i]
  ·rw [if_neg (by simp [h]), w1 (by omega), ih k (i + 1) (by omega) (by omega), List.map_drop, List.map_drop, List.map_drop, List.map_drop, decide_eq_decide.2 (drop_y (xs.map toTS) (ys.map toTS) i (by rw [List.length_map]; omega) (by rw [List.length_map]; omega) (by simpa using h))]
  ·rw [if_pos (by simp [h]), List.map_drop, List.map_drop, decide_eq_false (drop_n (xs.map toTS) (ys.map toTS) i (by rw [List.length_map]; omega) (by rw [List.length_map]; omega) (by simpa using h))]
theorem eqTs (k : Nat) (xs ys : List (S90)) (hm : xs.length ≤ 1000) (hk : xs.length < k) : sacristankit_EqualTaskSpecs.f k xs ys = some (decide (xs.map toTS = ys.map toTS)) := by
 unfold sacristankit_EqualTaskSpecs.f
 by_cases h : xs.length = ys.length
 ·rw [if_pos (by omega)]
  have := eqTs_l0 xs ys h hm xs.length k 0 (by omega) hk
  simpa using this
 ·rw [if_neg (by omega)]
  have : ¬ xs.map toTS = ys.map toTS := fun e => h (by have := congrArg List.length e; simpa using this)
  simp [this]
theorem spOf_eq (a b c d a' b' c' d' : Int) (l l' : List Int) (m m' : List (S90)) : (spOf a b c d l m = spOf a' b' c' d' l' m') ↔ a = a' ∧ (b = b' ∧ c = c' ∧ d = d') ∧ l = l' ∧ m.map toTS = m'.map toTS := by
 unfold spOf
 simp only [SP.mk.injEq]
 constructor
 ·rintro ⟨h1, h2, h3, h4, h5, h6⟩; exact ⟨h1, ⟨h2, h3, h4⟩, h5, h6⟩
 ·rintro ⟨h1, ⟨h2, h3, h4⟩, h5, h6⟩; exact ⟨h1, h2, h3, h4, h5, h6⟩
theorem eqSpec (k : Nat) (a b c d a' b' c' d' : Int) (l l' : List Int) (m m' : List (S90)) (h1 : l.length ≤ 1000) (h2 : m.length ≤ 1000) (k1 : l.length < k) (k2 : m.length < k) :
  sacristankit_EqualSpec.f k a b c d l m a' b' c' d' l' m' = some (decide (spOf a b c d l m = spOf a' b' c' d' l' m')) := by
 unfold sacristankit_EqualSpec.f
 rw [eqInts k l l' h1 k1, eqTs k m m' h2 k2]
 simp only [Option.bind_some]
 by_cases q1 : a = a'
 ·by_cases q2 : (b == b' && (c == c' && (d == d'))) = true
  ·rw [if_pos q1, if_pos q2]
   simp only [Bool.and_eq_true, beq_iff_eq] at q2
   by_cases q3 : l = l'
   ·simp [spOf_eq, q1, q2, q3]
   ·simp [spOf_eq, q1, q2, q3]
  ·rw [if_pos q1, if_neg q2]
   simp only [Bool.and_eq_true, beq_iff_eq] at q2
   have : ¬ spOf a b c d l m = spOf a' b' c' d' l' m' := fun e => q2 ((spOf_eq _ _ _ _ _ _ _ _ _ _ _ _).1 e).2.1
   simp [this]
 ·rw [if_neg q1]
  have : ¬ spOf a b c d l m = spOf a' b' c' d' l' m' := fun e => q1 ((spOf_eq _ _ _ _ _ _ _ _ _ _ _ _).1 e).1
  simp [this]
theorem mn_nat (n m : Nat) : mn (n : Int) (m : Int) = ((min n m : Nat) : Int) := by unfold mn; split <;> omega
theorem few (a b c d : Int) (l : List Int) (m : List (S90)) : sacristanlaw13_Few.f a b c d l m = some (a, b, c, d, l.take 20, m.take 10) := by
 unfold sacristanlaw13_Few.f
 have e1 := mn_nat l.length 20
 have e2 := mn_nat m.length 10
 have e1 : mn (l.length : Int) 20 = ((min l.length 20 : Nat) : Int) := e1
 have e2 : mn (m.length : Int) 10 = ((min m.length 10 : Nat) : Int) := e2
 rw [e1, e2, if_pos (by omega), if_pos (by omega), Int.toNat_natCast, Int.toNat_natCast]
 have t1 : l.take (min l.length 20) = l.take 20 := by rw [List.take_eq_take_iff]; omega
 have t2 : m.take (min m.length 10) = m.take 10 := by rw [List.take_eq_take_iff]; omega
 rw [t1, t2]
 unfold sacristankit_CopyInts.f sacristankit_CopyTaskSpecs.f
 rw [if_pos (by rw [List.length_take]; omega), Option.bind_some, if_pos (by omega), if_pos (by omega), if_pos (by simp; omega), Option.bind_some]
 simp
theorem eqCmd (k : Nat) (x0 x1 a b c d x8 y0 y1 a' b' c' d' y8 : Int) (l l' : List Int) (m m' : List (S90)) (h1 : l.length ≤ 1000) (h2 : m.length ≤ 1000) (k1 : l.length < k) (k2 : m.length < k) :
  sacristankit_EqualCommand.f k x0 x1 a b c d l m x8 y0 y1 a' b' c' d' l' m' y8 = some (decide ((⟨x0, x1, spOf a b c d l m, x8⟩ : CM) = ⟨y0, y1, spOf a' b' c' d' l' m', y8⟩)) := by
 unfold sacristankit_EqualCommand.f
 rw [eqSpec k a b c d a' b' c' d' l l' m m' h1 h2 k1 k2]
 simp only [Option.bind_some, CM.mk.injEq]
 grind
end Go.Proofs.YtkhcdichdnbcmaaR.PureC
namespace Go.Proofs.YtkhcdichdnbcmaaR
open Go.RowKit Go.Proofs.YtkhcdichdnbcmaaR Go.Proofs.YtkhcdichdnbcmaaR.Ext Go.Proofs.YtkhcdichdnbcmaaR.C Go.Proofs.YtkhcdichdnbcmaaR.Sp Go.Proofs.YtkhcdichdnbcmaaRW.PrintWords Go.Proofs.YtkhcdichdnbcmaaRW.PrintLast
set_option linter.unusedVariables false
set_option linter.unusedSimpArgs false
theorem few_a {w0 w : World} {L : List HP} (a b c d : Int) {A B : Option Addr} {n m p q : Nat} (ps : List Int) (ts : List TX) (c1 : Kd.C (Kd.int .i64) w0 A ps.length ps) (e1 : n = ps.length) (l1 : n ≤ p) (c2 : Kd.C k90 w0 B ts.length ts) (e2 : m = ts.length) (l2 : m ≤ q) : FewOf w0 L a b c d A B n m p q (ps.take 20) (ts.take 10) := by
 intro W P Q h
 subst e1; subst e2
 refine (sacristanlaw13_Few.calls a b c d A p ps B q ts _ _ _ _ _ _ W (Kd.C_below c1 h.bel) l1 (Kd.C_below c2 h.bel) l2 (PureC.few a b c d ps ts)).mono ?_
 rintro e w' ⟨v4, v5, rfl, h4, h5, hb⟩
 obtain ⟨A, n, c, rfl⟩ := R_slice3 h4
 obtain ⟨B, m, d, rfl⟩ := R_slice3 h5
 exact ⟨A, B, c, d, n, m, rfl, h.rows2 (flat_int _) kX_flat (by decide) hb h4 h5⟩
theorem equ9_n {w0 w : World} {L : List HP} (x0 x1 a b c d x8 y0 y1 y8 : Int) {A B : Option Addr} {n m p q : Nat} (ps : List Int) (ts : List TX) (hp : ps.length ≤ 1000) (ht : ts.length ≤ 1000) (r : Bool) (hr : decide ((⟨x0, x1, spOf a b c d ps ts, x8⟩ : CM) = ⟨y0, y1, zSP, y8⟩) = r)
  (h : St w0 w (RI (.slice A n p) ps :: RT (.slice B m q) ts :: L)) :
  Calls Try.prog 19 #[.agg #[.int .u8 x0, .int .i64 x1, .int .i64 a, .int .i64 b, .int .i64 c, .int .i64 d, .slice A n p, .slice B m q, .int .i64 x8], .agg #[.int .u8 y0, .int .i64 y1, .int .i64 0, .int .i64 0, .int .i64 0, .int .i64 0, .slice none 0 0, .slice none 0 0, .int .i64 y8]] w fun e w' => e = .returned (.bool r) ∧ St w0 w' (RI (.slice A n p) ps :: RT (.slice B m q) ts :: L) := by
 obtain ⟨c1, e1, l1⟩ := h.rowKC
 obtain ⟨c2, e2, l2⟩ := (h.pick 1).rowKC
 subst e1; subst e2; subst hr
 refine (sacristankit_EqualCommand.calls 1001 x0 x1 a b c d A p ps B q ts x8 y0 y1 0 0 0 0 none 0 [] none 0 [] y8 _ w c1 l1 c2 l2 (Kd.C_nil _ _) (Nat.le_refl _) (Kd.C_nil _ _) (Nat.le_refl _) (PureC.eqCmd 1001 _ _ _ _ _ _ _ _ _ _ _ _ _ _ _ _ _ _ hp ht (by omega) (by omega))).mono ?_
 rintro e w' ⟨rfl, hb⟩
 exact ⟨rfl, h.more hb⟩
def zeros (n : Nat) : List UInt8 := List.replicate n 0
theorem conv_zeros (n : Nat) (w : World) (t : Nat) (hn : n ≤ 100000) : (convert 46 9 (.slice (some ⟨w.heap.size, 0, none⟩) n n)).run Try.prog (w.alloc (.cells (Array.replicate n (.int .u8 0)) t)) = .ok (.string (YtkhcdichdnbcmaaR.Ext.mkB (zeros n))) (w.alloc (.cells (Array.replicate n (.int .u8 0)) t)) := by
 have q : strOfNums (List.replicate n 0) = YtkhcdichdnbcmaaR.Ext.mkB (zeros n) := by
  unfold strOfNums zeros
  simp
  rfl
 rw [← q]
 refine string_of_reads (e := 5) Try.underlying46 Try.underlying5 Try.underlying9 ⟨by simp, by omega, fun _ => ⟨_, rfl, fun j hj => ?_⟩⟩
 rw [add_plain, World.cell?_alloc_new]
 simp [hj]
theorem info_u8 : (Try.prog.info? 5).map (fun i => (i.zero, i.size, i.bytes)) = some (some (.int .u8 0), 1, 1) := by kernel_rfl
theorem make_zeros (n : Nat) (hn : n ≤ 100000) (w : World) : (Instr.makeSlice 46 (.int .i64 n) (.int .i64 n)).run Try.prog w = .ok (.slice (some ⟨w.heap.size, 0, none⟩) n n) (w.alloc (.cells (Array.replicate n (.int .u8 0)) 5)) := by
 have hi := info_u8
 cases hj : Try.prog.info? 5 with
 | none => rw [hj] at hi; cases hi
 | some i =>
  rw [hj] at hi
  simp only [Option.map_some, Option.some.injEq, Prod.mk.injEq] at hi
  have q := run_make (P := Try.prog) w 46 5 i (.int .u8 0) Try.underlying46 hj hi.1 .i64 .i64 n n (by omega) (by omega) (by rw [hi.2.2]; omega) (by omega)
  rw [q, hi.2.1, Int.toNat_natCast]
  have e : madeCells (Value.int .u8 0).cells (n * 1) = Array.replicate n (.int .u8 0) := by
   apply Array.toList_inj.1
   rw [Nat.mul_one]
   exact (toList_madeCells_one _ _).trans (by simp)
  rw [e]
end Go.Proofs.YtkhcdichdnbcmaaR
end
section
namespace Go.Proofs.YtkhcdichdnbcmaaR
open Go.RowKit Go.Proofs.YtkhcdichdnbcmaaR Go.Proofs.YtkhcdichdnbcmaaR.Ext Go.Proofs.YtkhcdichdnbcmaaR.C Go.Proofs.YtkhcdichdnbcmaaR.Sp Go.Proofs.YtkhcdichdnbcmaaRW.PrintWords Go.Proofs.YtkhcdichdnbcmaaRW.PrintLast
set_option linter.unusedVariables false
set_option linter.unusedSimpArgs false
theorem enc9_nil {w0 w : World} {L : List HP} (k e id : Int) (h : St w0 w L) (x : List UInt8) (r : Int) (hx : Sp.encCR ⟨k, e, zSP, id⟩ = x) (hr : Sp.cmdE ⟨k, e, zSP, id⟩ = r) :
  Calls Try.prog 13 #[.agg #[.int .u8 k, .int .i64 e, .int .i64 0, .int .i64 0, .int .i64 0, .int .i64 0, .slice none 0 0, .slice none 0 0, .int .i64 id]] w fun e w' => e = .returned (.tuple #[.string (YtkhcdichdnbcmaaR.Ext.mkB x), .int .i64 r]) ∧ St w0 w' L := by
 subst hx; subst hr
 refine (cmd_Encode.calls k e 0 0 0 0 none 0 [] none 0 [] id _ _ w (Kd.C_nil _ _) (Nat.le_refl _) (Kd.C_nil _ _) (Nat.le_refl _) rfl).mono ?_
 rintro e w' ⟨rfl, hb⟩
 exact ⟨rfl, h.more hb⟩
theorem dec9c {w0 w : World} {L : List HP} (l : List UInt8) (k e a b c d : Int) (ps : List Int) (ts : List TS) (id er : Int) (hx : decCR l = (⟨k, e, ⟨a, b, c, d, ps, ts⟩, id⟩, er)) (h : St w0 w L) : Calls Try.prog 20 #[.string (YtkhcdichdnbcmaaR.Ext.mkB l)] w fun ee w' => ∃ A B n m p q, ee = .returned (.tuple #[.agg #[.int .u8 k, .int .i64 e, .int .i64 a, .int .i64 b, .int .i64 c, .int .i64 d, .slice A n p, .slice B m q, .int .i64 id], .int .i64 er]) ∧ St w0 w' (RI (.slice A n p) ps :: RT (.slice B m q) (ts.map ofTS) :: L) := dec9 l _ er hx h
theorem aw_enc : Sp.encCR ⟨2, 3, zSP, 7⟩ = [2, 3, 7] := by decide +kernel
theorem aw_dec : decCR [2, 3, 7] = (⟨2, 3, ⟨0, 0, 0, 0, [], []⟩, 7⟩, 0) := by decide +kernel
theorem aw_bad : decCR [2, 3, 7, 120] = (⟨0, 0, ⟨0, 0, 0, 0, [], []⟩, 0⟩, 4) := by decide +kernel
theorem aw_long (n : Nat) (hn : 1024 < n) : decCR (zeros n) = (⟨0, 0, ⟨0, 0, 0, 0, [], []⟩, 0⟩, 5) := by
 unfold decCR zeros
 rw [if_pos (by simp; omega)]
 rfl
set_option maxRecDepth 100000 in
set_option maxHeartbeats 4000000 in
theorem awake18 {w0 w : World} {L : List HP} (h : St w0 w L) : Calls Try.prog 15 #[] w fun e w' => e = .returned (.bool true) ∧ St w0 w' L := by
 have hx1 : YtkhcdichdnbcmaaR.Ext.mkB [2, 3, 7] ++ (⟨#[120]⟩ : ByteArray) = YtkhcdichdnbcmaaR.Ext.mkB [2, 3, 7, 120] := rfl
 have hx2 : (YtkhcdichdnbcmaaR.Ext.mkB [2, 3, 7]).size = 3 := rfl
 have hx3 : (⟨#[120]⟩ : ByteArray).size = 1 := rfl
 have hv2 := var_c 2 (by omega)
 have hv3 := var_c 3 (by omega)
 have hv7 := var_c 7 (by omega)
 rw [show Pk.varL 2 = [2] by decide +kernel] at hv2
 rw [show Pk.varL 3 = [3] by decide +kernel] at hv3
 rw [show Pk.varL 7 = [7] by decide +kernel] at hv7
 have HV := Lib.hid (And.intro hv2 (And.intro hv3 hv7))
 clear hv2 hv3 hv7
 have hy1 : YtkhcdichdnbcmaaR.Ext.mkB [2] ++ YtkhcdichdnbcmaaR.Ext.mkB [3] = YtkhcdichdnbcmaaR.Ext.mkB [2, 3] := rfl
 have hy2 : YtkhcdichdnbcmaaR.Ext.mkB [2, 3] ++ YtkhcdichdnbcmaaR.Ext.mkB [7] = YtkhcdichdnbcmaaR.Ext.mkB [2, 3, 7] := rfl
 have hy3 : (YtkhcdichdnbcmaaR.Ext.mkB [2]).size = 1 := rfl
 have hy4 : (YtkhcdichdnbcmaaR.Ext.mkB [3]).size = 1 := rfl
 have hy5 : (YtkhcdichdnbcmaaR.Ext.mkB [7]).size = 1 := rfl
 have hy6 : (YtkhcdichdnbcmaaR.Ext.mkB [2, 3]).size = 2 := rfl
 have H := Lib.hid h
 clear h
 go_enter Try.func15, Try.ntmps15
 go_wp2_with fail
 refine (enc9_nil 2 3 7 H.out _ 0 aw_enc (by decide +kernel)).mono ?_
 rintro ee w1 ⟨rfl, s1⟩
 clear H
 have S1 := Lib.hid s1
 clear s1
 go_wp2_with fail
 refine (dec9c [2, 3, 7] _ _ _ _ _ _ _ _ _ _ aw_dec S1.out).mono ?_
 rintro ee w2 ⟨A, B, n, m, p, q, rfl, s2⟩
 clear S1
 have s3 := s2.alloc #[.int .u8 2, .int .i64 3, .int .i64 0, .int .i64 0, .int .i64 0, .int .i64 0, .slice A n p, .slice B m q, .int .i64 7] tCm
 clear s2
 have S3 := Lib.hid s3
 clear s3
 go_wp2_with fail
 generalize w2.heap.size = b3 at *
 refine (dec9c [2, 3, 7, 120] _ _ _ _ _ _ _ _ _ _ aw_bad S3.out).mono ?_
 rintro ee w3 ⟨A1, B1, n1, m1, p1, q1, rfl, s4⟩
 clear S3 hx1 hx2 hx3
 have s5 := (s4.drop.drop.alloc #[.int .u8 0, .int .i64 0, .int .i64 0, .int .i64 0, .int .i64 0, .int .i64 0, .slice A1 n1 p1, .slice B1 m1 q1, .int .i64 0] tCm).drop
 clear s4
 go_upto_region 4 with fail
 obtain ⟨wa, ha⟩ : ∃ wa, wa = w3.alloc (Obj.cells #[.int .u8 0, .int .i64 0, .int .i64 0, .int .i64 0, .int .i64 0, .int .i64 0, .slice A1 n1 p1, .slice B1 m1 q1, .int .i64 0] tCm) := ⟨_, rfl⟩
 rw [← ha] at s5 ⊢
 clear ha
 have hcv := conv_zeros 1025 wa 5 (by omega)
 have hmk : ∀ W, (Instr.makeSlice 46 (.int .i64 1025) (.int .i64 1025)).run Try.prog W = .ok (.slice (some ⟨W.heap.size, 0, none⟩) 1025 1025) (W.alloc (.cells (Array.replicate 1025 (.int .u8 0)) 5)) := fun W => make_zeros 1025 (by omega) W
 have s6 := (s5.alloc (Array.replicate 1025 (.int .u8 0)) 5).drop
 clear s5
 have S6 := Lib.hid s6
 clear s6
 go_wp2_with fail
 clear hcv hmk
 refine (dec9c (zeros 1025) _ _ _ _ _ _ _ _ _ _ (aw_long 1025 (by omega)) S6.out).mono ?_
 rintro ee w4 ⟨A2, B2, n2, m2, p2, q2, rfl, s7⟩
 clear S6
 have s8 := (s7.drop.drop.alloc #[.int .u8 0, .int .i64 0, .int .i64 0, .int .i64 0, .int .i64 0, .int .i64 0, .slice A2 n2 p2, .slice B2 m2 q2, .int .i64 0] tCm).drop
 clear s7
 have S8 := Lib.hid s8
 clear s8
 go_wp2_with fail
 refine (HV.out.1 _).mono ?_
 rintro ee w5 ⟨rfl, hb⟩
 have S9 := Lib.hid (S8.out.more hb)
 clear hb S8
 go_wp2_with fail
 refine (HV.out.2.1 _).mono ?_
 rintro ee w6 ⟨rfl, hb⟩
 have S10 := Lib.hid (S9.out.more hb)
 clear hb S9
 go_wp2_with fail
 refine (HV.out.2.2 _).mono ?_
 rintro ee w7 ⟨rfl, hb⟩
 have S11 := Lib.hid (S10.out.more hb)
 clear hb S10 HV
 have hc := S11.out.cells
 go_wp2_with fail
 have s12 := S11.out.pick 2
 simp only [List.getElem_cons_succ, List.getElem_cons_zero, List.eraseIdx_cons_succ, List.eraseIdx_cons_zero] at s12
 have s13 := s12.pick 2
 simp only [List.getElem_cons_succ, List.getElem_cons_zero, List.eraseIdx_cons_succ, List.eraseIdx_cons_zero] at s13
 refine (equ9_n 2 3 0 0 0 0 7 2 3 7 [] [] (by simp) (by simp) true (by decide +kernel) s13).mono ?_
 rintro ee w8 ⟨rfl, s14⟩
 clear s12 s13 S11 hc
 have S14 := Lib.hid s14.drop.drop.drop
 clear s14
 go_wp2_with fail
 refine (chk9_nil 0 0 0 S14.out 2 (by decide +kernel)).mono ?_
 rintro ee x0 ⟨rfl, s⟩
 clear S14
 have S15 := Lib.hid s
 clear s
 go_wp2_with fail
 refine (chk9_nil 2 (-1) 0 S15.out 3 (by decide +kernel)).mono ?_
 rintro ee x1 ⟨rfl, s⟩
 clear S15
 have S16 := Lib.hid s
 clear s
 go_wp2_with fail
 refine (chk9_nil 1 0 1 S16.out 2 (by decide +kernel)).mono ?_
 rintro ee x2 ⟨rfl, s⟩
 clear S16
 have S17 := Lib.hid s
 clear s
 go_wp2_with fail
 refine (chk9_nil 1 0 0 S17.out 2 (by decide +kernel)).mono ?_
 rintro ee x3 ⟨rfl, s⟩
 clear S17
 have S18 := Lib.hid s
 clear s
 go_wp2
 go_returns
 exact ⟨rfl, S18.out⟩
end Go.Proofs.YtkhcdichdnbcmaaR
end
