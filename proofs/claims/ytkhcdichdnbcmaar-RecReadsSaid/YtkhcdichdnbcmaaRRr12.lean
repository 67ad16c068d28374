/- Texts of this session, merged (wip/gen/shake.py). -/
import Derived.Test.YtkhcdichdnbcmaaRRr10
section
namespace Go.Proofs.YtkhcdichdnbcmaaR
open Go.RowKit Go.Proofs.YtkhcdichdnbcmaaR Go.Proofs.YtkhcdichdnbcmaaR.Ext Go.Proofs.YtkhcdichdnbcmaaR.C Go.Proofs.YtkhcdichdnbcmaaR.Sp Go.Proofs.YtkhcdichdnbcmaaRW.PrintWords Go.Proofs.YtkhcdichdnbcmaaRW.PrintLast
set_option linter.unusedVariables false
set_option linter.unusedSimpArgs false
set_option maxRecDepth 100000 in
set_option maxHeartbeats 8000000 in
theorem rdec15_C {w0 w : World} {L : List HP} (l : List UInt8) (kind f : Int) (us : Nat → Bool) (hasS hasC good : Bool) (R RR : Nat → List UInt8) (nn ne : Nat → Int) (cs : Nat → Array Value) (e id task tick wait pid nonce : Int)
  (a b c d er3 : Int) (ps : List Int) (ts : List TX) (r3 : List UInt8) (cd er4 : Int) (r4 : List UInt8) (E : Int) (Q : Ending → World → Prop) (hk : 0 ≤ kind ∧ kind ≤ 9)
  (H1 : Unv w0 l kind (R 0) 0) (hU : ∀ W M, St w0 W M → Calls Try.prog 36 #[.int .u8 kind] W fun ee w' => ee = .returned (.int .i64 f) ∧ St w0 w' M)
  (hC : AndB f 256 hasC) (hS : AndB f 2 hasS) (hSC : hasS = true → hasC = false) (hmode : hasS = false ∧ hasC = true) (hB : ∀ j, j < 7 → AndB f (bitJ j) (us j))
  (hUn : ∀ j, j < 7 → us j = true → (0 ≤ nn j ∧ nn j < 18446744073709551616) ∧ Unv w0 (R j) (nn j) (RR j) (ne j))
  (hR : ∀ j, j < 7 → R (j + 1) = if us j = true then RR j else R j)
  (hcs0 : cs 0 = #[.int .u8 kind, .int .i64 0, .int .i64 0, .int .i64 0, .int .i64 0, .int .i64 0, .slice none 0 0, .slice none 0 0, .int .i64 0, .int .i64 0, .int .i64 0, .int .i64 0, .int .i64 0, .int .i64 0, .int .i64 0]) (hcs : ∀ j, j < 7 → cs (j + 1) = if us j = true then (cs j).setIfInBounds (offJ j) (.int .i64 (nn j)) else cs j) (hcell : ∀ j, j < 7 → ∃ x, (cs j)[offJ j]? = some (.int .i64 x))
  (hcs7 : cs 7 = #[.int .u8 kind, .int .i64 e, .int .i64 0, .int .i64 0, .int .i64 0, .int .i64 0, .slice none 0 0, .slice none 0 0, .int .i64 id, .int .i64 task, .int .i64 tick, .int .i64 wait, .int .i64 pid, .int .i64 nonce, .int .i64 0])
  (hg1 : ∀ j, j < 7 → us j = true → (ne j ≠ 0 ∨ mostJ j < nn j) → good = false)
  (hD : hasS = true → ∀ W M, St w0 W M → Calls Try.prog 44 #[.string (YtkhcdichdnbcmaaR.Ext.mkB (R 7))] W fun ee w' => ∃ A B p q n m, ee = .returned (.tuple #[.agg #[.int .i64 a, .int .i64 b, .int .i64 c, .int .i64 d, .slice A n p, .slice B m q], .string (YtkhcdichdnbcmaaR.Ext.mkB r3), .int .i64 er3]) ∧ St w0 w' (RI (.slice A n p) ps :: RT (.slice B m q) ts :: M))
  (hI : hasC = true → Uni w0 (R 7) cd r4 er4) (hcd : hasC = false → cd = 0)
  (hg2 : hasS = true → er3 ≠ 0 ∨ r3 ≠ [] → good = false) (hg3 : hasC = true → er4 ≠ 0 ∨ r4 ≠ [] → good = false) (hg4 : hasS = false → hasC = false → R 7 ≠ [] → good = false)
  (hK1 : hasS = true → er3 = 0 → ∀ W M A B n m p q, St w0 W (RI (.slice A n p) ps :: RT (.slice B m q) ts :: M) → Calls Try.prog 28 #[.agg #[.int .u8 kind, .int .i64 e, .int .i64 a, .int .i64 b, .int .i64 c, .int .i64 d, .slice A n p, .slice B m q, .int .i64 id, .int .i64 task, .int .i64 tick, .int .i64 wait, .int .i64 pid, .int .i64 nonce, .int .i64 0]] W fun ee w' => ee = .returned (.int .i64 E) ∧ St w0 w' (RI (.slice A n p) ps :: RT (.slice B m q) ts :: M))
  (hK2 : hasS = false → ∀ W M, St w0 W M → Calls Try.prog 28 #[.agg #[.int .u8 kind, .int .i64 e, .int .i64 0, .int .i64 0, .int .i64 0, .int .i64 0, .slice none 0 0, .slice none 0 0, .int .i64 id, .int .i64 task, .int .i64 tick, .int .i64 wait, .int .i64 pid, .int .i64 nonce, .int .i64 cd]] W fun ee w' => ee = .returned (.int .i64 E) ∧ St w0 w' M)
  (hg5 : E ≠ 0 → good = false)
  (hbad : good = false → ∀ w', St w0 w' L → Q (.returned (.tuple #[.agg #[.int .u8 0, .int .i64 0, .int .i64 0, .int .i64 0, .int .i64 0, .int .i64 0, .slice none 0 0, .slice none 0 0, .int .i64 0, .int .i64 0, .int .i64 0, .int .i64 0, .int .i64 0, .int .i64 0, .int .i64 0], .int .i64 4])) w')
  (hokS : (∀ j, j < 7 → us j = true → ne j = 0 ∧ nn j ≤ mostJ j) → hasS = true → er3 = 0 → r3 = [] → E = 0 → ∀ w' A B n m p q, St w0 w' (RI (.slice A n p) ps :: RT (.slice B m q) ts :: L) → Q (.returned (.tuple #[.agg #[.int .u8 kind, .int .i64 e, .int .i64 a, .int .i64 b, .int .i64 c, .int .i64 d, .slice A n p, .slice B m q, .int .i64 id, .int .i64 task, .int .i64 tick, .int .i64 wait, .int .i64 pid, .int .i64 nonce, .int .i64 0], .int .i64 0])) w')
  (hokN : (∀ j, j < 7 → us j = true → ne j = 0 ∧ nn j ≤ mostJ j) → hasS = false → (hasC = true → er4 = 0 ∧ r4 = []) → (hasC = false → R 7 = []) → E = 0 → ∀ w', St w0 w' L → Q (.returned (.tuple #[.agg #[.int .u8 kind, .int .i64 e, .int .i64 0, .int .i64 0, .int .i64 0, .int .i64 0, .slice none 0 0, .slice none 0 0, .int .i64 id, .int .i64 task, .int .i64 tick, .int .i64 wait, .int .i64 pid, .int .i64 nonce, .int .i64 cd], .int .i64 0])) w')
  (h : St w0 w L) : Calls Try.prog 23 #[.string (YtkhcdichdnbcmaaR.Ext.mkB l)] w Q := by
 have s0 := h.alloc #[.int .u8 0, .int .i64 0, .int .i64 0, .int .i64 0, .int .i64 0, .int .i64 0, .slice none 0 0, .slice none 0 0, .int .i64 0, .int .i64 0, .int .i64 0, .int .i64 0, .int .i64 0, .int .i64 0, .int .i64 0] tRe
 have H1 := Lib.hid H1
 have HU := Lib.hid hU
 have HB := Lib.hid hB
 have HJ := Lib.hid hUn
 have HR := Lib.hid (And.intro hR (And.intro hcs hcell))
 have HO := Lib.hid (And.intro hcs0 hcs7)
 have HG := Lib.hid (And.intro hg1 (And.intro hg2 (And.intro hg3 (And.intro hg4 hg5))))
 have HD := Lib.hid (And.intro hD (And.intro hI hcd))
 have HK := Lib.hid (And.intro hK1 hK2)
 have HZ := Lib.hid hbad
 have HY := Lib.hid (And.intro hokS hokN)
 have HN := Lib.hid hSC
 have HMO := Lib.hid hmode
 clear h hU hB hUn hR hcs hcell hcs0 hcs7 hg1 hg2 hg3 hg4 hg5 hD hI hcd hK1 hK2 hbad hokS hokN hSC hmode
 obtain ⟨eC, eC'⟩ := hC
 obtain ⟨eS, eS'⟩ := hS
 have hck : IntKind.u8.wrap kind = kind := by unfold IntKind.wrap; simp [IntKind.bits, IntKind.signed]; omega
 have g9 : decide (9 < kind) = false := decide_eq_false (by omega)
 clear hk
 have S0 := Lib.hid s0
 clear s0
 go_enter Try.func23, Try.ntmps23
 go_wp2_with fail
 generalize w.heap.size = b2 at *
 refine (H1.out _ _ S0.out).mono ?_
 rintro ee w1 ⟨rfl, s1⟩
 clear S0 H1
 have s2 := s1.alloc #[.int .u8 kind, .int .i64 0, .int .i64 0, .int .i64 0, .int .i64 0, .int .i64 0, .slice none 0 0, .slice none 0 0, .int .i64 0, .int .i64 0, .int .i64 0, .int .i64 0, .int .i64 0, .int .i64 0, .int .i64 0] tRe
 clear s1
 have S2 := Lib.hid s2
 clear s2
 go_wp2_with fail
 generalize w1.heap.size = b7 at *
 refine (HU.out _ _ S2.out).mono ?_
 rintro ee w2 ⟨rfl, s3⟩
 clear S2 HU
 have S3 := Lib.hid s3
 clear s3
 go_wp2_with fail
 refine (fields_c b7 _).mono ?_
 rintro ee w4 ⟨F, rfl, hF1, hF2, hb⟩
 have s5 : St w0 w4 (Go.Proofs.YtkhcdichdnbcmaaR.blk F (fldC b7) tFl :: Go.Proofs.YtkhcdichdnbcmaaR.blk b7 #[.int .u8 kind, .int .i64 0, .int .i64 0, .int .i64 0, .int .i64 0, .int .i64 0, .slice none 0 0, .slice none 0 0, .int .i64 0, .int .i64 0, .int .i64 0, .int .i64 0, .int .i64 0, .int .i64 0, .int .i64 0] tRe :: Go.Proofs.YtkhcdichdnbcmaaR.blk b2 #[.int .u8 0, .int .i64 0, .int .i64 0, .int .i64 0, .int .i64 0, .int .i64 0, .slice none 0 0, .slice none 0 0, .int .i64 0, .int .i64 0, .int .i64 0, .int .i64 0, .int .i64 0, .int .i64 0, .int .i64 0] tRe :: L) := S3.out.new hb (blk_loc F (fldC b7) tFl) ⟨hF2, rfl⟩ (fun i hi => by subst hi; exact hF1)
 clear S3 hF1 hF2 hb
 go_wp2_with fail
 go_loopw [35, 5] (fun x y wr => ∃ j : Nat, j ≤ 7 ∧ x = .int .i64 j ∧ y = .string (YtkhcdichdnbcmaaR.Ext.mkB (R j)) ∧ St w0 wr (Go.Proofs.YtkhcdichdnbcmaaR.blk F (fldC b7) tFl :: Go.Proofs.YtkhcdichdnbcmaaR.blk b7 (cs j) tRe :: Go.Proofs.YtkhcdichdnbcmaaR.blk b2 #[.int .u8 0, .int .i64 0, .int .i64 0, .int .i64 0, .int .i64 0, .int .i64 0, .slice none 0 0, .slice none 0 0, .int .i64 0, .int .i64 0, .int .i64 0, .int .i64 0, .int .i64 0, .int .i64 0, .int .i64 0] tRe :: L) ∧ ∀ i, i < j → us i = true → ne i = 0 ∧ nn i ≤ mostJ i) (fun x _ _ => 7 - (intOf x).toNat)
 case atStart => exact ⟨0, by omega, rfl, rfl, by rw [HO.out.1]; exact s5, fun i hi => by omega⟩
 case round =>
  clear s5
  obtain ⟨j, hj, rfl, rfl, hs, hz⟩ := hrel
  have hj0 : (0 : Int) ≤ (j : Int) := by omega
  have HP := Lib.hid hz
  clear hz
  by_cases hlt : ((j : Int) < 7)
  ·as_aux_lemma =>
   obtain ⟨q0, q1, q2⟩ := fld_at b7 j (by omega)
   have y0 := (hs.cells (j * 3)).trans q0
   have y1 := (hs.cells (j * 3 + 1)).trans q1
   have y2 := (hs.cells (j * 3 + 2)).trans q2
   have hlF := vlt hs.at0
   obtain ⟨eb, eb'⟩ := HB.out j (by omega)
   have HS := Lib.hid hs
   clear hs q0 q1 q2
   obtain ⟨x0, hx0⟩ := HR.out.2.2 j (by omega)
   have hmo := most_le j (by omega)
   have hrn := HR.out.1 j (by omega)
   have hcn := HR.out.2.1 j (by omega)
   have hun := HJ.out j (by omega)
   have hgj := HG.out.1 j (by omega)
   have hm0 := most_ge j (by omega)
   generalize bitJ j = bit at *
   generalize hmost : mostJ j = most at *
   generalize offJ j = off at *
   generalize hval : nn j = val at *
   generalize hnej : ne j = nej at *
   generalize hu : us j = u at *
   generalize RR j = rj1 at *
   generalize hrj : R j = rj at *
   generalize hcj : cs j = cj at *
   have HE := Lib.hid (And.intro hmost (And.intro hval (And.intro hnej hu)))
   have HX := Lib.hid (And.intro hrn (And.intro hcn (And.intro hx0 hgj)))
   have HT := Lib.hid hun
   clear hmost hval hnej hu hrn hcn hx0 hgj hun hrj hcj
   have hcm : IntKind.u64.wrap most = most := IntWalk.u64_in _ (by omega)
   go_upto_region 9 with fail
   obtain ⟨wq, hwq⟩ : ∃ wq, wq = wr.alloc (Obj.cells #[.int .i64 bit, .pointer (some ⟨b7, off, none⟩), .int .i64 most] tFl) := ⟨_, rfl⟩
   have sq := HS.out.alloc #[.int .i64 bit, .pointer (some ⟨b7, off, none⟩), .int .i64 most] tFl
   rw [← hwq] at sq
   rw [← hwq]
   clear hwq y0 y1 y2 hlF HS
   generalize wr.heap.size = g at *
   have yu := sq.cells
   have SQ := Lib.hid sq
   clear sq
   cases u
   ·go_wp2_with fail
    all_goals go_roundw
    all_goals first | exact ⟨j + 1, by omega, by go_num, by rw [HX.out.1]; simp, by rw [HX.out.2.1]; simpa using SQ.out.drop, fun i hi => by
     rcases Nat.lt_or_ge i j with h | h
     ·exact HP.out i h
     ·obtain rfl : i = j := by omega
      obtain ⟨-, -, -, q5⟩ := HE.out
      intro h; rw [q5] at h; simp at h⟩ | (simp [intOf]; omega)
   ·obtain ⟨⟨hn0, hn1⟩, hun⟩ := HT.out rfl
    have HT2 := Lib.hid hun
    clear hun HT
    go_wp2_with fail
    refine (HT2.out _ _ SQ.out).mono ?_
    rintro ee w5 ⟨rfl, s6⟩
    clear SQ HT2 yu
    by_cases hne : nej = 0
    case neg =>
     obtain ⟨g1, g2⟩ := ne_t hne
     have yg := s6.cells
     have t6 := s6.pick 3
     simp only [List.getElem_cons_succ, List.getElem_cons_zero, List.eraseIdx_cons_succ, List.eraseIdx_cons_zero] at t6
     have T6 := Lib.hid t6
     clear s6 t6
     go_wp2_with (first | ((with_reducible refine wpList_storeSt T6.out rfl _ _ 35 rfl 0 #[.int .u8 0, .int .i64 0, .int .i64 0, .int .i64 0, .int .i64 0, .int .i64 0, .slice none 0 0, .slice none 0 0, .int .i64 0, .int .i64 0, .int .i64 0, .int .i64 0, .int .i64 0, .int .i64 0, .int .i64 0] #[.int .u8 0, .int .i64 0, .int .i64 0, .int .i64 0, .int .i64 0, .int .i64 0, .slice none 0 0, .slice none 0 0, .int .i64 0, .int .i64 0, .int .i64 0, .int .i64 0, .int .i64 0, .int .i64 0, .int .i64 0] size_rec ?hn ?hx ?hv ?hf ?h1 ?he ?_); (case hn => rfl); (case hx => rfl); (case hv => rfl); (case hf => simp); (case h1 => simp [Value.oneCell']); (case he => rfl); intro wz sz; have hcz := sz.cells; have hfz := sz.free; have SZ := Lib.hid sz; clear sz) | fail)
     refine bodyPost_ret (v := .tuple #[.agg #[.int .u8 0, .int .i64 0, .int .i64 0, .int .i64 0, .int .i64 0, .int .i64 0, .slice none 0 0, .slice none 0 0, .int .i64 0, .int .i64 0, .int .i64 0, .int .i64 0, .int .i64 0, .int .i64 0, .int .i64 0], .int .i64 4]) (by simp [results, Try.results23, go_sem, hcz]) rfl ?_
     exact HZ.out (HX.out.2.2.2 (by simp) (Or.inl hne)) _ SZ.out.drop.drop.drop.drop
    case pos =>
     subst hne
     by_cases hlm : most < val
     case pos =>
      have d2 : decide (most < val) = true := decide_eq_true hlm
      have yg := s6.cells
      have t6 := s6.pick 3
      simp only [List.getElem_cons_succ, List.getElem_cons_zero, List.eraseIdx_cons_succ, List.eraseIdx_cons_zero] at t6
      have T6 := Lib.hid t6
      clear s6 t6
      go_wp2_with (first | ((with_reducible refine wpList_storeSt T6.out rfl _ _ 35 rfl 0 #[.int .u8 0, .int .i64 0, .int .i64 0, .int .i64 0, .int .i64 0, .int .i64 0, .slice none 0 0, .slice none 0 0, .int .i64 0, .int .i64 0, .int .i64 0, .int .i64 0, .int .i64 0, .int .i64 0, .int .i64 0] #[.int .u8 0, .int .i64 0, .int .i64 0, .int .i64 0, .int .i64 0, .int .i64 0, .slice none 0 0, .slice none 0 0, .int .i64 0, .int .i64 0, .int .i64 0, .int .i64 0, .int .i64 0, .int .i64 0, .int .i64 0] size_rec ?hn ?hx ?hv ?hf ?h1 ?he ?_); (case hn => rfl); (case hx => rfl); (case hv => rfl); (case hf => simp); (case h1 => simp [Value.oneCell']); (case he => rfl); intro wz sz; have hcz := sz.cells; have hfz := sz.free; have SZ := Lib.hid sz; clear sz) | fail)
      refine bodyPost_ret (v := .tuple #[.agg #[.int .u8 0, .int .i64 0, .int .i64 0, .int .i64 0, .int .i64 0, .int .i64 0, .slice none 0 0, .slice none 0 0, .int .i64 0, .int .i64 0, .int .i64 0, .int .i64 0, .int .i64 0, .int .i64 0, .int .i64 0], .int .i64 4]) (by simp [results, Try.results23, go_sem, hcz]) rfl ?_
      exact HZ.out (HX.out.2.2.2 (by simp) (Or.inr hlm)) _ SZ.out.drop.drop.drop.drop
     case neg =>
      have d2 : decide (most < val) = false := decide_eq_false hlm
      have hcw : wrap64 val = val := by unfold wrap64; omega
      skip
      have yg := s6.cells
      have yb := ((s6.pick 2).cells off).trans HX.out.2.2.1
      have yf := (s6.pick 2).free off
      skip
      have t6 := s6.pick 2
      simp only [List.getElem_cons_succ, List.getElem_cons_zero, List.eraseIdx_cons_succ, List.eraseIdx_cons_zero] at t6
      have T6 := Lib.hid t6
      clear s6 t6
      go_wp2_with fail
      have t7 := T6.out.setb off (.int .i64 val) rfl
      have t8 := (t7.pick 1).drop
      simp only [List.getElem_cons_succ, List.getElem_cons_zero, List.eraseIdx_cons_succ, List.eraseIdx_cons_zero] at t8
      have t9 := t8.pick 1
      simp only [List.getElem_cons_succ, List.getElem_cons_zero, List.eraseIdx_cons_succ, List.eraseIdx_cons_zero] at t9
      clear t7 t8
      all_goals go_roundw
      all_goals first | exact ⟨j + 1, by omega, by go_num, by rw [HX.out.1]; simp, by rw [HX.out.2.1]; simpa using t9, fun i hi => by
       rcases Nat.lt_or_ge i j with h | h
       ·exact HP.out i h
       ·obtain rfl : i = j := by omega
        obtain ⟨q2, q3, q4, q5⟩ := HE.out
        intro h; rw [q2, q3, q4]; exact ⟨rfl, by omega⟩⟩ | (simp [intOf]; omega)
  ·obtain rfl : j = 7 := by omega
   have s9 := hs.drop
   rw [HO.out.2] at s9
   clear hs HO HB HJ HR
   have hg1 := HG.out.2
   have hd := HD.out
   have hn := HN.out
   have hkk := HK.out
   have hyy := HY.out
   have HAll := Lib.hid (fun i (hi : i < 7) (hu : us i = true) => HP.out i (by omega) hu)
   clear HG HD HN HK HY HP
   generalize R 7 = r7 at *
   have HG := Lib.hid hg1
   have HD := Lib.hid hd
   have HK := Lib.hid hkk
   have HY := Lib.hid hyy
   clear hg1 hd hkk hyy
   obtain ⟨rfl, rfl⟩ := HMO.out
   clear HMO
   as_aux_lemma =>
   have HI := Lib.hid (HD.out.2.1 (by simp))
   have S9 := Lib.hid s9
   clear s9 HD
   go_wp2_with fail
   refine (HI.out _ _ S9.out).mono ?_
   rintro ee w9 ⟨rfl, s10⟩
   clear S9 HI
   have hc10 := s10.cells
   have hf10 := s10.free
   have s := s10.setb 14 (.int .i64 cd) rfl
   clear s10
   by_cases her : er4 = 0
   case neg =>
    obtain ⟨g1, g2⟩ := ne_t her
    have t1 := s.pick 1
    simp only [List.getElem_cons_succ, List.getElem_cons_zero, List.eraseIdx_cons_succ, List.eraseIdx_cons_zero] at t1
    have T1 := Lib.hid t1
    clear s t1
    go_wp2_with (first | ((with_reducible refine wpList_storeSt T1.out rfl _ _ 35 rfl 0 #[.int .u8 0, .int .i64 0, .int .i64 0, .int .i64 0, .int .i64 0, .int .i64 0, .slice none 0 0, .slice none 0 0, .int .i64 0, .int .i64 0, .int .i64 0, .int .i64 0, .int .i64 0, .int .i64 0, .int .i64 0] #[.int .u8 0, .int .i64 0, .int .i64 0, .int .i64 0, .int .i64 0, .int .i64 0, .slice none 0 0, .slice none 0 0, .int .i64 0, .int .i64 0, .int .i64 0, .int .i64 0, .int .i64 0, .int .i64 0, .int .i64 0] size_rec ?hn ?hx ?hv ?hf ?h1 ?he ?_); (case hn => rfl); (case hx => rfl); (case hv => rfl); (case hf => simp); (case h1 => simp [Value.oneCell']); (case he => rfl); intro wz sz; have hcz := sz.cells; have hfz := sz.free; have SZ := Lib.hid sz; clear sz) | fail)
    refine bodyPost_ret (v := .tuple #[.agg #[.int .u8 0, .int .i64 0, .int .i64 0, .int .i64 0, .int .i64 0, .int .i64 0, .slice none 0 0, .slice none 0 0, .int .i64 0, .int .i64 0, .int .i64 0, .int .i64 0, .int .i64 0, .int .i64 0, .int .i64 0], .int .i64 4]) (by simp [results, Try.results23, go_sem, hcz]) rfl ?_
    exact HZ.out (HG.out.2.1 (by simp) (Or.inl her)) _ SZ.out.drop.drop
   case pos =>
    as_aux_lemma =>
    have hg6 : (er4 != 0) = false := by subst her; rfl
    have HER := Lib.hid her
    clear her
    by_cases hr : r4 = []
    case neg =>
     as_aux_lemma =>
     obtain ⟨g5, g6⟩ := emp_f _ hr
     have t1 := s.pick 1
     simp only [List.getElem_cons_succ, List.getElem_cons_zero, List.eraseIdx_cons_succ, List.eraseIdx_cons_zero] at t1
     have T1 := Lib.hid t1
     clear s t1
     go_wp2_with (first | ((with_reducible refine wpList_storeSt T1.out rfl _ _ 35 rfl 0 #[.int .u8 0, .int .i64 0, .int .i64 0, .int .i64 0, .int .i64 0, .int .i64 0, .slice none 0 0, .slice none 0 0, .int .i64 0, .int .i64 0, .int .i64 0, .int .i64 0, .int .i64 0, .int .i64 0, .int .i64 0] #[.int .u8 0, .int .i64 0, .int .i64 0, .int .i64 0, .int .i64 0, .int .i64 0, .slice none 0 0, .slice none 0 0, .int .i64 0, .int .i64 0, .int .i64 0, .int .i64 0, .int .i64 0, .int .i64 0, .int .i64 0] size_rec ?hn ?hx ?hv ?hf ?h1 ?he ?_); (case hn => rfl); (case hx => rfl); (case hv => rfl); (case hf => simp); (case h1 => simp [Value.oneCell']); (case he => rfl); intro wz sz; have hcz := sz.cells; have hfz := sz.free; have SZ := Lib.hid sz; clear sz) | fail)
     refine bodyPost_ret (v := .tuple #[.agg #[.int .u8 0, .int .i64 0, .int .i64 0, .int .i64 0, .int .i64 0, .int .i64 0, .slice none 0 0, .slice none 0 0, .int .i64 0, .int .i64 0, .int .i64 0, .int .i64 0, .int .i64 0, .int .i64 0, .int .i64 0], .int .i64 4]) (by simp [results, Try.results23, go_sem, hcz]) rfl ?_
     exact HZ.out (HG.out.2.1 (by simp) (Or.inr hr)) _ SZ.out.drop.drop
    case pos =>
     as_aux_lemma =>
     obtain ⟨g5, g6⟩ := emp_t _ hr
     have HRR := Lib.hid hr
     clear hr
     have hc7 := s.cells
     have S7 := Lib.hid s
     clear s
     go_wp2_with fail
     refine (HK.out.2 (by simp) _ _ S7.out).mono ?_
     rintro ee wc ⟨rfl, s⟩
     clear S7 hc7 HK
     by_cases hE : E = 0
     case neg =>
      as_aux_lemma =>
      obtain ⟨g7, g8⟩ := ne_t hE
      have t1 := s.pick 1
      simp only [List.getElem_cons_succ, List.getElem_cons_zero, List.eraseIdx_cons_succ, List.eraseIdx_cons_zero] at t1
      have T1 := Lib.hid t1
      clear s t1
      go_wp2_with (first | ((with_reducible refine wpList_storeSt T1.out rfl _ _ 35 rfl 0 #[.int .u8 0, .int .i64 0, .int .i64 0, .int .i64 0, .int .i64 0, .int .i64 0, .slice none 0 0, .slice none 0 0, .int .i64 0, .int .i64 0, .int .i64 0, .int .i64 0, .int .i64 0, .int .i64 0, .int .i64 0] #[.int .u8 0, .int .i64 0, .int .i64 0, .int .i64 0, .int .i64 0, .int .i64 0, .slice none 0 0, .slice none 0 0, .int .i64 0, .int .i64 0, .int .i64 0, .int .i64 0, .int .i64 0, .int .i64 0, .int .i64 0] size_rec ?hn ?hx ?hv ?hf ?h1 ?he ?_); (case hn => rfl); (case hx => rfl); (case hv => rfl); (case hf => simp); (case h1 => simp [Value.oneCell']); (case he => rfl); intro wz sz; have hcz := sz.cells; have hfz := sz.free; have SZ := Lib.hid sz; clear sz) | fail)
      refine bodyPost_ret (v := .tuple #[.agg #[.int .u8 0, .int .i64 0, .int .i64 0, .int .i64 0, .int .i64 0, .int .i64 0, .slice none 0 0, .slice none 0 0, .int .i64 0, .int .i64 0, .int .i64 0, .int .i64 0, .int .i64 0, .int .i64 0, .int .i64 0], .int .i64 4]) (by simp [results, Try.results23, go_sem, hcz]) rfl ?_
      exact HZ.out (HG.out.2.2.2 hE) _ SZ.out.drop.drop
     case pos =>
      as_aux_lemma =>
      have g7 : (E != 0) = false := by subst hE; rfl
      have hE0 := Lib.hid hE
      clear hE
      have hc8 := s.cells
      have t1 := s.pick 1
      simp only [List.getElem_cons_succ, List.getElem_cons_zero, List.eraseIdx_cons_succ, List.eraseIdx_cons_zero] at t1
      have T1 := Lib.hid t1
      clear s t1
      go_wp2_with (first | ((with_reducible refine wpList_storeSt T1.out rfl _ _ 35 rfl 0 #[.int .u8 kind, .int .i64 e, .int .i64 0, .int .i64 0, .int .i64 0, .int .i64 0, .slice none 0 0, .slice none 0 0, .int .i64 id, .int .i64 task, .int .i64 tick, .int .i64 wait, .int .i64 pid, .int .i64 nonce, .int .i64 cd] #[.int .u8 kind, .int .i64 e, .int .i64 0, .int .i64 0, .int .i64 0, .int .i64 0, .slice none 0 0, .slice none 0 0, .int .i64 id, .int .i64 task, .int .i64 tick, .int .i64 wait, .int .i64 pid, .int .i64 nonce, .int .i64 cd] size_rec ?hn ?hx ?hv ?hf ?h1 ?he ?_); (case hn => rfl); (case hx => rfl); (case hv => rfl); (case hf => simp); (case h1 => simp [Value.oneCell']); (case he => rfl); intro wz sz; have hcz := sz.cells; have hfz := sz.free; have SZ := Lib.hid sz; clear sz) | fail)
      refine bodyPost_ret (v := .tuple #[.agg #[.int .u8 kind, .int .i64 e, .int .i64 0, .int .i64 0, .int .i64 0, .int .i64 0, .slice none 0 0, .slice none 0 0, .int .i64 id, .int .i64 task, .int .i64 tick, .int .i64 wait, .int .i64 pid, .int .i64 nonce, .int .i64 cd], .int .i64 0]) (by simp [results, Try.results23, go_sem, hcz]) rfl ?_
      exact HY.out.2 HAll.out (by simp) (fun _ => ⟨HER.out, HRR.out⟩) (by simp) hE0.out _ SZ.out.drop.drop
end Go.Proofs.YtkhcdichdnbcmaaR
end
