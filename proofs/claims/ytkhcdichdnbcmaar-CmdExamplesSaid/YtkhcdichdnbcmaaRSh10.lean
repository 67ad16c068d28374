/- Texts of this session, merged (wip/gen/shake.py). -/
import Derived.BigRegion
import Derived.Deep.Cut
import Derived.Deep.CutRange
import Derived.Deep.RegionHeld3
import Derived.Lib.Hide
import Derived.Test.YtkhcdichdnbcmaaRSh8
import Derived.Test.YtkhcdichdnbcmaaRSh9
section
namespace Go.Proofs.YtkhcdichdnbcmaaR
open Go.RowKit Go.Proofs.YtkhcdichdnbcmaaR Go.Proofs.YtkhcdichdnbcmaaR.Ext Go.Proofs.YtkhcdichdnbcmaaR.C Go.Proofs.YtkhcdichdnbcmaaR.Sp Go.Proofs.YtkhcdichdnbcmaaRW.PrintWords Go.Proofs.YtkhcdichdnbcmaaRW.PrintLast
set_option linter.unusedSimpArgs false
set_option linter.unusedVariables false
theorem reads_any (W : World) (s : ByteArray) : Calls Try.prog 5 #[.string s] W fun e w' => e = .returned (.bool true) ∧ Below W.heap.size W w' := by
 obtain ⟨t, rfl⟩ : ∃ t, s = YtkhcdichdnbcmaaR.Ext.mkB t := ⟨s.data.toList, (mkB_data s).symm⟩
 have key : ∀ S : List UInt8, S.length ≤ 2000 → ∃ (k e a b c d id er : Int) (ps : List Int) (ts : List TX), ps.length ≤ 1000 ∧ ts.length ≤ 1000 ∧ (∀ (W0 W : World) (M : List HP), St W0 W M → Calls Try.prog 20 #[.string (YtkhcdichdnbcmaaR.Ext.mkB S)] W fun ee w' => ∃ A B n m p q, ee = .returned (.tuple #[.agg #[.int .u8 k, .int .i64 e, .int .i64 a, .int .i64 b, .int .i64 c, .int .i64 d, .slice A n p, .slice B m q, .int .i64 id], .int .i64 er]) ∧ St W0 w' (RI (.slice A n p) ps :: RT (.slice B m q) ts :: M)) ∧ (∀ (W0 W : World) (M : List HP), St W0 W M → Calls Try.prog 21 #[.string (YtkhcdichdnbcmaaR.Ext.mkB S)] W fun ee w' => ∃ A B n m p q, ee = .returned (.tuple #[.agg #[.int .u8 k, .int .i64 e, .int .i64 a, .int .i64 b, .int .i64 c, .int .i64 d, .slice A n p, .slice B m q, .int .i64 id], .int .i64 er]) ∧ St W0 w' (RI (.slice A n p) ps :: RT (.slice B m q) ts :: M)) := by
  intro S hS
  have hl := decCR_lens S
  refine ⟨(decCR S).1.kind, (decCR S).1.epoch, (decCR S).1.spec.id, (decCR S).1.spec.cpu, (decCR S).1.spec.mem, (decCR S).1.spec.disk, (decCR S).1.id, (decCR S).2, (decCR S).1.spec.ports, (decCR S).1.spec.tasks.map ofTS, by omega, by rw [List.length_map]; omega, fun W0 W M h => dec9 S _ _ rfl h, fun W0 W M h => rdec9 S hS _ _ rfl h⟩
 by_cases hl : t.length ≤ 1100
 ·obtain ⟨k, e, a, b, c, d, id, er, ps, ts, h1, h2, h3, h4⟩ := key t (by omega)
  exact reads_short t t k e a b c d id er ps ts W hl (List.take_of_length_le (Nat.le_refl _)) h1 h2 (Lib.hid (h3 W)) (Lib.hid (h4 W))
 ·obtain ⟨k, e, a, b, c, d, id, er, ps, ts, h1, h2, h3, h4⟩ := key (t.take 1100) (by rw [List.length_take]; omega)
  exact reads_long t _ k e a b c d id er ps ts W (by omega) rfl h1 h2 (Lib.hid (h3 W)) (Lib.hid (h4 W))
theorem cmatch_B {w0 w : World} {L : List HP} (k e a b c d id : Int) {A B : Option Addr} {n m p q : Nat} (ps : List Int) (ts : List TX) (h : St w0 w (RI (.slice A n p) ps :: RT (.slice B m q) ts :: L)) :
  Calls Try.prog 4 #[.agg #[.int .u8 k, .int .i64 e, .int .i64 a, .int .i64 b, .int .i64 c, .int .i64 d, .slice A n p, .slice B m q, .int .i64 id]] w fun e w' => e = .returned (.bool true) ∧ Below w.heap.size w w' := by
 obtain ⟨c1, e1, l1⟩ := h.rowKC
 obtain ⟨c2, e2, l2⟩ := (h.pick 1).rowKC
 exact cmatch_c k e a b c d id A B _ _ _ _ _ _ _ _ w (fun L => few_a (w0 := w) (w := w) a b c d ps ts c1 e1 l1 c2 e2 l2) (by rw [List.length_take]; omega) (by rw [List.length_take]; omega) rfl rfl
theorem cmatch_N (k e id : Int) (w : World) :
  Calls Try.prog 4 #[.agg #[.int .u8 k, .int .i64 e, .int .i64 0, .int .i64 0, .int .i64 0, .int .i64 0, .slice none 0 0, .slice none 0 0, .int .i64 id]] w fun e w' => e = .returned (.bool true) ∧ Below w.heap.size w w' :=
 cmatch_B k e 0 0 0 0 id [] [] (St.rowKNil (flat_int _) (St.rowKNil kX_flat (St.start w)))
theorem sample_s (n : Int) : ∃ (a b id : Int) (ps : List Int) (ts : List TX), ps.length ≤ 1 ∧ ts.length ≤ 1 ∧ ∀ (w0 w : World) (L : List HP), St w0 w L → Calls Try.prog 22 #[.int .u8 n] w fun ee w' => ∃ A4 B4 n4 m4 p4 q4, ee = .returned (.agg #[.int .u8 n, .int .i64 3, .int .i64 a, .int .i64 b, .int .i64 0, .int .i64 0, .slice A4 n4 p4, .slice B4 m4 q4, .int .i64 id]) ∧ St w0 w' (RI (.slice A4 n4 p4) ps :: RT (.slice B4 m4 q4) ts :: L) := by
 have go : ∀ (a b id : Int) (ps : List Int) (ts : List TX), sacristanlaw18_Sample.f n = some (n, 3, a, b, 0, 0, ps, ts, id) → ∀ (w0 w : World) (L : List HP), St w0 w L → Calls Try.prog 22 #[.int .u8 n] w fun ee w' => ∃ A4 B4 n4 m4 p4 q4, ee = .returned (.agg #[.int .u8 n, .int .i64 3, .int .i64 a, .int .i64 b, .int .i64 0, .int .i64 0, .slice A4 n4 p4, .slice B4 m4 q4, .int .i64 id]) ∧ St w0 w' (RI (.slice A4 n4 p4) ps :: RT (.slice B4 m4 q4) ts :: L) := by
  intro a b id ps ts hf w0 w L h
  refine (sacristanlaw18_Sample.calls n _ _ _ _ _ _ _ _ _ w hf).mono ?_
  rintro e w' ⟨v4, v5, rfl, h4, h5, hb⟩
  obtain ⟨A, n, c, rfl⟩ := R_slice3 h4
  obtain ⟨B, m, d, rfl⟩ := R_slice3 h5
  exact ⟨A, B, n, m, c, d, rfl, h.rows2 (flat_int _) kX_flat (by decide) hb h4 h5⟩
 by_cases hn : n = 1
 ·exact ⟨7, 1, 0, [80], _, by simp, by simp, go _ _ _ _ [⟨⟨false, 2, 20, 2, 8⟩, 0⟩] (by unfold sacristanlaw18_Sample.f; rw [if_pos hn])⟩
 ·exact ⟨0, 0, 7, [], [], by simp, by simp, go _ _ _ _ _ (by unfold sacristanlaw18_Sample.f; rw [if_neg hn])⟩
abbrev endsC : Array Value := #[.int .i64 (-9223372036854775808), .int .i64 (-1), .int .i64 0, .int .i64 1, .int .i64 2147483648, .int .i64 2147483649, .int .i64 1099511627776, .int .i64 1099511627777, .int .i64 9223372036854775807]
theorem endsC_at (i : Nat) (h : i < 9) : ∃ x, endsC[i]? = some (.int .i64 x) := by
 have : i = 0 ∨ i = 1 ∨ i = 2 ∨ i = 3 ∨ i = 4 ∨ i = 5 ∨ i = 6 ∨ i = 7 ∨ i = 8 := by omega
 rcases this with rfl | rfl | rfl | rfl | rfl | rfl | rfl | rfl | rfl <;> exact ⟨_, rfl⟩
theorem slice_from (l : List UInt8) (m : Nat) (hm : m ≤ l.length) (W : World) : (Instr.slice 9 (.string (YtkhcdichdnbcmaaR.Ext.mkB l)) (some (.int .i64 (m : Int))) none none).run Try.prog W = .ok (.string (YtkhcdichdnbcmaaR.Ext.mkB (l.drop m))) W := by
 have hs : (YtkhcdichdnbcmaaR.Ext.mkB l).size = l.length := mkB_size l
 have he : (YtkhcdichdnbcmaaR.Ext.mkB l).extract m l.length = YtkhcdichdnbcmaaR.Ext.mkB (l.drop m) := by
  apply ByteArray.ext
  simp [YtkhcdichdnbcmaaR.Ext.mkB, ByteArray.data_extract, List.extract_eq_take_drop, List.take_of_length_le]
 simp [go_sem, hs, Instr.slice]
 rw [if_pos (by omega)]
 simp [he]
theorem encCR_len (c : CM) : (encCR c).length ≤ 200 := by
 unfold encCR
 split
 ·rename_i h; exact encC_length ((okC_iff _).2 h)
 ·simp
set_option maxRecDepth 100000 in
set_option maxHeartbeats 8000000 in
theorem walk_CmdExamples (w : World) : Calls Try.prog 6 #[] w fun e w' => e = .returned (.bool true) ∧ Below w.heap.size w w' := by
 have h0 := St.start w
 have h1 := h0.alloc endsC 3
 clear h0
 go_enter Try.func6, Try.ntmps6
 go_wp2_with fail
 generalize (w.alloc (.cells endsC 3)) = wz at *
 go_loopw [2] (fun i wr => ∃ n : Nat, n ≤ 6 ∧ i = .int .u8 n ∧ St w wr [Go.Proofs.YtkhcdichdnbcmaaR.blk w.heap.size endsC 3]) (fun i _ => 6 - (intOf i).toNat)
 case atStart => exact ⟨0, by omega, rfl, h1⟩
 case round =>
  clear h1
  obtain ⟨n, hn, rfl, hs⟩ := hrel
  by_cases hn1 : ((n : Int) < 6)
  ·obtain ⟨a, b, id, ps, ts, hps, hts, hsam⟩ := sample_s (n : Int)
   have HSAM := Lib.hid hsam
   have HPT := Lib.hid (And.intro hps hts)
   clear hsam hps hts
   have HS := Lib.hid hs
   clear hs
   go_wp2_with fail
   refine (HSAM.out _ _ _ HS.out).mono ?_
   rintro ee w1 ⟨A4, B4, n4, m4, p4, q4, rfl, s1⟩
   clear HSAM HS
   have s2 := s1.alloc #[.int .u8 n, .int .i64 3, .int .i64 a, .int .i64 b, .int .i64 0, .int .i64 0, .slice A4 n4 p4, .slice B4 m4 q4, .int .i64 id] tCm
   have s3 := s2.pick 1
   simp only [List.getElem_cons_succ, List.getElem_cons_zero, List.eraseIdx_cons_succ, List.eraseIdx_cons_zero] at s3
   have s4 := s3.pick 2
   simp only [List.getElem_cons_succ, List.getElem_cons_zero, List.eraseIdx_cons_succ, List.eraseIdx_cons_zero] at s4
   have s5 := s4.pick 1
   simp only [List.getElem_cons_succ, List.getElem_cons_zero, List.eraseIdx_cons_succ, List.eraseIdx_cons_zero] at s5
   clear s1 s2 s3 s4
   go_wp2_with fail
   generalize (w1.alloc (.cells #[.int .u8 n, .int .i64 3, .int .i64 a, .int .i64 b, .int .i64 0, .int .i64 0, .slice A4 n4 p4, .slice B4 m4 q4, .int .i64 id] tCm)) = wy at *
   generalize w1.heap.size = b3 at *
   go_loopw [4] (fun k wr => ∃ i : Nat, i ≤ 9 ∧ k = .int .i64 i ∧ St w wr [RI (.slice A4 n4 p4) ps, RT (.slice B4 m4 q4) ts, Go.Proofs.YtkhcdichdnbcmaaR.blk b3 #[.int .u8 n, .int .i64 3, .int .i64 a, .int .i64 b, .int .i64 0, .int .i64 0, .slice A4 n4 p4, .slice B4 m4 q4, .int .i64 id] tCm, Go.Proofs.YtkhcdichdnbcmaaR.blk w.heap.size endsC 3]) (fun k _ => 9 - (intOf k).toNat)
   case atStart => exact ⟨0, by omega, rfl, s5⟩
   case round =>
    clear s5
    obtain ⟨i, hi, rfl, hs⟩ := hrel
    have hi0 : (0 : Int) ≤ (i : Int) := by omega
    by_cases hi1 : ((i : Int) < 9)
    ·obtain ⟨x, ex⟩ := endsC_at i (by omega)
     have ex' := ((hs.pick 3).cells i).trans ex
     have hcP := (hs.pick 2).cells
     have hlE := vlt (hs.pick 3).at0
     have hlP := vlt (hs.pick 2).at0
     clear ex
     have kS : ∀ w', Below wr.heap.size wr w' → (w'.cell? ⟨b3, 0, none⟩ = some (.int .u8 n) ∧ w'.cell? ⟨b3, 1, none⟩ = some (.int .i64 3) ∧ w'.cell? ⟨b3, 2, none⟩ = some (.int .i64 a) ∧ w'.cell? ⟨b3, 3, none⟩ = some (.int .i64 b) ∧ w'.cell? ⟨b3, 4, none⟩ = some (.int .i64 0) ∧ w'.cell? ⟨b3, 5, none⟩ = some (.int .i64 0) ∧ w'.cell? ⟨b3, 6, none⟩ = some (.slice A4 n4 p4) ∧ w'.cell? ⟨b3, 7, none⟩ = some (.slice B4 m4 q4) ∧ w'.cell? ⟨b3, 8, none⟩ = some (.int .i64 id)) ∧ Below wr.heap.size wr w' :=
      fun w' h => ⟨⟨(h.cell (p := ⟨_, _, none⟩) hlP).trans (hcP 0), (h.cell (p := ⟨_, _, none⟩) hlP).trans (hcP 1), (h.cell (p := ⟨_, _, none⟩) hlP).trans (hcP 2), (h.cell (p := ⟨_, _, none⟩) hlP).trans (hcP 3), (h.cell (p := ⟨_, _, none⟩) hlP).trans (hcP 4), (h.cell (p := ⟨_, _, none⟩) hlP).trans (hcP 5), (h.cell (p := ⟨_, _, none⟩) hlP).trans (hcP 6), (h.cell (p := ⟨_, _, none⟩) hlP).trans (hcP 7), (h.cell (p := ⟨_, _, none⟩) hlP).trans (hcP 8)⟩, h⟩
     have KS := Lib.hid kS
     clear kS hcP
     go_upto_region 9 with fail
     go_cut [5, 6, 7] from 22 to 55 (fun v5 v6 v7 wx => ∃ A B C : Nat, v5 = .pointer (some ⟨A, 0, none⟩) ∧ v6 = .pointer (some ⟨B, 0, none⟩) ∧ v7 = .pointer (some ⟨C, 0, none⟩) ∧ A ≠ B ∧ A ≠ C ∧ B ≠ C ∧ wr.heap.size ≤ A ∧ wr.heap.size ≤ B ∧ wr.heap.size ≤ C ∧ wx.heap[A]? = some (.cells #[.int .u8 n, .int .i64 3, .int .i64 a, .int .i64 b, .int .i64 0, .int .i64 0, .slice A4 n4 p4, .slice B4 m4 q4, .int .i64 id] tCm (0, 0)) ∧ wx.heap[B]? = some (.cells #[.int .u8 n, .int .i64 3, .int .i64 a, .int .i64 b, .int .i64 0, .int .i64 0, .slice A4 n4 p4, .slice B4 m4 q4, .int .i64 id] tCm (0, 0)) ∧ wx.heap[C]? = some (.cells #[.int .u8 n, .int .i64 3, .int .i64 a, .int .i64 b, .int .i64 0, .int .i64 0, .slice A4 n4 p4, .slice B4 m4 q4, .int .i64 id] tCm (0, 0)) ∧ Below wr.heap.size wr wx)
     case first =>
      go_region_held3 (fun w' => (w'.cell? ⟨b3, 0, none⟩ = some (.int .u8 n) ∧ w'.cell? ⟨b3, 1, none⟩ = some (.int .i64 3) ∧ w'.cell? ⟨b3, 2, none⟩ = some (.int .i64 a) ∧ w'.cell? ⟨b3, 3, none⟩ = some (.int .i64 b) ∧ w'.cell? ⟨b3, 4, none⟩ = some (.int .i64 0) ∧ w'.cell? ⟨b3, 5, none⟩ = some (.int .i64 0) ∧ w'.cell? ⟨b3, 6, none⟩ = some (.slice A4 n4 p4) ∧ w'.cell? ⟨b3, 7, none⟩ = some (.slice B4 m4 q4) ∧ w'.cell? ⟨b3, 8, none⟩ = some (.int .i64 id)) ∧ Below wr.heap.size wr w') ((refine KS.out _ ?_; go_grown; done)) (fail)
      all_goals (go_wp2_with fail; go_meet; case rel => exact ⟨_, _, _, rfl, rfl, rfl, by omega, by omega, by omega, by omega, by omega, by omega, by (repeat' (first | assumption | (refine vnewAt ?_; first | omega | (simp; done) | (simp; omega)) | refine valloc ?_ | refine vdrew ?_ | apply vput | (refine vfarr ?_ ?_; focus (first | omega | (simp; done) | (simp; omega))) | rfl)), by (repeat' (first | assumption | (refine vnewAt ?_; first | omega | (simp; done) | (simp; omega)) | refine valloc ?_ | refine vdrew ?_ | apply vput | (refine vfarr ?_ ?_; focus (first | omega | (simp; done) | (simp; omega))) | rfl)), by (repeat' (first | assumption | (refine vnewAt ?_; first | omega | (simp; done) | (simp; omega)) | refine valloc ?_ | refine vdrew ?_ | apply vput | (refine vfarr ?_ ?_; focus (first | omega | (simp; done) | (simp; omega))) | rfl)), by go_grown⟩)
     case rest =>
      obtain ⟨A, B, C, rfl, rfl, rfl, n1, n2, n3, lA, lB, lC, hA, hB, hC, hb⟩ := hcut
      clear KS
      have kS : ∀ w', Below wr.heap.size wr w' → w'.cell? ⟨w.heap.size, i, none⟩ = some (.int .i64 x) := fun w' h => (h.cell (p := ⟨_, _, none⟩) hlE).trans ex'
      have KS := Lib.hid kS
      clear kS ex' hlP
      have hcA := vcell hA
      have hcB := vcell hB
      have hcC := vcell hC
      have hfA := vfree hA
      have hfB := vfree hB
      have hfC := vfree hC
      go_upto_region 10 with fail
      go_cut [] from 22 to 55 (fun wx => wx.heap[A]? = some (.cells #[.int .u8 n, .int .i64 x, .int .i64 a, .int .i64 b, .int .i64 0, .int .i64 0, .slice A4 n4 p4, .slice B4 m4 q4, .int .i64 id] tCm (0, 0)) ∧ wx.heap[B]? = some (.cells #[.int .u8 n, .int .i64 3, .int .i64 a, .int .i64 b, .int .i64 0, .int .i64 0, .slice A4 n4 p4, .slice B4 m4 q4, .int .i64 x] tCm (0, 0)) ∧ wx.heap[C]? = some (.cells #[.int .u8 n, .int .i64 3, .int .i64 x, .int .i64 b, .int .i64 0, .int .i64 0, .slice A4 n4 p4, .slice B4 m4 q4, .int .i64 id] tCm (0, 0)) ∧ Below wr.heap.size wr wx)
      case first =>
       have hx1 := KS.out _ hb
       have m1 : ¬ w.heap.size = A := by omega
       have m2 : ¬ w.heap.size = B := by omega
       have m3 : ¬ w.heap.size = C := by omega
       have p1 : ¬ A = B := n1
       have p2 : ¬ A = C := n2
       have p3 : ¬ B = C := n3
       have c1 := hcA 1
       have c2 := hcB 8
       have c3 := hcC 2
       have g1 := hfA 1
       have g2 := hfB 8
       have g3 := hfC 2
       simp only [List.getElem?_toArray] at c1 c2 c3
       have HH := Lib.hid (And.intro hA (And.intro hB (And.intro hC (And.intro hb (And.intro lA (And.intro lB lC))))))
       clear hcA hcB hcC hfA hfB hfC n1 n2 n3 lA lB lC hA hB hC hb hlE hs hi hn hn1
       go_region
       all_goals (
        go_wp2_with fail
        go_meet
        case rel =>
         obtain ⟨hA, hB, hC, hb, lA, lB, lC⟩ := HH.out
         exact ⟨vdrew (vfar (vfar (vput hA rfl) p1) p2), vdrew (vfar (vput (vfar hB (Ne.symm p1)) rfl) p3), vdrew (vput (vfar (vfar hC (Ne.symm p2)) (Ne.symm p3)) rfl), by go_grown⟩)
      case rest =>
       obtain ⟨hA1, hB1, hC1, hb1⟩ := hcut
       clear hcA hcB hcC hfA hfB hfC hA hB hC hb KS
       have s1 := hs.more hb1
       clear hs hb1 lA lB lC n1 n2 n3 hlE
       have hcA := vcell hA1
       go_wp2_with fail
       refine (cmatch_B _ _ _ _ _ _ _ ps ts s1).mono ?_
       rintro ee w4 ⟨rfl, hbx⟩
       have s2 := s1.more hbx
       have hB2 := vbelow hB1 hbx
       have hC2 := vbelow hC1 hbx
       clear s1 hA1 hB1 hC1 hcA hbx
       have hcB := vcell hB2
       go_wp2_with fail
       refine (cmatch_B _ _ _ _ _ _ _ ps ts s2).mono ?_
       rintro ee w5 ⟨rfl, hbx⟩
       have s3 := s2.more hbx
       have hC3 := vbelow hC2 hbx
       clear s2 hB2 hC2 hcB hbx
       have hcC := vcell hC3
       go_wp2_with fail
       refine (cmatch_B _ _ _ _ _ _ _ ps ts s3).mono ?_
       rintro ee w6 ⟨rfl, hbx⟩
       have s4 := s3.more hbx
       clear s3 hC3 hcC hbx
       go_wp2_with fail
       all_goals go_roundw
       all_goals first | exact ⟨i + 1, by omega, by go_num, s4⟩ | (simp [intOf]; omega)
    ·have hcP := (hs.pick 2).cells
     obtain ⟨X, hX⟩ : ∃ X, encCR ⟨(n : Int), 3, spOf a b 0 0 ps ts, id⟩ = X := ⟨_, rfl⟩
     have hXl : X.length ≤ 200 := by rw [← hX]; exact encCR_len _
     have HS := Lib.hid hs
     clear hs
     go_wp2_with fail
     refine (enc9_s (n : Int) 3 a b 0 0 id ps ts HS.out X _ hX rfl).mono ?_
     rintro ee w6 ⟨rfl, s6⟩
     clear HS hcP hX
     have hXs := mkB_size X
     go_wp2_with fail
     go_loopw [10] (fun k wr => ∃ j : Nat, j ≤ X.length + 1 ∧ k = .int .i64 j ∧ St w wr [RI (.slice A4 n4 p4) ps, RT (.slice B4 m4 q4) ts, Go.Proofs.YtkhcdichdnbcmaaR.blk b3 #[.int .u8 n, .int .i64 3, .int .i64 a, .int .i64 b, .int .i64 0, .int .i64 0, .slice A4 n4 p4, .slice B4 m4 q4, .int .i64 id] tCm, Go.Proofs.YtkhcdichdnbcmaaR.blk w.heap.size endsC 3]) (fun k _ => X.length + 1 - (intOf k).toNat)
     case atStart => exact ⟨0, by omega, rfl, s6⟩
     case round =>
      clear s6
      obtain ⟨j, hj, rfl, hs⟩ := hrel
      have hj0 : (0 : Int) ≤ (j : Int) := by omega
      by_cases hj1 : ((j : Int) ≤ (X.length : Int))
      ·have hs1 := slice_upto X j (by omega)
       have hs2 := slice_from X j (by omega)
       have a1 : (mkB (X.take j)).size ≤ 200 := by rw [mkB_size, List.length_take]; omega
       have a2 : (mkB (X.drop j)).size ≤ 200 := by rw [mkB_size, List.length_drop]; omega
       obtain ⟨M, hM, hMl⟩ : ∃ M : Nat, (if (X.length : Int) < (j : Int) + 1 then (X.length : Int) else (j : Int) + 1) = (M : Int) ∧ M ≤ X.length := by
        split
        ·exact ⟨X.length, rfl, Nat.le_refl _⟩
        ·exact ⟨j + 1, by omega, by omega⟩
       have hs3 := slice_from X M hMl
       have a3 : (mkB (X.drop M)).size ≤ 200 := by rw [mkB_size, List.length_drop]; omega
       have zr := fun v s => calls_up (reads_any (wr.up v) s)
       have HS := Lib.hid hs
       clear hs
       generalize mkB (X.take j) = P1 at *
       generalize mkB (X.drop j) = P2 at *
       generalize mkB (X.drop M) = P3 at *
       go_upto_region 17 with fail
       refine wp_region_up_lit (by kernel_rfl) (by kernel_rfl) ?_
       repeat (go_big_quiet_step (with_reducible exact zr _ _))
       refine wpQuiet_nil ?_
       intro w7 hw7
       have hb7 := up_ex hw7
       clear hw7
       have s7 := HS.out.more hb7
       clear HS hb7 zr hs1 hs2 hs3 a1 a2 a3 hM
       go_wp2_with fail
       all_goals go_roundw
       all_goals first | exact ⟨j + 1, by omega, by go_num, s7⟩ | (simp [intOf]; omega)
      ·have HS := Lib.hid hs
       clear hs
       go_wp2_with fail
       all_goals go_roundw
       all_goals first | exact ⟨n + 1, by omega, by go_num, HS.out.drop.drop.drop⟩ | (simp [intOf]; omega)
  ·have hmk4 : ∀ W, (Instr.makeSlice 46 (.int .i64 1024) (.int .i64 1024)).run Try.prog W = .ok (.slice (some ⟨W.heap.size, 0, none⟩) 1024 1024) (W.alloc (.cells (Array.replicate 1024 (.int .u8 0)) 5)) := fun W => make_zeros 1024 (by omega) W
   have hmk5 : ∀ W, (Instr.makeSlice 46 (.int .i64 1025) (.int .i64 1025)).run Try.prog W = .ok (.slice (some ⟨W.heap.size, 0, none⟩) 1025 1025) (W.alloc (.cells (Array.replicate 1025 (.int .u8 0)) 5)) := fun W => make_zeros 1025 (by omega) W
   have hcv := conv_zeros 1024 wr 5 (by omega)
   have s6 := (hs.alloc (Array.replicate 1024 (.int .u8 0)) 5).drop
   have S6 := Lib.hid s6
   clear s6 hs
   go_wp2_with fail
   refine (reads_any _ _).mono ?_
   rintro ee w8 ⟨rfl, hb8⟩
   have s8 := S6.out.more hb8
   clear S6 hb8 hcv hmk4
   have hcv := conv_zeros 1025 w8 5 (by omega)
   have s9 := (s8.alloc (Array.replicate 1025 (.int .u8 0)) 5).drop
   have S9 := Lib.hid s9
   clear s8 s9
   go_wp2_with fail
   refine (reads_any _ _).mono ?_
   rintro ee w9 ⟨rfl, hb9⟩
   have S10 := Lib.hid (S9.out.more hb9)
   clear S9 hb9 hcv hmk5
   go_wp2_with fail
   refine (cmatch_N 255 0 0 _).mono ?_
   rintro ee w10 ⟨rfl, hb10⟩
   have S11 := Lib.hid (S10.out.more hb10)
   clear S10 hb10
   go_wp2_with fail
   refine (awake18 S11.out).mono ?_
   rintro ee w11 ⟨rfl, s12⟩
   have HB := Lib.hid s12.bel
   clear S11 s12
   go_wp2
   go_returns
   exact ⟨rfl, HB.out⟩
end Go.Proofs.YtkhcdichdnbcmaaR
end
section

end
