/- Texts of this session, merged (wip/gen/shake.py). -/
import Derived.Test.YtkhcdichdnbcmaaRProg
import Derived.BigRegion
import Derived.Deep.RegionHeld3
import Derived.BigQuiet
import Derived.Deep.Cut
import Derived.Test.YtkhcdichdnbcmaaRRr2
import Derived.Test.YtkhcdichdnbcmaaRRr5
import Derived.Test.YtkhcdichdnbcmaaRRr6
section
namespace Go.Proofs.YtkhcdichdnbcmaaR
open Go.RowKit
set_option linter.unusedVariables false
set_option linter.unusedSimpArgs false
def fldC (b : Nat) : Array Value := #[.int .i64 1, .pointer (some ⟨b, 1, none⟩), .int .i64 1099511627776, .int .i64 4, .pointer (some ⟨b, 8, none⟩), .int .i64 2147483648, .int .i64 8, .pointer (some ⟨b, 9, none⟩), .int .i64 3, .int .i64 16, .pointer (some ⟨b, 10, none⟩), .int .i64 1099511627776, .int .i64 32, .pointer (some ⟨b, 11, none⟩), .int .i64 1099511627776, .int .i64 64, .pointer (some ⟨b, 12, none⟩), .int .i64 1099511627776, .int .i64 128, .pointer (some ⟨b, 13, none⟩), .int .i64 1099511627776]
set_option maxRecDepth 100000 in
set_option maxHeartbeats 2000000 in
theorem fields_c (b : Nat) (w : World) : Calls Try.prog 37 #[.pointer (some ⟨b, 0, none⟩)] w fun e w' => ∃ F, e = .returned (.slice (some ⟨F, 0, none⟩) 7 7) ∧ w.heap.size ≤ F ∧ w'.heap[F]? = some (.cells (fldC b) 73 (0, 0)) ∧ Below w.heap.size w w' := by
 unfold fldC
 go_enter Try.func37, Try.ntmps37
 go_wp2_with fail
 go_region
 all_goals (
  go_wp2
  go_returns
  exact ⟨_, rfl, by simp, by first | exact vnewAt rfl | exact vdrew (vnewAt rfl) | exact vnew, by go_grown⟩)
end Go.Proofs.YtkhcdichdnbcmaaR
end
section
namespace Go.Proofs.YtkhcdichdnbcmaaR
open Go.RowKit Go.Proofs.YtkhcdichdnbcmaaR Go.Proofs.YtkhcdichdnbcmaaR.Ext Go.Proofs.YtkhcdichdnbcmaaR.C Go.Proofs.YtkhcdichdnbcmaaR.Sp Go.Proofs.YtkhcdichdnbcmaaRW.PrintWords Go.Proofs.YtkhcdichdnbcmaaRW.PrintLast
set_option linter.unusedVariables false
set_option linter.unusedSimpArgs false
abbrev tRe : Nat := 35
abbrev tFl : Nat := 73
def bitJ (j : Nat) : Int := [1, 4, 8, 16, 32, 64, 128].getD j 0
def mostJ (j : Nat) : Int := mostsR.getD j 0
def offJ (j : Nat) : Nat := [1, 8, 9, 10, 11, 12, 13].getD j 0
theorem fld_at (b j : Nat) (h : j < 7) : (fldC b)[j * 3]? = some (.int .i64 (bitJ j)) ∧ (fldC b)[j * 3 + 1]? = some (.pointer (some ⟨b, offJ j, none⟩)) ∧ (fldC b)[j * 3 + 2]? = some (.int .i64 (mostJ j)) := by
  have : j = 0 ∨ j = 1 ∨ j = 2 ∨ j = 3 ∨ j = 4 ∨ j = 5 ∨ j = 6 := by omega
  rcases this with rfl | rfl | rfl | rfl | rfl | rfl | rfl <;> exact ⟨rfl, rfl, rfl⟩
def zeroV (u : Bool) (x : Int) : Bool := u || (x == 0)
theorem zero_c (u : Bool) (x : Int) (w : World) : Calls Try.prog 52 #[.bool u, .int .i64 x] w fun e w' => e = .returned (.bool (zeroV u x)) ∧ Below w.heap.size w w' := by
  unfold zeroV
  cases u
  · go_enter Try.func52, Try.ntmps52
    go_wp2
    go_returns
    exact ⟨by simp, by go_grown⟩
  · go_enter Try.func52, Try.ntmps52
    go_wp2
    go_returns
    exact ⟨by simp, by go_grown⟩
abbrev Rec15 (kind e a b c d : Int) (A : Option Addr) (n p : Nat) (B : Option Addr) (m q : Nat) (id task tick wait pid nonce code : Int) : Array Value := #[.int .u8 kind, .int .i64 e, .int .i64 a, .int .i64 b, .int .i64 c, .int .i64 d, .slice A n p, .slice B m q, .int .i64 id, .int .i64 task, .int .i64 tick, .int .i64 wait, .int .i64 pid, .int .i64 nonce, .int .i64 code]
def AndB (f bit : Int) (s : Bool) : Prop := (Go.bits .and .i64 f bit != 0) = s ∧ (Go.bits .and .i64 f bit == 0) = !s
set_option maxRecDepth 100000 in
set_option maxHeartbeats 4000000 in
theorem rck15 {w0 w : World} {L : List HP} (kind e a b c d id task tick wait pid nonce code : Int) (A B : Option Addr) (n m p q : Nat) (ps : List Int) (ts : List TX) (f R E : Int) (us : Nat → Bool) (hasS hasC bare : Bool) (v : Nat → Int)
    (hv : ∀ j, j < 7 → (Rec15 kind e a b c d A n p B m q id task tick wait pid nonce code)[offJ j]? = some (.int .i64 (v j)))
    (hU : ∀ W M, St w0 W M → Calls Try.prog 36 #[.int .u8 kind] W fun ee w' => ee = .returned (.int .i64 f) ∧ St w0 w' M)
    (hf : f ≠ 0) (hC : AndB f 256 hasC) (hS : AndB f 2 hasS) (hB : ∀ j, j < 7 → AndB f (bitJ j) (us j))
    (hQ : ∀ W M, St w0 W (RI (.slice A n p) ps :: RT (.slice B m q) ts :: M) → Calls Try.prog 53 #[.agg #[.int .i64 a, .int .i64 b, .int .i64 c, .int .i64 d, .slice A n p, .slice B m q], .agg #[.int .i64 0, .int .i64 0, .int .i64 0, .int .i64 0, .slice none 0 0, .slice none 0 0]] W fun ee w' => ee = .returned (.bool bare) ∧ St w0 w' (RI (.slice A n p) ps :: RT (.slice B m q) ts :: M))
    (hK : ∀ W M, St w0 W (RI (.slice A n p) ps :: RT (.slice B m q) ts :: M) → Calls Try.prog 54 #[.agg #[.int .i64 a, .int .i64 b, .int .i64 c, .int .i64 d, .slice A n p, .slice B m q]] W fun ee w' => ee = .returned (.int .i64 E) ∧ St w0 w' (RI (.slice A n p) ps :: RT (.slice B m q) ts :: M))
    (h1 : zeroV hasC code = true) (h2 : (hasS || bare) = true) (hR2 : ∀ j, j < 7 → zeroV (us j) (v j) = false → R = 2) (hR3 : (∀ j, j < 7 → zeroV (us j) (v j) = true) → ∀ j, j < 7 → us j = true → (v j < 0 ∨ mostJ j < v j) → R = 3)
    (hR : (∀ j, j < 7 → zeroV (us j) (v j) = true) → (∀ j, j < 7 → us j = true → ¬ (v j < 0 ∨ mostJ j < v j)) → R = if hasS = true then E else 0)
    (h : St w0 w (RI (.slice A n p) ps :: RT (.slice B m q) ts :: L)) :
    Calls Try.prog 28 #[.agg (Rec15 kind e a b c d A n p B m q id task tick wait pid nonce code)] w fun ee w' => ee = .returned (.int .i64 R) ∧ St w0 w' (RI (.slice A n p) ps :: RT (.slice B m q) ts :: L) := by
  have s1 := h.alloc (Rec15 kind e a b c d A n p B m q id task tick wait pid nonce code) tRe
  have HU := Lib.hid hU
  have HQ := Lib.hid hQ
  have HK := Lib.hid hK
  have HB := Lib.hid hB
  have HV := Lib.hid hv
  have HR := Lib.hid (And.intro hR2 (And.intro hR3 hR))
  clear h hU hQ hK hB hv hR2 hR3 hR
  obtain ⟨eC, eC'⟩ := hC
  obtain ⟨eS, eS'⟩ := hS
  have f0 : (f == 0) = false := beq_eq_false_iff_ne.mpr hf
  clear hf
  have hc1 := s1.cells
  have S1 := Lib.hid s1
  clear s1
  go_enter Try.func28, Try.ntmps28
  go_wp2_with fail
  refine (HU.out _ _ S1.out).mono ?_
  rintro ee w1 ⟨rfl, s2⟩
  clear HU S1 hc1
  have hc2 := s2.cells
  generalize w.heap.size = b1 at *
  have S2 := Lib.hid s2
  clear s2
  go_wp2_with fail
  refine (zero_c hasC code _).mono ?_
  rintro ee w2 ⟨rfl, hb⟩
  rw [h1]
  have S3 := Lib.hid (S2.out.more hb)
  clear S2 hc2 hb eC eC'
  have hc3 := S3.out.cells
  cases hasS
  case' false =>
    have hbare : bare = true := by simpa using h2
    subst hbare
    go_wp2_with fail
    have t1 := S3.out.pick 1
    simp only [List.getElem_cons_succ, List.getElem_cons_zero, List.eraseIdx_cons_succ, List.eraseIdx_cons_zero] at t1
    have t2 := t1.pick 2
    simp only [List.getElem_cons_succ, List.getElem_cons_zero, List.eraseIdx_cons_succ, List.eraseIdx_cons_zero] at t2
    have t3 := t2.pick 1
    simp only [List.getElem_cons_succ, List.getElem_cons_zero, List.eraseIdx_cons_succ, List.eraseIdx_cons_zero] at t3
    refine (HQ.out _ _ t3).mono ?_
    rintro ee w3 ⟨rfl, s4⟩
    clear t1 t2 t3 S3 hc3 HQ
    have S4 := Lib.hid s4
    clear s4
    go_wp2_with fail
  case' true =>
    have t1 := S3.out.pick 1
    simp only [List.getElem_cons_succ, List.getElem_cons_zero, List.eraseIdx_cons_succ, List.eraseIdx_cons_zero] at t1
    have t2 := t1.pick 2
    simp only [List.getElem_cons_succ, List.getElem_cons_zero, List.eraseIdx_cons_succ, List.eraseIdx_cons_zero] at t2
    have t3 := t2.pick 1
    simp only [List.getElem_cons_succ, List.getElem_cons_zero, List.eraseIdx_cons_succ, List.eraseIdx_cons_zero] at t3
    have S4 := Lib.hid t3
    clear t1 t2 t3 S3 HQ
    go_wp2_with fail
    clear hc3
  all_goals (
    refine (fields_c b1 _).mono ?_
    rintro ee w4 ⟨F, rfl, hF1, hF2, hb⟩
    have s5 : St w0 w4 (Go.Proofs.YtkhcdichdnbcmaaR.blk F (fldC b1) tFl :: RI (.slice A n p) ps :: RT (.slice B m q) ts :: Go.Proofs.YtkhcdichdnbcmaaR.blk b1 (Rec15 kind e a b c d A n p B m q id task tick wait pid nonce code) tRe :: L) := S4.out.new hb (blk_loc F (fldC b1) tFl) ⟨hF2, rfl⟩ (fun i hi => by subst hi; exact hF1)
    clear S4 hF1 hF2 hb
    go_wp2_with fail
    go_loopw [36] (fun x wr => ∃ j : Nat, j ≤ 7 ∧ x = .int .i64 j ∧ St w0 wr (Go.Proofs.YtkhcdichdnbcmaaR.blk F (fldC b1) tFl :: RI (.slice A n p) ps :: RT (.slice B m q) ts :: Go.Proofs.YtkhcdichdnbcmaaR.blk b1 (Rec15 kind e a b c d A n p B m q id task tick wait pid nonce code) tRe :: L) ∧ ∀ i, i < j → zeroV (us i) (v i) = true) (fun x _ => 7 - (intOf x).toNat)
    case atStart => exact ⟨0, by omega, rfl, s5, fun i hi => by omega⟩
    case round =>
      clear s5
      obtain ⟨j, hj, rfl, hs, hz⟩ := hrel
      have hj0 : (0 : Int) ≤ (j : Int) := by omega
      have HZ := Lib.hid hz
      clear hz
      by_cases hlt : ((j : Int) < 7)
      · obtain ⟨q0, q1, q2⟩ := fld_at b1 j (by omega)
        have y0 := (hs.cells (j * 3)).trans q0
        have y1 := (hs.cells (j * 3 + 1)).trans q1
        have y2 := (hs.cells (j * 3 + 2)).trans q2
        have yv := ((hs.pick 3).cells (offJ j)).trans (HV.out j (by omega))
        have hlF := vlt hs.at0
        have hlb := vlt (hs.pick 3).at0
        obtain ⟨eb, eb'⟩ := HB.out j (by omega)
        have HS := Lib.hid hs
        clear hs q0 q1 q2
        generalize hbit : bitJ j = bit at *
        generalize hmost : mostJ j = most at *
        generalize hoff : offJ j = off at *
        generalize hval : v j = val at *
        generalize hu : us j = u at *
        have HE := Lib.hid (And.intro hbit (And.intro hmost (And.intro hoff (And.intro hval hu))))
        clear hbit hmost hoff hval hu
        go_upto_region 7 with fail
        obtain ⟨wq, hwq⟩ : ∃ wq, wq = wr.alloc (Obj.cells #[.int .i64 bit, .pointer (some ⟨b1, off, none⟩), .int .i64 most] tFl) := ⟨_, rfl⟩
        have sq : St w0 wq (Go.Proofs.YtkhcdichdnbcmaaR.blk F (fldC b1) tFl :: RI (.slice A n p) ps :: RT (.slice B m q) ts :: Go.Proofs.YtkhcdichdnbcmaaR.blk b1 (Rec15 kind e a b c d A n p B m q id task tick wait pid nonce code) tRe :: L) := by rw [hwq]; exact HS.out.more (below_alloc (Below.refl _ _) _)
        have yq : wq.heap[wr.heap.size]? = some (.cells #[.int .i64 bit, .pointer (some ⟨b1, off, none⟩), .int .i64 most] tFl (0, 0)) := by rw [hwq]; exact vnewAt rfl
        have yv2 : wq.cell? ⟨b1, off, none⟩ = some (.int .i64 val) := by rw [hwq]; exact ((below_alloc (Below.refl _ _) _).cell (p := ⟨b1, off, none⟩) hlb).trans yv
        have hlq : b1 < wq.heap.size := by rw [hwq]; simp; omega
        rw [← hwq]
        clear hwq y0 y1 y2 yv hlF hlb
        generalize wr.heap.size = g at *
        have yu := fun X i => (up_cell wq X ⟨g, i, none⟩ (vlt yq)).trans (vcell yq i)
        have yw := fun X => (up_cell wq X ⟨b1, off, none⟩ hlq).trans yv2
        have SQ := Lib.hid sq
        clear sq HS yq yv2 hlq
        have zr := fun X => calls_up (zero_c u val (wq.up X))
        by_cases hzz : zeroV u val = true
        · refine wp_region_up_lit (by kernel_rfl) (by kernel_rfl) ?_
          repeat (go_big_quiet_step ((with_reducible exact zr _)))
          refine wpQuiet_nil ?_
          intro wz hwz
          have hbz := up_ex hwz
          clear hwz
          have s6 := SQ.out.more hbz
          clear SQ hbz yu yw
          go_wp2_with fail
          all_goals go_roundw
          all_goals first | exact ⟨j + 1, by omega, by go_num, s6, fun i hi => by
            rcases Nat.lt_or_ge i j with h | h
            · exact HZ.out i h
            · obtain rfl : i = j := by omega
              obtain ⟨-, -, -, q4, q5⟩ := HE.out
              rw [q4, q5]; exact hzz⟩ | (simp [intOf]; omega)
        · have hzf : zeroV u val = false := by simpa using hzz
          clear hzz
          refine wp_region_up_lit (by kernel_rfl) (by kernel_rfl) ?_
          repeat (go_big_quiet_step ((with_reducible exact zr _)))
          refine wpQuiet_nil ?_
          intro wz hwz
          have hbz := up_ex hwz
          clear hwz
          have s6 := SQ.out.more hbz
          clear SQ hbz yu yw
          have HR2 := Lib.hid (show R = 2 from HR.out.1 j (by omega) (by obtain ⟨-, -, -, q4, q5⟩ := HE.out; rw [q4, q5]; exact hzf))
          have t1 := s6.drop.pick 2
          simp only [List.getElem_cons_succ, List.getElem_cons_zero, List.eraseIdx_cons_succ, List.eraseIdx_cons_zero] at t1
          have T1 := Lib.hid t1.drop
          clear t1 s6
          go_wp2_with fail
          refine bodyPost_ret (v := .int .i64 2) (by simp [results, Try.results28, go_sem]) rfl ?_
          exact ⟨by rw [HR2.out], T1.out⟩
      · have hz7 : ∀ i, i < 7 → zeroV (us i) (v i) = true := fun i hi => HZ.out i (by omega)
        have HZ7 := Lib.hid hz7
        clear hz7 HZ
        have s7 := hs.drop
        have hc7 := (s7.pick 2).cells
        have S7 := Lib.hid s7
        clear s7 hs
        go_wp2_with fail
        refine (fields_c b1 _).mono ?_
        rintro ee w5 ⟨F, rfl, hF1, hF2, hb⟩
        have s8 : St w0 w5 (Go.Proofs.YtkhcdichdnbcmaaR.blk F (fldC b1) tFl :: RI (.slice A n p) ps :: RT (.slice B m q) ts :: Go.Proofs.YtkhcdichdnbcmaaR.blk b1 (Rec15 kind e a b c d A n p B m q id task tick wait pid nonce code) tRe :: L) := S7.out.new hb (blk_loc F (fldC b1) tFl) ⟨hF2, rfl⟩ (fun i hi => by subst hi; exact hF1)
        clear S7 hF1 hF2 hb hc7
        go_wp2_with fail
        go_loopw [54] (fun x wr => ∃ j : Nat, j ≤ 7 ∧ x = .int .i64 j ∧ St w0 wr (Go.Proofs.YtkhcdichdnbcmaaR.blk F (fldC b1) tFl :: RI (.slice A n p) ps :: RT (.slice B m q) ts :: Go.Proofs.YtkhcdichdnbcmaaR.blk b1 (Rec15 kind e a b c d A n p B m q id task tick wait pid nonce code) tRe :: L) ∧ ∀ i, i < j → us i = true → ¬ (v i < 0 ∨ mostJ i < v i)) (fun x _ => 7 - (intOf x).toNat)
        case atStart => exact ⟨0, by omega, rfl, s8, fun i hi => by omega⟩
        case round =>
          clear s8
          obtain ⟨j, hj, rfl, hs, hz⟩ := hrel
          have hj0 : (0 : Int) ≤ (j : Int) := by omega
          have HZ := Lib.hid hz
          clear hz
          by_cases hlt : ((j : Int) < 7)
          · obtain ⟨q0, q1, q2⟩ := fld_at b1 j (by omega)
            have y0 := (hs.cells (j * 3)).trans q0
            have y1 := (hs.cells (j * 3 + 1)).trans q1
            have y2 := (hs.cells (j * 3 + 2)).trans q2
            have yv := ((hs.pick 3).cells (offJ j)).trans (HV.out j (by omega))
            have hlF := vlt hs.at0
            have hlb := vlt (hs.pick 3).at0
            obtain ⟨eb, eb'⟩ := HB.out j (by omega)
            have HS := Lib.hid hs
            clear hs q0 q1 q2
            generalize hbit : bitJ j = bit at *
            generalize hmost : mostJ j = most at *
            generalize hoff : offJ j = off at *
            generalize hval : v j = val at *
            generalize hu : us j = u at *
            have HE := Lib.hid (And.intro hbit (And.intro hmost (And.intro hoff (And.intro hval hu))))
            clear hbit hmost hoff hval hu
            go_upto_region 13 with fail
            obtain ⟨wq, hwq⟩ : ∃ wq, wq = wr.alloc (Obj.cells #[.int .i64 bit, .pointer (some ⟨b1, off, none⟩), .int .i64 most] tFl) := ⟨_, rfl⟩
            have sq : St w0 wq (Go.Proofs.YtkhcdichdnbcmaaR.blk F (fldC b1) tFl :: RI (.slice A n p) ps :: RT (.slice B m q) ts :: Go.Proofs.YtkhcdichdnbcmaaR.blk b1 (Rec15 kind e a b c d A n p B m q id task tick wait pid nonce code) tRe :: L) := by rw [hwq]; exact HS.out.more (below_alloc (Below.refl _ _) _)
            have yq : wq.heap[wr.heap.size]? = some (.cells #[.int .i64 bit, .pointer (some ⟨b1, off, none⟩), .int .i64 most] tFl (0, 0)) := by rw [hwq]; exact vnewAt rfl
            have yv2 : wq.cell? ⟨b1, off, none⟩ = some (.int .i64 val) := by rw [hwq]; exact ((below_alloc (Below.refl _ _) _).cell (p := ⟨b1, off, none⟩) hlb).trans yv
            have hlq : b1 < wq.heap.size := by rw [hwq]; simp; omega
            rw [← hwq]
            clear hwq y0 y1 y2 yv hlF hlb
            generalize wr.heap.size = g at *
            have yu := fun X i => (up_cell wq X ⟨g, i, none⟩ (vlt yq)).trans (vcell yq i)
            have yw := fun X => (up_cell wq X ⟨b1, off, none⟩ hlq).trans yv2
            have SQ := Lib.hid sq
            clear sq HS yq yv2 hlq
            cases u
            · refine wp_region_up_lit (by kernel_rfl) (by kernel_rfl) ?_
              repeat (go_big_quiet_step ((fail)))
              refine wpQuiet_nil ?_
              intro wz hwz
              have hbz := up_ex hwz
              clear hwz
              have s6 := SQ.out.more hbz
              clear SQ hbz yu yw
              go_wp2_with fail
              all_goals go_roundw
              all_goals first | exact ⟨j + 1, by omega, by go_num, s6, fun i hi => by
                rcases Nat.lt_or_ge i j with h | h
                · exact HZ.out i h
                · obtain rfl : i = j := by omega
                  obtain ⟨-, -, -, q4, q5⟩ := HE.out
                  intro h; rw [q5] at h; cases h⟩ | (simp [intOf]; omega)
            · by_cases hl0 : val < 0
              · have d1 : decide (val < 0) = true := decide_eq_true hl0
                refine wp_region_up_lit (by kernel_rfl) (by kernel_rfl) ?_
                repeat (go_big_quiet_step ((fail)))
                refine wpQuiet_nil ?_
                intro wz hwz
                have hbz := up_ex hwz
                clear hwz
                have s6 := SQ.out.more hbz
                clear SQ hbz yu yw
                have HR3 := Lib.hid (show R = 3 from HR.out.2.1 HZ7.out j (by omega) (by obtain ⟨-, -, -, q4, q5⟩ := HE.out; exact q5) (by obtain ⟨-, q2, -, q4, q5⟩ := HE.out; rw [q4]; exact .inl hl0))
                have t1 := s6.drop.pick 2
                simp only [List.getElem_cons_succ, List.getElem_cons_zero, List.eraseIdx_cons_succ, List.eraseIdx_cons_zero] at t1
                have T1 := Lib.hid t1.drop
                clear t1 s6
                go_wp2_with fail
                refine bodyPost_ret (v := .int .i64 3) (by simp [results, Try.results28, go_sem]) rfl ?_
                exact ⟨by rw [HR3.out], T1.out⟩
              · have d1 : decide (val < 0) = false := decide_eq_false hl0
                by_cases hlm : most < val
                · have d2 : decide (most < val) = true := decide_eq_true hlm
                  refine wp_region_up_lit (by kernel_rfl) (by kernel_rfl) ?_
                  repeat (go_big_quiet_step ((fail)))
                  refine wpQuiet_nil ?_
                  intro wz hwz
                  have hbz := up_ex hwz
                  clear hwz
                  have s6 := SQ.out.more hbz
                  clear SQ hbz yu yw
                  have HR3 := Lib.hid (show R = 3 from HR.out.2.1 HZ7.out j (by omega) (by obtain ⟨-, -, -, q4, q5⟩ := HE.out; exact q5) (by obtain ⟨-, q2, -, q4, q5⟩ := HE.out; rw [q4, q2]; exact .inr hlm))
                  have t1 := s6.drop.pick 2
                  simp only [List.getElem_cons_succ, List.getElem_cons_zero, List.eraseIdx_cons_succ, List.eraseIdx_cons_zero] at t1
                  have T1 := Lib.hid t1.drop
                  clear t1 s6
                  go_wp2_with fail
                  refine bodyPost_ret (v := .int .i64 3) (by simp [results, Try.results28, go_sem]) rfl ?_
                  exact ⟨by rw [HR3.out], T1.out⟩
                · have d2 : decide (most < val) = false := decide_eq_false hlm
                  refine wp_region_up_lit (by kernel_rfl) (by kernel_rfl) ?_
                  repeat (go_big_quiet_step ((fail)))
                  refine wpQuiet_nil ?_
                  intro wz hwz
                  have hbz := up_ex hwz
                  clear hwz
                  have s6 := SQ.out.more hbz
                  clear SQ hbz yu yw
                  go_wp2_with fail
                  all_goals go_roundw
                  all_goals first | exact ⟨j + 1, by omega, by go_num, s6, fun i hi => by
                    rcases Nat.lt_or_ge i j with h | h
                    · exact HZ.out i h
                    · obtain rfl : i = j := by omega
                      obtain ⟨-, q2, -, q4, q5⟩ := HE.out
                      rw [q2, q4]; intro _; omega⟩ | (simp [intOf]; omega)
          · have HOK := Lib.hid (HR.out.2.2 HZ7.out (fun i hi hu => HZ.out i (by omega) hu))
            have s9 := hs.drop
            have hc9 := (s9.pick 2).cells
            have S9 := Lib.hid s9
            clear s9 hs
            first
            | (go_wp2_with fail
               refine (HK.out _ _ S9.out).mono ?_
               rintro ee w9 ⟨rfl, s10⟩
               have t1 := s10.pick 2
               simp only [List.getElem_cons_succ, List.getElem_cons_zero, List.eraseIdx_cons_succ, List.eraseIdx_cons_zero] at t1
               have T1 := Lib.hid t1.drop
               clear t1 s10 S9 hc9
               go_wp2_with fail
               refine bodyPost_ret (v := .int .i64 E) (by simp [results, Try.results28, go_sem]) rfl ?_
               exact ⟨by rw [HOK.out]; simp, T1.out⟩)
            | (go_wp2_with fail
               refine bodyPost_ret (v := .int .i64 0) (by simp [results, Try.results28, go_sem]) rfl ?_
               have t1 := S9.out.pick 2
               simp only [List.getElem_cons_succ, List.getElem_cons_zero, List.eraseIdx_cons_succ, List.eraseIdx_cons_zero] at t1
               exact ⟨by rw [HOK.out]; simp, t1.drop⟩))
end Go.Proofs.YtkhcdichdnbcmaaR
end
section
namespace Go.Proofs.YtkhcdichdnbcmaaR
open Go.RowKit Go.Proofs.YtkhcdichdnbcmaaR Go.Proofs.YtkhcdichdnbcmaaR.Ext Go.Proofs.YtkhcdichdnbcmaaR.C Go.Proofs.YtkhcdichdnbcmaaR.Sp Go.Proofs.YtkhcdichdnbcmaaRW.PrintWords Go.Proofs.YtkhcdichdnbcmaaRW.PrintLast
set_option linter.unusedVariables false
set_option linter.unusedSimpArgs false
section
variable {w0 w : World} {L : List HP} (kind e a b c d id task tick wait pid nonce code : Int) (A B : Option Addr) (n m p q : Nat) (ps : List Int) (ts : List TX)
set_option maxHeartbeats 1000000 in
theorem rck15_0 (hU : ∀ W M, St w0 W M → Calls Try.prog 36 #[.int .u8 kind] W fun ee w' => ee = .returned (.int .i64 0) ∧ St w0 w' M) (h : St w0 w L) :
  Calls Try.prog 28 #[.agg (Rec15 kind e a b c d A n p B m q id task tick wait pid nonce code)] w fun ee w' => ee = .returned (.int .i64 2) ∧ St w0 w' L := by
 have s1 := h.alloc (Rec15 kind e a b c d A n p B m q id task tick wait pid nonce code) tRe
 have HU := Lib.hid hU
 clear h hU
 have hc1 := s1.cells
 have S1 := Lib.hid s1
 clear s1
 go_enter Try.func28, Try.ntmps28
 go_wp2_with fail
 refine (HU.out _ _ S1.out).mono ?_
 rintro ee w1 ⟨rfl, s2⟩
 clear HU S1 hc1
 have S2 := Lib.hid s2
 clear s2
 go_wp2_with fail
 go_returns
 exact ⟨rfl, S2.out.drop⟩
set_option maxHeartbeats 1000000 in
theorem rck15_code (f : Int) (hasC : Bool) (hU : ∀ W M, St w0 W M → Calls Try.prog 36 #[.int .u8 kind] W fun ee w' => ee = .returned (.int .i64 f) ∧ St w0 w' M) (hf : f ≠ 0) (hC : AndB f 256 hasC) (h1 : zeroV hasC code = false) (h : St w0 w L) :
  Calls Try.prog 28 #[.agg (Rec15 kind e a b c d A n p B m q id task tick wait pid nonce code)] w fun ee w' => ee = .returned (.int .i64 2) ∧ St w0 w' L := by
 have s1 := h.alloc (Rec15 kind e a b c d A n p B m q id task tick wait pid nonce code) tRe
 have HU := Lib.hid hU
 clear h hU
 obtain ⟨eC, eC'⟩ := hC
 have f0 : (f == 0) = false := beq_eq_false_iff_ne.mpr hf
 clear hf
 have hc1 := s1.cells
 have S1 := Lib.hid s1
 clear s1
 go_enter Try.func28, Try.ntmps28
 go_wp2_with fail
 refine (HU.out _ _ S1.out).mono ?_
 rintro ee w1 ⟨rfl, s2⟩
 clear HU S1 hc1
 have hc2 := s2.cells
 generalize w.heap.size = b1 at *
 have S2 := Lib.hid s2
 clear s2
 go_wp2_with fail
 refine (zero_c hasC code _).mono ?_
 rintro ee w2 ⟨rfl, hb⟩
 rw [h1]
 have S3 := Lib.hid (S2.out.more hb)
 clear S2 hc2 hb eC eC'
 go_wp2_with fail
 go_returns
 exact ⟨rfl, S3.out.drop⟩
set_option maxHeartbeats 1000000 in
theorem rck15_spec (f : Int) (hasC : Bool) (hU : ∀ W M, St w0 W M → Calls Try.prog 36 #[.int .u8 kind] W fun ee w' => ee = .returned (.int .i64 f) ∧ St w0 w' M) (hf : f ≠ 0) (hC : AndB f 256 hasC) (hS : AndB f 2 false) (h1 : zeroV hasC code = true)
  (hQ : ∀ W M, St w0 W (RI (.slice A n p) ps :: RT (.slice B m q) ts :: M) → Calls Try.prog 53 #[.agg #[.int .i64 a, .int .i64 b, .int .i64 c, .int .i64 d, .slice A n p, .slice B m q], .agg #[.int .i64 0, .int .i64 0, .int .i64 0, .int .i64 0, .slice none 0 0, .slice none 0 0]] W fun ee w' => ee = .returned (.bool false) ∧ St w0 w' (RI (.slice A n p) ps :: RT (.slice B m q) ts :: M))
  (h : St w0 w (RI (.slice A n p) ps :: RT (.slice B m q) ts :: L)) :
  Calls Try.prog 28 #[.agg (Rec15 kind e a b c d A n p B m q id task tick wait pid nonce code)] w fun ee w' => ee = .returned (.int .i64 2) ∧ St w0 w' (RI (.slice A n p) ps :: RT (.slice B m q) ts :: L) := by
 have s1 := h.alloc (Rec15 kind e a b c d A n p B m q id task tick wait pid nonce code) tRe
 have HU := Lib.hid hU
 have HQ := Lib.hid hQ
 clear h hU hQ
 obtain ⟨eC, eC'⟩ := hC
 obtain ⟨eS, eS'⟩ := hS
 have f0 : (f == 0) = false := beq_eq_false_iff_ne.mpr hf
 clear hf
 have hc1 := s1.cells
 have S1 := Lib.hid s1
 clear s1
 go_enter Try.func28, Try.ntmps28
 go_wp2_with fail
 refine (HU.out _ _ S1.out).mono ?_
 rintro ee w1 ⟨rfl, s2⟩
 clear HU S1 hc1
 have hc2 := s2.cells
 generalize w.heap.size = b1 at *
 have S2 := Lib.hid s2
 clear s2
 go_wp2_with fail
 refine (zero_c hasC code _).mono ?_
 rintro ee w2 ⟨rfl, hb⟩
 rw [h1]
 have S3 := Lib.hid (S2.out.more hb)
 clear S2 hc2 hb eC eC'
 have hc3 := S3.out.cells
 go_wp2_with fail
 have t1 := S3.out.pick 1
 simp only [List.getElem_cons_succ, List.getElem_cons_zero, List.eraseIdx_cons_succ, List.eraseIdx_cons_zero] at t1
 have t2 := t1.pick 2
 simp only [List.getElem_cons_succ, List.getElem_cons_zero, List.eraseIdx_cons_succ, List.eraseIdx_cons_zero] at t2
 have t3 := t2.pick 1
 simp only [List.getElem_cons_succ, List.getElem_cons_zero, List.eraseIdx_cons_succ, List.eraseIdx_cons_zero] at t3
 refine (HQ.out _ _ t3).mono ?_
 rintro ee w3 ⟨rfl, s4⟩
 clear t1 t2 t3 S3 hc3 HQ
 have t4 := s4.pick 2
 simp only [List.getElem_cons_succ, List.getElem_cons_zero, List.eraseIdx_cons_succ, List.eraseIdx_cons_zero] at t4
 have T4 := Lib.hid t4.drop
 clear s4 t4
 go_wp2_with fail
 go_returns
 exact ⟨rfl, T4.out⟩
end
def usesF (k : Int) : Int := if k = 1 then 3 else if k = 2 then 53 else if k = 3 then 5 else if k = 4 then 28 else if k = 5 then 204 else if k = 6 then 12 else if k = 7 then 12 else if k = 8 then 284 else if k = 9 then 16 else 0
theorem uses_eq (k : Int) : rec_uses.f 20 k = some (usesF k) := by
 unfold rec_uses.f usesF
 by_cases h1 : k = 1
 ·subst h1; decide +kernel
 by_cases h2 : k = 2
 ·subst h2; decide +kernel
 by_cases h3 : k = 3
 ·subst h3; decide +kernel
 by_cases h4 : k = 4
 ·subst h4; decide +kernel
 by_cases h5 : k = 5
 ·subst h5; decide +kernel
 by_cases h6 : k = 6
 ·subst h6; decide +kernel
 by_cases h7 : k = 7
 ·subst h7; decide +kernel
 by_cases h8 : k = 8
 ·subst h8; decide +kernel
 by_cases h9 : k = 9
 ·subst h9; decide +kernel
 simp [h1, h2, h3, h4, h5, h6, h7, h8, h9, rec_uses.j0]
theorem uses_s {w0 : World} (k : Int) : ∀ W M, St w0 W M → Calls Try.prog 36 #[.int .u8 k] W fun ee w' => ee = .returned (.int .i64 (usesF k)) ∧ St w0 w' M := by
 intro W M h
 refine (rec_uses.calls 20 k _ W (uses_eq k)).mono ?_
 rintro ee w' ⟨rfl, hd⟩
 exact ⟨rfl, by first | exact h.more hd | (obtain ⟨j, rfl⟩ := hd; exact h.drewN j) | exact h.more hd.below⟩
end Go.Proofs.YtkhcdichdnbcmaaR
end
section
namespace Go.Proofs.YtkhcdichdnbcmaaR
open Go.RowKit Go.Proofs.YtkhcdichdnbcmaaR Go.Proofs.YtkhcdichdnbcmaaR.Ext Go.Proofs.YtkhcdichdnbcmaaR.C Go.Proofs.YtkhcdichdnbcmaaR.Sp Go.Proofs.YtkhcdichdnbcmaaRW.PrintWords Go.Proofs.YtkhcdichdnbcmaaRW.PrintLast
set_option linter.unusedVariables false
set_option linter.unusedSimpArgs false
theorem all7 (P : Nat → Prop) : (∀ j, j < 7 → P j) ↔ P 0 ∧ P 1 ∧ P 2 ∧ P 3 ∧ P 4 ∧ P 5 ∧ P 6 := by
 constructor
 ·exact fun h => ⟨h 0 (by omega), h 1 (by omega), h 2 (by omega), h 3 (by omega), h 4 (by omega), h 5 (by omega), h 6 (by omega)⟩
 ·rintro ⟨h0, h1, h2, h3, h4, h5, h6⟩ j hj
  match j, hj with
  | 0, _ => exact h0
  | 1, _ => exact h1
  | 2, _ => exact h2
  | 3, _ => exact h3
  | 4, _ => exact h4
  | 5, _ => exact h5
  | 6, _ => exact h6
def usJ (k : Int) (j : Nat) : Bool := (usesB k).getD j false
def vJ (r : RE) (j : Nat) : Int := (valsR r).getD j 0
theorem seven {l : List Bool} (h : l.length = 7) : ∃ a b c d e f g, l = [a, b, c, d, e, f, g] := by
 match l, h with
 | [a, b, c, d, e, f, g], _ => exact ⟨a, b, c, d, e, f, g, rfl⟩
theorem badA_iff (r : RE) : badA (fldK r.kind) (valsR r) = false ↔ ∀ j, j < 7 → zeroV (usJ r.kind j) (vJ r j) = true := by
 rw [all7]
 unfold fldK usJ vJ zeroV
 obtain ⟨a, b, c, d, e, f, g, hu⟩ := seven (usesB_len r.kind)
 rw [hu]
 simp only [mostsR, valsR, List.zip_cons_cons, badA, List.getD_cons_zero, List.getD_cons_succ]
 have z : badA (List.zip [] []) [] = false := rfl
 have z2 : badA [] [] = false := rfl
 simp [z, z2]
 grind
theorem badB_iff (r : RE) : badB (fldK r.kind) (valsR r) = false ↔ ∀ j, j < 7 → usJ r.kind j = true → ¬ (vJ r j < 0 ∨ mostJ j < vJ r j) := by
 rw [all7]
 unfold fldK usJ vJ mostJ
 obtain ⟨a, b, c, d, e, f, g, hu⟩ := seven (usesB_len r.kind)
 rw [hu]
 simp only [mostsR, valsR, List.zip_cons_cons, badB, List.getD_cons_zero, List.getD_cons_succ]
 have z2 : badB [] [] = false := rfl
 simp [z2]
theorem and_all (k : Int) (h : 1 ≤ k ∧ k ≤ 9) : usesF k ≠ 0 ∧ AndB (usesF k) 256 (decide (k = 8)) ∧ AndB (usesF k) 2 (decide (k = 1)) ∧ ∀ j, j < 7 → AndB (usesF k) (bitJ j) (usJ k j) := by
 have : k = 1 ∨ k = 2 ∨ k = 3 ∨ k = 4 ∨ k = 5 ∨ k = 6 ∨ k = 7 ∨ k = 8 ∨ k = 9 := by omega
 rw [all7]
 rcases this with rfl | rfl | rfl | rfl | rfl | rfl | rfl | rfl | rfl <;> exact ⟨by decide, by unfold AndB; decide +kernel, by unfold AndB; decide +kernel, by unfold AndB; decide +kernel, by unfold AndB; decide +kernel, by unfold AndB; decide +kernel, by unfold AndB; decide +kernel, by unfold AndB; decide +kernel, by unfold AndB; decide +kernel, by unfold AndB; decide +kernel⟩
theorem rchk15_s {w0 w : World} {L : List HP} (kind e a b c d id task tick wait pid nonce code : Int) {A B : Option Addr} {n m p q : Nat} (ps : List Int) (ts : List TX) (h : St w0 w (RI (.slice A n p) ps :: RT (.slice B m q) ts :: L)) (r : Int) (hr : recE ⟨kind, e, spOf a b c d ps ts, id, task, tick, wait, pid, nonce, code⟩ = r) :
  Calls Try.prog 28 #[.agg (Rec15 kind e a b c d A n p B m q id task tick wait pid nonce code)] w fun ee w' => ee = .returned (.int .i64 r) ∧ St w0 w' (RI (.slice A n p) ps :: RT (.slice B m q) ts :: L) := by
 subst hr
 obtain ⟨x, hx⟩ : ∃ x : RE, x = ⟨kind, e, spOf a b c d ps ts, id, task, tick, wait, pid, nonce, code⟩ := ⟨_, rfl⟩
 rw [← hx]
 have xk : x.kind = kind := by rw [hx]
 have xs : x.spec = spOf a b c d ps ts := by rw [hx]
 have xc : x.code = code := by rw [hx]
 have hU := uses_s (w0 := w0) kind
 by_cases hk : 1 ≤ kind ∧ kind ≤ 9
 case neg =>
  have h0 : usesF kind = 0 := by
   unfold usesF
   rw [if_neg (by omega), if_neg (by omega), if_neg (by omega), if_neg (by omega), if_neg (by omega), if_neg (by omega), if_neg (by omega), if_neg (by omega), if_neg (by omega)]
  rw [h0] at hU
  have hE : recE x = 2 := by
   unfold recE shapeR
   rw [xk, if_pos]
   simp only [Bool.and_eq_false_iff]
   exact .inl (.inl (decide_eq_false hk))
  rw [hE]
  exact rck15_0 kind e a b c d id task tick wait pid nonce code A B n m p q hU h
 obtain ⟨hf, hC, hS, hB⟩ := and_all kind hk
 obtain ⟨bare, hbare⟩ : ∃ y, decide (spOf a b c d ps ts = zSP) = y := ⟨_, rfl⟩
 have hQ : ∀ W M, St w0 W (RI (.slice A n p) ps :: RT (.slice B m q) ts :: M) → Calls Try.prog 53 #[.agg #[.int .i64 a, .int .i64 b, .int .i64 c, .int .i64 d, .slice A n p, .slice B m q], .agg #[.int .i64 0, .int .i64 0, .int .i64 0, .int .i64 0, .slice none 0 0, .slice none 0 0]] W fun ee w' => ee = .returned (.bool bare) ∧ St w0 w' (RI (.slice A n p) ps :: RT (.slice B m q) ts :: M) := by
  intro W M hs
  obtain ⟨c1, e1, l1⟩ := hs.rowKC
  obtain ⟨c2, e2, l2⟩ := (hs.pick 1).rowKC
  subst e1; subst e2
  refine (spec_Equal.calls 1 a b c d A p ps B q ts 0 0 0 0 none 0 [] none 0 [] bare W c1 l1 c2 l2 (Kd.C_nil _ _) (Nat.le_refl _) (Kd.C_nil _ _) (Nat.le_refl _) (by rw [sEqualZ 0, hbare])).mono ?_
  rintro ee w' ⟨rfl, hb⟩
  exact ⟨rfl, hs.more hb⟩
 have hsh : shapeR x = (zeroV (decide (kind = 8)) code && (decide (kind = 1) || bare)) := by
  unfold shapeR zeroV
  rw [xk, xc, xs, hbare, decide_eq_true hk, Bool.true_and]
  congr 1
 by_cases h1 : zeroV (decide (kind = 8)) code = true
 case neg =>
  have hE : recE x = 2 := by
   unfold recE
   rw [if_pos]
   rw [hsh]
   simp [h1]
  rw [hE]
  exact rck15_code kind e a b c d id task tick wait pid nonce code A B n m p q _ _ hU hf hC (by simpa using h1) h
 by_cases h2 : (decide (kind = 1) || bare) = true
 case neg =>
  have hE : recE x = 2 := by
   unfold recE
   rw [if_pos]
   rw [hsh]
   simp only [h1, Bool.true_and]
   simpa using h2
  rw [hE]
  have h3 : decide (kind = 1) = false := by
   cases hd : decide (kind = 1) with
   | true => rw [hd] at h2; exact absurd rfl h2
   | false => rfl
  have h4 : bare = false := by
   cases bare with
   | true => simp at h2
   | false => rfl
  rw [h3] at hS
  rw [h4] at hQ
  exact rck15_spec kind e a b c d id task tick wait pid nonce code A B n m p q ps ts _ _ hU hf hC hS h1 hQ h
 have hs1 : ¬ shapeR x = false := by rw [hsh, h1, h2]; simp
 refine rck15 kind e a b c d id task tick wait pid nonce code A B n m p q ps ts (usesF kind) (recE x) (specE (spOf a b c d ps ts)) (usJ kind) (decide (kind = 1)) (decide (kind = 8)) bare (vJ x) ?_ hU hf hC hS hB hQ ?_ h1 h2 ?_ ?_ ?_ h
 ·rw [all7]
  subst hx
  exact ⟨rfl, rfl, rfl, rfl, rfl, rfl, rfl⟩
 ·intro W M hs
  obtain ⟨c1, e1, l1⟩ := hs.rowKC
  obtain ⟨c2, e2, l2⟩ := (hs.pick 1).rowKC
  subst e1; subst e2
  refine (spec_Check.calls a b c d A p ps B q ts _ W c1 l1 c2 l2 rfl).mono ?_
  rintro ee w' ⟨rfl, hb⟩
  exact ⟨rfl, hs.more hb⟩
 ·intro j hj hz
  unfold recE
  rw [if_neg hs1, if_pos]
  rw [← Bool.not_eq_false, badA_iff]
  intro hh
  have := hh j hj
  rw [xk] at this
  rw [this] at hz
  cases hz
 ·intro hz j hj hu hbad
  unfold recE
  have hA : ¬ badA (fldK x.kind) (valsR x) = true := by
   rw [Bool.not_eq_true, badA_iff]
   rw [xk]; exact hz
  rw [if_neg hs1, if_neg hA, if_pos]
  rw [← Bool.not_eq_false, badB_iff]
  intro hh
  exact hh j hj (by rw [xk]; exact hu) hbad
 ·intro hz hu
  unfold recE
  have hA : ¬ badA (fldK x.kind) (valsR x) = true := by
   rw [Bool.not_eq_true, badA_iff]
   rw [xk]; exact hz
  have hBb : ¬ badB (fldK x.kind) (valsR x) = true := by
   rw [Bool.not_eq_true, badB_iff]
   rw [xk]; exact hu
  rw [if_neg hs1, if_neg hA, if_neg hBb, xk, xs]
  by_cases h1k : kind = 1
  ·rw [if_pos h1k, if_pos (decide_eq_true h1k)]
  ·rw [if_neg h1k, if_neg (by simpa using h1k)]
end Go.Proofs.YtkhcdichdnbcmaaR
end
section
namespace Go.Proofs.YtkhcdichdnbcmaaR
open Go.RowKit Go.Proofs.YtkhcdichdnbcmaaR Go.Proofs.YtkhcdichdnbcmaaR.Ext Go.Proofs.YtkhcdichdnbcmaaR.C Go.Proofs.YtkhcdichdnbcmaaR.Sp Go.Proofs.YtkhcdichdnbcmaaRW.PrintWords Go.Proofs.YtkhcdichdnbcmaaRW.PrintLast
set_option linter.unusedVariables false
set_option linter.unusedSimpArgs false
def Str (w0 : World) (f : Nat) (xs : Array Value) (o : List UInt8) : Prop := ∀ W M, St w0 W M → Calls Try.prog f xs W fun ee w' => ee = .returned (.string (YtkhcdichdnbcmaaR.Ext.mkB o)) ∧ St w0 w' M
theorem add_ok (a b : List UInt8) (h : a.length + b.length ≤ 100000) : ((YtkhcdichdnbcmaaR.Ext.mkB a).size + (YtkhcdichdnbcmaaR.Ext.mkB b).size ≤ 9223372036854775807) := by rw [mkB_size, mkB_size]; omega
section
variable {w0 w : World} {L : List HP} (kind e a b c d id task tick wait pid nonce code : Int) (A B : Option Addr) (n m p q : Nat) (ps : List Int) (ts : List TX)
set_option maxHeartbeats 1000000 in
theorem renc15_no (E : Int) (hE : E ≠ 0)
  (hK : ∀ W M, St w0 W (RI (.slice A n p) ps :: RT (.slice B m q) ts :: M) → Calls Try.prog 28 #[.agg (Rec15 kind e a b c d A n p B m q id task tick wait pid nonce code)] W fun ee w' => ee = .returned (.int .i64 E) ∧ St w0 w' (RI (.slice A n p) ps :: RT (.slice B m q) ts :: M))
  (h : St w0 w (RI (.slice A n p) ps :: RT (.slice B m q) ts :: L)) :
  Calls Try.prog 14 #[.agg (Rec15 kind e a b c d A n p B m q id task tick wait pid nonce code)] w fun ee w' => ee = .returned (.tuple #[.string (YtkhcdichdnbcmaaR.Ext.mkB []), .int .i64 E]) ∧ St w0 w' (RI (.slice A n p) ps :: RT (.slice B m q) ts :: L) := by
 have s1 := h.alloc (Rec15 kind e a b c d A n p B m q id task tick wait pid nonce code) tRe
 have HK := Lib.hid hK
 clear h hK
 have e0 : (E != 0) = true := bne_iff_ne.mpr hE
 clear hE
 have hc1 := s1.cells
 have S1 := Lib.hid s1
 clear s1
 go_enter Try.func14, Try.ntmps14
 go_wp2_with fail
 have t1 := S1.out.pick 2
 simp only [List.getElem_cons_succ, List.getElem_cons_zero, List.eraseIdx_cons_succ, List.eraseIdx_cons_zero] at t1
 have t2 := t1.pick 2
 simp only [List.getElem_cons_succ, List.getElem_cons_zero, List.eraseIdx_cons_succ, List.eraseIdx_cons_zero] at t2
 refine (HK.out _ _ t2).mono ?_
 rintro ee w1 ⟨rfl, s2⟩
 clear HK S1 hc1 t1 t2
 have S2 := Lib.hid s2
 clear s2
 go_wp2_with fail
 go_returns
 have t3 := S2.out.pick 2
 simp only [List.getElem_cons_succ, List.getElem_cons_zero, List.eraseIdx_cons_succ, List.eraseIdx_cons_zero] at t3
 exact ⟨rfl, t3.drop⟩
set_option maxRecDepth 100000 in
set_option maxHeartbeats 4000000 in
theorem renc15 (f : Int) (us : Nat → Bool) (hasS hasC : Bool) (v : Nat → Int) (o0 os oc X : List UInt8) (ov acc : Nat → List UInt8)
  (hv : ∀ j, j < 7 → (Rec15 kind e a b c d A n p B m q id task tick wait pid nonce code)[offJ j]? = some (.int .i64 (v j)))
  (hU : ∀ W M, St w0 W M → Calls Try.prog 36 #[.int .u8 kind] W fun ee w' => ee = .returned (.int .i64 f) ∧ St w0 w' M)
  (hC : AndB f 256 hasC) (hS : AndB f 2 hasS) (hB : ∀ j, j < 7 → AndB f (bitJ j) (us j)) (hk : 1 ≤ kind ∧ kind ≤ 9)
  (hK : ∀ W M, St w0 W (RI (.slice A n p) ps :: RT (.slice B m q) ts :: M) → Calls Try.prog 28 #[.agg (Rec15 kind e a b c d A n p B m q id task tick wait pid nonce code)] W fun ee w' => ee = .returned (.int .i64 0) ∧ St w0 w' (RI (.slice A n p) ps :: RT (.slice B m q) ts :: M))
  (hE : hasS = true → ∀ W M, St w0 W (RI (.slice A n p) ps :: RT (.slice B m q) ts :: M) → Calls Try.prog 35 #[.agg #[.int .i64 a, .int .i64 b, .int .i64 c, .int .i64 d, .slice A n p, .slice B m q]] W fun ee w' => ee = .returned (.tuple #[.string (YtkhcdichdnbcmaaR.Ext.mkB os), .int .i64 0]) ∧ St w0 w' (RI (.slice A n p) ps :: RT (.slice B m q) ts :: M))
  (hV : Str w0 33 #[.int .u64 kind] o0) (hI : Str w0 38 #[.int .i64 code] oc)
  (hVj : ∀ j, j < 7 → us j = true → (0 ≤ v j ∧ v j ≤ 9223372036854775807) ∧ Str w0 33 #[.int .u64 (v j)] (ov j))
  (hacc0 : acc 0 = o0) (hacc : ∀ j, j < 7 → acc (j + 1) = if us j = true then acc j ++ ov j else acc j) (hlen : ∀ j, j ≤ 7 → (acc j).length ≤ 1000 ∧ (ov j).length ≤ 1000) (hos : os.length ≤ 1000) (hoc : oc.length ≤ 1000)
  (hSC : ¬ (hasS = true ∧ hasC = true)) (hX : X = acc 7 ++ (if hasS = true then os else if hasC = true then oc else []))
  (h : St w0 w (RI (.slice A n p) ps :: RT (.slice B m q) ts :: L)) :
  Calls Try.prog 14 #[.agg (Rec15 kind e a b c d A n p B m q id task tick wait pid nonce code)] w fun ee w' => ee = .returned (.tuple #[.string (YtkhcdichdnbcmaaR.Ext.mkB X), .int .i64 0]) ∧ St w0 w' (RI (.slice A n p) ps :: RT (.slice B m q) ts :: L) := by
 have s1 := h.alloc (Rec15 kind e a b c d A n p B m q id task tick wait pid nonce code) tRe
 have HU := Lib.hid hU
 have HK := Lib.hid hK
 have HB := Lib.hid hB
 have HV := Lib.hid hv
 have HE := Lib.hid hE
 have HP := Lib.hid hV
 have HI := Lib.hid hI
 have HJ := Lib.hid hVj
 have HA := Lib.hid (And.intro hacc (And.intro hlen (And.intro hos (And.intro hoc hX))))
 have HN := Lib.hid hSC
 clear h hU hK hB hv hE hV hI hVj hacc hlen hos hoc hSC hX
 have HZ := Lib.hid hacc0
 clear hacc0
 obtain ⟨eC, eC'⟩ := hC
 obtain ⟨eS, eS'⟩ := hS
 have hck : IntKind.u64.wrap kind = kind := IntWalk.u64_in _ (by omega)
 clear hk
 have hc1 := s1.cells
 have S1 := Lib.hid s1
 clear s1
 go_enter Try.func14, Try.ntmps14
 go_wp2_with fail
 have t1 := S1.out.pick 2
 simp only [List.getElem_cons_succ, List.getElem_cons_zero, List.eraseIdx_cons_succ, List.eraseIdx_cons_zero] at t1
 have t2 := t1.pick 2
 simp only [List.getElem_cons_succ, List.getElem_cons_zero, List.eraseIdx_cons_succ, List.eraseIdx_cons_zero] at t2
 refine (HK.out _ _ t2).mono ?_
 rintro ee w1 ⟨rfl, s2⟩
 clear HK S1 hc1 t1 t2
 have hc2 := (s2.pick 2).cells
 generalize w.heap.size = b1 at *
 have S2 := Lib.hid s2
 clear s2
 go_wp2_with fail
 refine (HU.out _ _ S2.out).mono ?_
 rintro ee w2 ⟨rfl, s3⟩
 clear HU S2 hc2
 have hc3 := (s3.pick 2).cells
 have S3 := Lib.hid s3
 clear s3
 go_wp2_with fail
 refine (HP.out _ _ S3.out).mono ?_
 rintro ee w3 ⟨rfl, s4⟩
 clear HP S3 hc3
 have S4 := Lib.hid s4
 clear s4
 go_wp2_with fail
 refine (fields_c b1 _).mono ?_
 rintro ee w4 ⟨F, rfl, hF1, hF2, hb⟩
 have s5 : St w0 w4 (Go.Proofs.YtkhcdichdnbcmaaR.blk F (fldC b1) tFl :: RI (.slice A n p) ps :: RT (.slice B m q) ts :: Go.Proofs.YtkhcdichdnbcmaaR.blk b1 (Rec15 kind e a b c d A n p B m q id task tick wait pid nonce code) tRe :: L) := S4.out.new hb (blk_loc F (fldC b1) tFl) ⟨hF2, rfl⟩ (fun i hi => by subst hi; exact hF1)
 clear S4 hF1 hF2 hb
 go_wp2_with fail
 go_loopw [25, 6] (fun x y wr => ∃ j : Nat, j ≤ 7 ∧ x = .int .i64 j ∧ y = .string (YtkhcdichdnbcmaaR.Ext.mkB (acc j)) ∧ St w0 wr (Go.Proofs.YtkhcdichdnbcmaaR.blk F (fldC b1) tFl :: RI (.slice A n p) ps :: RT (.slice B m q) ts :: Go.Proofs.YtkhcdichdnbcmaaR.blk b1 (Rec15 kind e a b c d A n p B m q id task tick wait pid nonce code) tRe :: L)) (fun x _ _ => 7 - (intOf x).toNat)
 case atStart => exact ⟨0, by omega, rfl, by rw [HZ.out], s5⟩
 case round =>
  clear s5 HZ
  obtain ⟨j, hj, rfl, rfl, hs⟩ := hrel
  have hj0 : (0 : Int) ≤ (j : Int) := by omega
  by_cases hlt : ((j : Int) < 7)
  ·obtain ⟨q0, q1, q2⟩ := fld_at b1 j (by omega)
   have y0 := (hs.cells (j * 3)).trans q0
   have y1 := (hs.cells (j * 3 + 1)).trans q1
   have y2 := (hs.cells (j * 3 + 2)).trans q2
   have yv := ((hs.pick 3).cells (offJ j)).trans (HV.out j (by omega))
   have hlF := vlt hs.at0
   have hlb := vlt (hs.pick 3).at0
   obtain ⟨eb, eb'⟩ := HB.out j (by omega)
   have HS := Lib.hid hs
   clear hs q0 q1 q2
   have hx := HJ.out j (by omega)
   have ha := HA.out.1 j (by omega)
   have hl1 := HA.out.2.1 j (by omega)
   have hadd := add_ok (acc j) (ov j) (by omega)
   clear hl1
   have t1 := mkB_append (acc j) (ov j)
   generalize bitJ j = bit at *
   generalize mostJ j = most at *
   generalize offJ j = off at *
   generalize v j = val at *
   generalize us j = u at *
   generalize ov j = ob at *
   generalize hoa : acc j = oa at *
   have HX := Lib.hid hx
   have HAA := Lib.hid ha
   clear hx ha hoa
   have z1 := eq_true hadd
   have z2 := eq_false (Nat.not_lt.2 hadd)
   have z3 := decide_eq_true hadd
   clear hadd
   go_upto_region 9 with fail
   obtain ⟨wq, hwq⟩ : ∃ wq, wq = wr.alloc (Obj.cells #[.int .i64 bit, .pointer (some ⟨b1, off, none⟩), .int .i64 most] tFl) := ⟨_, rfl⟩
   have sq : St w0 wq (Go.Proofs.YtkhcdichdnbcmaaR.blk F (fldC b1) tFl :: RI (.slice A n p) ps :: RT (.slice B m q) ts :: Go.Proofs.YtkhcdichdnbcmaaR.blk b1 (Rec15 kind e a b c d A n p B m q id task tick wait pid nonce code) tRe :: L) := by rw [hwq]; exact HS.out.more (below_alloc (Below.refl _ _) _)
   have yq : wq.heap[wr.heap.size]? = some (.cells #[.int .i64 bit, .pointer (some ⟨b1, off, none⟩), .int .i64 most] tFl (0, 0)) := by rw [hwq]; exact vnewAt rfl
   have yv2 : wq.cell? ⟨b1, off, none⟩ = some (.int .i64 val) := by rw [hwq]; exact ((below_alloc (Below.refl _ _) _).cell (p := ⟨b1, off, none⟩) hlb).trans yv
   rw [← hwq]
   clear hwq y0 y1 y2 yv hlF hlb
   generalize wr.heap.size = g at *
   have yu := fun i => vcell yq i
   have SQ := Lib.hid sq
   clear sq HS yq
   cases u
   ·go_wp2_with fail
    all_goals go_roundw
    all_goals first | exact ⟨j + 1, by omega, by go_num, by rw [HAA.out]; simp, SQ.out⟩ | (simp [intOf]; omega)
   ·have hx := HX.out rfl
    have hcv : IntKind.u64.wrap val = val := IntWalk.u64_in _ (by omega)
    have HX2 := Lib.hid hx.2
    clear hx HX
    go_wp2_with fail
    refine (HX2.out _ _ SQ.out).mono ?_
    rintro ee w5 ⟨rfl, s6⟩
    have S6 := Lib.hid s6
    clear SQ s6 yu yv2 HX2
    go_wp2_with fail
    all_goals go_roundw
    all_goals first | exact ⟨j + 1, by omega, by go_num, by rw [HAA.out]; simp, S6.out⟩ | (simp [intOf]; omega)
  ·obtain rfl : j = 7 := by omega
   have s9 := hs.drop
   have hc9 := (s9.pick 2).cells
   have S9 := Lib.hid s9
   clear s9 hs
   have hX := HA.out.2.2.2.2
   have hl7 := (HA.out.2.1 7 (by omega)).1
   have hl8 := HA.out.2.2.1
   have hl9 := HA.out.2.2.2.1
   generalize acc 7 = oa at *
   have hadd := add_ok oa os (by omega)
   have z1 := eq_true hadd
   have z2 := eq_false (Nat.not_lt.2 hadd)
   have z3 := decide_eq_true hadd
   have hadd' := add_ok oa oc (by omega)
   have z1' := eq_true hadd'
   have z2' := eq_false (Nat.not_lt.2 hadd')
   have z3' := decide_eq_true hadd'
   have t1 := mkB_append oa os
   have t1' := mkB_append oa oc
   have HXX := Lib.hid hX
   clear hX hl7 hl8 hl9 hadd hadd' HA HJ HV HB
   have hn := HN.out
   clear HN
   cases hasS
   ·cases hasC
    ·go_wp2_with fail
     refine bodyPost_ret (v := .tuple #[.string (YtkhcdichdnbcmaaR.Ext.mkB oa), .int .i64 0]) (by simp [results, Try.results14, go_sem]) rfl ?_
     have t1 := S9.out.pick 2
     simp only [List.getElem_cons_succ, List.getElem_cons_zero, List.eraseIdx_cons_succ, List.eraseIdx_cons_zero] at t1
     exact ⟨by rw [HXX.out]; simp, t1.drop⟩
    ·go_wp2_with fail
     refine (HI.out _ _ S9.out).mono ?_
     rintro ee w9 ⟨rfl, s10⟩
     have S10 := Lib.hid s10
     clear s10 S9 hc9
     go_wp2_with fail
     refine bodyPost_ret (v := .tuple #[.string (YtkhcdichdnbcmaaR.Ext.mkB (oa ++ oc)), .int .i64 0]) (by simp [results, Try.results14, go_sem]) rfl ?_
     have t1 := S10.out.pick 2
     simp only [List.getElem_cons_succ, List.getElem_cons_zero, List.eraseIdx_cons_succ, List.eraseIdx_cons_zero] at t1
     exact ⟨by rw [HXX.out]; simp, t1.drop⟩
   ·have hn2 : hasC = false := by cases hasC with | true => exact absurd ⟨rfl, rfl⟩ hn | false => rfl
    subst hn2
    have HE2 := Lib.hid (HE.out rfl)
    clear HE
    go_wp2_with fail
    refine (HE2.out _ _ S9.out).mono ?_
    rintro ee w9 ⟨rfl, s10⟩
    have S10 := Lib.hid s10
    clear s10 S9 hc9
    go_wp2_with fail
    refine bodyPost_ret (v := .tuple #[.string (YtkhcdichdnbcmaaR.Ext.mkB (oa ++ os)), .int .i64 0]) (by simp [results, Try.results14, go_sem]) rfl ?_
    have t1 := S10.out.pick 2
    simp only [List.getElem_cons_succ, List.getElem_cons_zero, List.eraseIdx_cons_succ, List.eraseIdx_cons_zero] at t1
    exact ⟨by rw [HXX.out]; simp, t1.drop⟩
end
end Go.Proofs.YtkhcdichdnbcmaaR
end
