/- The contracts of spec.Encode's closure, and of spec.Encode. -/
import Derived.Test.YtkhcdichdnbcmaaRBase
import Derived.Test.YtkhcdichdnbcmaaRSep
import Derived.Test.YtkhcdichdnbcmaaRSp0
import Derived.Test.YtkhcdichdnbcmaaRSpA
import Derived.Test.YtkhcdichdnbcmaaRSpB
import Derived.Test.YtkhcdichdnbcmaaRSpC
import Derived.Test.YtkhcdichdnbcmaaRPackH
import Derived.Test.YtkhcdichdnbcmaaRProg
import Derived.Lib.Hide
import Derived.Test.YtkhcdichdnbcmaaRWWords
namespace Go.Proofs.YtkhcdichdnbcmaaR
open Go.RowKit Go.Proofs.YtkhcdichdnbcmaaRW.PrintWords Go.Proofs.YtkhcdichdnbcmaaR.Sp Go.Proofs.YtkhcdichdnbcmaaR.Ext
set_option linter.unusedSimpArgs false
set_option linter.unusedVariables false

theorem mkB_size (l : List UInt8) : (mkB l).size = l.length := by
  show l.toArray.size = l.length
  simp
theorem mkB_append (a b : List UInt8) : mkB a ++ mkB b = mkB (a ++ b) := by
  apply ByteArray.ext
  rw [ByteArray.data_append]
  show a.toArray ++ b.toArray = (a ++ b).toArray
  simp
/-- Block O holds the bytes written so far; all else is as it was. -/
structure PutI (O : Nat) (w W : World) (out : List UInt8) : Prop where
  box : W.heap[O]? = some (Obj.cells #[.string (mkB out)] 9 (0, 0))
  chg : Chg (fun k => k = O) w W
theorem PutI.below {O : Nat} {w W W1 : World} {out : List UInt8} (h : PutI O w W out) (hb : Below W.heap.size W W1) : PutI O w W1 out := ⟨vbelow h.box hb, h.chg.trans (Chg.of_below hb)⟩
theorem PutI.drew {O : Nat} {w W : World} {out : List UInt8} (h : PutI O w W out) : PutI O w W.drew out := ⟨h.box, h.chg.drw⟩
theorem PutI.store {O : Nat} {w W : World} {out out' : List UInt8} (h : PutI O w W out) : PutI O w (W.setCell ⟨O, 0, none⟩ (.string (mkB out'))) out' := ⟨vput h.box rfl, h.chg.setc rfl⟩
/-- A list of numbers that lies in memory outside block O. -/
def RowO (W : World) (A : Option Addr) (l : List Int) (O : Nat) : Prop := l = [] ∨ ∃ b off, A = some ⟨b, off, none⟩ ∧ b ≠ O ∧ b < W.heap.size ∧ ∀ k, k < l.length → W.cell? ⟨b, off + k, none⟩ = some (.int .i64 (l.getD k 0))
theorem RowO.chg {W W1 : World} {A : Option Addr} {l : List Int} {O : Nat} (h : RowO W A l O) (c : Chg (fun k => k = O) W W1) : RowO W1 A l O := by
  rcases h with h | ⟨b, off, h1, h2, h3, h4⟩
  · exact .inl h
  · refine .inr ⟨b, off, h1, h2, Nat.lt_of_lt_of_le h3 c.size, fun k hk => ?_⟩
    have e : W1.cell? ⟨b, off + k, none⟩ = W.cell? ⟨b, off + k, none⟩ := by
      have := c.block b (fun e => h2 e) h3
      simp only [World.cell?, this]
    exact e.trans (h4 k hk)
def GoodN (l : List Int) : Prop := ∀ x ∈ l, 0 ≤ x ∧ x ≤ 9223372036854775807
theorem GoodN.at {l : List Int} (h : GoodN l) {k : Nat} (hk : k < l.length) : 0 ≤ l.getD k 0 ∧ l.getD k 0 ≤ 9223372036854775807 := by
  have : l.getD k 0 = l[k] := by simp [hk]
  rw [this]
  exact h _ (List.getElem_mem _)
def OutK (out : List UInt8) (l : List Int) (k : Nat) : List UInt8 := out ++ encNs (l.take k)
theorem OutK.zero (out : List UInt8) (l : List Int) : OutK out l 0 = out := by simp [OutK, encNs]
theorem OutK.next {out : List UInt8} {l : List Int} {k : Nat} (hk : k < l.length) : OutK out l k ++ encN (l.getD k 0) = OutK out l (k + 1) := by
  have : l.getD k 0 = l[k] := by simp [hk]
  unfold OutK
  rw [List.take_succ_eq_append_getElem hk, encNs_append, ← List.append_assoc, this]
  simp [encNs]
theorem OutK.all {out : List UInt8} {l : List Int} {k : Nat} (hk : l.length ≤ k) : OutK out l k = out ++ encNs l := by unfold OutK; rw [List.take_of_length_le hk]
theorem encN_9 {n : Int} (h : n ≤ 9223372036854775807) : (encN n).length ≤ 9 := (Pk.varL_length _ (by omega)).2
theorem OutK.len {out : List UInt8} {l : List Int} {k : Nat} (h : GoodN l) : (OutK out l k).length ≤ out.length + 9 * l.length := by
  unfold OutK
  have := flat_len encN 9 (l.take k) (fun x hx => encN_9 (h x (List.mem_of_mem_take hx)).2)
  rw [List.length_append]
  rw [List.length_take] at this
  have e : (encNs (l.take k)).length = ((l.take k).flatMap encN).length := rfl
  omega
theorem encN_nat (x : Int) (h : 0 ≤ x) : encN x = Pk.varL x.toNat := rfl
set_option maxHeartbeats 2000000 in
theorem put_c (O : Nat) (A : Option Addr) (n c : Nat) (l : List Int) (out : List UInt8) (w : World) (hO : w.heap[O]? = some (Obj.cells #[.string (mkB out)] 9 (0, 0))) (hn : n = l.length) (hr : RowO w A l O) (hg : GoodN l) (hz : out.length + 9 * l.length ≤ 1000000) :
    Calls Try.prog 63 #[.slice A n c, .pointer (some ⟨O, 0, none⟩)] w fun e w' => e = .returned (.tuple #[]) ∧ PutI O w w' (out ++ encNs l) := by
  subst hn
  have HR := Lib.hid hr
  have HG := Lib.hid hg
  have H0 : PutI O w w (OutK out l 0) := ⟨by rw [OutK.zero]; exact hO, Chg.refl _ _⟩
  clear hr hg hO
  go_enter Try.func63, Try.ntmps63
  go_wp2
  go_loopw [4, 7] (fun _ i W => ∃ k : Nat, k ≤ l.length ∧ i = .int .i64 k ∧ PutI O w W (OutK out l k)) (fun _ i _ => l.length - (intOf i).toNat)
  case atStart => exact ⟨0, Nat.zero_le _, rfl, H0⟩
  case round =>
    clear H0
    obtain ⟨k, hk, rfl, hI⟩ := hrel
    by_cases hlt : k < l.length
    · obtain ⟨b, off, rfl, hne, hb, hcells⟩ : ∃ b off, A = some ⟨b, off, none⟩ ∧ b ≠ O ∧ b < wr.heap.size ∧ _ := (HR.out.chg hI.chg).resolve_left (by rintro rfl; simp at hlt)
      have hc := hcells k hlt
      clear hcells hb hne
      have hx := HG.out.at hlt
      have hnx := OutK.next (out := out) hlt
      have hln := OutK.len (out := out) (k := k) HG.out
      generalize l.getD k 0 = x at *
      obtain ⟨m, rfl⟩ := Int.eq_ofNat_of_zero_le hx.1
      rw [show encN (m : Int) = Pk.varL m by simp [encN]] at hnx
      have hv9 := (Pk.varL_length m (by omega)).2
      have hsz : (mkB (OutK out l k)).size + (mkB (Pk.varL m)).size ≤ 9223372036854775807 := by rw [mkB_size, mkB_size]; omega
      have hz1 := eq_true hsz
      have hz2 := eq_false (Nat.not_lt.2 hsz)
      have hz3 := decide_eq_true hsz
      have hcat : mkB (OutK out l k) ++ mkB (Pk.varL m) = mkB (OutK out l (k + 1)) := by rw [mkB_append, hnx]
      have hcv : IntKind.u64.wrap (m : Int) = (m : Int) := IntWalk.u64_in _ (by omega)
      have HNX := Lib.hid hcat
      clear hnx hln hv9 hsz hcat
      have hcO := vcell hI.box
      have hfO := vfree hI.box
      have hI1 := hI
      have HI := Lib.hid hI1
      clear hI hI1
      go_wp2_with fail
      have hv := fun W => var_c m (by omega) W
      have HV := Lib.hid hv
      clear hv
      go_region_with (go_at_call 33; refine (HV.out _).mono ?_; rintro e w2 ⟨rfl, hb⟩; have hI2 := HI.out.below (by first | exact hb | exact (Below.refl _ _).drew.trans hb); have hcO2 := vcell hI2.box; have hfO2 := vfree hI2.box; have HI2 := Lib.hid hI2; clear hI2)
      all_goals (
        rw [HNX.out]
        have hN := HI2.out.store (out' := OutK out l (k + 1))
        clear hcO2 hfO2 HI2 hb HI hcO hfO
        go_wp2
        go_roundw
        case rel => exact ⟨k + 1, by omega, by go_num, hN⟩
        case measure => simp [intOf]; omega)
    · have hI2 := hI
      clear hI
      go_wp2
      go_returns
      exact ⟨rfl, by have := hI2; rw [OutK.all (by omega)] at this; exact this⟩
/-- The list of numbers of a task in memory. -/
theorem rowO_lit {W : World} {B O : Nat} {t : TypeId} (l : List Int) (h : W.heap[B]? = some (Obj.cells (l.map (Value.int .i64)).toArray t (0, 0))) (hne : B ≠ O) : RowO W (some ⟨B, 0, none⟩) l O := by
  refine .inr ⟨B, 0, rfl, hne, vlt h, fun k hk => ?_⟩
  rw [Nat.zero_add, vcell h k]
  simp [hk]
theorem RowI.toO {w W : World} {A : Option Addr} {l : List Int} {O : Nat} (h : RowI w A l) (hb : Below w.heap.size w W) (hO : w.heap.size ≤ O) : RowO W A l O := by
  rcases h with h | ⟨b, off, h1, h2, h3⟩
  · exact .inl h
  · exact .inr ⟨b, off, h1, by omega, Nat.lt_of_lt_of_le h2 hb.size, fun k hk => (hb.cell h2).trans (h3 k hk)⟩
/-- Encode under way: its copy of the specification, the bytes written so far. -/
structure EncI (w W : World) (cs : Array Value) (O : Nat) (out : List UInt8) : Prop where
  bel : Below w.heap.size w W
  box : W.heap[w.heap.size]? = some (Obj.cells cs 27 (0, 0))
  ob : W.heap[O]? = some (Obj.cells #[.string (mkB out)] 9 (0, 0))
  ne : w.heap.size < O
theorem EncI.put {w W W1 W' : World} {cs : Array Value} {O : Nat} {out out' : List UInt8} (h : EncI w W cs O out) (hb : Below W.heap.size W W1) (p : PutI O W1 W' out') : EncI w W' cs O out' where
  bel := below_chg (below_then h.bel hb) p.chg (fun k hk e => by have := h.ne; omega) (Nat.le_refl _)
  box := p.chg.at (fun e => by have := h.ne; omega) (vbelow h.box hb)
  ob := p.box
  ne := h.ne
def OutT (out : List UInt8) (ts : List TS) (k : Nat) : List UInt8 := out ++ encNs ((ts.take k).flatMap numsT)
theorem OutT.next {out : List UInt8} {ts : List TS} {k : Nat} (hk : k < ts.length) : OutT out ts k ++ encNs (numsT (tsAt ts k)) = OutT out ts (k + 1) := by
  have : tsAt ts k = ts[k] := by simp [tsAt, hk]
  unfold OutT
  rw [List.take_succ_eq_append_getElem hk, List.flatMap_append, encNs_append, ← List.append_assoc, this]
  simp
theorem encNs_le (l : List Int) (h : GoodN l) : (encNs l).length ≤ 9 * l.length := flat_len encN 9 l (fun x hx => encN_9 (h x hx).2)
theorem good_T {t : TS} (h : gT t) : GoodN (numsT t) := by
  obtain ⟨q1, q2, q3, q4, q5⟩ := h
  have hb : 0 ≤ b2i t.always ∧ b2i t.always ≤ 1 := by unfold b2i; split <;> omega
  intro x hx
  simp only [numsT, List.mem_cons, List.not_mem_nil, or_false] at hx
  rcases hx with rfl | rfl | rfl | rfl | rfl | rfl <;> omega
theorem gT_at {ts : List TS} (h : ∀ t ∈ ts, gT t) {k : Nat} (hk : k < ts.length) : gT (tsAt ts k) := by
  have : tsAt ts k = ts[k] := by simp [tsAt, hk]
  rw [this]; exact h _ (List.getElem_mem _)
theorem OutT.len {out : List UInt8} {ts : List TS} {k : Nat} (h : ∀ t ∈ ts, gT t) : (OutT out ts k).length ≤ out.length + 26 * ts.length := by
  unfold OutT
  rw [List.length_append, encNs_flat]
  have := flat_len (fun t => encNs (numsT t)) 26 (ts.take k) (fun t ht => encT_length (h t (List.mem_of_mem_take ht)))
  rw [List.length_take] at this
  omega
set_option maxHeartbeats 2000000 in
set_option maxRecDepth 100000 in
theorem sencode_ok (id cpu mem disk : Int) (PA TA : Option Addr) (pn pc tn tc : Nat) (ps : List Int) (ts : List TS) (w : World) (hpn : pn = ps.length) (hP : RowI w PA ps) (hpm : ps.length ≤ 9223372036854775807) (htn : tn = ts.length) (hT : RowT w TA ts) (htm : tn ≤ 9223372036854775807) (htc : tn ≤ tc) (hok : specE ⟨id, cpu, mem, disk, ps, ts⟩ = 0) :
    Calls Try.prog 35 #[.agg #[.int .i64 id, .int .i64 cpu, .int .i64 mem, .int .i64 disk, .slice PA pn pc, .slice TA tn tc]] w fun e w' => e = .returned (.tuple #[.string (mkB (encS ⟨id, cpu, mem, disk, ps, ts⟩)), .int .i64 0]) ∧ Below w.heap.size w w' := by
  have hg := okS_gS (s := ⟨id, cpu, mem, disk, ps, ts⟩) (decide_eq_true hok)
  have HPN := Lib.hid hpn
  have HP := Lib.hid hP
  have HPM := Lib.hid hpm
  have HTN := Lib.hid htn
  have HT := Lib.hid hT
  have HOK := Lib.hid hok
  have HG := Lib.hid hg
  clear hpn hP hpm htn hT hok hg
  go_enter Try.func35, Try.ntmps35
  go_wp2_with fail
  refine (scheck_c id cpu mem disk PA TA pn pc tn tc ps ts _ HPN.out (HP.out.below (by go_grown)) HPM.out HTN.out (HT.out.below (by go_grown)) htm htc).mono ?_
  rintro e w1 ⟨rfl, hb1⟩
  rw [HOK.out]
  have hB1 : Below w.heap.size w w1 := below_then (by go_grown) hb1
  have hS1 : w1.heap[w.heap.size]? = some (Obj.cells #[.int .i64 id, .int .i64 cpu, .int .i64 mem, .int .i64 disk, .slice PA pn pc, .slice TA tn tc] 27 (0, 0)) := vbelow vnew hb1
  clear hb1
  have hcS := vcell hS1
  have hsz := vlt hS1
  go_wp2_with fail
  obtain ⟨g1, g2, g3, g4, ⟨g5, g6⟩, g7, g8⟩ := HG.out
  simp only at g1 g2 g3 g4 g5 g6 g7 g8
  have q1 : GoodN [id, cpu, mem, disk, (pn : Int)] := by
    have := HPN.out
    intro x hx
    simp only [List.mem_cons, List.not_mem_nil, or_false] at hx
    rcases hx with rfl | rfl | rfl | rfl | rfl <;> omega
  have E0 : EncI w (w1.alloc (Obj.cells #[.string (mkB [])] 9)) #[.int .i64 id, .int .i64 cpu, .int .i64 mem, .int .i64 disk, .slice PA pn pc, .slice TA tn tc] w1.heap.size [] := ⟨below_alloc hB1 _, valloc hS1, vnew, hsz⟩
  refine (put_c w1.heap.size _ _ _ [id, cpu, mem, disk, (pn : Int)] [] _ (valloc vnew) rfl (rowO_lit _ (vnewAt (by simp)) (by omega)) q1 (by simp)).mono ?_
  rintro e w2 ⟨rfl, p2⟩
  have E2 := E0.put (by go_grown) p2
  have l2 := encNs_le _ q1
  rw [List.nil_append] at E2
  generalize hO : w1.heap.size = O at *
  clear hS1 hcS hsz E0 p2 hB1 q1 HOK
  have hcS := vcell E2.box
  have hO2 := E2.ne
  generalize h2 : encNs [id, cpu, mem, disk, (pn : Int)] = out2 at *
  have H2 := Lib.hid h2
  clear h2 hO
  go_wp2_with fail
  have q3 : GoodN ps := fun x hx => by have := g6 x hx; omega
  refine (put_c O _ _ _ ps out2 _ E2.ob HPN.out (HP.out.toO E2.bel (by omega)) q3 (by simp at l2; omega)).mono ?_
  rintro e w3 ⟨rfl, p3⟩
  have E3 := E2.put (Below.refl _ _) p3
  have l3 := encNs_le _ q3
  clear E2 p3 hcS
  generalize h3 : out2 ++ encNs ps = out3 at *
  have l4 : out3.length ≤ 45 + 9 * 8 := by rw [← h3, List.length_append]; simp at l2; omega
  have H3 := Lib.hid h3
  clear h3 l2 l3
  have hcS := vcell E3.box
  go_wp2_with fail
  have q4 : GoodN [(tn : Int)] := by
    have := HTN.out
    intro x hx
    simp only [List.mem_cons, List.not_mem_nil, or_false] at hx
    subst hx; omega
  refine (put_c O _ _ _ [(tn : Int)] out3 _ (valloc E3.ob) rfl (rowO_lit _ (vnewAt rfl) (by have := vlt E3.ob; omega)) q4 (by simp; omega)).mono ?_
  rintro e w4 ⟨rfl, p4⟩
  have E4 := E3.put (by go_grown) p4
  have l5 := encNs_le _ q4
  clear E3 p4 hcS
  generalize h4 : out3 ++ encNs [(tn : Int)] = out4 at *
  have l6 : out4.length ≤ 126 := by rw [← h4, List.length_append]; simp at l5; omega
  have H4 := Lib.hid h4
  clear h4 l4 l5
  have hcS := vcell E4.box
  go_wp2_with fail
  have E5 : EncI w w4 #[.int .i64 id, .int .i64 cpu, .int .i64 mem, .int .i64 disk, .slice PA pn pc, .slice TA tn tc] O (OutT out4 ts 0) := by
    have : OutT out4 ts 0 = out4 := by simp [OutT, encNs]
    rw [this]; exact E4
  go_loopw [8, 9, 46] (fun _ _ i W => ∃ k : Nat, k ≤ tn ∧ i = .int .i64 k ∧ EncI w W #[.int .i64 id, .int .i64 cpu, .int .i64 mem, .int .i64 disk, .slice PA pn pc, .slice TA tn tc] O (OutT out4 ts k)) (fun _ _ i _ => tn - (intOf i).toNat)
  case atStart => exact ⟨0, Nat.zero_le _, rfl, E5⟩
  case round =>
    clear E4 E5 hcS
    obtain ⟨k, hk, rfl, hI⟩ := hrel
    by_cases hlt : k < tn
    · have hkt : k < ts.length := by have := HTN.out; omega
      obtain ⟨b, off, rfl, hb, hcells⟩ : ∃ b off, TA = some ⟨b, off, none⟩ ∧ b < w.heap.size ∧ _ := HT.out.resolve_left (by rintro rfl; simp at hkt)
      obtain ⟨x0, x1, x2, x3, x4, x5⟩ := hcells k hkt
      clear hcells
      have y0 := (hI.bel.cell (p := ⟨b, off + k * 6, none⟩) hb).trans x0
      have y1 := (hI.bel.cell (p := ⟨b, off + k * 6 + 1, none⟩) hb).trans x1
      have y2 := (hI.bel.cell (p := ⟨b, off + k * 6 + 2, none⟩) hb).trans x2
      have y3 := (hI.bel.cell (p := ⟨b, off + k * 6 + 3, none⟩) hb).trans x3
      have y4 := (hI.bel.cell (p := ⟨b, off + k * 6 + 4, none⟩) hb).trans x4
      have y5 := (hI.bel.cell (p := ⟨b, off + k * 6 + 5, none⟩) hb).trans x5
      clear x0 x1 x2 x3 x4 x5
      have gt := gT_at g8 hkt
      have qt := good_T gt
      have nx := OutT.next (out := out4) hkt
      have ln := OutT.len (out := out4) (k := k) g8
      have lt26 : ts.length ≤ 4 := by omega
      have hOr := vlt hI.ob
      have hcO := vcell hI.ob
      generalize tsAt ts k = t at *
      obtain ⟨al, li, wi, ba, mo, pr⟩ := t
      simp only at y0 y1 y2 y3 y4 y5
      unfold numsT at qt nx
      simp only at qt nx
      have HI := Lib.hid hI
      have NX := Lib.hid nx
      have QT := Lib.hid qt
      clear hI nx qt gt g1 g2 g3 g4 g6 g8
      cases al
      all_goals (
        go_wp2_with fail
        refine (put_c O _ _ _ [_, li, wi, ba, mo, pr] (OutT out4 ts k) _ (valloc (valloc HI.out.ob)) rfl (rowO_lit _ (vnewAt (by simp)) (by omega)) QT.out (by simp; omega)).mono ?_
        rintro e w5 ⟨rfl, p5⟩
        have E5 := HI.out.put (by go_grown) p5
        rw [NX.out] at E5
        clear p5 HI hcO y0 y1 y2 y3 y4 y5 hOr
        go_wp2
        go_roundw
        case rel => exact ⟨k + 1, by omega, by go_num, E5⟩
        case measure => simp [intOf]; omega)
    · have hcO := vcell hI.ob
      have hres : OutT out4 ts k = encS ⟨id, cpu, mem, disk, ps, ts⟩ := by
        have e1 : ts.take k = ts := List.take_of_length_le (by have := HTN.out; omega)
        unfold OutT
        rw [e1, ← H4.out, ← H3.out, ← H2.out, HPN.out, HTN.out, ← encNs_append, ← encNs_append, ← encNs_append]
        rfl
      have HRS := Lib.hid hres
      have HI := Lib.hid hI
      clear hI hres
      go_wp2
      go_returns
      exact ⟨by rw [HRS.out]; rfl, HI.out.bel⟩
set_option maxHeartbeats 1000000 in
theorem sencode_no (id cpu mem disk : Int) (PA TA : Option Addr) (pn pc tn tc : Nat) (ps : List Int) (ts : List TS) (w : World) (hpn : pn = ps.length) (hP : RowI w PA ps) (hpm : ps.length ≤ 9223372036854775807) (htn : tn = ts.length) (hT : RowT w TA ts) (htm : tn ≤ 9223372036854775807) (htc : tn ≤ tc) (E : Int) (hE : specE ⟨id, cpu, mem, disk, ps, ts⟩ = E) (h0 : E ≠ 0) :
    Calls Try.prog 35 #[.agg #[.int .i64 id, .int .i64 cpu, .int .i64 mem, .int .i64 disk, .slice PA pn pc, .slice TA tn tc]] w fun e w' => e = .returned (.tuple #[.string (mkB []), .int .i64 E]) ∧ Below w.heap.size w w' := by
  have HC := Lib.hid (fun W (hb : Below w.heap.size w W) => scheck_c id cpu mem disk PA TA pn pc tn tc ps ts W hpn (hP.below hb) hpm htn (hT.below hb) htm htc)
  rw [hE] at HC
  have h0b : (E != 0) = true := bne_iff_ne.mpr h0
  clear hpn hP hpm htn hT hE h0
  go_enter Try.func35, Try.ntmps35
  go_wp2_with fail
  refine (HC.out _ (by go_grown)).mono ?_
  rintro e w1 ⟨rfl, hb1⟩
  have hB1 : Below w.heap.size w w1 := below_then (by go_grown) hb1
  clear hb1
  go_wp2
  go_returns
  exact ⟨rfl, hB1⟩
/-- What Encode writes. -/
def encR (s : SP) : List UInt8 := if specE s = 0 then encS s else []
theorem sencode_c (id cpu mem disk : Int) (PA TA : Option Addr) (pn pc tn tc : Nat) (ps : List Int) (ts : List TS) (w : World) (hpn : pn = ps.length) (hP : RowI w PA ps) (hpm : ps.length ≤ 9223372036854775807) (htn : tn = ts.length) (hT : RowT w TA ts) (htm : tn ≤ 9223372036854775807) (htc : tn ≤ tc) :
    Calls Try.prog 35 #[.agg #[.int .i64 id, .int .i64 cpu, .int .i64 mem, .int .i64 disk, .slice PA pn pc, .slice TA tn tc]] w fun e w' => e = .returned (.tuple #[.string (mkB (encR ⟨id, cpu, mem, disk, ps, ts⟩)), .int .i64 (specE ⟨id, cpu, mem, disk, ps, ts⟩)]) ∧ Below w.heap.size w w' := by
  unfold encR
  by_cases h : specE ⟨id, cpu, mem, disk, ps, ts⟩ = 0
  · rw [if_pos h, h]
    exact sencode_ok id cpu mem disk PA TA pn pc tn tc ps ts w hpn hP hpm htn hT htm htc h
  · rw [if_neg h]
    exact sencode_no id cpu mem disk PA TA pn pc tn tc ps ts w hpn hP hpm htn hT htm htc _ rfl h
end Go.Proofs.YtkhcdichdnbcmaaR
