/- Texts of this session, merged (wip/gen/shake.py). -/
import Derived.Test.YtkhcdichdnbcmaaRSh5
import Derived.Test.YtkhcdichdnbcmaaRSh8
section
namespace Go.Proofs.YtkhcdichdnbcmaaR
open Go.RowKit Go.Proofs.YtkhcdichdnbcmaaR Go.Proofs.YtkhcdichdnbcmaaR.Ext Go.Proofs.YtkhcdichdnbcmaaR.C Go.Proofs.YtkhcdichdnbcmaaR.Sp Go.Proofs.YtkhcdichdnbcmaaRW.PrintWords Go.Proofs.YtkhcdichdnbcmaaRW.PrintLast
set_option linter.unusedVariables false
set_option linter.unusedSimpArgs false
abbrev tRd : Nat := 84
theorem setRow_twice (w : World) (g : Nat) (x y : Array Value) (cs : Array Value) (t : Nat) (h : w.heap[g]? = some (.cells y t (0, 0))) : (w.setRow g x).setRow g y = w := by
 rw [setRow_setRow]
 exact setRow_self w g y t (0, 0) h
theorem St.readrow {w0 w w' : World} {L : List HP} {g : Nat} {x y : Array Value} {v4 v5 : Value} {ps : List Int} {ts : List TX} (h : St w0 w (Go.Proofs.YtkhcdichdnbcmaaR.blk g x tRd :: L)) (hg : w'.heap[g]? = some (.cells y tRd (0, 0))) (hB : Below w0.heap.size w0 w') (hk : KeepBut w w' g none)
  (h4 : Kd.R (Kd.int .i64) 3 w' w.heap.size (fun _ => True) v4 ps) (h5 : Kd.R k90 90 w' w.heap.size (fun _ => True) v5 ts) :
  St w0 w' (RI v4 ps :: RT v5 ts :: Go.Proofs.YtkhcdichdnbcmaaR.blk g y tRd :: L) := by
 have hgo := h.at0
 have hlt : g < w.heap.size := vlt hgo
 have hb : Below w.heap.size w (w'.setRow g x) := by
  refine ⟨hB.os.trans h.bel.os.symm, hB.tape.trans h.bel.tape.symm, hB.output.trans h.bel.output.symm, ?_, fun i hi => ?_⟩
  ·have : (w'.setRow g x).heap.size = w'.heap.size := by simp [World.setRow]
   rw [this]; exact hk.1
  ·by_cases e : i = g
   ·subst e
    rw [hgo]
    exact setRow_heap w' i y x tRd _ hg
   ·rw [setRow_other w' g i _ e]
    exact hk.2 i hi e (by simp)
 have hr : ∀ k, w.heap.size ≤ k → (w'.setRow g x).heap[k]? = w'.heap[k]? := fun k hk => setRow_other w' g k _ (by omega)
 have r4 : Kd.R (Kd.int .i64) 3 (w'.setRow g x) w.heap.size (fun k => w.heap.size ≤ k) v4 ps := Kd.R_step (Kd.R_mono (Kd.R_bound h4) (fun k hk => hk.2.1)) (fun k hk _ => hr k hk)
 have r5 : Kd.R k90 90 (w'.setRow g x) w.heap.size (fun k => w.heap.size ≤ k) v5 ts := Kd.R_step (Kd.R_mono (Kd.R_bound h5) (fun k hk => hk.2.1)) (fun k hk _ => hr k hk)
 have s1 := h.rows2 (flat_int _) kX_flat (by decide) hb r4 r5
 have s2 := (s1.pick 2).setRow y
 rw [setRow_twice w' g x y x tRd hg] at s2
 exact (s2.pick 2).pick 2
theorem rnum_s {w0 w : World} {L : List HP} (g : Nat) (l : List UInt8) (hl : l.length ≤ 2000) (bad : Bool) (k : Int) (r : List UInt8) (b : Bool) (hx : PureR.numR l bad = (k, r, b)) (h : St w0 w (Go.Proofs.YtkhcdichdnbcmaaR.blk g #[.string (YtkhcdichdnbcmaaR.Ext.mkB l), .bool bad] tRd :: L)) :
  Calls Try.prog 45 #[.pointer (some ⟨g, 0, none⟩)] w fun ee w' => ee = .returned (.int .i64 k) ∧ St w0 w' (Go.Proofs.YtkhcdichdnbcmaaR.blk g #[.string (YtkhcdichdnbcmaaR.Ext.mkB r), .bool b] tRd :: L) := by
 have q := PureR.num_eq 30 (Nat.le_refl _) l hl bad
 rw [hx] at q
 obtain ⟨S, ⟨z, rfl⟩, hh⟩ := h.one
 have hge : w0.heap.size ≤ g := by
  obtain ⟨⟨S, l, p, d, r⟩, b⟩ := h
  exact (d g (by rw [p.2])).1
 refine (sacristanref13_Reader_Num.calls 30 g _ bad _ _ _ w0 w ⟨z, hge⟩ h.bel q).mono ?_
 rintro ee w' ⟨rfl, hI, hB, hk⟩
 exact ⟨rfl, hh ⟨hB.os.trans h.bel.os.symm, hB.tape.trans h.bel.tape.symm, hB.output.trans h.bel.output.symm, hk.1, fun i hi hs => hk.2 i hs hi (by simp)⟩ (blk_loc _ _ _) ⟨hI.1, rfl⟩ (fun _ _ q => q)⟩
theorem rspec9_s {w0 w : World} {L : List HP} (g : Nat) (l : ByteArray) (bad : Bool) (a b c d : Int) (ps : List Int) (ts : List TX) (r : ByteArray) (bb : Bool) (hx : sacristanref13_Reader_Spec.f 100 l bad = some (a, b, c, d, ps, ts, r, bb)) (h : St w0 w (Go.Proofs.YtkhcdichdnbcmaaR.blk g #[.string l, .bool bad] tRd :: L)) :
  Calls Try.prog 46 #[.pointer (some ⟨g, 0, none⟩)] w fun ee w' => ∃ A B p q n m, ee = .returned (.agg #[.int .i64 a, .int .i64 b, .int .i64 c, .int .i64 d, .slice A n p, .slice B m q]) ∧ St w0 w' (RI (.slice A n p) ps :: RT (.slice B m q) ts :: Go.Proofs.YtkhcdichdnbcmaaR.blk g #[.string r, .bool bb] tRd :: L) := by
 have hge : w0.heap.size ≤ g := by
  obtain ⟨⟨S, l, p, d, r⟩, b⟩ := h
  exact (d g (by rw [p.2])).1
 refine (sacristanref13_Reader_Spec.calls 100 g l bad _ _ _ _ _ _ _ _ w0 w ⟨h.at0, hge⟩ h.bel hx).mono ?_
 rintro ee w' ⟨v4, v5, rfl, h4, h5, hI, hB, hk⟩
 obtain ⟨A, n, p, rfl⟩ := R_slice3 h4
 obtain ⟨B, m, q, rfl⟩ := R_slice3 h5
 exact ⟨A, B, p, q, n, m, rfl, h.readrow hI.1 hB hk h4 h5⟩
set_option maxRecDepth 100000 in
set_option maxHeartbeats 1000000 in
theorem rdec_long {w0 w : World} {L : List HP} (l : List UInt8) (h : St w0 w L)
  (hl : 1024 < l.length) :
  Calls Try.prog 21 #[.string (YtkhcdichdnbcmaaR.Ext.mkB l)] w fun ee w' => ee = .returned (.tuple #[.agg #[.int .u8 0, .int .i64 0, .int .i64 0, .int .i64 0, .int .i64 0, .int .i64 0, .slice none 0 0, .slice none 0 0, .int .i64 0], .int .i64 5]) ∧ St w0 w' L := by
 have hsz := mkB_size l
 have f1 : decide (1024 < ((YtkhcdichdnbcmaaR.Ext.mkB l).size : Int)) = true := decide_eq_true (by rw [hsz]; omega)
 have f2 : decide (1024 < (YtkhcdichdnbcmaaR.Ext.mkB l).size) = true := decide_eq_true (by rw [hsz]; omega)
 have f3 : (1024 < (YtkhcdichdnbcmaaR.Ext.mkB l).size) = True := eq_true (by rw [hsz]; omega)
 clear hsz hl
 have s0 := h.alloc #[.int .u8 0, .int .i64 0, .int .i64 0, .int .i64 0, .int .i64 0, .int .i64 0, .slice none 0 0, .slice none 0 0, .int .i64 0] tCm
 clear h
 have S0 := Lib.hid s0
 clear s0
 go_enter Try.func21, Try.ntmps21
 go_wp2_with (first | ((with_reducible refine wpList_storeSt S0.out rfl _ _ 29 rfl 0 #[.int .u8 0, .int .i64 0, .int .i64 0, .int .i64 0, .int .i64 0, .int .i64 0, .slice none 0 0, .slice none 0 0, .int .i64 0] #[.int .u8 0, .int .i64 0, .int .i64 0, .int .i64 0, .int .i64 0, .int .i64 0, .slice none 0 0, .slice none 0 0, .int .i64 0] size_cmd ?hn ?hx ?hv ?hf ?h1 ?he ?_); (case hn => rfl); (case hx => rfl); (case hv => rfl); (case hf => simp); (case h1 => simp [Value.oneCell']); (case he => rfl); intro wz sz; have hcz := sz.cells; have hfz := sz.free; have SZ := Lib.hid sz; clear sz) | fail)
 refine bodyPost_ret (v := .tuple #[.agg #[.int .u8 0, .int .i64 0, .int .i64 0, .int .i64 0, .int .i64 0, .int .i64 0, .slice none 0 0, .slice none 0 0, .int .i64 0], .int .i64 5]) (by simp [results, Try.results21, go_sem, hcz]) rfl ?_
 exact ⟨rfl, SZ.out.drop⟩
set_option maxRecDepth 100000 in
set_option maxHeartbeats 1000000 in
theorem rdec_kb {w0 w : World} {L : List HP} (l : List UInt8) (k : Int) (r1 : List UInt8) (h : St w0 w L)
  (hl : l.length ≤ 1024)
  (H1 : Go.RowKit.Hid (∀ (W : World) (g : Nat) (M : List HP), St w0 W (Go.Proofs.YtkhcdichdnbcmaaR.blk g #[.string (YtkhcdichdnbcmaaR.Ext.mkB l), .bool false] tRd :: M) → Calls Try.prog 45 #[.pointer (some ⟨g, 0, none⟩)] W fun ee w' => ee = .returned (.int .i64 k) ∧ St w0 w' (Go.Proofs.YtkhcdichdnbcmaaR.blk g #[.string (YtkhcdichdnbcmaaR.Ext.mkB r1), .bool true] tRd :: M))) :
  Calls Try.prog 21 #[.string (YtkhcdichdnbcmaaR.Ext.mkB l)] w fun ee w' => ee = .returned (.tuple #[.agg #[.int .u8 0, .int .i64 0, .int .i64 0, .int .i64 0, .int .i64 0, .int .i64 0, .slice none 0 0, .slice none 0 0, .int .i64 0], .int .i64 4]) ∧ St w0 w' L := by
 have hsz := mkB_size l
 have f1 : decide (1024 < ((YtkhcdichdnbcmaaR.Ext.mkB l).size : Int)) = false := decide_eq_false (by rw [hsz]; omega)
 have f2 : decide (1024 < (YtkhcdichdnbcmaaR.Ext.mkB l).size) = false := decide_eq_false (by rw [hsz]; omega)
 have f3 : (1024 < (YtkhcdichdnbcmaaR.Ext.mkB l).size) = False := eq_false (by rw [hsz]; omega)
 clear hsz hl
 have s0 := h.alloc #[.int .u8 0, .int .i64 0, .int .i64 0, .int .i64 0, .int .i64 0, .int .i64 0, .slice none 0 0, .slice none 0 0, .int .i64 0] tCm
 clear h
 have s1 := s0.alloc #[.string (YtkhcdichdnbcmaaR.Ext.mkB l), .bool false] tRd
 clear s0
 have S0 := Lib.hid s1
 clear s1
 go_enter Try.func21, Try.ntmps21
 go_wp2_with fail
 have hn1 : (w.alloc (Obj.cells #[.int .u8 0, .int .i64 0, .int .i64 0, .int .i64 0, .int .i64 0, .int .i64 0, .slice none 0 0, .slice none 0 0, .int .i64 0] tCm)).heap.size = w.heap.size + 1 := by simp
 rw [hn1] at S0
 clear hn1
 generalize w.heap.size + 1 = b4 at *
 generalize w.heap.size = b2 at *
 refine (H1.out _ _ _ S0.out).mono ?_
 rintro ee w1 ⟨rfl, s1⟩
 clear S0 H1 f1 f2 f3
 have hc1 := s1.cells
 have hf1 := s1.free
 have s2 := s1.pick 1
 simp only [List.getElem_cons_succ, List.getElem_cons_zero, List.eraseIdx_cons_succ, List.eraseIdx_cons_zero] at s2
 have S2 := Lib.hid s2
 clear s1 s2
 go_wp2_with (first | ((with_reducible refine wpList_storeSt S2.out rfl _ _ 29 rfl 0 #[.int .u8 0, .int .i64 0, .int .i64 0, .int .i64 0, .int .i64 0, .int .i64 0, .slice none 0 0, .slice none 0 0, .int .i64 0] #[.int .u8 0, .int .i64 0, .int .i64 0, .int .i64 0, .int .i64 0, .int .i64 0, .slice none 0 0, .slice none 0 0, .int .i64 0] size_cmd ?hn ?hx ?hv ?hf ?h1 ?he ?_); (case hn => rfl); (case hx => rfl); (case hv => rfl); (case hf => simp); (case h1 => simp [Value.oneCell']); (case he => rfl); intro wz sz; have hcz := sz.cells; have hfz := sz.free; have SZ := Lib.hid sz; clear sz) | fail)
 refine bodyPost_ret (v := .tuple #[.agg #[.int .u8 0, .int .i64 0, .int .i64 0, .int .i64 0, .int .i64 0, .int .i64 0, .slice none 0 0, .slice none 0 0, .int .i64 0], .int .i64 4]) (by simp [results, Try.results21, go_sem, hcz]) rfl ?_
 exact ⟨rfl, SZ.out.drop.drop⟩
set_option maxRecDepth 100000 in
set_option maxHeartbeats 1000000 in
theorem rdec_kg {w0 w : World} {L : List HP} (l : List UInt8) (k : Int) (r1 : List UInt8) (h : St w0 w L)
  (hl : l.length ≤ 1024)
  (hk : 255 < k)
  (H1 : Go.RowKit.Hid (∀ (W : World) (g : Nat) (M : List HP), St w0 W (Go.Proofs.YtkhcdichdnbcmaaR.blk g #[.string (YtkhcdichdnbcmaaR.Ext.mkB l), .bool false] tRd :: M) → Calls Try.prog 45 #[.pointer (some ⟨g, 0, none⟩)] W fun ee w' => ee = .returned (.int .i64 k) ∧ St w0 w' (Go.Proofs.YtkhcdichdnbcmaaR.blk g #[.string (YtkhcdichdnbcmaaR.Ext.mkB r1), .bool false] tRd :: M))) :
  Calls Try.prog 21 #[.string (YtkhcdichdnbcmaaR.Ext.mkB l)] w fun ee w' => ee = .returned (.tuple #[.agg #[.int .u8 0, .int .i64 0, .int .i64 0, .int .i64 0, .int .i64 0, .int .i64 0, .slice none 0 0, .slice none 0 0, .int .i64 0], .int .i64 4]) ∧ St w0 w' L := by
 have hk1 : decide (255 < k) = true := decide_eq_true hk
 clear hk
 have hsz := mkB_size l
 have f1 : decide (1024 < ((YtkhcdichdnbcmaaR.Ext.mkB l).size : Int)) = false := decide_eq_false (by rw [hsz]; omega)
 have f2 : decide (1024 < (YtkhcdichdnbcmaaR.Ext.mkB l).size) = false := decide_eq_false (by rw [hsz]; omega)
 have f3 : (1024 < (YtkhcdichdnbcmaaR.Ext.mkB l).size) = False := eq_false (by rw [hsz]; omega)
 clear hsz hl
 have s0 := h.alloc #[.int .u8 0, .int .i64 0, .int .i64 0, .int .i64 0, .int .i64 0, .int .i64 0, .slice none 0 0, .slice none 0 0, .int .i64 0] tCm
 clear h
 have s1 := s0.alloc #[.string (YtkhcdichdnbcmaaR.Ext.mkB l), .bool false] tRd
 clear s0
 have S0 := Lib.hid s1
 clear s1
 go_enter Try.func21, Try.ntmps21
 go_wp2_with fail
 have hn1 : (w.alloc (Obj.cells #[.int .u8 0, .int .i64 0, .int .i64 0, .int .i64 0, .int .i64 0, .int .i64 0, .slice none 0 0, .slice none 0 0, .int .i64 0] tCm)).heap.size = w.heap.size + 1 := by simp
 rw [hn1] at S0
 clear hn1
 generalize w.heap.size + 1 = b4 at *
 generalize w.heap.size = b2 at *
 refine (H1.out _ _ _ S0.out).mono ?_
 rintro ee w1 ⟨rfl, s1⟩
 clear S0 H1 f1 f2 f3
 have hc1 := s1.cells
 have hf1 := s1.free
 have s2 := s1.pick 1
 simp only [List.getElem_cons_succ, List.getElem_cons_zero, List.eraseIdx_cons_succ, List.eraseIdx_cons_zero] at s2
 have S2 := Lib.hid s2
 clear s1 s2
 go_wp2_with (first | ((with_reducible refine wpList_storeSt S2.out rfl _ _ 29 rfl 0 #[.int .u8 0, .int .i64 0, .int .i64 0, .int .i64 0, .int .i64 0, .int .i64 0, .slice none 0 0, .slice none 0 0, .int .i64 0] #[.int .u8 0, .int .i64 0, .int .i64 0, .int .i64 0, .int .i64 0, .int .i64 0, .slice none 0 0, .slice none 0 0, .int .i64 0] size_cmd ?hn ?hx ?hv ?hf ?h1 ?he ?_); (case hn => rfl); (case hx => rfl); (case hv => rfl); (case hf => simp); (case h1 => simp [Value.oneCell']); (case he => rfl); intro wz sz; have hcz := sz.cells; have hfz := sz.free; have SZ := Lib.hid sz; clear sz) | fail)
 refine bodyPost_ret (v := .tuple #[.agg #[.int .u8 0, .int .i64 0, .int .i64 0, .int .i64 0, .int .i64 0, .int .i64 0, .slice none 0 0, .slice none 0 0, .int .i64 0], .int .i64 4]) (by simp [results, Try.results21, go_sem, hcz]) rfl ?_
 exact ⟨rfl, SZ.out.drop.drop⟩
set_option maxRecDepth 100000 in
set_option maxHeartbeats 1000000 in
theorem rdec_pb {w0 w : World} {L : List HP} (l : List UInt8) (r1 r2 : List UInt8) (r3 : ByteArray) (e a b c d : Int) (ps : List Int) (ts : List TX) (b2x : Bool) (h : St w0 w L)
  (hl : l.length ≤ 1024)
  (H1 : Go.RowKit.Hid (∀ (W : World) (g : Nat) (M : List HP), St w0 W (Go.Proofs.YtkhcdichdnbcmaaR.blk g #[.string (YtkhcdichdnbcmaaR.Ext.mkB l), .bool false] tRd :: M) → Calls Try.prog 45 #[.pointer (some ⟨g, 0, none⟩)] W fun ee w' => ee = .returned (.int .i64 1) ∧ St w0 w' (Go.Proofs.YtkhcdichdnbcmaaR.blk g #[.string (YtkhcdichdnbcmaaR.Ext.mkB r1), .bool false] tRd :: M)))
  (H2 : Go.RowKit.Hid (∀ (W : World) (g : Nat) (M : List HP), St w0 W (Go.Proofs.YtkhcdichdnbcmaaR.blk g #[.string (YtkhcdichdnbcmaaR.Ext.mkB r1), .bool false] tRd :: M) → Calls Try.prog 45 #[.pointer (some ⟨g, 0, none⟩)] W fun ee w' => ee = .returned (.int .i64 e) ∧ St w0 w' (Go.Proofs.YtkhcdichdnbcmaaR.blk g #[.string (YtkhcdichdnbcmaaR.Ext.mkB r2), .bool b2x] tRd :: M)))
  (HD : Go.RowKit.Hid (∀ (W : World) (g : Nat) (M : List HP), St w0 W (Go.Proofs.YtkhcdichdnbcmaaR.blk g #[.string (YtkhcdichdnbcmaaR.Ext.mkB r2), .bool b2x] tRd :: M) → Calls Try.prog 46 #[.pointer (some ⟨g, 0, none⟩)] W fun ee w' => ∃ A B p q n m, ee = .returned (.agg #[.int .i64 a, .int .i64 b, .int .i64 c, .int .i64 d, .slice A n p, .slice B m q]) ∧ St w0 w' (RI (.slice A n p) ps :: RT (.slice B m q) ts :: Go.Proofs.YtkhcdichdnbcmaaR.blk g #[.string r3, .bool true] tRd :: M))) :
  Calls Try.prog 21 #[.string (YtkhcdichdnbcmaaR.Ext.mkB l)] w fun ee w' => ee = .returned (.tuple #[.agg #[.int .u8 0, .int .i64 0, .int .i64 0, .int .i64 0, .int .i64 0, .int .i64 0, .slice none 0 0, .slice none 0 0, .int .i64 0], .int .i64 4]) ∧ St w0 w' L := by
 have hsz := mkB_size l
 have f1 : decide (1024 < ((YtkhcdichdnbcmaaR.Ext.mkB l).size : Int)) = false := decide_eq_false (by rw [hsz]; omega)
 have f2 : decide (1024 < (YtkhcdichdnbcmaaR.Ext.mkB l).size) = false := decide_eq_false (by rw [hsz]; omega)
 have f3 : (1024 < (YtkhcdichdnbcmaaR.Ext.mkB l).size) = False := eq_false (by rw [hsz]; omega)
 clear hsz hl
 have s0 := h.alloc #[.int .u8 0, .int .i64 0, .int .i64 0, .int .i64 0, .int .i64 0, .int .i64 0, .slice none 0 0, .slice none 0 0, .int .i64 0] tCm
 clear h
 have s1 := s0.alloc #[.string (YtkhcdichdnbcmaaR.Ext.mkB l), .bool false] tRd
 clear s0
 have S0 := Lib.hid s1
 clear s1
 go_enter Try.func21, Try.ntmps21
 go_wp2_with fail
 have hn1 : (w.alloc (Obj.cells #[.int .u8 0, .int .i64 0, .int .i64 0, .int .i64 0, .int .i64 0, .int .i64 0, .slice none 0 0, .slice none 0 0, .int .i64 0] tCm)).heap.size = w.heap.size + 1 := by simp
 rw [hn1] at S0
 clear hn1
 generalize w.heap.size + 1 = b4 at *
 generalize w.heap.size = b2 at *
 refine (H1.out _ _ _ S0.out).mono ?_
 rintro ee w1 ⟨rfl, s1⟩
 clear S0 H1 f1 f2 f3
 have hc1 := s1.cells
 have hf1 := s1.free
 have S1 := Lib.hid s1
 clear s1
 go_wp2_with fail
 refine (H2.out _ _ _ S1.out).mono ?_
 rintro ee w2 ⟨rfl, s2⟩
 clear S1 H2 hc1 hf1
 have s3 := s2.alloc #[.int .u8 1, .int .i64 e, .int .i64 0, .int .i64 0, .int .i64 0, .int .i64 0, .slice none 0 0, .slice none 0 0, .int .i64 0] tCm
 clear s2
 have hc3 := s3.cells
 have s4 := s3.pick 1
 simp only [List.getElem_cons_succ, List.getElem_cons_zero, List.eraseIdx_cons_succ, List.eraseIdx_cons_zero] at s4
 clear s3
 have S4 := Lib.hid s4
 clear s4
 go_wp2_with fail
 generalize w2.heap.size = b6 at *
 refine (HD.out _ _ _ S4.out).mono ?_
 rintro ee w3 ⟨A, B, p, q, n, m, rfl, s5⟩
 clear S4 HD hc3
 skip
 have s6 := s5.pick 3
 simp only [List.getElem_cons_succ, List.getElem_cons_zero, List.eraseIdx_cons_succ, List.eraseIdx_cons_zero] at s6
 clear s5
 have hc6 := s6.cells
 have hf6 := s6.free
 have S6 := Lib.hid s6
 clear s6
 go_wp2_with (first | ((with_reducible refine wpList_storeSt S6.out rfl _ _ 27 rfl 2 #[.int .i64 a, .int .i64 b, .int .i64 c, .int .i64 d, .slice A n p, .slice B m q] #[.int .u8 1, .int .i64 e, .int .i64 a, .int .i64 b, .int .i64 c, .int .i64 d, .slice A n p, .slice B m q, .int .i64 0] size_spec ?hn ?hx ?hv ?hf ?h1 ?he ?_); (case hn => rfl); (case hx => rfl); (case hv => rfl); (case hf => simp); (case h1 => simp [Value.oneCell']); (case he => rfl); intro w4 s7; clear hc6 hf6 S6; have hc7 := s7.cells; have s8 := s7.pick 3; simp only [List.getElem_cons_succ, List.getElem_cons_zero, List.eraseIdx_cons_succ, List.eraseIdx_cons_zero] at s8; clear s7; have hc8 := s8.cells; have S8 := Lib.hid s8; clear s8) | ((with_reducible refine wpList_storeSt (w0 := w0) (L := _) (w := w4) (cs := #[.int .u8 0, .int .i64 0, .int .i64 0, .int .i64 0, .int .i64 0, .int .i64 0, .slice none 0 0, .slice none 0 0, .int .i64 0]) (b := b2) (tb := tCm) (by have z := S8.out.pick 4; simp only [List.getElem_cons_succ, List.getElem_cons_zero, List.eraseIdx_cons_succ, List.eraseIdx_cons_zero] at z; exact z) rfl _ _ 29 rfl 0 #[.int .u8 0, .int .i64 0, .int .i64 0, .int .i64 0, .int .i64 0, .int .i64 0, .slice none 0 0, .slice none 0 0, .int .i64 0] #[.int .u8 0, .int .i64 0, .int .i64 0, .int .i64 0, .int .i64 0, .int .i64 0, .slice none 0 0, .slice none 0 0, .int .i64 0] size_cmd ?hn ?hx ?hv ?hf ?h1 ?he ?_); (case hn => rfl); (case hx => rfl); (case hv => rfl); (case hf => simp); (case h1 => simp [Value.oneCell']); (case he => rfl); intro wz sz; have hcz := sz.cells; have hfz := sz.free; have SZ := Lib.hid sz; clear sz) | fail)
 refine bodyPost_ret (v := .tuple #[.agg #[.int .u8 0, .int .i64 0, .int .i64 0, .int .i64 0, .int .i64 0, .int .i64 0, .slice none 0 0, .slice none 0 0, .int .i64 0], .int .i64 4]) (by simp [results, Try.results21, go_sem, hcz]) rfl ?_
 exact ⟨rfl, SZ.out.drop.drop.drop.drop.drop⟩
set_option maxRecDepth 100000 in
set_option maxHeartbeats 1000000 in
theorem rdec_pr {w0 w : World} {L : List HP} (l : List UInt8) (r1 r2 : List UInt8) (r3 : ByteArray) (e a b c d : Int) (ps : List Int) (ts : List TX) (b2x : Bool) (h : St w0 w L)
  (hl : l.length ≤ 1024)
  (H1 : Go.RowKit.Hid (∀ (W : World) (g : Nat) (M : List HP), St w0 W (Go.Proofs.YtkhcdichdnbcmaaR.blk g #[.string (YtkhcdichdnbcmaaR.Ext.mkB l), .bool false] tRd :: M) → Calls Try.prog 45 #[.pointer (some ⟨g, 0, none⟩)] W fun ee w' => ee = .returned (.int .i64 1) ∧ St w0 w' (Go.Proofs.YtkhcdichdnbcmaaR.blk g #[.string (YtkhcdichdnbcmaaR.Ext.mkB r1), .bool false] tRd :: M)))
  (H2 : Go.RowKit.Hid (∀ (W : World) (g : Nat) (M : List HP), St w0 W (Go.Proofs.YtkhcdichdnbcmaaR.blk g #[.string (YtkhcdichdnbcmaaR.Ext.mkB r1), .bool false] tRd :: M) → Calls Try.prog 45 #[.pointer (some ⟨g, 0, none⟩)] W fun ee w' => ee = .returned (.int .i64 e) ∧ St w0 w' (Go.Proofs.YtkhcdichdnbcmaaR.blk g #[.string (YtkhcdichdnbcmaaR.Ext.mkB r2), .bool b2x] tRd :: M)))
  (hr : r3.toList ≠ [])
  (HD : Go.RowKit.Hid (∀ (W : World) (g : Nat) (M : List HP), St w0 W (Go.Proofs.YtkhcdichdnbcmaaR.blk g #[.string (YtkhcdichdnbcmaaR.Ext.mkB r2), .bool b2x] tRd :: M) → Calls Try.prog 46 #[.pointer (some ⟨g, 0, none⟩)] W fun ee w' => ∃ A B p q n m, ee = .returned (.agg #[.int .i64 a, .int .i64 b, .int .i64 c, .int .i64 d, .slice A n p, .slice B m q]) ∧ St w0 w' (RI (.slice A n p) ps :: RT (.slice B m q) ts :: Go.Proofs.YtkhcdichdnbcmaaR.blk g #[.string r3, .bool false] tRd :: M))) :
  Calls Try.prog 21 #[.string (YtkhcdichdnbcmaaR.Ext.mkB l)] w fun ee w' => ee = .returned (.tuple #[.agg #[.int .u8 0, .int .i64 0, .int .i64 0, .int .i64 0, .int .i64 0, .int .i64 0, .slice none 0 0, .slice none 0 0, .int .i64 0], .int .i64 4]) ∧ St w0 w' L := by
 have g1 : (r3.toList == ([] : List UInt8)) = false := beq_eq_false_iff_ne.mpr hr
 have g2 : (r3.toList != ([] : List UInt8)) = true := bne_iff_ne.mpr hr
 clear hr
 have hsz := mkB_size l
 have f1 : decide (1024 < ((YtkhcdichdnbcmaaR.Ext.mkB l).size : Int)) = false := decide_eq_false (by rw [hsz]; omega)
 have f2 : decide (1024 < (YtkhcdichdnbcmaaR.Ext.mkB l).size) = false := decide_eq_false (by rw [hsz]; omega)
 have f3 : (1024 < (YtkhcdichdnbcmaaR.Ext.mkB l).size) = False := eq_false (by rw [hsz]; omega)
 clear hsz hl
 have s0 := h.alloc #[.int .u8 0, .int .i64 0, .int .i64 0, .int .i64 0, .int .i64 0, .int .i64 0, .slice none 0 0, .slice none 0 0, .int .i64 0] tCm
 clear h
 have s1 := s0.alloc #[.string (YtkhcdichdnbcmaaR.Ext.mkB l), .bool false] tRd
 clear s0
 have S0 := Lib.hid s1
 clear s1
 go_enter Try.func21, Try.ntmps21
 go_wp2_with fail
 have hn1 : (w.alloc (Obj.cells #[.int .u8 0, .int .i64 0, .int .i64 0, .int .i64 0, .int .i64 0, .int .i64 0, .slice none 0 0, .slice none 0 0, .int .i64 0] tCm)).heap.size = w.heap.size + 1 := by simp
 rw [hn1] at S0
 clear hn1
 generalize w.heap.size + 1 = b4 at *
 generalize w.heap.size = b2 at *
 refine (H1.out _ _ _ S0.out).mono ?_
 rintro ee w1 ⟨rfl, s1⟩
 clear S0 H1 f1 f2 f3
 have hc1 := s1.cells
 have hf1 := s1.free
 have S1 := Lib.hid s1
 clear s1
 go_wp2_with fail
 refine (H2.out _ _ _ S1.out).mono ?_
 rintro ee w2 ⟨rfl, s2⟩
 clear S1 H2 hc1 hf1
 have s3 := s2.alloc #[.int .u8 1, .int .i64 e, .int .i64 0, .int .i64 0, .int .i64 0, .int .i64 0, .slice none 0 0, .slice none 0 0, .int .i64 0] tCm
 clear s2
 have hc3 := s3.cells
 have s4 := s3.pick 1
 simp only [List.getElem_cons_succ, List.getElem_cons_zero, List.eraseIdx_cons_succ, List.eraseIdx_cons_zero] at s4
 clear s3
 have S4 := Lib.hid s4
 clear s4
 go_wp2_with fail
 generalize w2.heap.size = b6 at *
 refine (HD.out _ _ _ S4.out).mono ?_
 rintro ee w3 ⟨A, B, p, q, n, m, rfl, s5⟩
 clear S4 HD hc3
 skip
 have s6 := s5.pick 3
 simp only [List.getElem_cons_succ, List.getElem_cons_zero, List.eraseIdx_cons_succ, List.eraseIdx_cons_zero] at s6
 clear s5
 have hc6 := s6.cells
 have hf6 := s6.free
 have S6 := Lib.hid s6
 clear s6
 go_wp2_with (first | ((with_reducible refine wpList_storeSt S6.out rfl _ _ 27 rfl 2 #[.int .i64 a, .int .i64 b, .int .i64 c, .int .i64 d, .slice A n p, .slice B m q] #[.int .u8 1, .int .i64 e, .int .i64 a, .int .i64 b, .int .i64 c, .int .i64 d, .slice A n p, .slice B m q, .int .i64 0] size_spec ?hn ?hx ?hv ?hf ?h1 ?he ?_); (case hn => rfl); (case hx => rfl); (case hv => rfl); (case hf => simp); (case h1 => simp [Value.oneCell']); (case he => rfl); intro w4 s7; clear hc6 hf6 S6; have hc7 := s7.cells; have s8 := s7.pick 3; simp only [List.getElem_cons_succ, List.getElem_cons_zero, List.eraseIdx_cons_succ, List.eraseIdx_cons_zero] at s8; clear s7; have hc8 := s8.cells; have S8 := Lib.hid s8; clear s8) | ((with_reducible refine wpList_storeSt (w0 := w0) (L := _) (w := w4) (cs := #[.int .u8 0, .int .i64 0, .int .i64 0, .int .i64 0, .int .i64 0, .int .i64 0, .slice none 0 0, .slice none 0 0, .int .i64 0]) (b := b2) (tb := tCm) (by have z := S8.out.pick 4; simp only [List.getElem_cons_succ, List.getElem_cons_zero, List.eraseIdx_cons_succ, List.eraseIdx_cons_zero] at z; exact z) rfl _ _ 29 rfl 0 #[.int .u8 0, .int .i64 0, .int .i64 0, .int .i64 0, .int .i64 0, .int .i64 0, .slice none 0 0, .slice none 0 0, .int .i64 0] #[.int .u8 0, .int .i64 0, .int .i64 0, .int .i64 0, .int .i64 0, .int .i64 0, .slice none 0 0, .slice none 0 0, .int .i64 0] size_cmd ?hn ?hx ?hv ?hf ?h1 ?he ?_); (case hn => rfl); (case hx => rfl); (case hv => rfl); (case hf => simp); (case h1 => simp [Value.oneCell']); (case he => rfl); intro wz sz; have hcz := sz.cells; have hfz := sz.free; have SZ := Lib.hid sz; clear sz) | fail)
 refine bodyPost_ret (v := .tuple #[.agg #[.int .u8 0, .int .i64 0, .int .i64 0, .int .i64 0, .int .i64 0, .int .i64 0, .slice none 0 0, .slice none 0 0, .int .i64 0], .int .i64 4]) (by simp [results, Try.results21, go_sem, hcz]) rfl ?_
 exact ⟨rfl, SZ.out.drop.drop.drop.drop.drop⟩
set_option maxRecDepth 100000 in
set_option maxHeartbeats 1000000 in
theorem rdec_pc {w0 w : World} {L : List HP} (l : List UInt8) (r1 r2 : List UInt8) (r3 : ByteArray) (e a b c d : Int) (ps : List Int) (ts : List TX) (b2x : Bool) (E : Int) (h : St w0 w L)
  (hl : l.length ≤ 1024)
  (H1 : Go.RowKit.Hid (∀ (W : World) (g : Nat) (M : List HP), St w0 W (Go.Proofs.YtkhcdichdnbcmaaR.blk g #[.string (YtkhcdichdnbcmaaR.Ext.mkB l), .bool false] tRd :: M) → Calls Try.prog 45 #[.pointer (some ⟨g, 0, none⟩)] W fun ee w' => ee = .returned (.int .i64 1) ∧ St w0 w' (Go.Proofs.YtkhcdichdnbcmaaR.blk g #[.string (YtkhcdichdnbcmaaR.Ext.mkB r1), .bool false] tRd :: M)))
  (H2 : Go.RowKit.Hid (∀ (W : World) (g : Nat) (M : List HP), St w0 W (Go.Proofs.YtkhcdichdnbcmaaR.blk g #[.string (YtkhcdichdnbcmaaR.Ext.mkB r1), .bool false] tRd :: M) → Calls Try.prog 45 #[.pointer (some ⟨g, 0, none⟩)] W fun ee w' => ee = .returned (.int .i64 e) ∧ St w0 w' (Go.Proofs.YtkhcdichdnbcmaaR.blk g #[.string (YtkhcdichdnbcmaaR.Ext.mkB r2), .bool b2x] tRd :: M)))
  (hr : r3.toList = []) (hE : E ≠ 0)
  (HD : Go.RowKit.Hid (∀ (W : World) (g : Nat) (M : List HP), St w0 W (Go.Proofs.YtkhcdichdnbcmaaR.blk g #[.string (YtkhcdichdnbcmaaR.Ext.mkB r2), .bool b2x] tRd :: M) → Calls Try.prog 46 #[.pointer (some ⟨g, 0, none⟩)] W fun ee w' => ∃ A B p q n m, ee = .returned (.agg #[.int .i64 a, .int .i64 b, .int .i64 c, .int .i64 d, .slice A n p, .slice B m q]) ∧ St w0 w' (RI (.slice A n p) ps :: RT (.slice B m q) ts :: Go.Proofs.YtkhcdichdnbcmaaR.blk g #[.string r3, .bool false] tRd :: M)))
  (HC : Go.RowKit.Hid (∀ (W : World) (M : List HP) (A B : Option Addr) (n m p q : Nat), St w0 W (RI (.slice A n p) ps :: RT (.slice B m q) ts :: M) → Calls Try.prog 18 #[.agg #[.int .u8 1, .int .i64 e, .int .i64 a, .int .i64 b, .int .i64 c, .int .i64 d, .slice A n p, .slice B m q, .int .i64 0]] W fun ee w' => ee = .returned (.int .i64 E) ∧ St w0 w' (RI (.slice A n p) ps :: RT (.slice B m q) ts :: M))) :
  Calls Try.prog 21 #[.string (YtkhcdichdnbcmaaR.Ext.mkB l)] w fun ee w' => ee = .returned (.tuple #[.agg #[.int .u8 0, .int .i64 0, .int .i64 0, .int .i64 0, .int .i64 0, .int .i64 0, .slice none 0 0, .slice none 0 0, .int .i64 0], .int .i64 4]) ∧ St w0 w' L := by
 have g1 : (r3.toList == ([] : List UInt8)) = true := by rw [hr]; rfl
 have g2 : (r3.toList != ([] : List UInt8)) = false := by rw [hr]; rfl
 clear hr
 have g3 : (E != 0) = true := bne_iff_ne.mpr hE
 clear hE
 have hsz := mkB_size l
 have f1 : decide (1024 < ((YtkhcdichdnbcmaaR.Ext.mkB l).size : Int)) = false := decide_eq_false (by rw [hsz]; omega)
 have f2 : decide (1024 < (YtkhcdichdnbcmaaR.Ext.mkB l).size) = false := decide_eq_false (by rw [hsz]; omega)
 have f3 : (1024 < (YtkhcdichdnbcmaaR.Ext.mkB l).size) = False := eq_false (by rw [hsz]; omega)
 clear hsz hl
 have s0 := h.alloc #[.int .u8 0, .int .i64 0, .int .i64 0, .int .i64 0, .int .i64 0, .int .i64 0, .slice none 0 0, .slice none 0 0, .int .i64 0] tCm
 clear h
 have s1 := s0.alloc #[.string (YtkhcdichdnbcmaaR.Ext.mkB l), .bool false] tRd
 clear s0
 have S0 := Lib.hid s1
 clear s1
 go_enter Try.func21, Try.ntmps21
 go_wp2_with fail
 have hn1 : (w.alloc (Obj.cells #[.int .u8 0, .int .i64 0, .int .i64 0, .int .i64 0, .int .i64 0, .int .i64 0, .slice none 0 0, .slice none 0 0, .int .i64 0] tCm)).heap.size = w.heap.size + 1 := by simp
 rw [hn1] at S0
 clear hn1
 generalize w.heap.size + 1 = b4 at *
 generalize w.heap.size = b2 at *
 refine (H1.out _ _ _ S0.out).mono ?_
 rintro ee w1 ⟨rfl, s1⟩
 clear S0 H1 f1 f2 f3
 have hc1 := s1.cells
 have hf1 := s1.free
 have S1 := Lib.hid s1
 clear s1
 go_wp2_with fail
 refine (H2.out _ _ _ S1.out).mono ?_
 rintro ee w2 ⟨rfl, s2⟩
 clear S1 H2 hc1 hf1
 have s3 := s2.alloc #[.int .u8 1, .int .i64 e, .int .i64 0, .int .i64 0, .int .i64 0, .int .i64 0, .slice none 0 0, .slice none 0 0, .int .i64 0] tCm
 clear s2
 have hc3 := s3.cells
 have s4 := s3.pick 1
 simp only [List.getElem_cons_succ, List.getElem_cons_zero, List.eraseIdx_cons_succ, List.eraseIdx_cons_zero] at s4
 clear s3
 have S4 := Lib.hid s4
 clear s4
 go_wp2_with fail
 generalize w2.heap.size = b6 at *
 refine (HD.out _ _ _ S4.out).mono ?_
 rintro ee w3 ⟨A, B, p, q, n, m, rfl, s5⟩
 clear S4 HD hc3
 skip
 have s6 := s5.pick 3
 simp only [List.getElem_cons_succ, List.getElem_cons_zero, List.eraseIdx_cons_succ, List.eraseIdx_cons_zero] at s6
 clear s5
 have hc6 := s6.cells
 have hf6 := s6.free
 have S6 := Lib.hid s6
 clear s6
 go_wp2_with (first | ((with_reducible refine wpList_storeSt S6.out rfl _ _ 27 rfl 2 #[.int .i64 a, .int .i64 b, .int .i64 c, .int .i64 d, .slice A n p, .slice B m q] #[.int .u8 1, .int .i64 e, .int .i64 a, .int .i64 b, .int .i64 c, .int .i64 d, .slice A n p, .slice B m q, .int .i64 0] size_spec ?hn ?hx ?hv ?hf ?h1 ?he ?_); (case hn => rfl); (case hx => rfl); (case hv => rfl); (case hf => simp); (case h1 => simp [Value.oneCell']); (case he => rfl); intro w4 s7; clear hc6 hf6 S6; have hc7 := s7.cells; have s8 := s7.pick 3; simp only [List.getElem_cons_succ, List.getElem_cons_zero, List.eraseIdx_cons_succ, List.eraseIdx_cons_zero] at s8; clear s7; have hc8 := s8.cells; have S8 := Lib.hid s8; clear s8) | fail)
 have s9 := S8.out.pick 3
 simp only [List.getElem_cons_succ, List.getElem_cons_zero, List.eraseIdx_cons_succ, List.eraseIdx_cons_zero] at s9
 have s10 := s9.pick 3
 simp only [List.getElem_cons_succ, List.getElem_cons_zero, List.eraseIdx_cons_succ, List.eraseIdx_cons_zero] at s10
 clear s9
 refine (HC.out _ _ _ _ _ _ _ _ s10).mono ?_
 rintro ee w5 ⟨rfl, s11⟩
 clear s10 S8 hc7 hc8 HC
 have hc11 := (s11.pick 3).cells
 have s12 := s11.pick 4
 simp only [List.getElem_cons_succ, List.getElem_cons_zero, List.eraseIdx_cons_succ, List.eraseIdx_cons_zero] at s12
 clear s11
 have S12 := Lib.hid s12
 clear s12
 go_wp2_with (first | ((with_reducible refine wpList_storeSt S12.out rfl _ _ 29 rfl 0 #[.int .u8 0, .int .i64 0, .int .i64 0, .int .i64 0, .int .i64 0, .int .i64 0, .slice none 0 0, .slice none 0 0, .int .i64 0] #[.int .u8 0, .int .i64 0, .int .i64 0, .int .i64 0, .int .i64 0, .int .i64 0, .slice none 0 0, .slice none 0 0, .int .i64 0] size_cmd ?hn ?hx ?hv ?hf ?h1 ?he ?_); (case hn => rfl); (case hx => rfl); (case hv => rfl); (case hf => simp); (case h1 => simp [Value.oneCell']); (case he => rfl); intro wz sz; have hcz := sz.cells; have hfz := sz.free; have SZ := Lib.hid sz; clear sz) | fail)
 refine bodyPost_ret (v := .tuple #[.agg #[.int .u8 0, .int .i64 0, .int .i64 0, .int .i64 0, .int .i64 0, .int .i64 0, .slice none 0 0, .slice none 0 0, .int .i64 0], .int .i64 4]) (by simp [results, Try.results21, go_sem, hcz]) rfl ?_
 exact ⟨rfl, SZ.out.drop.drop.drop.drop.drop⟩
set_option maxRecDepth 100000 in
set_option maxHeartbeats 1000000 in
theorem rdec_pok {w0 w : World} {L : List HP} (l : List UInt8) (r1 r2 : List UInt8) (r3 : ByteArray) (e a b c d : Int) (ps : List Int) (ts : List TX) (b2x : Bool) (E : Int) (h : St w0 w L)
  (hl : l.length ≤ 1024)
  (H1 : Go.RowKit.Hid (∀ (W : World) (g : Nat) (M : List HP), St w0 W (Go.Proofs.YtkhcdichdnbcmaaR.blk g #[.string (YtkhcdichdnbcmaaR.Ext.mkB l), .bool false] tRd :: M) → Calls Try.prog 45 #[.pointer (some ⟨g, 0, none⟩)] W fun ee w' => ee = .returned (.int .i64 1) ∧ St w0 w' (Go.Proofs.YtkhcdichdnbcmaaR.blk g #[.string (YtkhcdichdnbcmaaR.Ext.mkB r1), .bool false] tRd :: M)))
  (H2 : Go.RowKit.Hid (∀ (W : World) (g : Nat) (M : List HP), St w0 W (Go.Proofs.YtkhcdichdnbcmaaR.blk g #[.string (YtkhcdichdnbcmaaR.Ext.mkB r1), .bool false] tRd :: M) → Calls Try.prog 45 #[.pointer (some ⟨g, 0, none⟩)] W fun ee w' => ee = .returned (.int .i64 e) ∧ St w0 w' (Go.Proofs.YtkhcdichdnbcmaaR.blk g #[.string (YtkhcdichdnbcmaaR.Ext.mkB r2), .bool b2x] tRd :: M)))
  (hr : r3.toList = []) (hE : E = 0)
  (HD : Go.RowKit.Hid (∀ (W : World) (g : Nat) (M : List HP), St w0 W (Go.Proofs.YtkhcdichdnbcmaaR.blk g #[.string (YtkhcdichdnbcmaaR.Ext.mkB r2), .bool b2x] tRd :: M) → Calls Try.prog 46 #[.pointer (some ⟨g, 0, none⟩)] W fun ee w' => ∃ A B p q n m, ee = .returned (.agg #[.int .i64 a, .int .i64 b, .int .i64 c, .int .i64 d, .slice A n p, .slice B m q]) ∧ St w0 w' (RI (.slice A n p) ps :: RT (.slice B m q) ts :: Go.Proofs.YtkhcdichdnbcmaaR.blk g #[.string r3, .bool false] tRd :: M)))
  (HC : Go.RowKit.Hid (∀ (W : World) (M : List HP) (A B : Option Addr) (n m p q : Nat), St w0 W (RI (.slice A n p) ps :: RT (.slice B m q) ts :: M) → Calls Try.prog 18 #[.agg #[.int .u8 1, .int .i64 e, .int .i64 a, .int .i64 b, .int .i64 c, .int .i64 d, .slice A n p, .slice B m q, .int .i64 0]] W fun ee w' => ee = .returned (.int .i64 E) ∧ St w0 w' (RI (.slice A n p) ps :: RT (.slice B m q) ts :: M))) :
  Calls Try.prog 21 #[.string (YtkhcdichdnbcmaaR.Ext.mkB l)] w fun ee w' => ∃ A B n m p q, ee = .returned (.tuple #[.agg #[.int .u8 1, .int .i64 e, .int .i64 a, .int .i64 b, .int .i64 c, .int .i64 d, .slice A n p, .slice B m q, .int .i64 0], .int .i64 0]) ∧ St w0 w' (RI (.slice A n p) ps :: RT (.slice B m q) ts :: L) := by
 have g1 : (r3.toList == ([] : List UInt8)) = true := by rw [hr]; rfl
 have g2 : (r3.toList != ([] : List UInt8)) = false := by rw [hr]; rfl
 clear hr
 have g3 : (E != 0) = false := by subst hE; rfl
 clear hE
 have hsz := mkB_size l
 have f1 : decide (1024 < ((YtkhcdichdnbcmaaR.Ext.mkB l).size : Int)) = false := decide_eq_false (by rw [hsz]; omega)
 have f2 : decide (1024 < (YtkhcdichdnbcmaaR.Ext.mkB l).size) = false := decide_eq_false (by rw [hsz]; omega)
 have f3 : (1024 < (YtkhcdichdnbcmaaR.Ext.mkB l).size) = False := eq_false (by rw [hsz]; omega)
 clear hsz hl
 have s0 := h.alloc #[.int .u8 0, .int .i64 0, .int .i64 0, .int .i64 0, .int .i64 0, .int .i64 0, .slice none 0 0, .slice none 0 0, .int .i64 0] tCm
 clear h
 have s1 := s0.alloc #[.string (YtkhcdichdnbcmaaR.Ext.mkB l), .bool false] tRd
 clear s0
 have S0 := Lib.hid s1
 clear s1
 go_enter Try.func21, Try.ntmps21
 go_wp2_with fail
 have hn1 : (w.alloc (Obj.cells #[.int .u8 0, .int .i64 0, .int .i64 0, .int .i64 0, .int .i64 0, .int .i64 0, .slice none 0 0, .slice none 0 0, .int .i64 0] tCm)).heap.size = w.heap.size + 1 := by simp
 rw [hn1] at S0
 clear hn1
 generalize w.heap.size + 1 = b4 at *
 generalize w.heap.size = b2 at *
 refine (H1.out _ _ _ S0.out).mono ?_
 rintro ee w1 ⟨rfl, s1⟩
 clear S0 H1 f1 f2 f3
 have hc1 := s1.cells
 have hf1 := s1.free
 have S1 := Lib.hid s1
 clear s1
 go_wp2_with fail
 refine (H2.out _ _ _ S1.out).mono ?_
 rintro ee w2 ⟨rfl, s2⟩
 clear S1 H2 hc1 hf1
 have s3 := s2.alloc #[.int .u8 1, .int .i64 e, .int .i64 0, .int .i64 0, .int .i64 0, .int .i64 0, .slice none 0 0, .slice none 0 0, .int .i64 0] tCm
 clear s2
 have hc3 := s3.cells
 have s4 := s3.pick 1
 simp only [List.getElem_cons_succ, List.getElem_cons_zero, List.eraseIdx_cons_succ, List.eraseIdx_cons_zero] at s4
 clear s3
 have S4 := Lib.hid s4
 clear s4
 go_wp2_with fail
 generalize w2.heap.size = b6 at *
 refine (HD.out _ _ _ S4.out).mono ?_
 rintro ee w3 ⟨A, B, p, q, n, m, rfl, s5⟩
 clear S4 HD hc3
 skip
 have s6 := s5.pick 3
 simp only [List.getElem_cons_succ, List.getElem_cons_zero, List.eraseIdx_cons_succ, List.eraseIdx_cons_zero] at s6
 clear s5
 have hc6 := s6.cells
 have hf6 := s6.free
 have S6 := Lib.hid s6
 clear s6
 go_wp2_with (first | ((with_reducible refine wpList_storeSt S6.out rfl _ _ 27 rfl 2 #[.int .i64 a, .int .i64 b, .int .i64 c, .int .i64 d, .slice A n p, .slice B m q] #[.int .u8 1, .int .i64 e, .int .i64 a, .int .i64 b, .int .i64 c, .int .i64 d, .slice A n p, .slice B m q, .int .i64 0] size_spec ?hn ?hx ?hv ?hf ?h1 ?he ?_); (case hn => rfl); (case hx => rfl); (case hv => rfl); (case hf => simp); (case h1 => simp [Value.oneCell']); (case he => rfl); intro w4 s7; clear hc6 hf6 S6; have hc7 := s7.cells; have s8 := s7.pick 3; simp only [List.getElem_cons_succ, List.getElem_cons_zero, List.eraseIdx_cons_succ, List.eraseIdx_cons_zero] at s8; clear s7; have hc8 := s8.cells; have S8 := Lib.hid s8; clear s8) | fail)
 have s9 := S8.out.pick 3
 simp only [List.getElem_cons_succ, List.getElem_cons_zero, List.eraseIdx_cons_succ, List.eraseIdx_cons_zero] at s9
 have s10 := s9.pick 3
 simp only [List.getElem_cons_succ, List.getElem_cons_zero, List.eraseIdx_cons_succ, List.eraseIdx_cons_zero] at s10
 clear s9
 refine (HC.out _ _ _ _ _ _ _ _ s10).mono ?_
 rintro ee w5 ⟨rfl, s11⟩
 clear s10 S8 hc7 hc8 HC
 have hc11 := (s11.pick 3).cells
 have s12 := s11.pick 4
 simp only [List.getElem_cons_succ, List.getElem_cons_zero, List.eraseIdx_cons_succ, List.eraseIdx_cons_zero] at s12
 clear s11
 have S12 := Lib.hid s12
 clear s12
 go_wp2_with (first | ((with_reducible refine wpList_storeSt S12.out rfl _ _ 29 rfl 0 #[.int .u8 1, .int .i64 e, .int .i64 a, .int .i64 b, .int .i64 c, .int .i64 d, .slice A n p, .slice B m q, .int .i64 0] #[.int .u8 1, .int .i64 e, .int .i64 a, .int .i64 b, .int .i64 c, .int .i64 d, .slice A n p, .slice B m q, .int .i64 0] size_cmd ?hn ?hx ?hv ?hf ?h1 ?he ?_); (case hn => rfl); (case hx => rfl); (case hv => rfl); (case hf => simp); (case h1 => simp [Value.oneCell']); (case he => rfl); intro wz sz; have hcz := sz.cells; have hfz := sz.free; have SZ := Lib.hid sz; clear sz) | fail)
 refine bodyPost_ret (v := .tuple #[.agg #[.int .u8 1, .int .i64 e, .int .i64 a, .int .i64 b, .int .i64 c, .int .i64 d, .slice A n p, .slice B m q, .int .i64 0], .int .i64 0]) (by simp [results, Try.results21, go_sem, hcz]) rfl ?_
 have t1 := SZ.out.drop
 have t2 := t1.pick 2
 simp only [List.getElem_cons_succ, List.getElem_cons_zero, List.eraseIdx_cons_succ, List.eraseIdx_cons_zero] at t2
 have t3 := t2.drop.pick 2
 simp only [List.getElem_cons_succ, List.getElem_cons_zero, List.eraseIdx_cons_succ, List.eraseIdx_cons_zero] at t3
 have t4 := t3.drop
 exact ⟨A, B, n, m, p, q, rfl, t4⟩
set_option maxRecDepth 100000 in
set_option maxHeartbeats 1000000 in
theorem rdec_ib {w0 w : World} {L : List HP} (l : List UInt8) (r1 r2 r3 : List UInt8) (k e x : Int) (b2x : Bool) (h : St w0 w L)
  (hl : l.length ≤ 1024)
  (hk : 0 ≤ k ∧ k ≤ 255) (hne : k ≠ 1)
  (H1 : Go.RowKit.Hid (∀ (W : World) (g : Nat) (M : List HP), St w0 W (Go.Proofs.YtkhcdichdnbcmaaR.blk g #[.string (YtkhcdichdnbcmaaR.Ext.mkB l), .bool false] tRd :: M) → Calls Try.prog 45 #[.pointer (some ⟨g, 0, none⟩)] W fun ee w' => ee = .returned (.int .i64 k) ∧ St w0 w' (Go.Proofs.YtkhcdichdnbcmaaR.blk g #[.string (YtkhcdichdnbcmaaR.Ext.mkB r1), .bool false] tRd :: M)))
  (H2 : Go.RowKit.Hid (∀ (W : World) (g : Nat) (M : List HP), St w0 W (Go.Proofs.YtkhcdichdnbcmaaR.blk g #[.string (YtkhcdichdnbcmaaR.Ext.mkB r1), .bool false] tRd :: M) → Calls Try.prog 45 #[.pointer (some ⟨g, 0, none⟩)] W fun ee w' => ee = .returned (.int .i64 e) ∧ St w0 w' (Go.Proofs.YtkhcdichdnbcmaaR.blk g #[.string (YtkhcdichdnbcmaaR.Ext.mkB r2), .bool b2x] tRd :: M)))
  (H3 : Go.RowKit.Hid (∀ (W : World) (g : Nat) (M : List HP), St w0 W (Go.Proofs.YtkhcdichdnbcmaaR.blk g #[.string (YtkhcdichdnbcmaaR.Ext.mkB r2), .bool b2x] tRd :: M) → Calls Try.prog 45 #[.pointer (some ⟨g, 0, none⟩)] W fun ee w' => ee = .returned (.int .i64 x) ∧ St w0 w' (Go.Proofs.YtkhcdichdnbcmaaR.blk g #[.string (YtkhcdichdnbcmaaR.Ext.mkB r3), .bool true] tRd :: M))) :
  Calls Try.prog 21 #[.string (YtkhcdichdnbcmaaR.Ext.mkB l)] w fun ee w' => ee = .returned (.tuple #[.agg #[.int .u8 0, .int .i64 0, .int .i64 0, .int .i64 0, .int .i64 0, .int .i64 0, .slice none 0 0, .slice none 0 0, .int .i64 0], .int .i64 4]) ∧ St w0 w' L := by
 have hcv : IntKind.u8.wrap k = k := by unfold IntKind.wrap; simp [IntKind.bits, IntKind.signed]; omega
 have hk4 : decide (255 < k) = false := decide_eq_false (by omega)
 clear hk
 have hk1 : (k == 1) = false := beq_eq_false_iff_ne.mpr hne
 have hk2 : decide (k = 1) = false := decide_eq_false hne
 have hk3 : (k = 1) = False := eq_false hne
 clear hne
 have hsz := mkB_size l
 have f1 : decide (1024 < ((YtkhcdichdnbcmaaR.Ext.mkB l).size : Int)) = false := decide_eq_false (by rw [hsz]; omega)
 have f2 : decide (1024 < (YtkhcdichdnbcmaaR.Ext.mkB l).size) = false := decide_eq_false (by rw [hsz]; omega)
 have f3 : (1024 < (YtkhcdichdnbcmaaR.Ext.mkB l).size) = False := eq_false (by rw [hsz]; omega)
 clear hsz hl
 have s0 := h.alloc #[.int .u8 0, .int .i64 0, .int .i64 0, .int .i64 0, .int .i64 0, .int .i64 0, .slice none 0 0, .slice none 0 0, .int .i64 0] tCm
 clear h
 have s1 := s0.alloc #[.string (YtkhcdichdnbcmaaR.Ext.mkB l), .bool false] tRd
 clear s0
 have S0 := Lib.hid s1
 clear s1
 go_enter Try.func21, Try.ntmps21
 go_wp2_with fail
 have hn1 : (w.alloc (Obj.cells #[.int .u8 0, .int .i64 0, .int .i64 0, .int .i64 0, .int .i64 0, .int .i64 0, .slice none 0 0, .slice none 0 0, .int .i64 0] tCm)).heap.size = w.heap.size + 1 := by simp
 rw [hn1] at S0
 clear hn1
 generalize w.heap.size + 1 = b4 at *
 generalize w.heap.size = b2 at *
 refine (H1.out _ _ _ S0.out).mono ?_
 rintro ee w1 ⟨rfl, s1⟩
 clear S0 H1 f1 f2 f3
 have hc1 := s1.cells
 have hf1 := s1.free
 have S1 := Lib.hid s1
 clear s1
 go_wp2_with fail
 refine (H2.out _ _ _ S1.out).mono ?_
 rintro ee w2 ⟨rfl, s2⟩
 clear S1 H2 hc1 hf1
 have s3 := s2.alloc #[.int .u8 k, .int .i64 e, .int .i64 0, .int .i64 0, .int .i64 0, .int .i64 0, .slice none 0 0, .slice none 0 0, .int .i64 0] tCm
 clear s2
 have hc3 := s3.cells
 have s4 := s3.pick 1
 simp only [List.getElem_cons_succ, List.getElem_cons_zero, List.eraseIdx_cons_succ, List.eraseIdx_cons_zero] at s4
 clear s3
 have S4 := Lib.hid s4
 clear s4
 go_wp2_with fail
 generalize w2.heap.size = b6 at *
 refine (H3.out _ _ _ S4.out).mono ?_
 rintro ee w3 ⟨rfl, s5⟩
 clear S4 H3 hc3
 have hc5 := s5.cells
 have s6 := s5.pick 1
 simp only [List.getElem_cons_succ, List.getElem_cons_zero, List.eraseIdx_cons_succ, List.eraseIdx_cons_zero] at s6
 clear s5
 have hc6 := s6.cells
 have hf6 := s6.free
 skip
 have hne6 := St.ne s6
 have hne7 : ¬ b4 = b6 := fun q => hne6 q.symm
 have s7 := s6.setb 8 (.int .i64 x) rfl
 have s8 := s7.pick 2
 simp only [List.getElem_cons_succ, List.getElem_cons_zero, List.eraseIdx_cons_succ, List.eraseIdx_cons_zero] at s8
 clear s6 s7
 have S8 := Lib.hid s8
 clear s8
 go_wp2_with (first | ((with_reducible refine wpList_storeSt S8.out rfl _ _ 29 rfl 0 #[.int .u8 0, .int .i64 0, .int .i64 0, .int .i64 0, .int .i64 0, .int .i64 0, .slice none 0 0, .slice none 0 0, .int .i64 0] #[.int .u8 0, .int .i64 0, .int .i64 0, .int .i64 0, .int .i64 0, .int .i64 0, .slice none 0 0, .slice none 0 0, .int .i64 0] size_cmd ?hn ?hx ?hv ?hf ?h1 ?he ?_); (case hn => rfl); (case hx => rfl); (case hv => rfl); (case hf => simp); (case h1 => simp [Value.oneCell']); (case he => rfl); intro wz sz; have hcz := sz.cells; have hfz := sz.free; have SZ := Lib.hid sz; clear sz) | fail)
 refine bodyPost_ret (v := .tuple #[.agg #[.int .u8 0, .int .i64 0, .int .i64 0, .int .i64 0, .int .i64 0, .int .i64 0, .slice none 0 0, .slice none 0 0, .int .i64 0], .int .i64 4]) (by simp [results, Try.results21, go_sem, hcz]) rfl ?_
 exact ⟨rfl, SZ.out.drop.drop.drop⟩
set_option maxRecDepth 100000 in
set_option maxHeartbeats 1000000 in
theorem rdec_ir {w0 w : World} {L : List HP} (l : List UInt8) (r1 r2 r3 : List UInt8) (k e x : Int) (b2x : Bool) (h : St w0 w L)
  (hl : l.length ≤ 1024)
  (hk : 0 ≤ k ∧ k ≤ 255) (hne : k ≠ 1)
  (H1 : Go.RowKit.Hid (∀ (W : World) (g : Nat) (M : List HP), St w0 W (Go.Proofs.YtkhcdichdnbcmaaR.blk g #[.string (YtkhcdichdnbcmaaR.Ext.mkB l), .bool false] tRd :: M) → Calls Try.prog 45 #[.pointer (some ⟨g, 0, none⟩)] W fun ee w' => ee = .returned (.int .i64 k) ∧ St w0 w' (Go.Proofs.YtkhcdichdnbcmaaR.blk g #[.string (YtkhcdichdnbcmaaR.Ext.mkB r1), .bool false] tRd :: M)))
  (H2 : Go.RowKit.Hid (∀ (W : World) (g : Nat) (M : List HP), St w0 W (Go.Proofs.YtkhcdichdnbcmaaR.blk g #[.string (YtkhcdichdnbcmaaR.Ext.mkB r1), .bool false] tRd :: M) → Calls Try.prog 45 #[.pointer (some ⟨g, 0, none⟩)] W fun ee w' => ee = .returned (.int .i64 e) ∧ St w0 w' (Go.Proofs.YtkhcdichdnbcmaaR.blk g #[.string (YtkhcdichdnbcmaaR.Ext.mkB r2), .bool b2x] tRd :: M)))
  (hr : (YtkhcdichdnbcmaaR.Ext.mkB r3).toList ≠ [])
  (H3 : Go.RowKit.Hid (∀ (W : World) (g : Nat) (M : List HP), St w0 W (Go.Proofs.YtkhcdichdnbcmaaR.blk g #[.string (YtkhcdichdnbcmaaR.Ext.mkB r2), .bool b2x] tRd :: M) → Calls Try.prog 45 #[.pointer (some ⟨g, 0, none⟩)] W fun ee w' => ee = .returned (.int .i64 x) ∧ St w0 w' (Go.Proofs.YtkhcdichdnbcmaaR.blk g #[.string (YtkhcdichdnbcmaaR.Ext.mkB r3), .bool false] tRd :: M))) :
  Calls Try.prog 21 #[.string (YtkhcdichdnbcmaaR.Ext.mkB l)] w fun ee w' => ee = .returned (.tuple #[.agg #[.int .u8 0, .int .i64 0, .int .i64 0, .int .i64 0, .int .i64 0, .int .i64 0, .slice none 0 0, .slice none 0 0, .int .i64 0], .int .i64 4]) ∧ St w0 w' L := by
 have hcv : IntKind.u8.wrap k = k := by unfold IntKind.wrap; simp [IntKind.bits, IntKind.signed]; omega
 have hk4 : decide (255 < k) = false := decide_eq_false (by omega)
 clear hk
 have hk1 : (k == 1) = false := beq_eq_false_iff_ne.mpr hne
 have hk2 : decide (k = 1) = false := decide_eq_false hne
 have hk3 : (k = 1) = False := eq_false hne
 clear hne
 have g1 : ((YtkhcdichdnbcmaaR.Ext.mkB r3).toList == ([] : List UInt8)) = false := beq_eq_false_iff_ne.mpr hr
 have g2 : ((YtkhcdichdnbcmaaR.Ext.mkB r3).toList != ([] : List UInt8)) = true := bne_iff_ne.mpr hr
 clear hr
 have hsz := mkB_size l
 have f1 : decide (1024 < ((YtkhcdichdnbcmaaR.Ext.mkB l).size : Int)) = false := decide_eq_false (by rw [hsz]; omega)
 have f2 : decide (1024 < (YtkhcdichdnbcmaaR.Ext.mkB l).size) = false := decide_eq_false (by rw [hsz]; omega)
 have f3 : (1024 < (YtkhcdichdnbcmaaR.Ext.mkB l).size) = False := eq_false (by rw [hsz]; omega)
 clear hsz hl
 have s0 := h.alloc #[.int .u8 0, .int .i64 0, .int .i64 0, .int .i64 0, .int .i64 0, .int .i64 0, .slice none 0 0, .slice none 0 0, .int .i64 0] tCm
 clear h
 have s1 := s0.alloc #[.string (YtkhcdichdnbcmaaR.Ext.mkB l), .bool false] tRd
 clear s0
 have S0 := Lib.hid s1
 clear s1
 go_enter Try.func21, Try.ntmps21
 go_wp2_with fail
 have hn1 : (w.alloc (Obj.cells #[.int .u8 0, .int .i64 0, .int .i64 0, .int .i64 0, .int .i64 0, .int .i64 0, .slice none 0 0, .slice none 0 0, .int .i64 0] tCm)).heap.size = w.heap.size + 1 := by simp
 rw [hn1] at S0
 clear hn1
 generalize w.heap.size + 1 = b4 at *
 generalize w.heap.size = b2 at *
 refine (H1.out _ _ _ S0.out).mono ?_
 rintro ee w1 ⟨rfl, s1⟩
 clear S0 H1 f1 f2 f3
 have hc1 := s1.cells
 have hf1 := s1.free
 have S1 := Lib.hid s1
 clear s1
 go_wp2_with fail
 refine (H2.out _ _ _ S1.out).mono ?_
 rintro ee w2 ⟨rfl, s2⟩
 clear S1 H2 hc1 hf1
 have s3 := s2.alloc #[.int .u8 k, .int .i64 e, .int .i64 0, .int .i64 0, .int .i64 0, .int .i64 0, .slice none 0 0, .slice none 0 0, .int .i64 0] tCm
 clear s2
 have hc3 := s3.cells
 have s4 := s3.pick 1
 simp only [List.getElem_cons_succ, List.getElem_cons_zero, List.eraseIdx_cons_succ, List.eraseIdx_cons_zero] at s4
 clear s3
 have S4 := Lib.hid s4
 clear s4
 go_wp2_with fail
 generalize w2.heap.size = b6 at *
 refine (H3.out _ _ _ S4.out).mono ?_
 rintro ee w3 ⟨rfl, s5⟩
 clear S4 H3 hc3
 have hc5 := s5.cells
 have s6 := s5.pick 1
 simp only [List.getElem_cons_succ, List.getElem_cons_zero, List.eraseIdx_cons_succ, List.eraseIdx_cons_zero] at s6
 clear s5
 have hc6 := s6.cells
 have hf6 := s6.free
 skip
 have hne6 := St.ne s6
 have hne7 : ¬ b4 = b6 := fun q => hne6 q.symm
 have s7 := s6.setb 8 (.int .i64 x) rfl
 have s8 := s7.pick 2
 simp only [List.getElem_cons_succ, List.getElem_cons_zero, List.eraseIdx_cons_succ, List.eraseIdx_cons_zero] at s8
 clear s6 s7
 have S8 := Lib.hid s8
 clear s8
 go_wp2_with (first | ((with_reducible refine wpList_storeSt S8.out rfl _ _ 29 rfl 0 #[.int .u8 0, .int .i64 0, .int .i64 0, .int .i64 0, .int .i64 0, .int .i64 0, .slice none 0 0, .slice none 0 0, .int .i64 0] #[.int .u8 0, .int .i64 0, .int .i64 0, .int .i64 0, .int .i64 0, .int .i64 0, .slice none 0 0, .slice none 0 0, .int .i64 0] size_cmd ?hn ?hx ?hv ?hf ?h1 ?he ?_); (case hn => rfl); (case hx => rfl); (case hv => rfl); (case hf => simp); (case h1 => simp [Value.oneCell']); (case he => rfl); intro wz sz; have hcz := sz.cells; have hfz := sz.free; have SZ := Lib.hid sz; clear sz) | fail)
 refine bodyPost_ret (v := .tuple #[.agg #[.int .u8 0, .int .i64 0, .int .i64 0, .int .i64 0, .int .i64 0, .int .i64 0, .slice none 0 0, .slice none 0 0, .int .i64 0], .int .i64 4]) (by simp [results, Try.results21, go_sem, hcz]) rfl ?_
 exact ⟨rfl, SZ.out.drop.drop.drop⟩
set_option maxRecDepth 100000 in
set_option maxHeartbeats 1000000 in
theorem rdec_ic {w0 w : World} {L : List HP} (l : List UInt8) (r1 r2 r3 : List UInt8) (k e x : Int) (b2x : Bool) (E : Int) (h : St w0 w L)
  (hl : l.length ≤ 1024)
  (hk : 0 ≤ k ∧ k ≤ 255) (hne : k ≠ 1)
  (H1 : Go.RowKit.Hid (∀ (W : World) (g : Nat) (M : List HP), St w0 W (Go.Proofs.YtkhcdichdnbcmaaR.blk g #[.string (YtkhcdichdnbcmaaR.Ext.mkB l), .bool false] tRd :: M) → Calls Try.prog 45 #[.pointer (some ⟨g, 0, none⟩)] W fun ee w' => ee = .returned (.int .i64 k) ∧ St w0 w' (Go.Proofs.YtkhcdichdnbcmaaR.blk g #[.string (YtkhcdichdnbcmaaR.Ext.mkB r1), .bool false] tRd :: M)))
  (H2 : Go.RowKit.Hid (∀ (W : World) (g : Nat) (M : List HP), St w0 W (Go.Proofs.YtkhcdichdnbcmaaR.blk g #[.string (YtkhcdichdnbcmaaR.Ext.mkB r1), .bool false] tRd :: M) → Calls Try.prog 45 #[.pointer (some ⟨g, 0, none⟩)] W fun ee w' => ee = .returned (.int .i64 e) ∧ St w0 w' (Go.Proofs.YtkhcdichdnbcmaaR.blk g #[.string (YtkhcdichdnbcmaaR.Ext.mkB r2), .bool b2x] tRd :: M)))
  (hr : (YtkhcdichdnbcmaaR.Ext.mkB r3).toList = []) (hE : E ≠ 0)
  (H3 : Go.RowKit.Hid (∀ (W : World) (g : Nat) (M : List HP), St w0 W (Go.Proofs.YtkhcdichdnbcmaaR.blk g #[.string (YtkhcdichdnbcmaaR.Ext.mkB r2), .bool b2x] tRd :: M) → Calls Try.prog 45 #[.pointer (some ⟨g, 0, none⟩)] W fun ee w' => ee = .returned (.int .i64 x) ∧ St w0 w' (Go.Proofs.YtkhcdichdnbcmaaR.blk g #[.string (YtkhcdichdnbcmaaR.Ext.mkB r3), .bool false] tRd :: M)))
  (HC : Go.RowKit.Hid (∀ (W : World) (M : List HP), St w0 W M → Calls Try.prog 18 #[.agg #[.int .u8 k, .int .i64 e, .int .i64 0, .int .i64 0, .int .i64 0, .int .i64 0, .slice none 0 0, .slice none 0 0, .int .i64 x]] W fun ee w' => ee = .returned (.int .i64 E) ∧ St w0 w' M)) :
  Calls Try.prog 21 #[.string (YtkhcdichdnbcmaaR.Ext.mkB l)] w fun ee w' => ee = .returned (.tuple #[.agg #[.int .u8 0, .int .i64 0, .int .i64 0, .int .i64 0, .int .i64 0, .int .i64 0, .slice none 0 0, .slice none 0 0, .int .i64 0], .int .i64 4]) ∧ St w0 w' L := by
 have hcv : IntKind.u8.wrap k = k := by unfold IntKind.wrap; simp [IntKind.bits, IntKind.signed]; omega
 have hk4 : decide (255 < k) = false := decide_eq_false (by omega)
 clear hk
 have hk1 : (k == 1) = false := beq_eq_false_iff_ne.mpr hne
 have hk2 : decide (k = 1) = false := decide_eq_false hne
 have hk3 : (k = 1) = False := eq_false hne
 clear hne
 have g1 : ((YtkhcdichdnbcmaaR.Ext.mkB r3).toList == ([] : List UInt8)) = true := by rw [hr]; rfl
 have g2 : ((YtkhcdichdnbcmaaR.Ext.mkB r3).toList != ([] : List UInt8)) = false := by rw [hr]; rfl
 clear hr
 have g3 : (E != 0) = true := bne_iff_ne.mpr hE
 clear hE
 have hsz := mkB_size l
 have f1 : decide (1024 < ((YtkhcdichdnbcmaaR.Ext.mkB l).size : Int)) = false := decide_eq_false (by rw [hsz]; omega)
 have f2 : decide (1024 < (YtkhcdichdnbcmaaR.Ext.mkB l).size) = false := decide_eq_false (by rw [hsz]; omega)
 have f3 : (1024 < (YtkhcdichdnbcmaaR.Ext.mkB l).size) = False := eq_false (by rw [hsz]; omega)
 clear hsz hl
 have s0 := h.alloc #[.int .u8 0, .int .i64 0, .int .i64 0, .int .i64 0, .int .i64 0, .int .i64 0, .slice none 0 0, .slice none 0 0, .int .i64 0] tCm
 clear h
 have s1 := s0.alloc #[.string (YtkhcdichdnbcmaaR.Ext.mkB l), .bool false] tRd
 clear s0
 have S0 := Lib.hid s1
 clear s1
 go_enter Try.func21, Try.ntmps21
 go_wp2_with fail
 have hn1 : (w.alloc (Obj.cells #[.int .u8 0, .int .i64 0, .int .i64 0, .int .i64 0, .int .i64 0, .int .i64 0, .slice none 0 0, .slice none 0 0, .int .i64 0] tCm)).heap.size = w.heap.size + 1 := by simp
 rw [hn1] at S0
 clear hn1
 generalize w.heap.size + 1 = b4 at *
 generalize w.heap.size = b2 at *
 refine (H1.out _ _ _ S0.out).mono ?_
 rintro ee w1 ⟨rfl, s1⟩
 clear S0 H1 f1 f2 f3
 have hc1 := s1.cells
 have hf1 := s1.free
 have S1 := Lib.hid s1
 clear s1
 go_wp2_with fail
 refine (H2.out _ _ _ S1.out).mono ?_
 rintro ee w2 ⟨rfl, s2⟩
 clear S1 H2 hc1 hf1
 have s3 := s2.alloc #[.int .u8 k, .int .i64 e, .int .i64 0, .int .i64 0, .int .i64 0, .int .i64 0, .slice none 0 0, .slice none 0 0, .int .i64 0] tCm
 clear s2
 have hc3 := s3.cells
 have s4 := s3.pick 1
 simp only [List.getElem_cons_succ, List.getElem_cons_zero, List.eraseIdx_cons_succ, List.eraseIdx_cons_zero] at s4
 clear s3
 have S4 := Lib.hid s4
 clear s4
 go_wp2_with fail
 generalize w2.heap.size = b6 at *
 refine (H3.out _ _ _ S4.out).mono ?_
 rintro ee w3 ⟨rfl, s5⟩
 clear S4 H3 hc3
 have hc5 := s5.cells
 have s6 := s5.pick 1
 simp only [List.getElem_cons_succ, List.getElem_cons_zero, List.eraseIdx_cons_succ, List.eraseIdx_cons_zero] at s6
 clear s5
 have hc6 := s6.cells
 have hf6 := s6.free
 skip
 have hne6 := St.ne s6
 have hne7 : ¬ b4 = b6 := fun q => hne6 q.symm
 have s7 := s6.setb 8 (.int .i64 x) rfl
 have s8 := s7.pick 2
 simp only [List.getElem_cons_succ, List.getElem_cons_zero, List.eraseIdx_cons_succ, List.eraseIdx_cons_zero] at s8
 clear s6 s7
 have S8 := Lib.hid s8
 clear s8
 go_wp2_with fail
 refine (HC.out _ _ S8.out).mono ?_
 rintro ee w5 ⟨rfl, s9⟩
 clear S8 hc5 hc6 hf6 HC hne6 hne7
 have hc9 := (s9.pick 1).cells
 have S9 := Lib.hid s9
 clear s9
 go_wp2_with (first | ((with_reducible refine wpList_storeSt S9.out rfl _ _ 29 rfl 0 #[.int .u8 0, .int .i64 0, .int .i64 0, .int .i64 0, .int .i64 0, .int .i64 0, .slice none 0 0, .slice none 0 0, .int .i64 0] #[.int .u8 0, .int .i64 0, .int .i64 0, .int .i64 0, .int .i64 0, .int .i64 0, .slice none 0 0, .slice none 0 0, .int .i64 0] size_cmd ?hn ?hx ?hv ?hf ?h1 ?he ?_); (case hn => rfl); (case hx => rfl); (case hv => rfl); (case hf => simp); (case h1 => simp [Value.oneCell']); (case he => rfl); intro wz sz; have hcz := sz.cells; have hfz := sz.free; have SZ := Lib.hid sz; clear sz) | fail)
 refine bodyPost_ret (v := .tuple #[.agg #[.int .u8 0, .int .i64 0, .int .i64 0, .int .i64 0, .int .i64 0, .int .i64 0, .slice none 0 0, .slice none 0 0, .int .i64 0], .int .i64 4]) (by simp [results, Try.results21, go_sem, hcz]) rfl ?_
 exact ⟨rfl, SZ.out.drop.drop.drop⟩
set_option maxRecDepth 100000 in
set_option maxHeartbeats 1000000 in
theorem rdec_iok {w0 w : World} {L : List HP} (l : List UInt8) (r1 r2 r3 : List UInt8) (k e x : Int) (b2x : Bool) (E : Int) (h : St w0 w L)
  (hl : l.length ≤ 1024)
  (hk : 0 ≤ k ∧ k ≤ 255) (hne : k ≠ 1)
  (H1 : Go.RowKit.Hid (∀ (W : World) (g : Nat) (M : List HP), St w0 W (Go.Proofs.YtkhcdichdnbcmaaR.blk g #[.string (YtkhcdichdnbcmaaR.Ext.mkB l), .bool false] tRd :: M) → Calls Try.prog 45 #[.pointer (some ⟨g, 0, none⟩)] W fun ee w' => ee = .returned (.int .i64 k) ∧ St w0 w' (Go.Proofs.YtkhcdichdnbcmaaR.blk g #[.string (YtkhcdichdnbcmaaR.Ext.mkB r1), .bool false] tRd :: M)))
  (H2 : Go.RowKit.Hid (∀ (W : World) (g : Nat) (M : List HP), St w0 W (Go.Proofs.YtkhcdichdnbcmaaR.blk g #[.string (YtkhcdichdnbcmaaR.Ext.mkB r1), .bool false] tRd :: M) → Calls Try.prog 45 #[.pointer (some ⟨g, 0, none⟩)] W fun ee w' => ee = .returned (.int .i64 e) ∧ St w0 w' (Go.Proofs.YtkhcdichdnbcmaaR.blk g #[.string (YtkhcdichdnbcmaaR.Ext.mkB r2), .bool b2x] tRd :: M)))
  (hr : (YtkhcdichdnbcmaaR.Ext.mkB r3).toList = []) (hE : E = 0)
  (H3 : Go.RowKit.Hid (∀ (W : World) (g : Nat) (M : List HP), St w0 W (Go.Proofs.YtkhcdichdnbcmaaR.blk g #[.string (YtkhcdichdnbcmaaR.Ext.mkB r2), .bool b2x] tRd :: M) → Calls Try.prog 45 #[.pointer (some ⟨g, 0, none⟩)] W fun ee w' => ee = .returned (.int .i64 x) ∧ St w0 w' (Go.Proofs.YtkhcdichdnbcmaaR.blk g #[.string (YtkhcdichdnbcmaaR.Ext.mkB r3), .bool false] tRd :: M)))
  (HC : Go.RowKit.Hid (∀ (W : World) (M : List HP), St w0 W M → Calls Try.prog 18 #[.agg #[.int .u8 k, .int .i64 e, .int .i64 0, .int .i64 0, .int .i64 0, .int .i64 0, .slice none 0 0, .slice none 0 0, .int .i64 x]] W fun ee w' => ee = .returned (.int .i64 E) ∧ St w0 w' M)) :
  Calls Try.prog 21 #[.string (YtkhcdichdnbcmaaR.Ext.mkB l)] w fun ee w' => ee = .returned (.tuple #[.agg #[.int .u8 k, .int .i64 e, .int .i64 0, .int .i64 0, .int .i64 0, .int .i64 0, .slice none 0 0, .slice none 0 0, .int .i64 x], .int .i64 0]) ∧ St w0 w' L := by
 have hcv : IntKind.u8.wrap k = k := by unfold IntKind.wrap; simp [IntKind.bits, IntKind.signed]; omega
 have hk4 : decide (255 < k) = false := decide_eq_false (by omega)
 clear hk
 have hk1 : (k == 1) = false := beq_eq_false_iff_ne.mpr hne
 have hk2 : decide (k = 1) = false := decide_eq_false hne
 have hk3 : (k = 1) = False := eq_false hne
 clear hne
 have g1 : ((YtkhcdichdnbcmaaR.Ext.mkB r3).toList == ([] : List UInt8)) = true := by rw [hr]; rfl
 have g2 : ((YtkhcdichdnbcmaaR.Ext.mkB r3).toList != ([] : List UInt8)) = false := by rw [hr]; rfl
 clear hr
 have g3 : (E != 0) = false := by subst hE; rfl
 clear hE
 have hsz := mkB_size l
 have f1 : decide (1024 < ((YtkhcdichdnbcmaaR.Ext.mkB l).size : Int)) = false := decide_eq_false (by rw [hsz]; omega)
 have f2 : decide (1024 < (YtkhcdichdnbcmaaR.Ext.mkB l).size) = false := decide_eq_false (by rw [hsz]; omega)
 have f3 : (1024 < (YtkhcdichdnbcmaaR.Ext.mkB l).size) = False := eq_false (by rw [hsz]; omega)
 clear hsz hl
 have s0 := h.alloc #[.int .u8 0, .int .i64 0, .int .i64 0, .int .i64 0, .int .i64 0, .int .i64 0, .slice none 0 0, .slice none 0 0, .int .i64 0] tCm
 clear h
 have s1 := s0.alloc #[.string (YtkhcdichdnbcmaaR.Ext.mkB l), .bool false] tRd
 clear s0
 have S0 := Lib.hid s1
 clear s1
 go_enter Try.func21, Try.ntmps21
 go_wp2_with fail
 have hn1 : (w.alloc (Obj.cells #[.int .u8 0, .int .i64 0, .int .i64 0, .int .i64 0, .int .i64 0, .int .i64 0, .slice none 0 0, .slice none 0 0, .int .i64 0] tCm)).heap.size = w.heap.size + 1 := by simp
 rw [hn1] at S0
 clear hn1
 generalize w.heap.size + 1 = b4 at *
 generalize w.heap.size = b2 at *
 refine (H1.out _ _ _ S0.out).mono ?_
 rintro ee w1 ⟨rfl, s1⟩
 clear S0 H1 f1 f2 f3
 have hc1 := s1.cells
 have hf1 := s1.free
 have S1 := Lib.hid s1
 clear s1
 go_wp2_with fail
 refine (H2.out _ _ _ S1.out).mono ?_
 rintro ee w2 ⟨rfl, s2⟩
 clear S1 H2 hc1 hf1
 have s3 := s2.alloc #[.int .u8 k, .int .i64 e, .int .i64 0, .int .i64 0, .int .i64 0, .int .i64 0, .slice none 0 0, .slice none 0 0, .int .i64 0] tCm
 clear s2
 have hc3 := s3.cells
 have s4 := s3.pick 1
 simp only [List.getElem_cons_succ, List.getElem_cons_zero, List.eraseIdx_cons_succ, List.eraseIdx_cons_zero] at s4
 clear s3
 have S4 := Lib.hid s4
 clear s4
 go_wp2_with fail
 generalize w2.heap.size = b6 at *
 refine (H3.out _ _ _ S4.out).mono ?_
 rintro ee w3 ⟨rfl, s5⟩
 clear S4 H3 hc3
 have hc5 := s5.cells
 have s6 := s5.pick 1
 simp only [List.getElem_cons_succ, List.getElem_cons_zero, List.eraseIdx_cons_succ, List.eraseIdx_cons_zero] at s6
 clear s5
 have hc6 := s6.cells
 have hf6 := s6.free
 skip
 have hne6 := St.ne s6
 have hne7 : ¬ b4 = b6 := fun q => hne6 q.symm
 have s7 := s6.setb 8 (.int .i64 x) rfl
 have s8 := s7.pick 2
 simp only [List.getElem_cons_succ, List.getElem_cons_zero, List.eraseIdx_cons_succ, List.eraseIdx_cons_zero] at s8
 clear s6 s7
 have S8 := Lib.hid s8
 clear s8
 go_wp2_with fail
 refine (HC.out _ _ S8.out).mono ?_
 rintro ee w5 ⟨rfl, s9⟩
 clear S8 hc5 hc6 hf6 HC hne6 hne7
 have hc9 := (s9.pick 1).cells
 have S9 := Lib.hid s9
 clear s9
 go_wp2_with (first | ((with_reducible refine wpList_storeSt S9.out rfl _ _ 29 rfl 0 #[.int .u8 k, .int .i64 e, .int .i64 0, .int .i64 0, .int .i64 0, .int .i64 0, .slice none 0 0, .slice none 0 0, .int .i64 x] #[.int .u8 k, .int .i64 e, .int .i64 0, .int .i64 0, .int .i64 0, .int .i64 0, .slice none 0 0, .slice none 0 0, .int .i64 x] size_cmd ?hn ?hx ?hv ?hf ?h1 ?he ?_); (case hn => rfl); (case hx => rfl); (case hv => rfl); (case hf => simp); (case h1 => simp [Value.oneCell']); (case he => rfl); intro wz sz; have hcz := sz.cells; have hfz := sz.free; have SZ := Lib.hid sz; clear sz) | fail)
 refine bodyPost_ret (v := .tuple #[.agg #[.int .u8 k, .int .i64 e, .int .i64 0, .int .i64 0, .int .i64 0, .int .i64 0, .slice none 0 0, .slice none 0 0, .int .i64 x], .int .i64 0]) (by simp [results, Try.results21, go_sem, hcz]) rfl ?_
 exact ⟨rfl, SZ.out.drop.drop.drop⟩
end Go.Proofs.YtkhcdichdnbcmaaR
end
section
namespace Go.Proofs.YtkhcdichdnbcmaaR
open Go.RowKit Go.Proofs.YtkhcdichdnbcmaaR Go.Proofs.YtkhcdichdnbcmaaR.Ext Go.Proofs.YtkhcdichdnbcmaaR.C Go.Proofs.YtkhcdichdnbcmaaR.Sp Go.Proofs.YtkhcdichdnbcmaaRW.PrintWords Go.Proofs.YtkhcdichdnbcmaaRW.PrintLast
set_option linter.unusedVariables false
set_option linter.unusedSimpArgs false
def N62 : Int := 4611686018427387904
def kindP (l : List UInt8) : Option (Int × List UInt8) := (numL N62 l).bind fun x => if decide (x.1 ≤ 255) = true then some x else none
def tailP2 (k : Int) (l : List UInt8) : Option ((SP × Int) × List UInt8) := if k = 1 then (decS2 l).map fun x => ((x.1, 0), x.2) else (numL N62 l).map fun x => ((zSP, x.1), x.2)
def tailG2 (k : Int) (x : SP × Int) : Prop := if k = 1 then okS x.1 = true ∧ x.2 = 0 else x.1 = zSP ∧ 0 ≤ x.2 ∧ x.2 ≤ N62
theorem tail2_codec (k : Int) : Codec (tailP2 k) (tailG2 k) (tailW k) := by
 intro l ⟨s, i⟩ r
 unfold tailP2 tailG2 tailW
 by_cases hk : k = 1
 ·simp only [if_pos hk, Option.map_eq_some_iff, Prod.mk.injEq]
  constructor
  ·rintro ⟨⟨a, r'⟩, h1, ⟨rfl, rfl⟩, rfl⟩
   obtain ⟨h2, h3⟩ := (decS2_codec _ _ _).1 h1
   exact ⟨⟨h2, rfl⟩, h3⟩
  ·rintro ⟨⟨h1, rfl⟩, h2⟩
   exact ⟨(s, r), (decS2_codec _ _ _).2 ⟨h1, h2⟩, ⟨rfl, rfl⟩, rfl⟩
 ·simp only [if_neg hk, Option.map_eq_some_iff, Prod.mk.injEq]
  have hc := num_codec (most := N62) (by unfold N62; omega)
  constructor
  ·rintro ⟨⟨a, r'⟩, h1, ⟨rfl, rfl⟩, rfl⟩
   obtain ⟨h2, h3⟩ := (hc _ _ _).1 h1
   exact ⟨⟨rfl, h2⟩, h3⟩
  ·rintro ⟨⟨rfl, h1⟩, h2⟩
   exact ⟨(i, r), (hc _ _ _).2 ⟨h1, h2⟩, ⟨rfl, rfl⟩, rfl⟩
def headP2 : List UInt8 → Option ((Int × Int) × List UInt8) := seqP kindP fun _ => numL N62
def wholeP2 : List UInt8 → Option (((Int × Int) × (SP × Int)) × List UInt8) := seqP headP2 fun x => tailP2 x.1
def rdC2 (l : List UInt8) : Option (CM × List UInt8) := (wholeP2 l).map fun x => (toCM x.1, x.2)
def decC2 (l : List UInt8) : Option (CM × List UInt8) := (rdC2 l).bind fun x => if okC x.1 = true then some x else none
def gC2 (c : CM) : Prop := (((0 ≤ c.kind ∧ c.kind ≤ N62) ∧ decide (c.kind ≤ 255) = true) ∧ (0 ≤ c.epoch ∧ c.epoch ≤ N62)) ∧ tailG2 c.kind (c.spec, c.id)
theorem rdC2_codec : Codec rdC2 gC2 encC := by
 have h0 : Codec kindP (fun x => (0 ≤ x ∧ x ≤ N62) ∧ decide (x ≤ 255) = true) encN := Codec.guard (num_codec (most := N62) (by unfold N62; omega)) (fun x => decide (x ≤ 255))
 have h1 : Codec headP2 (fun x => ((0 ≤ x.1 ∧ x.1 ≤ N62) ∧ decide (x.1 ≤ 255) = true) ∧ (0 ≤ x.2 ∧ x.2 ≤ N62)) (fun x => encN x.1 ++ encN x.2) :=
  Codec.seq h0 (fun a _ => num_codec (by unfold N62; omega))
 have h2 := Codec.seq h1 (q := fun x => tailP2 x.1) (fun a _ => tail2_codec a.1)
 exact Codec.map h2 toCM ofCM (fun _ => rfl) (fun _ => rfl)
theorem gC_gC2 {c : CM} (h : gC c) : gC2 c := by
 obtain ⟨⟨h1, h2⟩, h3⟩ := h
 refine ⟨⟨⟨⟨h1.1, by unfold N62; omega⟩, decide_eq_true (by omega)⟩, h2.1, by unfold N62; omega⟩, ?_⟩
 unfold tailG at h3
 unfold tailG2
 split at h3
 ·rename_i hk; rw [if_pos hk]; exact h3
 ·rename_i hk; rw [if_neg hk]; exact ⟨h3.1, h3.2.1, by unfold N62; omega⟩
theorem decC2_codec : Codec decC2 (fun c => okC c = true) encC := by
 intro l c r
 rw [show decC2 l = (rdC2 l).bind fun x => if okC x.1 = true then some x else none from rfl, (Codec.guard rdC2_codec okC) l c r]
 exact ⟨fun h => ⟨h.1.2, h.2⟩, fun h => ⟨⟨gC_gC2 (okC_gC h.1), h.1⟩, h.2⟩⟩
theorem decC2_eq (l : List UInt8) : decC2 l = decC l := by
 apply Option.ext
 rintro ⟨c, r⟩
 exact (decC2_codec l c r).trans (decC_codec l c r).symm
theorem rdec9 {w0 w : World} {L : List HP} (l : List UInt8) (hlen : l.length ≤ 2000) (x : CM) (er : Int) (hx : decCR l = (x, er)) (h : St w0 w L) : Calls Try.prog 21 #[.string (YtkhcdichdnbcmaaR.Ext.mkB l)] w (Dec9 w0 L x er) := by
 by_cases hl : 1024 < l.length
 ·unfold decCR at hx
  rw [if_pos hl] at hx
  obtain ⟨rfl, rfl⟩ := Prod.mk.inj hx
  exact (rdec_long l h hl).mono fun _ _ => Dec9.zero
 have hl : l.length ≤ 1024 := by omega
 have hx2 : (match decC2 l with | some (c, []) => (c, 0) | _ => (zCM, 4)) = (x, er) := by rw [decC2_eq]; unfold decCR at hx; rw [if_neg (by omega)] at hx; exact hx
 clear hx
 unfold decC2 rdC2 wholeP2 headP2 seqP kindP at hx2
 have hN : PureR.M62 = N62 := rfl
 cases h1 : numL N62 l with
 | none =>
  rw [h1] at hx2
  simp only [Option.bind_none, Option.map_none] at hx2
  obtain ⟨rfl, rfl⟩ := Prod.mk.inj hx2
  have hq : PureR.numR l false = (0, l, true) := PureR.numR_none (by rw [hN]; exact h1)
  exact (rdec_kb l 0 l h hl (Lib.hid (fun W g M hs => rnum_s g l hlen false 0 l true hq hs))).mono fun _ _ => Dec9.zero
 | some y =>
  obtain ⟨k, r1⟩ := y
  rw [h1] at hx2
  have hk0 := ((num_codec (most := N62) (by unfold N62; omega) _ _ _).1 h1).1
  have hq : PureR.numR l false = (k, r1, false) := PureR.numR_some (by rw [hN]; exact h1)
  have hl1 : r1.length ≤ 2000 := by have := PureR.numL_len h1; simp only at this; omega
  have N1 := Lib.hid (fun (W : World) (g : Nat) (M : List HP) (hs : St w0 W (Go.Proofs.YtkhcdichdnbcmaaR.blk g #[.string (YtkhcdichdnbcmaaR.Ext.mkB l), .bool false] tRd :: M)) => rnum_s g l hlen false k r1 false hq hs)
  simp only [Option.bind_some] at hx2
  by_cases hk : k ≤ 255
  case neg =>
   rw [if_neg (by simpa using hk)] at hx2
   simp only [Option.bind_none, Option.map_none] at hx2
   obtain ⟨rfl, rfl⟩ := Prod.mk.inj hx2
   exact (rdec_kg l k r1 h hl (by omega) N1).mono fun _ _ => Dec9.zero
  rw [if_pos (decide_eq_true hk)] at hx2
  simp only [Option.bind_some] at hx2
  obtain ⟨e, r2, b2, hq2⟩ : ∃ e r2 b2, PureR.numR r1 false = (e, r2, b2) := ⟨_, _, _, rfl⟩
  have N2 := Lib.hid (fun (W : World) (g : Nat) (M : List HP) (hs : St w0 W (Go.Proofs.YtkhcdichdnbcmaaR.blk g #[.string (YtkhcdichdnbcmaaR.Ext.mkB r1), .bool false] tRd :: M)) => rnum_s g r1 hl1 false e r2 b2 hq2 hs)
  have hl2 : r2.length ≤ 2000 := by have := PureR.numR_len r1 false; rw [hq2] at this; simp only at this; omega
  have hb2 : (b2 = true ∧ numL N62 r1 = none) ∨ (b2 = false ∧ numL N62 r1 = some (e, r2)) := by
   cases h2 : numL N62 r1 with
   | none =>
    have := PureR.numR_none (l := r1) (by rw [hN]; exact h2)
    rw [hq2] at this
    injection this with _ this
    injection this with _ this
    exact .inl ⟨this, rfl⟩
   | some y =>
    have := PureR.numR_some (l := r1) (x := y) (by rw [hN]; exact h2)
    rw [hq2] at this
    injection this with q1 this
    injection this with q2 q3
    exact .inr ⟨q3, by rw [q1, q2]⟩
  by_cases hk1 : k = 1
  ·subst hk1
   have bad : ∀ (t : Int × Int × Int × Int × List Int × List TX × ByteArray × Bool), sacristanref13_Reader_Spec.f 100 (YtkhcdichdnbcmaaR.Ext.mkB r2) b2 = some t → t.2.2.2.2.2.2.2 = true → Calls Try.prog 21 #[.string (YtkhcdichdnbcmaaR.Ext.mkB l)] w (Dec9 w0 L zCM 4) := by
    rintro ⟨a, b, c, d, ps, ts, r3, fl⟩ ht rfl
    exact (rdec_pb l r1 r2 r3 e a b c d ps ts b2 h hl N1 N2 (Lib.hid (fun W g M hs => rspec9_s g _ b2 a b c d ps ts r3 true ht hs))).mono fun _ _ => Dec9.zero
   rcases hb2 with ⟨rfl, h2⟩ | ⟨rfl, h2⟩
   ·rw [h2] at hx2
    simp only [Option.map_none, Option.bind_none] at hx2
    obtain ⟨rfl, rfl⟩ := Prod.mk.inj hx2
    obtain ⟨t, ht, hf⟩ := PureR.spec_bad r2 hl2
    exact bad t ht hf
   ·rw [h2] at hx2
    simp only [Option.map_some, Option.bind_some] at hx2
    have hs := PureR.spec_run r2 hl2
    have htp : tailP2 1 r2 = (decS2 r2).map fun x => ((x.1, 0), x.2) := rfl
    rw [htp] at hx2
    unfold decS2 at hx2
    cases h3 : rdS2 r2 with
    | none =>
     rw [h3] at hx2 hs
     simp only [Option.map_none, Option.bind_none] at hx2
     obtain ⟨rfl, rfl⟩ := Prod.mk.inj hx2
     obtain ⟨t, ht, hf⟩ := hs
     exact bad t ht hf
    | some y =>
     obtain ⟨⟨a, b, c, d, ps, ts⟩, r3⟩ := y
     rw [h3] at hx2 hs
     have hs : sacristanref13_Reader_Spec.f 100 (YtkhcdichdnbcmaaR.Ext.mkB r2) false = some (a, b, c, d, ps, ts.map ofTS, YtkhcdichdnbcmaaR.Ext.mkB r3, (specE ⟨a, b, c, d, ps, ts⟩ != 0)) := hs
     simp only [Option.bind_some] at hx2
     by_cases hsp : specE ⟨a, b, c, d, ps, ts⟩ = 0
     case neg =>
      rw [if_neg (by unfold okS; simpa using hsp)] at hx2
      simp only [Option.map_none, Option.bind_none] at hx2
      obtain ⟨rfl, rfl⟩ := Prod.mk.inj hx2
      exact bad _ hs (by simpa using hsp)
     have hok : okS ⟨a, b, c, d, ps, ts⟩ = true := by unfold okS; exact decide_eq_true hsp
     have hlens := okS_gS hok
     obtain ⟨_, _, _, _, ⟨hl8, _⟩, hl4, _⟩ := hlens
     simp only at hl8 hl4
     rw [if_pos hok] at hx2
     rw [show (specE ⟨a, b, c, d, ps, ts⟩ != 0) = false by rw [hsp]; rfl] at hs
     simp only [Option.map_some, Option.bind_some, toCM] at hx2
     have HD := Lib.hid (fun (W : World) (g : Nat) (M : List HP) (hst : St w0 W (Go.Proofs.YtkhcdichdnbcmaaR.blk g #[.string (YtkhcdichdnbcmaaR.Ext.mkB r2), .bool false] tRd :: M)) => rspec9_s g _ false a b c d ps (ts.map ofTS) _ false hs hst)
     by_cases hr : r3 = []
     ·subst hr
      have hc : ∀ (W : World) (M : List HP) (A B : Option Addr) (n m p q : Nat), St w0 W (RI (.slice A n p) ps :: RT (.slice B m q) (ts.map ofTS) :: M) → _ := fun W M A B n m p q hs => rchk9_s 1 e a b c d 0 ps (ts.map ofTS) (by omega) (by rw [List.length_map]; omega) hs (cmdE ⟨1, e, ⟨a, b, c, d, ps, ts⟩, 0⟩) (by have := spOf_of ⟨a, b, c, d, ps, ts⟩; rw [show spOf a b c d ps (ts.map ofTS) = ⟨a, b, c, d, ps, ts⟩ from this])
      by_cases hE : cmdE ⟨1, e, ⟨a, b, c, d, ps, ts⟩, 0⟩ = 0
      ·rw [if_pos ((okC_iff _).2 hE)] at hx2
       obtain ⟨rfl, rfl⟩ := Prod.mk.inj hx2
       exact rdec_pok l r1 r2 _ e a b c d ps (ts.map ofTS) false _ h hl N1 N2 (toList_mkB []) hE HD (Lib.hid hc)
      ·rw [if_neg (fun q => hE ((okC_iff _).1 q))] at hx2
       obtain ⟨rfl, rfl⟩ := Prod.mk.inj hx2
       exact (rdec_pc l r1 r2 _ e a b c d ps (ts.map ofTS) false _ h hl N1 N2 (toList_mkB []) hE HD (Lib.hid hc)).mono fun _ _ => Dec9.zero
     ·have hx3 : (zCM, (4 : Int)) = (x, er) := by
       rw [← hx2]
       split
       ·rename_i heq
        split at heq
        ·injection heq with heq
         injection heq with _ heq
         exact absurd heq hr
        ·cases heq
       ·rfl
      obtain ⟨rfl, rfl⟩ := Prod.mk.inj hx3
      exact (rdec_pr l r1 r2 _ e a b c d ps (ts.map ofTS) false h hl N1 N2 (by rw [toList_mkB]; exact hr) HD).mono fun _ _ => Dec9.zero
  ·have htp : tailP2 k r2 = (numL N62 r2).map fun x => ((zSP, x.1), x.2) := by unfold tailP2; rw [if_neg hk1]
   obtain ⟨i, r3, b3, hq3⟩ : ∃ i r3 b3, PureR.numR r2 b2 = (i, r3, b3) := ⟨_, _, _, rfl⟩
   have N3 := Lib.hid (fun (W : World) (g : Nat) (M : List HP) (hs : St w0 W (Go.Proofs.YtkhcdichdnbcmaaR.blk g #[.string (YtkhcdichdnbcmaaR.Ext.mkB r2), .bool b2] tRd :: M)) => rnum_s g r2 hl2 b2 i r3 b3 hq3 hs)
   have hbad : b3 = true → (x, er) = (zCM, 4) → Calls Try.prog 21 #[.string (YtkhcdichdnbcmaaR.Ext.mkB l)] w (Dec9 w0 L x er) := by
    rintro rfl hz
    obtain ⟨rfl, rfl⟩ := Prod.mk.inj hz
    exact (rdec_ib l r1 r2 r3 k e i b2 h hl ⟨hk0.1, hk⟩ hk1 N1 N2 N3).mono fun _ _ => Dec9.zero
   rcases hb2 with ⟨rfl, h2⟩ | ⟨rfl, h2⟩
   ·rw [h2] at hx2
    simp only [Option.map_none, Option.bind_none] at hx2
    have : b3 = true := by
     have := PureR.numR_true r2
     rw [hq3] at this
     injection this with _ this
     injection this
    exact hbad this hx2.symm
   ·rw [h2] at hx2
    simp only [Option.map_some, Option.bind_some] at hx2
    rw [htp] at hx2
    cases h3 : numL N62 r2 with
    | none =>
     rw [h3] at hx2
     simp only [Option.map_none, Option.bind_none] at hx2
     have : b3 = true := by
      have := PureR.numR_none (l := r2) (by rw [hN]; exact h3)
      rw [hq3] at this
      injection this with _ this
      injection this
     exact hbad this hx2.symm
    | some y =>
     obtain ⟨i', r3'⟩ := y
     have h4 := PureR.numR_some (l := r2) (x := (i', r3')) (by rw [hN]; exact h3)
     rw [hq3] at h4
     injection h4 with q1 h4
     injection h4 with q2 q3
     simp only at q1 q2
     subst q1; subst q2; subst q3
     rw [h3] at hx2
     simp only [Option.map_some, Option.bind_some, toCM] at hx2
     by_cases hr : r3 = []
     ·subst hr
      have hc : ∀ (W : World) (M : List HP), St w0 W M → Calls Try.prog 18 #[.agg #[.int .u8 k, .int .i64 e, .int .i64 0, .int .i64 0, .int .i64 0, .int .i64 0, .slice none 0 0, .slice none 0 0, .int .i64 i]] W fun ee w' => ee = .returned (.int .i64 (cmdE ⟨k, e, zSP, i⟩)) ∧ St w0 w' M := by
       intro W M hs
       refine (rck_C k e 0 0 0 0 none 0 [] none 0 [] i W _ rfl (by simp) (by simp) (Kd.C_nil _ _) (Nat.le_refl _) (Kd.C_nil _ _) (Nat.le_refl _)).mono ?_
       rintro ee w' ⟨rfl, hb⟩
       exact ⟨rfl, hs.more hb⟩
      by_cases hE : cmdE ⟨k, e, zSP, i⟩ = 0
      ·rw [if_pos ((okC_iff _).2 hE)] at hx2
       obtain ⟨rfl, rfl⟩ := Prod.mk.inj hx2
       refine (rdec_iok l r1 r2 [] k e i false _ h hl ⟨hk0.1, hk⟩ hk1 N1 N2 (toList_mkB []) hE N3 (Lib.hid hc)).mono ?_
       rintro ee w' ⟨rfl, s⟩
       exact ⟨none, none, 0, 0, 0, 0, rfl, St.rowKNil (flat_int _) (St.rowKNil kX_flat s)⟩
      ·rw [if_neg (fun q => hE ((okC_iff _).1 q))] at hx2
       obtain ⟨rfl, rfl⟩ := Prod.mk.inj hx2
       exact (rdec_ic l r1 r2 [] k e i false _ h hl ⟨hk0.1, hk⟩ hk1 N1 N2 (toList_mkB []) hE N3 (Lib.hid hc)).mono fun _ _ => Dec9.zero
     ·have hx3 : (zCM, (4 : Int)) = (x, er) := by
       rw [← hx2]
       split
       ·rename_i heq
        split at heq
        ·injection heq with heq
         injection heq with _ heq
         exact absurd heq hr
        ·cases heq
       ·rfl
      obtain ⟨rfl, rfl⟩ := Prod.mk.inj hx3
      exact (rdec_ir l r1 r2 r3 k e i false h hl ⟨hk0.1, hk⟩ hk1 N1 N2 (by rw [toList_mkB]; exact hr) N3).mono fun _ _ => Dec9.zero
end Go.Proofs.YtkhcdichdnbcmaaR
end
section
namespace Go.Proofs.YtkhcdichdnbcmaaR
open Go.RowKit Go.Proofs.YtkhcdichdnbcmaaR Go.Proofs.YtkhcdichdnbcmaaR.Ext Go.Proofs.YtkhcdichdnbcmaaR.C Go.Proofs.YtkhcdichdnbcmaaR.Sp Go.Proofs.YtkhcdichdnbcmaaRW.PrintWords Go.Proofs.YtkhcdichdnbcmaaRW.PrintLast
set_option linter.unusedVariables false
set_option linter.unusedSimpArgs false
theorem slice_upto (l : List UInt8) (m : Nat) (hm : m ≤ l.length) (W : World) : (Instr.slice 9 (.string (YtkhcdichdnbcmaaR.Ext.mkB l)) none (some (.int .i64 (m : Int))) none).run Try.prog W = .ok (.string (YtkhcdichdnbcmaaR.Ext.mkB (l.take m))) W := by
 have hs : (YtkhcdichdnbcmaaR.Ext.mkB l).size = l.length := mkB_size l
 have he : (YtkhcdichdnbcmaaR.Ext.mkB l).extract 0 m = YtkhcdichdnbcmaaR.Ext.mkB (l.take m) := by
  apply ByteArray.ext
  simp [YtkhcdichdnbcmaaR.Ext.mkB, ByteArray.data_extract, List.extract_eq_take_drop]
 simp [go_sem, hs, Instr.slice]
 rw [if_pos (by omega)]
 simp [he]
set_option maxRecDepth 100000 in
set_option maxHeartbeats 4000000 in
theorem reads_short (t S : List UInt8) (k e a b c d id er : Int) (ps : List Int) (ts : List TX) (w : World) (hl : t.length ≤ 1100) (hS : t.take t.length = S) (hps : ps.length ≤ 1000) (hts : ts.length ≤ 1000)
  (HA : Go.RowKit.Hid (∀ (W : World) (M : List HP), St w W M → Calls Try.prog 20 #[.string (YtkhcdichdnbcmaaR.Ext.mkB S)] W fun ee w' => ∃ A B n m p q, ee = .returned (.tuple #[.agg #[.int .u8 k, .int .i64 e, .int .i64 a, .int .i64 b, .int .i64 c, .int .i64 d, .slice A n p, .slice B m q, .int .i64 id], .int .i64 er]) ∧ St w w' (RI (.slice A n p) ps :: RT (.slice B m q) ts :: M)))
  (HB : Go.RowKit.Hid (∀ (W : World) (M : List HP), St w W M → Calls Try.prog 21 #[.string (YtkhcdichdnbcmaaR.Ext.mkB S)] W fun ee w' => ∃ A B n m p q, ee = .returned (.tuple #[.agg #[.int .u8 k, .int .i64 e, .int .i64 a, .int .i64 b, .int .i64 c, .int .i64 d, .slice A n p, .slice B m q, .int .i64 id], .int .i64 er]) ∧ St w w' (RI (.slice A n p) ps :: RT (.slice B m q) ts :: M))) :
  Calls Try.prog 5 #[.string (YtkhcdichdnbcmaaR.Ext.mkB t)] w fun ee w' => ee = .returned (.bool true) ∧ Below w.heap.size w w' := by
 have hlen : (YtkhcdichdnbcmaaR.Ext.mkB t).size = t.length := mkB_size t
 have q1 : (1100 < (t.length : Int)) = False := eq_false (by omega)
 have q2 : (1100 < t.length) = False := eq_false (by omega)
 have hsl := slice_upto t t.length (by omega)
 rw [hS] at hsl
 skip
 have HS := Lib.hid (And.intro hps hts)
 clear hps hts hl hS
 have S0 := Lib.hid (St.start w)
 go_enter Try.func5, Try.ntmps5
 go_wp2_with fail
 refine (HA.out _ _ S0.out).mono ?_
 rintro ee w1 ⟨A1, B1, n1, m1, p1, q3, rfl, s1⟩
 clear S0 hsl hlen q1 q2
 have s2 := s1.alloc #[.int .u8 k, .int .i64 e, .int .i64 a, .int .i64 b, .int .i64 c, .int .i64 d, .slice A1 n1 p1, .slice B1 m1 q3, .int .i64 id] tCm
 clear s1
 have S2 := Lib.hid s2
 clear s2
 go_wp2_with fail
 generalize w1.heap.size = b3 at *
 refine (HB.out _ _ S2.out).mono ?_
 rintro ee w2 ⟨A2, B2, n2, m2, p2, q4, rfl, s3⟩
 clear S2
 have s4 := s3.alloc #[.int .u8 k, .int .i64 e, .int .i64 a, .int .i64 b, .int .i64 c, .int .i64 d, .slice A2 n2 p2, .slice B2 m2 q4, .int .i64 id] tCm
 clear s3
 have s5 := s4.pick 2
 simp only [List.getElem_cons_succ, List.getElem_cons_zero, List.eraseIdx_cons_succ, List.eraseIdx_cons_zero] at s5
 clear s4
 have s6 := s5.pick 2
 simp only [List.getElem_cons_succ, List.getElem_cons_zero, List.eraseIdx_cons_succ, List.eraseIdx_cons_zero] at s6
 clear s5
 have s7 := s6.pick 5
 simp only [List.getElem_cons_succ, List.getElem_cons_zero, List.eraseIdx_cons_succ, List.eraseIdx_cons_zero] at s7
 clear s6
 have s8 := s7.pick 5
 simp only [List.getElem_cons_succ, List.getElem_cons_zero, List.eraseIdx_cons_succ, List.eraseIdx_cons_zero] at s8
 clear s7
 have hcb3 := (s8.pick 5).cells
 have hfb3 := (s8.pick 5).free
 have hcb5 := (s8.pick 4).cells
 have hfb5 := (s8.pick 4).free
 have Q := Lib.hid s8
 clear s8
 go_wp2_with fail
 refine (equ9_s k e a b c d id k e a b c d id ps ps ts ts HS.out.1 HS.out.2 true (by simp) Q.out).mono ?_
 rintro ee w3 ⟨rfl, y1⟩
 clear Q hcb3 hfb3 hcb5 hfb5
 have Q := Lib.hid y1
 clear y1
 go_wp2_with fail
 refine (awake18 Q.out).mono ?_
 rintro ee w4 ⟨rfl, y2⟩
 clear Q
 have HB := Lib.hid y2.bel
 clear y2
 go_wp2
 go_returns
 exact ⟨rfl, HB.out⟩
set_option maxRecDepth 100000 in
set_option maxHeartbeats 4000000 in
theorem reads_long (t S : List UInt8) (k e a b c d id er : Int) (ps : List Int) (ts : List TX) (w : World) (hl : 1100 < t.length) (hS : t.take 1100 = S) (hps : ps.length ≤ 1000) (hts : ts.length ≤ 1000)
  (HA : Go.RowKit.Hid (∀ (W : World) (M : List HP), St w W M → Calls Try.prog 20 #[.string (YtkhcdichdnbcmaaR.Ext.mkB S)] W fun ee w' => ∃ A B n m p q, ee = .returned (.tuple #[.agg #[.int .u8 k, .int .i64 e, .int .i64 a, .int .i64 b, .int .i64 c, .int .i64 d, .slice A n p, .slice B m q, .int .i64 id], .int .i64 er]) ∧ St w w' (RI (.slice A n p) ps :: RT (.slice B m q) ts :: M)))
  (HB : Go.RowKit.Hid (∀ (W : World) (M : List HP), St w W M → Calls Try.prog 21 #[.string (YtkhcdichdnbcmaaR.Ext.mkB S)] W fun ee w' => ∃ A B n m p q, ee = .returned (.tuple #[.agg #[.int .u8 k, .int .i64 e, .int .i64 a, .int .i64 b, .int .i64 c, .int .i64 d, .slice A n p, .slice B m q, .int .i64 id], .int .i64 er]) ∧ St w w' (RI (.slice A n p) ps :: RT (.slice B m q) ts :: M))) :
  Calls Try.prog 5 #[.string (YtkhcdichdnbcmaaR.Ext.mkB t)] w fun ee w' => ee = .returned (.bool true) ∧ Below w.heap.size w w' := by
 have hlen : (YtkhcdichdnbcmaaR.Ext.mkB t).size = t.length := mkB_size t
 have q1 : (1100 < (t.length : Int)) = True := eq_true (by omega)
 have q2 : (1100 < t.length) = True := eq_true (by omega)
 have hsl := slice_upto t 1100 (by omega)
 rw [hS] at hsl
 have hsl2 : ∀ W : World, (Instr.slice 9 (.string (YtkhcdichdnbcmaaR.Ext.mkB t)) none (some (.int .i64 1100)) none).run Try.prog W = .ok (.string (YtkhcdichdnbcmaaR.Ext.mkB S)) W := hsl
 have HS := Lib.hid (And.intro hps hts)
 clear hps hts hl hS
 have S0 := Lib.hid (St.start w)
 go_enter Try.func5, Try.ntmps5
 go_wp2_with fail
 refine (HA.out _ _ S0.out).mono ?_
 rintro ee w1 ⟨A1, B1, n1, m1, p1, q3, rfl, s1⟩
 clear S0 hsl hlen q1 q2
 have s2 := s1.alloc #[.int .u8 k, .int .i64 e, .int .i64 a, .int .i64 b, .int .i64 c, .int .i64 d, .slice A1 n1 p1, .slice B1 m1 q3, .int .i64 id] tCm
 clear s1
 have S2 := Lib.hid s2
 clear s2
 go_wp2_with fail
 generalize w1.heap.size = b3 at *
 refine (HB.out _ _ S2.out).mono ?_
 rintro ee w2 ⟨A2, B2, n2, m2, p2, q4, rfl, s3⟩
 clear S2
 have s4 := s3.alloc #[.int .u8 k, .int .i64 e, .int .i64 a, .int .i64 b, .int .i64 c, .int .i64 d, .slice A2 n2 p2, .slice B2 m2 q4, .int .i64 id] tCm
 clear s3
 have s5 := s4.pick 2
 simp only [List.getElem_cons_succ, List.getElem_cons_zero, List.eraseIdx_cons_succ, List.eraseIdx_cons_zero] at s5
 clear s4
 have s6 := s5.pick 2
 simp only [List.getElem_cons_succ, List.getElem_cons_zero, List.eraseIdx_cons_succ, List.eraseIdx_cons_zero] at s6
 clear s5
 have s7 := s6.pick 5
 simp only [List.getElem_cons_succ, List.getElem_cons_zero, List.eraseIdx_cons_succ, List.eraseIdx_cons_zero] at s7
 clear s6
 have s8 := s7.pick 5
 simp only [List.getElem_cons_succ, List.getElem_cons_zero, List.eraseIdx_cons_succ, List.eraseIdx_cons_zero] at s8
 clear s7
 have hcb3 := (s8.pick 5).cells
 have hfb3 := (s8.pick 5).free
 have hcb5 := (s8.pick 4).cells
 have hfb5 := (s8.pick 4).free
 have Q := Lib.hid s8
 clear s8
 go_wp2_with fail
 refine (equ9_s k e a b c d id k e a b c d id ps ps ts ts HS.out.1 HS.out.2 true (by simp) Q.out).mono ?_
 rintro ee w3 ⟨rfl, y1⟩
 clear Q hcb3 hfb3 hcb5 hfb5
 have Q := Lib.hid y1
 clear y1
 go_wp2_with fail
 refine (awake18 Q.out).mono ?_
 rintro ee w4 ⟨rfl, y2⟩
 clear Q
 have HB := Lib.hid y2.bel
 clear y2
 go_wp2
 go_returns
 exact ⟨rfl, HB.out⟩
theorem decCR_lens (l : List UInt8) : (decCR l).1.spec.ports.length ≤ 8 ∧ (decCR l).1.spec.tasks.length ≤ 4 := by
 cases hx : decCR l with
 | mk x er =>
  by_cases h0 : er = 0
  ·subst h0
   obtain ⟨-, ho, -⟩ := (decCR_codec _ _).1 hx
   have hg := (okC_gC ho).2
   unfold tailG at hg
   split at hg
   ·obtain ⟨_, _, _, _, ⟨h1, _⟩, h2, _⟩ := okS_gS hg.1
    simp only at h1 h2
    exact ⟨by simp only; omega, by simp only; omega⟩
   ·have : x.spec = zSP := hg.1
    simp [this]
  ·have hz := (decCR_err l (by rw [hx]; exact h0)).1
   rw [hx] at hz
   simp only at hz
   subst hz
   simp [zCM]
theorem walk_CmdReads (W : World) (s : ByteArray) (hs : s.size ≤ 140737488351232) : Calls Try.prog 5 #[.string s] W fun e w' => e = .returned (.bool true) ∧ Below W.heap.size W w' := by
 obtain ⟨t, rfl⟩ : ∃ t, s = YtkhcdichdnbcmaaR.Ext.mkB t := ⟨s.data.toList, (mkB_data s).symm⟩
 have key : ∀ S : List UInt8, S.length ≤ 2000 → ∃ (k e a b c d id er : Int) (ps : List Int) (ts : List TX), ps.length ≤ 1000 ∧ ts.length ≤ 1000 ∧ (∀ (W0 W : World) (M : List HP), St W0 W M → Calls Try.prog 20 #[.string (YtkhcdichdnbcmaaR.Ext.mkB S)] W fun ee w' => ∃ A B n m p q, ee = .returned (.tuple #[.agg #[.int .u8 k, .int .i64 e, .int .i64 a, .int .i64 b, .int .i64 c, .int .i64 d, .slice A n p, .slice B m q, .int .i64 id], .int .i64 er]) ∧ St W0 w' (RI (.slice A n p) ps :: RT (.slice B m q) ts :: M)) ∧ (∀ (W0 W : World) (M : List HP), St W0 W M → Calls Try.prog 21 #[.string (YtkhcdichdnbcmaaR.Ext.mkB S)] W fun ee w' => ∃ A B n m p q, ee = .returned (.tuple #[.agg #[.int .u8 k, .int .i64 e, .int .i64 a, .int .i64 b, .int .i64 c, .int .i64 d, .slice A n p, .slice B m q, .int .i64 id], .int .i64 er]) ∧ St W0 w' (RI (.slice A n p) ps :: RT (.slice B m q) ts :: M)) := by
  intro S hS
  have hl := decCR_lens S
  refine ⟨(decCR S).1.kind, (decCR S).1.epoch, (decCR S).1.spec.id, (decCR S).1.spec.cpu, (decCR S).1.spec.mem, (decCR S).1.spec.disk, (decCR S).1.id, (decCR S).2, (decCR S).1.spec.ports, (decCR S).1.spec.tasks.map ofTS, by omega, by rw [List.length_map]; omega, fun W0 W M h => dec9 S _ _ rfl h, fun W0 W M h => rdec9 S hS _ _ rfl h⟩
 by_cases hl : t.length ≤ 1100
 ·obtain ⟨k, e, a, b, c, d, id, er, ps, ts, h1, h2, h3, h4⟩ := key t (by omega)
  exact reads_short t t k e a b c d id er ps ts W hl (List.take_of_length_le (Nat.le_refl _)) h1 h2 (Lib.hid (h3 W)) (Lib.hid (h4 W))
 ·obtain ⟨k, e, a, b, c, d, id, er, ps, ts, h1, h2, h3, h4⟩ := key (t.take 1100) (by rw [List.length_take]; omega)
  exact reads_long t _ k e a b c d id er ps ts W (by omega) rfl h1 h2 (Lib.hid (h3 W)) (Lib.hid (h4 W))
end Go.Proofs.YtkhcdichdnbcmaaR
end
