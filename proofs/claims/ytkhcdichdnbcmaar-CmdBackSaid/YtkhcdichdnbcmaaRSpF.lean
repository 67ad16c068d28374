/- The contract of spec.Decode: what panics is recovered. -/
import Derived.Test.YtkhcdichdnbcmaaRBase
import Derived.Test.YtkhcdichdnbcmaaRSep
import Derived.Test.YtkhcdichdnbcmaaRSepB
import Derived.Test.YtkhcdichdnbcmaaRSepK
import Derived.Test.YtkhcdichdnbcmaaRSp0
import Derived.Test.YtkhcdichdnbcmaaRSpC
import Derived.Test.YtkhcdichdnbcmaaRSpE
import Derived.Test.YtkhcdichdnbcmaaRProg
import Derived.Lib.Hide
import Derived.Defers
import Derived.Recover
import Derived.WalkLawsBesides
import Derived.Test.YtkhcdichdnbcmaaRWWords
namespace Go.Proofs.YtkhcdichdnbcmaaR
open Go.RowKit Go.Proofs.YtkhcdichdnbcmaaRW.PrintWords Go.Proofs.YtkhcdichdnbcmaaR.Sp Go.Proofs.YtkhcdichdnbcmaaR.Ext
set_option linter.unusedSimpArgs false
set_option linter.unusedVariables false

theorem RowI_of_C {w : World} {A : Option Addr} {l : List Int} (h : (Kd.int .i64).C w A l.length l) : RowI w A l := by
  by_cases hl : l = []
  · exact .inl hl
  · have hp : 0 < l.length := List.length_pos_iff.mpr hl
    obtain ⟨ad, rfl, hc⟩ := (Kd.reads_of_C (d := (0 : Int)) h).2.2 hp
    have c0 := hc 0 hp
    have hs := World.cell?_spot c0
    have hb := World.block_lt_of_cell? _ _ c0
    obtain ⟨b, off, sp⟩ := ad
    simp [Addr.add] at hs hb
    subst hs
    refine .inr ⟨b, off, rfl, hb, fun k hk => ?_⟩
    have := hc k hk
    have ha : (Addr.mk b off none).add k = ⟨b, off + k, none⟩ := by unfold Addr.add; split <;> simp_all
    rwa [ha] at this
theorem kT_K {w : World} {x : TS} {cs : List Value} (h : kT.K w x cs) : cs = cTl x := by
  obtain ⟨c0, c1, rfl, ⟨a0, a1, rfl, h0, b0, b1, rfl, h1, d0, d1, rfl, h2, e0, e1, rfl, h3, h4⟩, h5⟩ := h
  have h0 : a0 = [_] := h0
  have h1 : b0 = [_] := h1
  have h2 : d0 = [_] := h2
  have h3 : e0 = [_] := h3
  have h4 : e1 = [_] := h4
  have h5 : c1 = [_] := h5
  subst h0 h1 h2 h3 h4 h5
  rfl
theorem RowT_of_C {w : World} {A : Option Addr} {l : List TS} (h : kT.C w A l.length l) : RowT w A l := by
  by_cases hl : l = []
  · exact .inl hl
  · have hp : 0 < l.length := List.length_pos_iff.mpr hl
    obtain ⟨ad, rfl, hc⟩ := h.2.2 hp
    have key : ∀ k, k < l.length → ∀ i u, (cTl (tsAt l k))[i]? = some u → w.cell? (ad.add (k * 6 + i)) = some u := fun k hk i u hi => by
      obtain ⟨c, _, hK, hcell⟩ := hc k l[k] (List.getElem?_eq_getElem hk)
      have hK := kT_K hK
      subst hK
      have : tsAt l k = l[k] := by simp [tsAt, hk]
      rw [this] at hi
      exact hcell i u hi
    have c0 := key 0 hp 0 _ rfl
    have hs := World.cell?_spot c0
    have hb := World.block_lt_of_cell? _ _ c0
    obtain ⟨b, off, sp⟩ := ad
    simp [Addr.add] at hs hb
    subst hs
    have ha : ∀ n, (Addr.mk b off none).add n = ⟨b, off + n, none⟩ := fun n => by unfold Addr.add; split <;> simp_all
    simp only [ha] at key
    exact .inr ⟨b, off, rfl, hb, fun k hk => ⟨key k hk 0 _ rfl, key k hk 1 _ rfl, key k hk 2 _ rfl, key k hk 3 _ rfl, key k hk 4 _ rfl, key k hk 5 _ rfl⟩⟩

set_option maxHeartbeats 2000000 in
/-- The deferred closure where nothing panicked. -/
theorem catch_idle (p q r : Addr) (w : World) :
    CallsD Try.prog 72 #[.pointer (some p), .pointer (some q), .pointer (some r)] .returning w fun e u' w' => e = .returned (.tuple #[]) ∧ u' = .returning ∧ w' = w := by
  refine callsD_of_wpS Try.func72 rfl fun c₀ cs hu => ?_
  apply wpS_seq
  apply wpS_region
  simp [wpOpsS, go_sem, recoverD, hu, Try.ntmps72, Exit.thenS]
  rw [show (#[.pointer (some p), .pointer (some q), .pointer (some r)] ++ ((Array.replicate 16 undef).setIfInBounds 3 Value.nilIface).setIfInBounds 0 Value.nilIface : Array Value) = #[.pointer (some p), .pointer (some q), .pointer (some r), .nilIface, undef, undef, .nilIface, undef, undef, undef, undef, undef, undef, undef, undef, undef, undef, undef, undef] from rfl]
  refine wpS_of_wp ?_
  go_wp2
  cases c₀
  simp_all [bodyPostS, results, Try.results72]
theorem St.ne {w0 w : World} {L : List HP} {p q : Nat} {xs ys : Array Value} {s t : Nat} (h : St w0 w (Go.Proofs.YtkhcdichdnbcmaaR.blk p xs s :: Go.Proofs.YtkhcdichdnbcmaaR.blk q ys t :: L)) : ¬ p = q := by
  rintro rfl
  obtain ⟨S, T, ⟨-, rfl⟩, ⟨-, rfl⟩, hd, -⟩ := h.two
  exact hd _ rfl rfl
def CatchPost (w0 : World) (L : List HP) (p q r : Nat) (older : List PanicEntry) (e : Ending) (u' : FrameMode) (w' : World) : Prop :=
  e = .returned (.tuple #[]) ∧ u' = .panicking ({ v := .iface 31 (.int .i64 4), recovered := true } :: older) ∧ St w0 w' (blk p #[.int .i64 0, .int .i64 0, .int .i64 0, .int .i64 0, .slice none 0 0, .slice none 0 0] 27 :: blk q #[.string (mkB [])] 9 :: blk r #[.int .i64 4] 31 :: L)
set_option maxHeartbeats 2000000 in
/-- The deferred closure where the reader panicked: what it would hand back is nothing, and ErrForm. -/
theorem catch_panicking {w0 w : World} {L : List HP} (p q r : Nat) (a b c d e f y z : Value) (older : List PanicEntry) (h : St w0 w (blk p #[a, b, c, d, e, f] 27 :: blk q #[y] 9 :: blk r #[z] 31 :: L)) :
    CallsD Try.prog 72 #[.pointer (some ⟨p, 0, none⟩), .pointer (some ⟨q, 0, none⟩), .pointer (some ⟨r, 0, none⟩)] (.panicking ({ v := .iface 31 (.int .i64 4), recovered := false } :: older)) w (CatchPost w0 L p q r older) := by
  have n1 := h.ne
  have n2 : ¬ p = r := ((h.pick 1).drop).ne
  have n3 : ¬ q = r := h.drop.ne
  have m1 : ¬ q = p := fun e => n1 e.symm
  have m2 : ¬ r = p := fun e => n2 e.symm
  have m3 : ¬ r = q := fun e => n3 e.symm
  have hcp := h.cells
  have hfp := h.free
  have hcq := (h.pick 1).cells
  have hfq := (h.pick 1).free
  have hcr := (h.pick 2).cells
  have hfr := (h.pick 2).free
  have hta : ∀ W, (Instr.typeAssert (.iface 31 (.int .i64 4)) 20 31 true).run Try.prog W = .ok (.tuple #[.int .i64 4, .bool true]) W := fun _ => by kernel_rfl
  have H := Lib.hid h
  clear h
  refine callsD_of_wpS Try.func72 rfl fun c₀ cs hu => ?_
  apply wpS_seq
  apply wpS_region
  simp [wpOpsS, go_sem, recoverD, hu, Try.ntmps72, Exit.thenS]
  rw [show (#[.pointer (some ⟨p, 0, none⟩), .pointer (some ⟨q, 0, none⟩), .pointer (some ⟨r, 0, none⟩)] ++ ((Array.replicate 16 undef).setIfInBounds 3 (.iface 31 (.int .i64 4))).setIfInBounds 0 (.iface 31 (.int .i64 4)) : Array Value) = #[.pointer (some ⟨p, 0, none⟩), .pointer (some ⟨q, 0, none⟩), .pointer (some ⟨r, 0, none⟩), .iface 31 (.int .i64 4), undef, undef, .iface 31 (.int .i64 4), undef, undef, undef, undef, undef, undef, undef, undef, undef, undef, undef, undef] from rfl]
  refine wpS_of_wp ?_
  go_wp2
  refine ⟨rfl, _, rfl, .tuple #[], by simp [results, Try.results72], rfl, rfl, ?_⟩
  exact (((((((((((((H.out.setb 0 (.int .i64 0) rfl).setb 1 (.int .i64 0) rfl).setb 2 (.int .i64 0) rfl).setb 3 (.int .i64 0) rfl).setb 4 (.slice none 0 0) rfl).setb 5 (.slice none 0 0) rfl).pick 1).setb 0 (.string (mkB [])) rfl).pick 2).setb 0 (.int .i64 4) rfl).pick 2).pick 2).pick 1)
/-- What Decode comes to. -/
def zeroS : SP := ⟨0, 0, 0, 0, [], []⟩
def decR (l : List UInt8) : SP × List UInt8 × Int := match decS l with | none => (zeroS, [], 4) | some (s, r) => (s, r, 0)
def DecPost (w : World) (x : SP × List UInt8 × Int) (e : Ending) (w' : World) : Prop := ∃ v4 v5 : Value, e = .returned (.tuple #[.agg #[.int .i64 x.1.id, .int .i64 x.1.cpu, .int .i64 x.1.mem, .int .i64 x.1.disk, v4, v5], .string (mkB x.2.1), .int .i64 x.2.2]) ∧
  (Kd.int .i64).R 3 w' w.heap.size (fun _ => True) v4 x.1.ports ∧ kT.R 90 w' w.heap.size (fun _ => True) v5 x.1.tasks ∧ Below w.heap.size w w'
abbrev ZS : Array Value := #[.int .i64 0, .int .i64 0, .int .i64 0, .int .i64 0, .slice none 0 0, .slice none 0 0]
set_option maxHeartbeats 2000000 in
theorem decode_c (l : List UInt8) (w : World) : Calls Try.prog 44 #[.string (mkB l)] w (DecPost w (decR l)) := by
  have hmf : ∀ (fn : Fn) (first cap : Array Value) (w : World), (Instr.makeFunc fn first cap).run Try.prog w = .ok (.func fn first cap) w := fun _ _ _ _ => rfl
  go_enter_defers Try.func44, Try.ntmps44
  go_wp2_with fail
  have s0 : St w ((((w.alloc (Obj.cells ZS 27)).alloc (Obj.cells #[.string { data := #[] }] 9)).alloc (Obj.cells #[.int .i64 0] 31)).alloc (Obj.cells #[.string (mkB l)] 115)) [rdr (w.heap.size + 1 + 1 + 1) l, blk (w.heap.size + 1 + 1) #[.int .i64 0] 31, blk (w.heap.size + 1) #[.string { data := #[] }] 9, blk w.heap.size ZS 27] := by
    have q := ((((St.start w).alloc ZS 27).alloc #[.string { data := #[] }] 9).alloc #[.int .i64 0] 31).alloc #[.string (mkB l)] 115
    simpa using q
  generalize ((((w.alloc (Obj.cells ZS 27)).alloc (Obj.cells #[.string { data := #[] }] 9)).alloc (Obj.cells #[.int .i64 0] 31)).alloc (Obj.cells #[.string (mkB l)] 115)) = wa at *
  generalize hW : w.heap.size = d2 at *
  have HW := Lib.hid hW
  clear hW
  generalize d2 + 1 = d3 at *
  generalize d3 + 1 = d4 at *
  generalize d4 + 1 = R at *
  have C := rspec_s R l s0
  cases h1 : rdS l with
  | none =>
    have er : decR l = (zeroS, [], 4) := by unfold decR decS; rw [h1]; rfl
    rw [h1] at C
    rw [er]
    have HC := Lib.hid C
    clear C h1 er s0
    refine HC.out.mono ?_
    rintro e w1 ⟨rfl, r, s1⟩
    clear HC
    have s2 : St w w1 [blk d2 ZS 27, blk d3 #[.string { data := #[] }] 9, blk d4 #[.int .i64 0] 31, rdr R r] := ((s1.pick 1).pick 2).pick 3
    have SP := Lib.hid s2
    clear s1 s2
    go_wp2
    refine leaves_cons (f := 72) (args := #[.pointer (some ⟨d2, 0, none⟩), .pointer (some ⟨d3, 0, none⟩), .pointer (some ⟨d4, 0, none⟩)]) (by simp) (by simp [go_sem]) ?_
    refine (catch_panicking d2 d3 d4 _ _ _ _ _ _ _ _ [] SP.out).mono ?_
    rintro e u' w3 ⟨rfl, rfl, s3⟩
    clear SP
    have hcA := s3.cells
    have hcB := (s3.pick 1).cells
    have hcC := (s3.pick 2).cells
    have hp : DecPost w (zeroS, [], 4) (.returned (.tuple #[.agg ZS, .string (mkB []), .int .i64 4])) w3 := ⟨_, _, rfl, Kd.R_nil _ _ _ _ _, Kd.R_nil _ _ _ _ _, s3.bel⟩
    have HP := Lib.hid hp
    clear hp s3
    simp [Leaves, settle, results, Try.results44, go_sem, hcA, hcB, hcC]
    exact HP.out
  | some x =>
    obtain ⟨⟨x1, x2, x3, x4, ps, ts⟩, r⟩ := x
    rw [h1] at C
    have H1 := Lib.hid h1
    have HC := Lib.hid C
    clear C h1 s0
    refine HC.out.mono ?_
    rintro e w1 ⟨PA, pc, TA, tc, rfl, s1⟩
    clear HC
    simp only at s1
    have hc2 := (s1.pick 5).cells
    have hf2 := (s1.pick 5).free
    have s2 : St w ((((((w1.setCell ⟨d2, 0, none⟩ (.int .i64 x1)).setCell ⟨d2, 1, none⟩ (.int .i64 x2)).setCell ⟨d2, 2, none⟩ (.int .i64 x3)).setCell ⟨d2, 3, none⟩ (.int .i64 x4)).setCell ⟨d2, 4, none⟩ (.slice PA ps.length pc)).setCell ⟨d2, 5, none⟩ (.slice TA ts.length tc)) [blk d2 #[.int .i64 x1, .int .i64 x2, .int .i64 x3, .int .i64 x4, .slice PA ps.length pc, .slice TA ts.length tc] 27, rowI (.slice PA ps.length pc) ps, rowT (.slice TA ts.length tc) ts, rdr R r, blk d4 #[.int .i64 0] 31, blk d3 #[.string { data := #[] }] 9] := ((((((s1.pick 5).setb 0 (.int .i64 x1) rfl).setb 1 (.int .i64 x2) rfl).setb 2 (.int .i64 x3) rfl).setb 3 (.int .i64 x4) rfl).setb 4 (.slice PA ps.length pc) rfl).setb 5 (.slice TA ts.length tc) rfl
    go_wp2_with fail
    clear s1 hc2 hf2
    generalize ((((((w1.setCell ⟨d2, 0, none⟩ (.int .i64 x1)).setCell ⟨d2, 1, none⟩ (.int .i64 x2)).setCell ⟨d2, 2, none⟩ (.int .i64 x3)).setCell ⟨d2, 3, none⟩ (.int .i64 x4)).setCell ⟨d2, 4, none⟩ (.slice PA ps.length pc)).setCell ⟨d2, 5, none⟩ (.slice TA ts.length tc)) = wb at *
    have rI := (s2.pick 1).rowKR
    have rT := (s2.pick 2).rowKR
    obtain ⟨A1, c1, e1, k1, kI⟩ := Kd.R_reads rI
    obtain ⟨A2, c2, e2, k2, kT'⟩ := Kd.R_reads rT
    injection e1 with e1a e1b e1c
    injection e2 with e2a e2b e2c
    subst e1a e1c e2a e2c
    have C := scheck_c x1 x2 x3 x4 PA TA ps.length pc ts.length tc ps ts wb rfl (RowI_of_C kI) (Kd.reads_of_C (d := (0 : Int)) kI).2.1 rfl (RowT_of_C kT') kT'.2.1 k2
    clear rI rT kI kT' e1b e2b
    by_cases hE : specE ⟨x1, x2, x3, x4, ps, ts⟩ = 0
    · have er : decR l = (⟨x1, x2, x3, x4, ps, ts⟩, r, 0) := by
        unfold decR decS
        rw [H1.out]
        simp [okS, hE]
      rw [hE] at C
      have HER := Lib.hid er
      have HC := Lib.hid C
      have S2 := Lib.hid s2
      clear C hE er s2
      refine HC.out.mono ?_
      rintro e w2 ⟨rfl, hb⟩
      have s3 := S2.out.more hb
      clear HC S2 hb
      have hcA := s3.cells
      have hfA := s3.free
      have hcR := (s3.pick 3).cells
      have hc4 := (s3.pick 4).cells
      have hf4 := (s3.pick 4).free
      have hc3 := (s3.pick 5).cells
      have hf3 := (s3.pick 5).free
      have n1 : ¬ d2 = R := (s3.pick 3).snd.ne
      have n2 : ¬ d2 = d4 := (s3.pick 4).snd.ne
      have n3 : ¬ d2 = d3 := (s3.pick 5).snd.ne
      have n4 : ¬ R = d4 := ((s3.pick 4).pick 4).ne
      have n5 : ¬ R = d3 := ((s3.pick 5).pick 4).ne
      have n6 : ¬ d4 = d3 := ((s3.pick 5).pick 5).ne
      have m1 : ¬ R = d2 := fun e => n1 e.symm
      have m2 : ¬ d4 = d2 := fun e => n2 e.symm
      have m3 : ¬ d3 = d2 := fun e => n3 e.symm
      have m4 : ¬ d4 = R := fun e => n4 e.symm
      have m5 : ¬ d3 = R := fun e => n5 e.symm
      have m6 : ¬ d3 = d4 := fun e => n6 e.symm
      have S3 := Lib.hid s3
      clear s3
      go_wp2
      go_region
      have s4 : St w (((((((((w2.setCell ⟨d2, 0, none⟩ (.int .i64 x1)).setCell ⟨d2, 1, none⟩ (.int .i64 x2)).setCell ⟨d2, 2, none⟩ (.int .i64 x3)).setCell ⟨d2, 3, none⟩ (.int .i64 x4)).setCell ⟨d2, 4, none⟩ (.slice PA ps.length pc)).setCell ⟨d2, 5, none⟩ (.slice TA ts.length tc)).setCell ⟨d3, 0, none⟩ (.string (mkB r))).setCell ⟨d4, 0, none⟩ (.int .i64 0)).drew) [blk d4 #[.int .i64 0] 31, blk d3 #[.string (mkB r)] 9, blk d2 #[.int .i64 x1, .int .i64 x2, .int .i64 x3, .int .i64 x4, .slice PA ps.length pc, .slice TA ts.length tc] 27, rowI (.slice PA ps.length pc) ps, rowT (.slice TA ts.length tc) ts, rdr R r] := (((((((((((S3.out.setb 0 (.int .i64 x1) rfl).setb 1 (.int .i64 x2) rfl).setb 2 (.int .i64 x3) rfl).setb 3 (.int .i64 x4) rfl).setb 4 (.slice PA ps.length pc) rfl).setb 5 (.slice TA ts.length tc) rfl).pick 5).setb 0 (.string (mkB r)) rfl).pick 5).setb 0 (.int .i64 0) rfl)).drew
      clear S3 hcA hfA hcR hc4 hf4 hc3 hf3 n1 n2 n3 n4 n5 n6 m1 m2 m3 m4 m5 m6
      generalize (((((((((w2.setCell ⟨d2, 0, none⟩ (.int .i64 x1)).setCell ⟨d2, 1, none⟩ (.int .i64 x2)).setCell ⟨d2, 2, none⟩ (.int .i64 x3)).setCell ⟨d2, 3, none⟩ (.int .i64 x4)).setCell ⟨d2, 4, none⟩ (.slice PA ps.length pc)).setCell ⟨d2, 5, none⟩ (.slice TA ts.length tc)).setCell ⟨d3, 0, none⟩ (.string (mkB r))).setCell ⟨d4, 0, none⟩ (.int .i64 0)).drew) = W at *
      have hcC := s4.cells
      have hcB := (s4.pick 1).cells
      have hcA := (s4.pick 2).cells
      have hp : DecPost w (⟨x1, x2, x3, x4, ps, ts⟩, r, 0) (.returned (.tuple #[.agg #[.int .i64 x1, .int .i64 x2, .int .i64 x3, .int .i64 x4, .slice PA ps.length pc, .slice TA ts.length tc], .string (mkB r), .int .i64 0])) W := ⟨_, _, rfl, (s4.pick 3).rowKA (flat_int _), (s4.pick 4).rowKA kT_flat, s4.bel⟩
      have HP := Lib.hid hp
      clear hp s4
      go_wp2
      refine leaves_cons (f := 72) (args := #[.pointer (some ⟨d2, 0, none⟩), .pointer (some ⟨d3, 0, none⟩), .pointer (some ⟨d4, 0, none⟩)]) (by simp) (by simp [go_sem]) ?_
      refine (catch_idle _ _ _ _).mono ?_
      rintro e u' w3 ⟨rfl, rfl, ew⟩
      have ew := ew.symm
      subst ew
      simp [Leaves, settle, results, Try.results44, go_sem, hcA, hcB, hcC]
      rw [HER.out]
      exact HP.out
    · have er : decR l = (zeroS, [], 4) := by
        unfold decR decS
        rw [H1.out]
        simp [okS, hE]
      have hEb : (specE ⟨x1, x2, x3, x4, ps, ts⟩ != 0) = true := bne_iff_ne.mpr hE
      generalize specE ⟨x1, x2, x3, x4, ps, ts⟩ = E at *
      have HER := Lib.hid er
      have HC := Lib.hid C
      have S2 := Lib.hid s2
      clear C hE er s2
      refine HC.out.mono ?_
      rintro e w2 ⟨rfl, hb⟩
      have s3 := S2.out.more hb
      have SP : Hid (St w w2 [blk d2 #[.int .i64 x1, .int .i64 x2, .int .i64 x3, .int .i64 x4, .slice PA ps.length pc, .slice TA ts.length tc] 27, blk d3 #[.string { data := #[] }] 9, blk d4 #[.int .i64 0] 31, rowI (.slice PA ps.length pc) ps, rowT (.slice TA ts.length tc) ts, rdr R r]) := Lib.hid (((s3.pick 4).pick 5).pick 2)
      clear HC S2 hb s3
      go_wp2
      refine leaves_cons (f := 72) (args := #[.pointer (some ⟨d2, 0, none⟩), .pointer (some ⟨d3, 0, none⟩), .pointer (some ⟨d4, 0, none⟩)]) (by simp) (by simp [go_sem]) ?_
      refine (catch_panicking d2 d3 d4 _ _ _ _ _ _ _ _ [] SP.out).mono ?_
      rintro e u' w3 ⟨rfl, rfl, s3⟩
      clear SP
      have hcA := s3.cells
      have hcB := (s3.pick 1).cells
      have hcC := (s3.pick 2).cells
      have hp : DecPost w (zeroS, [], 4) (.returned (.tuple #[.agg ZS, .string (mkB []), .int .i64 4])) w3 := ⟨_, _, rfl, Kd.R_nil _ _ _ _ _, Kd.R_nil _ _ _ _ _, s3.bel⟩
      have HP := Lib.hid hp
      clear hp s3
      simp [Leaves, settle, results, Try.results44, go_sem, hcA, hcB, hcC]
      rw [HER.out]
      exact HP.out
end Go.Proofs.YtkhcdichdnbcmaaR
