/- Texts of this session, merged (wip/gen/shake.py). -/
import Derived.Test.YtkhcdichdnbcmaaRRr5
import Derived.Test.YtkhcdichdnbcmaaRRr8
import Derived.Test.YtkhcdichdnbcmaaRRr17
section
namespace Go.Proofs.YtkhcdichdnbcmaaR.PureC
end Go.Proofs.YtkhcdichdnbcmaaR.PureC
namespace Go.Proofs.YtkhcdichdnbcmaaR
end Go.Proofs.YtkhcdichdnbcmaaR
end
section
namespace Go.Proofs.YtkhcdichdnbcmaaR
end Go.Proofs.YtkhcdichdnbcmaaR
end
section
namespace Go.Proofs.YtkhcdichdnbcmaaR
open Go.RowKit Go.Proofs.YtkhcdichdnbcmaaR Go.Proofs.YtkhcdichdnbcmaaR.Ext Go.Proofs.YtkhcdichdnbcmaaR.C Go.Proofs.YtkhcdichdnbcmaaR.Sp Go.Proofs.YtkhcdichdnbcmaaRW.PrintWords Go.Proofs.YtkhcdichdnbcmaaRW.PrintLast
set_option linter.unusedVariables false
set_option linter.unusedSimpArgs false
abbrev tRd : Nat := 84
theorem setRow_twice (w : World) (g : Nat) (x y : Array Value) (cs : Array Value) (t : Nat) (h : w.heap[g]? = some (.cells y t (0, 0))) : (w.setRow g x).setRow g y = w := by
 rw [setRow_setRow]
 exact setRow_self w g y t (0, 0) h
theorem St.readrow {w0 w w' : World} {L : List HP} {g : Nat} {x y : Array Value} {v4 v5 : Value} {ps : List Int} {ts : List TX} (h : St w0 w (Go.Proofs.YtkhcdichdnbcmaaR.blk g x tRd :: L)) (hg : w'.heap[g]? = some (.cells y tRd (0, 0))) (hB : Below w0.heap.size w0 w') (hk : KeepBut w w' g none)
  (h4 : Kd.R (Kd.int .i64) 3 w' w.heap.size (fun _ => True) v4 ps) (h5 : Kd.R k90 90 w' w.heap.size (fun _ => True) v5 ts) :
  St w0 w' (RI v4 ps :: RT v5 ts :: Go.Proofs.YtkhcdichdnbcmaaR.blk g y tRd :: L) := by
 have hgo := h.at0
 have hlt : g < w.heap.size := vlt hgo
 have hb : Below w.heap.size w (w'.setRow g x) := by
  refine ⟨hB.os.trans h.bel.os.symm, hB.tape.trans h.bel.tape.symm, hB.output.trans h.bel.output.symm, ?_, fun i hi => ?_⟩
  ·have : (w'.setRow g x).heap.size = w'.heap.size := by simp [World.setRow]
   rw [this]; exact hk.1
  ·by_cases e : i = g
   ·subst e
    rw [hgo]
    exact setRow_heap w' i y x tRd _ hg
   ·rw [setRow_other w' g i _ e]
    exact hk.2 i hi e (by simp)
 have hr : ∀ k, w.heap.size ≤ k → (w'.setRow g x).heap[k]? = w'.heap[k]? := fun k hk => setRow_other w' g k _ (by omega)
 have r4 : Kd.R (Kd.int .i64) 3 (w'.setRow g x) w.heap.size (fun k => w.heap.size ≤ k) v4 ps := Kd.R_step (Kd.R_mono (Kd.R_bound h4) (fun k hk => hk.2.1)) (fun k hk _ => hr k hk)
 have r5 : Kd.R k90 90 (w'.setRow g x) w.heap.size (fun k => w.heap.size ≤ k) v5 ts := Kd.R_step (Kd.R_mono (Kd.R_bound h5) (fun k hk => hk.2.1)) (fun k hk _ => hr k hk)
 have s1 := h.rows2 (flat_int _) kX_flat (by decide) hb r4 r5
 have s2 := (s1.pick 2).setRow y
 rw [setRow_twice w' g x y x tRd hg] at s2
 exact (s2.pick 2).pick 2
theorem rnum_s {w0 w : World} {L : List HP} (g : Nat) (l : List UInt8) (hl : l.length ≤ 2000) (bad : Bool) (k : Int) (r : List UInt8) (b : Bool) (hx : PureR.numR l bad = (k, r, b)) (h : St w0 w (Go.Proofs.YtkhcdichdnbcmaaR.blk g #[.string (YtkhcdichdnbcmaaR.Ext.mkB l), .bool bad] tRd :: L)) :
  Calls Try.prog 45 #[.pointer (some ⟨g, 0, none⟩)] w fun ee w' => ee = .returned (.int .i64 k) ∧ St w0 w' (Go.Proofs.YtkhcdichdnbcmaaR.blk g #[.string (YtkhcdichdnbcmaaR.Ext.mkB r), .bool b] tRd :: L) := by
 have q := PureR.num_eq 30 (Nat.le_refl _) l hl bad
 rw [hx] at q
 obtain ⟨S, ⟨z, rfl⟩, hh⟩ := h.one
 have hge : w0.heap.size ≤ g := by
  obtain ⟨⟨S, l, p, d, r⟩, b⟩ := h
  exact (d g (by rw [p.2])).1
 refine (sacristanref13_Reader_Num.calls 30 g _ bad _ _ _ w0 w ⟨z, hge⟩ h.bel q).mono ?_
 rintro ee w' ⟨rfl, hI, hB, hk⟩
 exact ⟨rfl, hh ⟨hB.os.trans h.bel.os.symm, hB.tape.trans h.bel.tape.symm, hB.output.trans h.bel.output.symm, hk.1, fun i hi hs => hk.2 i hs hi (by simp)⟩ (blk_loc _ _ _) ⟨hI.1, rfl⟩ (fun _ _ q => q)⟩
theorem rspec9_s {w0 w : World} {L : List HP} (g : Nat) (l : ByteArray) (bad : Bool) (a b c d : Int) (ps : List Int) (ts : List TX) (r : ByteArray) (bb : Bool) (hx : sacristanref13_Reader_Spec.f 100 l bad = some (a, b, c, d, ps, ts, r, bb)) (h : St w0 w (Go.Proofs.YtkhcdichdnbcmaaR.blk g #[.string l, .bool bad] tRd :: L)) :
  Calls Try.prog 46 #[.pointer (some ⟨g, 0, none⟩)] w fun ee w' => ∃ A B p q n m, ee = .returned (.agg #[.int .i64 a, .int .i64 b, .int .i64 c, .int .i64 d, .slice A n p, .slice B m q]) ∧ St w0 w' (RI (.slice A n p) ps :: RT (.slice B m q) ts :: Go.Proofs.YtkhcdichdnbcmaaR.blk g #[.string r, .bool bb] tRd :: L) := by
 have hge : w0.heap.size ≤ g := by
  obtain ⟨⟨S, l, p, d, r⟩, b⟩ := h
  exact (d g (by rw [p.2])).1
 refine (sacristanref13_Reader_Spec.calls 100 g l bad _ _ _ _ _ _ _ _ w0 w ⟨h.at0, hge⟩ h.bel hx).mono ?_
 rintro ee w' ⟨v4, v5, rfl, h4, h5, hI, hB, hk⟩
 obtain ⟨A, n, p, rfl⟩ := R_slice3 h4
 obtain ⟨B, m, q, rfl⟩ := R_slice3 h5
 exact ⟨A, B, p, q, n, m, rfl, h.readrow hI.1 hB hk h4 h5⟩
end Go.Proofs.YtkhcdichdnbcmaaR
end
section
namespace Go.Proofs.YtkhcdichdnbcmaaR
open Go.RowKit Go.Proofs.YtkhcdichdnbcmaaR Go.Proofs.YtkhcdichdnbcmaaR.Ext Go.Proofs.YtkhcdichdnbcmaaR.C Go.Proofs.YtkhcdichdnbcmaaR.Sp Go.Proofs.YtkhcdichdnbcmaaRW.PrintWords Go.Proofs.YtkhcdichdnbcmaaRW.PrintLast
set_option linter.unusedVariables false
set_option linter.unusedSimpArgs false
def N62 : Int := 4611686018427387904
def kindP (l : List UInt8) : Option (Int × List UInt8) := (numL N62 l).bind fun x => if decide (x.1 ≤ 255) = true then some x else none
end Go.Proofs.YtkhcdichdnbcmaaR
end
