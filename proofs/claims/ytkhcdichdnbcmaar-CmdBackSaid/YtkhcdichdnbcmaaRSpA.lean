/- spec.ask over whatever closures of one block each; the small checks of spec. -/
import Derived.Test.YtkhcdichdnbcmaaRBase
import Derived.Test.YtkhcdichdnbcmaaRSp0
import Derived.Test.YtkhcdichdnbcmaaRProg
import Derived.Lib.Hide
import Derived.Shelf.Abstract
import Derived.Test.YtkhcdichdnbcmaaRWWords
namespace Go.Proofs.YtkhcdichdnbcmaaR
open Go.RowKit Go.Shelf Go.Proofs.YtkhcdichdnbcmaaRW.PrintWords Go.Proofs.YtkhcdichdnbcmaaR.Sp
set_option linter.unusedSimpArgs false
set_option linter.unusedVariables false

/-- A closure over one block. -/
def fnV (p : Nat × Nat) : Value := .func (.func p.1) #[] #[.pointer (some ⟨p.2, 0, none⟩)]
def fnAt (fs : List (Nat × Nat)) (k : Nat) : Nat × Nat := fs.getD k (0, 0)
/-- What is left of the errors tells the first one. -/
def RestE (es : List Int) (k : Nat) : Prop := fstE es = fstE (es.drop k)
theorem RestE.zero (es : List Int) : RestE es 0 := rfl
theorem RestE.next {es : List Int} {k : Nat} (h : RestE es k) (hk : k < es.length) (he : es.getD k 0 = 0) : RestE es (k + 1) := by
  unfold RestE at *
  rw [h, List.drop_eq_getElem_cons hk]
  have : es[k] = 0 := by rw [← he]; simp [hk]
  rw [fstE, if_pos this]
theorem RestE.stop {es : List Int} {k : Nat} (h : RestE es k) (hk : k < es.length) {e : Int} (he : es.getD k 0 = e) (h0 : e ≠ 0) : fstE es = e := by
  unfold RestE at *
  rw [h, List.drop_eq_getElem_cons hk]
  have : es[k] = e := by rw [← he]; simp [hk]
  rw [fstE, this, if_neg h0]
theorem RestE.fin {es : List Int} {k : Nat} (h : RestE es k) (hk : es.length ≤ k) : fstE es = 0 := by
  unfold RestE at *
  rw [h, List.drop_eq_nil_of_le hk]; rfl
set_option maxHeartbeats 2000000 in
theorem ask_any (b n c : Nat) (fs : List (Nat × Nat)) (es : List Int) (w : World) (hn : n = fs.length) (hl : es.length = fs.length) (hm : fs.length ≤ 1000) (hb : b < w.heap.size)
    (hC : ∀ k, k < fs.length → w.cell? ⟨b, k, none⟩ = some (fnV (fnAt fs k)))
    (hE : ∀ k, k < fs.length → ∀ args W, (callFunc (fnAt fs k).1 args).run Try.prog W = .ok (.enter (fnAt fs k).1 args) W)
    (hF : ∀ k, k < fs.length → ∀ W, Below w.heap.size w W → Calls Try.prog (fnAt fs k).1 #[.pointer (some ⟨(fnAt fs k).2, 0, none⟩)] W fun e w' => e = .returned (.int .i64 (es.getD k 0)) ∧ Below W.heap.size W w') :
    Calls Try.prog 88 #[.slice (some ⟨b, 0, none⟩) n c] w fun e w' => e = .returned (.int .i64 (fstE es)) ∧ Below w.heap.size w w' := by
  subst hn
  have HC := Lib.hid hC
  have HE := Lib.hid hE
  have HF := Lib.hid hF
  have HL := Lib.hid hl
  clear hC hE hF hl
  go_enter Try.func88, Try.ntmps88
  go_wp2
  go_loopw [8] (fun v w' => ∃ k : Nat, k ≤ fs.length ∧ v = .int .i64 k ∧ RestE es k ∧ Below w.heap.size w w') (fun v _ => fs.length - (intOf v).toNat)
  case atStart => exact ⟨0, Nat.zero_le _, rfl, RestE.zero _, Below.refl _ _⟩
  case round =>
    obtain ⟨k, hk, rfl, hr, hbel⟩ := hrel
    by_cases hlt : k < fs.length
    · have hc1 : wr.cell? ⟨b, k, none⟩ = some (fnV (fnAt fs k)) := (hbel.cell hb).trans (HC.out k hlt)
      have he := HE.out k hlt
      have hf := HF.out k hlt wr hbel
      unfold fnV at hc1
      generalize (fnAt fs k).1 = g at *
      generalize (fnAt fs k).2 = B at *
      have hF1 := Lib.hid hf
      clear hf
      generalize hev : es.getD k 0 = e0 at *
      have HEV := Lib.hid hev
      clear hev
      by_cases h0 : e0 = 0
      · subst h0
        go_wp2_with fail
        refine hF1.out.mono ?_
        rintro e w1 ⟨rfl, hb1⟩
        have hB1 : Below w.heap.size w w1 := below_then hbel hb1
        clear hb1 he hc1
        go_wp2
        go_roundw
        case rel => exact ⟨k + 1, by omega, by go_num, hr.next (by rw [HL.out]; exact hlt) HEV.out, hB1⟩
        case measure => simp [intOf]; omega
      · have h0b : (e0 != 0) = true := bne_iff_ne.mpr h0
        go_wp2_with fail
        refine hF1.out.mono ?_
        rintro e w1 ⟨rfl, hb1⟩
        have hB1 : Below w.heap.size w w1 := below_then hbel hb1
        clear hb1 he hc1
        go_wp2
        go_returns
        exact ⟨ret_int (hr.stop (by rw [HL.out]; exact hlt) HEV.out h0).symm, hB1⟩
    · go_wp2
      go_returns
      exact ⟨ret_int (hr.fin (by rw [HL.out]; omega)).symm, hbel⟩

set_option maxHeartbeats 400000 in
theorem rng_c (n lo hi : Int) (w : World) : Calls Try.prog 79 #[.int .i64 n, .int .i64 lo, .int .i64 hi] w fun e w' => e = .returned (.int .i64 (rangeE n lo hi)) ∧ w' = w := by
  unfold rangeE
  by_cases h : inI n lo hi = true
  · have h' := (inI_iff _ _ _).1 h
    have h1 : decide (n < lo) = false := by simp; omega
    have h2 : decide (hi < n) = false := by simp; omega
    rw [if_pos h]
    clear h' h
    go_enter Try.func79, Try.ntmps79
    go_wp2
    go_ret
    exact ⟨rfl, rfl⟩
  · rw [if_neg h]
    have h' : n < lo ∨ hi < n := by
      have : ¬ (lo ≤ n ∧ n ≤ hi) := fun q => h ((inI_iff _ _ _).2 q)
      omega
    clear h
    by_cases h1 : n < lo
    · clear h'
      have h2 : decide (n < lo) = true := by simpa using h1
      go_enter Try.func79, Try.ntmps79
      go_wp2
      go_ret
      exact ⟨rfl, rfl⟩
    · have h1 : decide (n < lo) = false := by simpa using h1
      have h2 : decide (hi < n) = true := by simp; simp at h1; omega
      clear h'
      go_enter Try.func79, Try.ntmps79
      go_wp2
      go_ret
      exact ⟨rfl, rfl⟩
end Go.Proofs.YtkhcdichdnbcmaaR
