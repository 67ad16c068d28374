/- The plain law of WindowAdds, and its walk. -/
import Derived.Test.YtipbgeobgppagaaPWin
import Derived.Test.YtipbgeobgppagaaV4
import Derived.Test.YtipbgeobgppagaaPWinW
namespace Go.Proofs.Ytipbgeobgppagaa.Pure
open Go.RowKit Go.Proofs.Ytipbgeobgppagaa.Ext Go.Proofs.Ytipbgeobgppagaa.V Go.Proofs.YtipbgeobgppagaaW.PrintWords Go.Proofs.YtipbgeobgppagaaW.PrintLast Go.Proofs.YtipbgeobgppagaaW.PrintMore
set_option linter.unusedVariables false
set_option linter.unusedSimpArgs false

theorem cn_all {a : Int} {l : List Int} (h : ∀ x ∈ l, x ≤ a) : cn a l = l.length := List.countP_eq_length.2 (fun x hx => by have := h x hx; simp; omega)
/-- Appending a start that is not before a tick, that no start is after. -/
theorem adds_law (l : List Int) (w limit t x : Int) (hw : 1 ≤ w) (hl : ∀ y ∈ l, y ≤ t) (hx : t ≤ x) (h1 : wi w limit l = true) (h2 : cw w t l < limit) : wi w limit (l ++ [x]) = true := by
  rw [wi_iff] at h1 ⊢
  have key : ∀ s, t ≤ s → cw w s (l ++ [x]) ≤ cw w t l + 1 := by
    intro s hs
    unfold cw
    rw [cn_append, cn_append, cn_one, cn_one, cn_all (a := s) (fun y hy => by have := hl y hy; omega), cn_all (a := t) hl]
    have := cn_mono (a := t - w) (b := s - w) (by omega) l
    split <;> split <;> omega
  intro s hs
  by_cases hst : t ≤ s
  · have := key s hst; omega
  · rcases List.mem_append.1 hs with h | h
    · have := h1 s h
      unfold cw at this ⊢
      rw [cn_append, cn_append, cn_one, cn_one, if_neg (by omega), if_neg (by omega)]
      exact this
    · rw [List.mem_singleton.1 h] at hst; omega
theorem adds_j0 (L : List Int) (hS : StL L) (w limit t y0 y1 : Int) (hw : 1 ≤ w ∧ w ≤ 200) (hlim : 1 ≤ limit ∧ limit ≤ 9) (ht : 0 ≤ t ∧ t ≤ 10000) (hL : ∀ y ∈ L, y ≤ t) (k : Nat) (hk : 200 ≤ k) :
    sacristanlaw12_WindowAdds.j0 k w limit L t y0 y1 = some true := by
  obtain ⟨k, rfl⟩ : ∃ q, k = q + 1 := ⟨k - 1, by omega⟩
  have h40 := hS.len
  obtain ⟨d, e1, hd⟩ := mod_eq y1 100 (by omega) (by omega)
  simp only [sacristanlaw12_WindowAdds.j0]
  have hok : okL (L ++ [t + d - 1]) := ⟨fun x hx => by rcases List.mem_append.1 hx with h | h; (have := hS.bd x h; omega); (rw [List.mem_singleton.1 h]; omega),
    List.pairwise_append.2 ⟨hS.ok.2, List.pairwise_singleton _ _, fun x hx y hy => by rw [List.mem_singleton.1 hy]; have := hL x hx; omega⟩⟩
  rw [Within_eq L hS.ok (by omega) _ _ (by omega) (by omega) k (by omega), Count_eq L hS.ok (by omega) _ _ (by omega) (by omega) k (by omega), e1]
  simp only [Option.bind_some]
  rw [if_pos (by omega), show wrap64 (wrap64 (t + d) - 1) = t + d - 1 by unfold wrap64; omega, Within_eq _ hok (by simp; omega) _ _ (by omega) (by omega) k (by simp; omega)]
  simp only [Option.bind_some]
  rw [if_pos trivial, if_pos trivial, if_pos trivial, awake_eq k (by omega)]
  by_cases h1 : wi w limit L = true
  · rw [if_pos h1]
    by_cases h2 : cw w t L ≥ limit
    · rw [if_pos h2]; rfl
    · rw [if_neg h2, if_pos (adds_law L w limit t _ hw.1 hL (by omega) h1 (by omega))]; rfl
  · rw [if_neg h1]; rfl
theorem adds_eq (l : List Int) (hl : l.length ≤ 9223372036854775807) (a0 a1 y0 y1 : Int) : sacristanlaw12_WindowAdds.f 400 l a0 a1 y0 y1 = some true := by
  obtain ⟨L, hL, hS⟩ := starts_eq l hl
  have h40 := hS.len
  obtain ⟨w, e1, hw⟩ := mod_eq a0 200 (by omega) (by omega)
  obtain ⟨n, e2, hn⟩ := mod_eq a1 9 (by omega) (by omega)
  obtain ⟨q, e3, hq⟩ := mod_eq y0 100 (by omega) (by omega)
  unfold sacristanlaw12_WindowAdds.f
  rw [hL 400 (by omega), e1, e2, e3]
  simp only [Option.bind_some]
  by_cases h0 : L.length = 0
  · rw [if_neg (by omega), show wrap64 (q - 1) = q - 1 by unfold wrap64; omega]
    have : L = [] := List.length_eq_zero_iff.1 h0
    exact adds_j0 L hS w n (q - 1) y0 y1 hw hn (by omega) (fun y hy => by rw [this] at hy; simp at hy) 400 (by omega)
  · have hlast : L.length - 1 < L.length := by omega
    have hb := hS.bd _ (rd_mem hlast)
    rw [if_pos (by omega), show wrap64 ((L.length : Int) - 1) = ((L.length - 1 : Nat) : Int) by unfold wrap64; omega, if_pos (by omega), if_pos (by omega), show wrap64 (wrap64 (q - 1) + rd L ((L.length - 1 : Nat) : Int)) = q - 1 + rd L ((L.length - 1 : Nat) : Int) by unfold wrap64; omega]
    refine adds_j0 L hS w n _ y0 y1 hw hn (by omega) (fun y hy => ?_) 400 (by omega)
    obtain ⟨i, hi, rfl⟩ := List.mem_iff_getElem.1 hy
    have := hS.ok.le (i := i) (j := L.length - 1) (by omega) hlast
    rw [rd_get hi] at this
    omega
end Go.Proofs.Ytipbgeobgppagaa.Pure
namespace Go.Proofs.Ytipbgeobgppagaa
open Go.RowKit Go.Proofs.Ytipbgeobgppagaa.V Go.Proofs.YtipbgeobgppagaaW.PrintWords
theorem walk_WindowAdds (w : World) (A : Option Addr) (c : Nat) (l : List Int) (h : SL22 w A c l) (a0 : Int) (_ : (Lit.int .i64 a0).wf = true) (a1 : Int) (_ : (Lit.int .i64 a1).wf = true) (y0 y1 : Int) (_ : (Lit.int .i64 y0).wf = true) (_ : (Lit.int .i64 y1).wf = true) :
    Calls Try.prog 7 #[.slice A l.length c, .int .i64 a0, .int .i64 a1, .agg #[.int .i64 y0, .int .i64 y1]] w fun e w' => e = .returned (.bool true) ∧ Below w.heap.size w w' := by
  obtain ⟨h1, h2, h3⟩ := Pure.readsInts h
  exact sacristanlaw12_WindowAdds.calls 400 A c l a0 a1 y0 y1 true w h1 h2 (Pure.adds_eq l h3 a0 a1 y0 y1) rfl
end Go.Proofs.Ytipbgeobgppagaa
