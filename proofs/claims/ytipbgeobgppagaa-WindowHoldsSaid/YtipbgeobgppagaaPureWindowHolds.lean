/- The plain law of WindowHolds. -/
import Derived.Test.YtipbgeobgppagaaPWin
import Derived.Test.YtipbgeobgppagaaV4
namespace Go.Proofs.Ytipbgeobgppagaa.Pure
open Go.RowKit Go.Proofs.Ytipbgeobgppagaa.Ext Go.Proofs.Ytipbgeobgppagaa.V Go.Proofs.YtipbgeobgppagaaW.PrintWords Go.Proofs.YtipbgeobgppagaaW.PrintLast Go.Proofs.YtipbgeobgppagaaW.PrintMore
set_option linter.unusedVariables false
set_option linter.unusedSimpArgs false

/-- How many starts are in the interval that ends with a tick, counted one by one. -/
theorem cw_count (w t : Int) (hw : 0 ≤ w) (l : List Int) : cw w t l = (l.countP (fun x => decide (t - w < x ∧ x ≤ t)) : Int) := by
  induction l with
  | nil => rfl
  | cons x xs ih =>
    unfold cw cn at ih ⊢
    simp only [List.countP_cons, decide_eq_true_eq]
    by_cases h1 : x ≤ t <;> by_cases h2 : x ≤ t - w
    · rw [if_pos h1, if_pos h2, if_neg (by omega)]; omega
    · rw [if_pos h1, if_neg h2, if_pos (by omega)]; omega
    · omega
    · rw [if_neg h1, if_neg h2, if_neg (by omega)]; omega
theorem cw_sub {w t : Int} (hw : 0 ≤ w) {l m : List Int} (h : l.Sublist m) : cw w t l ≤ cw w t m := by
  rw [cw_count w t hw, cw_count w t hw]
  exact Int.ofNat_le.2 (h.countP_le)
theorem cw_small {v w t : Int} (hv : 0 ≤ v) (h : v ≤ w) (l : List Int) : cw v t l ≤ cw w t l := by
  have := cn_mono (a := t - w) (b := t - v) (by omega) l
  unfold cw; omega
/-- An interval holds no more starts than one that ends with a start; or none. -/
theorem cw_max (w t : Int) (hw : 0 ≤ w) (l : List Int) : cw w t l = 0 ∨ ∃ s ∈ l, cw w t l ≤ cw w s l := by
  by_cases h : ∃ x ∈ l, x ≤ t
  · right
    -- the greatest start up to t
    have : ∃ s ∈ l, s ≤ t ∧ ∀ x ∈ l, x ≤ t → x ≤ s := by
      clear hw
      induction l with
      | nil => obtain ⟨x, hx, _⟩ := h; simp at hx
      | cons y ys ih =>
        by_cases hy : ∃ x ∈ ys, x ≤ t
        · obtain ⟨s, hs, h1, h2⟩ := ih hy
          by_cases hc : y ≤ t ∧ s < y
          · exact ⟨y, by simp, hc.1, fun x hx hxt => by rcases List.mem_cons.1 hx with rfl | hx; (exact Int.le_refl _); (have := h2 x hx hxt; omega)⟩
          · exact ⟨s, by simp [hs], h1, fun x hx hxt => by rcases List.mem_cons.1 hx with rfl | hx; (omega); (exact h2 x hx hxt)⟩
        · obtain ⟨x, hx, hxt⟩ := h
          rcases List.mem_cons.1 hx with rfl | hx
          · exact ⟨x, by simp, hxt, fun z hz hzt => by rcases List.mem_cons.1 hz with rfl | hz; (exact Int.le_refl _); (exact (hy ⟨z, hz, hzt⟩).elim)⟩
          · exact (hy ⟨x, hx, hxt⟩).elim
    obtain ⟨s, hs, h1, h2⟩ := this
    refine ⟨s, hs, ?_⟩
    rw [cw_count w t hw, cw_count w s hw]
    refine Int.ofNat_le.2 (List.countP_mono_left (fun x hx hp => ?_))
    simp only [decide_eq_true_eq] at hp ⊢
    have := h2 x hx hp.2
    omega
  · left
    rw [cw_count w t hw, Int.natCast_eq_zero, List.countP_eq_zero]
    intro x hx
    simp only [decide_eq_true_eq]
    intro hp
    exact h ⟨x, hx, hp.2⟩
theorem wi_sub {w limit : Int} (hw : 0 ≤ w) {l m : List Int} (h : l.Sublist m) (hm : wi w limit m = true) : wi w limit l = true := by
  rw [wi_iff] at hm ⊢
  intro s hs
  have := hm s (h.subset hs)
  have := cw_sub (t := s) hw h
  omega
theorem wi_small {v w limit : Int} (hv : 0 ≤ v) (h : v ≤ w) {l : List Int} (hm : wi w limit l = true) : wi v limit l = true := by
  rw [wi_iff] at hm ⊢
  intro s hs
  have := hm s hs
  have := cw_small (t := s) hv h l
  omega
/-- What the loop keeps of the greatest number. -/
structure Mst (L : List Int) (w most : Int) (i : Nat) : Prop where
  ge0 : 0 ≤ most
  all : ∀ j, j < i → cw w (rd L (j : Int)) L ≤ most
  le : most = 0 ∨ ∃ s ∈ L, most ≤ cw w s L
theorem holds_end (L : List Int) (hS : StL L) (w limit x3 most : Int) (hw : 1 ≤ w ∧ w ≤ 200) (hl : 0 ≤ limit ∧ limit ≤ 9) (hM : Mst L w most L.length) (k : Nat) (hk : 200 ≤ k) :
    sacristanlaw12_WindowHolds.l0 k w limit x3 L (wi w limit L) most (L.length : Int) = some true := by
  obtain ⟨k, rfl⟩ : ∃ q, k = q + 1 := ⟨k - 1, by omega⟩
  have h40 := hS.len
  obtain ⟨c, e1, hc⟩ := mod_eq x3 ((L.length : Int) + 1) (by omega) (by omega)
  obtain ⟨v, e2, hv⟩ := mod_eq (c - 1) w (by omega) (by omega)
  have hiff : wi w limit L = decide (most ≤ limit) := by
    rw [Bool.eq_iff_iff, wi_iff, decide_eq_true_eq]
    constructor
    · intro h
      rcases hM.le with h0 | ⟨s, hs, h0⟩
      · omega
      · have := h s hs; omega
    · intro h s hs
      obtain ⟨j, hj, rfl⟩ := List.mem_iff_getElem.1 hs
      have := hM.all j hj
      rw [rd_get hj] at this
      omega
  simp only [sacristanlaw12_WindowHolds.l0]
  rw [if_neg (by omega), ← hiff, bne_self_eq_false, if_neg (by decide), show wrap64 ((L.length : Int) + 1) = (L.length : Int) + 1 by unfold wrap64; omega, e1, Option.bind_some, show wrap64 (c - 1) = c - 1 by unfold wrap64; omega, if_pos (by omega), if_pos (by omega)]
  have hlt := List.length_take_le (c - 1).toNat L
  have hld : (L.drop (c - 1).toNat).length ≤ L.length := by rw [List.length_drop]; omega
  rw [Within_eq _ (hS.ok.take _) (by omega) w limit (by omega) hl.1 k (by omega), Within_eq _ (hS.ok.drop _) (by omega) w limit (by omega) hl.1 k (by omega), e2]
  simp only [Option.bind_some]
  rw [Within_eq L hS.ok (by omega) v limit (by omega) hl.1 k (by omega), awake_eq k (by omega)]
  simp only [Option.bind_some]
  rw [if_pos trivial, if_pos trivial, if_pos trivial]
  by_cases h : wi w limit L = true
  · rw [if_pos h, if_pos (wi_sub (by omega) (List.take_sublist _ _) h), if_pos (wi_sub (by omega) (List.drop_sublist _ _) h), if_pos (wi_small (by omega) (by omega) h)]
  · rw [if_neg h]
theorem holds_l0 (L : List Int) (hS : StL L) (w limit x3 : Int) (hw : 1 ≤ w ∧ w ≤ 200) (hl : 0 ≤ limit ∧ limit ≤ 9) (d : Nat) : ∀ (k i : Nat) (most : Int), i ≤ L.length → L.length - i ≤ d → 5 * d + 201 ≤ k → Mst L w most i →
    sacristanlaw12_WindowHolds.l0 k w limit x3 L (wi w limit L) most (i : Int) = some true := by
  have h40 := hS.len
  induction d with
  | zero =>
    intro k i most hi hd hk hM
    obtain rfl : i = L.length := by omega
    exact holds_end L hS w limit x3 most hw hl hM k (by omega)
  | succ d ih =>
    intro k i most hi hd hk hM
    by_cases hlt : i < L.length
    · obtain ⟨k, rfl⟩ : ∃ q, k = q + 5 := ⟨k - 5, by omega⟩
      have hb := hS.bd _ (rd_mem hlt)
      generalize hs : rd L (i : Int) = s at hb
      have a0 : ax [s, s + 1, s + w - 1] 0 = s := rfl
      have a1 : ax [s, s + 1, s + w - 1] 1 = s + 1 := rfl
      have a2 : ax [s, s + 1, s + w - 1] 2 = s + w - 1 := rfl
      have w1 : wrap64 (0 + 1) = 1 := by unfold wrap64; omega
      have w2 : wrap64 (1 + 1) = 2 := by unfold wrap64; omega
      have w3 : wrap64 (2 + 1) = 3 := by unfold wrap64; omega
      have e1 : wrap64 (wrap64 (s + w) - 1) = s + w - 1 := by unfold wrap64; omega
      have e2 : wrap64 (s + 1) = s + 1 := by unfold wrap64; omega
      have c := fun t2 (h : 0 ≤ t2 ∧ t2 ≤ 5000) k (hk : 90 ≤ k) => Count_eq L hS.ok (by omega) w t2 (by omega) (by omega) k (by omega)
      simp only [sacristanlaw12_WindowHolds.l0, sacristanlaw12_WindowHolds.l1, hs, e1, e2, w1, w2, w3, a0, a1, a2]
      rw [c s (by omega) _ (by omega), c (s + 1) (by omega) _ (by omega), c (s + w - 1) (by omega) _ (by omega)]
      simp only [Option.bind_some]
      rw [if_pos (by omega), if_pos (by omega), if_pos (by omega), if_pos (by omega), if_pos trivial, if_pos (by omega), if_pos (by omega), if_pos trivial, if_pos (by omega), if_pos (by omega), if_pos trivial, if_neg (by omega), show wrap64 ((i : Int) + 1) = ((i + 1 : Nat) : Int) by unfold wrap64; omega]
      refine ih k (i + 1) _ (by omega) (by omega) (by omega) ?_
      have hmx : ∀ a b : Int, (mx a b = a ∨ mx a b = b) ∧ a ≤ mx a b ∧ b ≤ mx a b := fun a b => by unfold mx; split <;> omega
      have m1 := hmx most (cw w s L)
      have m2 := hmx (mx most (cw w s L)) (cw w (s + 1) L)
      have m3 := hmx (mx (mx most (cw w s L)) (cw w (s + 1) L)) (cw w (s + w - 1) L)
      have hle : ∀ t, cw w t L = 0 ∨ ∃ s ∈ L, cw w t L ≤ cw w s L := fun t => cw_max w t (by omega) L
      refine ⟨by have := hM.ge0; omega, fun j hj => ?_, ?_⟩
      · by_cases e : j = i
        · subst e; rw [hs]; omega
        · have := hM.all j (by omega); omega
      · rcases m3.1 with h | h
        · rw [h]
          rcases m2.1 with h | h
          · rw [h]
            rcases m1.1 with h | h
            · rw [h]; exact hM.le
            · rw [h]; exact hle _
          · rw [h]; exact hle _
        · rw [h]; exact hle _
    · obtain rfl : i = L.length := by omega
      exact holds_end L hS w limit x3 most hw hl hM k (by omega)
theorem WindowHolds : sacristanlaw12_WindowHolds.Pure := by
  intro l a1 a2 a3 hl _ _ _ _ _
  obtain ⟨L, hL, hS⟩ := starts_eq l (by have : maxLen ≤ 9223372036854775807 := by decide
                                        omega)
  have h40 := hS.len
  obtain ⟨w, e1, hw⟩ := mod_eq a1 200 (by omega) (by omega)
  obtain ⟨q, e2, hq⟩ := mod_eq a2 10 (by omega) (by omega)
  refine ⟨500, ?_⟩
  unfold sacristanlaw12_WindowHolds.f
  rw [hL 500 (by omega), e1, e2]
  simp only [Option.bind_some]
  rw [show wrap64 (q - 1) = q - 1 by unfold wrap64; omega, Within_eq L hS.ok (by omega) _ _ (by omega) (by omega) 500 (by omega)]
  simp only [Option.bind_some]
  rw [if_pos trivial]
  exact holds_l0 L hS w (q - 1) a3 hw (by omega) 40 500 0 0 (by omega) (by omega) (by omega) ⟨by omega, fun j hj => by omega, .inl rfl⟩
end Go.Proofs.Ytipbgeobgppagaa.Pure
