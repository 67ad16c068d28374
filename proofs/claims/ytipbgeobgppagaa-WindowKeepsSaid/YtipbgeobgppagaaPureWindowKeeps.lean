/- The plain law of WindowKeeps. -/
import Derived.Test.YtipbgeobgppagaaPWin
import Derived.Test.YtipbgeobgppagaaV3
namespace Go.Proofs.Ytipbgeobgppagaa.Pure
open Go.RowKit Go.Proofs.Ytipbgeobgppagaa.Ext Go.Proofs.Ytipbgeobgppagaa.V Go.Proofs.YtipbgeobgppagaaW.PrintWords Go.Proofs.YtipbgeobgppagaaW.PrintLast Go.Proofs.YtipbgeobgppagaaW.PrintMore
set_option linter.unusedVariables false
set_option linter.unusedSimpArgs false

/-- In starts that are in order, the first ones are those up to a tick. -/
theorem cn_take {a : Int} {l : List Int} (h : l.Pairwise (· ≤ ·)) {m : Nat} (hm : m ≤ cn a l) : ∀ x ∈ l.take m, x ≤ a := by
  induction l generalizing m with
  | nil => intro x hx; simp at hx
  | cons y ys ih =>
    obtain ⟨h1, h2⟩ := List.pairwise_cons.1 h
    intro x hx
    cases m with
    | zero => simp at hx
    | succ m =>
      by_cases hy : y ≤ a
      · have hm' : m ≤ cn a ys := by
          have e : cn a (y :: ys) = cn a ys + 1 := by unfold cn; rw [List.countP_cons, if_pos (by simpa using hy)]
          omega
        rw [List.take_succ_cons] at hx
        rcases List.mem_cons.1 hx with rfl | hx
        · exact hy
        · exact ih h2 hm' x hx
      · have e : cn a (y :: ys) = 0 := by
          refine List.countP_eq_zero.2 (fun z hz => ?_)
          rcases List.mem_cons.1 hz with rfl | hz
          · simpa using hy
          · have := h1 z hz; simp; omega
        omega
theorem cn_drop {a : Int} {l : List Int} (h : l.Pairwise (· ≤ ·)) {m : Nat} (hm : cn a l ≤ m) : ∀ x ∈ l.drop m, a < x := by
  induction l generalizing m with
  | nil => intro x hx; simp at hx
  | cons y ys ih =>
    obtain ⟨h1, h2⟩ := List.pairwise_cons.1 h
    intro x hx
    by_cases hy : y ≤ a
    · have e : cn a (y :: ys) = cn a ys + 1 := by unfold cn; rw [List.countP_cons, if_pos (by simpa using hy)]
      obtain ⟨m, rfl⟩ : ∃ q, m = q + 1 := ⟨m - 1, by omega⟩
      rw [List.drop_succ_cons] at hx
      exact ih h2 (by omega) x hx
    · have hx' := List.mem_of_mem_drop hx
      rcases List.mem_cons.1 hx' with rfl | hx'
      · omega
      · have := h1 x hx'; omega
theorem cn_all {a : Int} {l : List Int} (h : ∀ x ∈ l, x ≤ a) : cn a l = l.length := List.countP_eq_length.2 (fun x hx => by have := h x hx; simp; omega)
/-- What was left out does not count any more. -/
theorem cw_keep {w t t2 : Int} {l : List Int} (h : l.Pairwise (· ≤ ·)) (hw : 0 ≤ w) (ht : t ≤ t2) {m : Nat} (hm : m ≤ cn (t - w) l) : cw w t2 (l.drop m) = cw w t2 l := by
  have hx := cn_take h hm
  have e : ∀ b, t - w ≤ b → cn b l = (l.take m).length + cn b (l.drop m) := fun b hb => by
    conv => lhs; rw [← List.take_append_drop m l]
    rw [cn_append, cn_all (a := b) (fun x h => by have := hx x h; omega)]
  unfold cw
  rw [e t2 (by omega), e (t2 - w) (by omega)]
  omega
theorem keeps_l1 (L : List Int) (hS : StL L) (w t p : Int) (hw : 1 ≤ w ∧ w ≤ 200) (ht : 0 ≤ t ∧ t ≤ 3000) (hp : 1 ≤ p ∧ p ≤ 500) (m : Nat) (hm : m ≤ cn (t - w) L) (k : Nat) (hk : 100 ≤ k) :
    sacristanlaw12_WindowKeeps.l1 k w L (L.drop m) 0 (t + p) (t + 1) t = some true := by
  obtain ⟨k, rfl⟩ : ∃ q, k = q + 4 := ⟨k - 4, by omega⟩
  have h40 := hS.len
  have hd : (L.drop m).length ≤ 40 := by rw [List.length_drop]; omega
  have a0 : ax [t, t + 1, t + p] 0 = t := rfl
  have a1 : ax [t, t + 1, t + p] 1 = t + 1 := rfl
  have a2 : ax [t, t + 1, t + p] 2 = t + p := rfl
  have w1 : wrap64 (0 + 1) = 1 := by unfold wrap64; omega
  have w2 : wrap64 (1 + 1) = 2 := by unfold wrap64; omega
  have w3 : wrap64 (2 + 1) = 3 := by unfold wrap64; omega
  simp only [sacristanlaw12_WindowKeeps.l1, w1, w2, w3, a0, a1, a2]
  have c := fun t2 (h : t ≤ t2 ∧ t2 ≤ 4000) k (hk : 90 ≤ k) => Count_eq L hS.ok (by omega) w t2 (by omega) (by omega) k (by omega)
  have c' := fun t2 (h : t ≤ t2 ∧ t2 ≤ 4000) k (hk : 90 ≤ k) => Count_eq (L.drop m) (hS.ok.drop m) (by omega) w t2 (by omega) (by omega) k (by omega)
  rw [c t (by omega) _ (by omega), c (t + 1) (by omega) _ (by omega), c (t + p) (by omega) _ (by omega), c' t (by omega) _ (by omega), c' (t + 1) (by omega) _ (by omega), c' (t + p) (by omega) _ (by omega)]
  simp only [Option.bind_some]
  rw [cw_keep hS.ok.2 (by omega) (Int.le_refl t) hm, cw_keep hS.ok.2 (by omega) (show t ≤ t + 1 by omega) hm, cw_keep hS.ok.2 (by omega) (show t ≤ t + p by omega) hm, awake_eq k (by omega)]
  simp
theorem keeps_l0 (L : List Int) (hS : StL L) (w t x3 : Int) (hw : 1 ≤ w ∧ w ≤ 200) (ht : 0 ≤ t ∧ t ≤ 3000) (d : Nat) : ∀ (k i : Nat), i ≤ (L.drop (km w t L)).length → (L.drop (km w t L)).length - i ≤ d → d + 200 ≤ k →
    sacristanlaw12_WindowKeeps.l0 k w t x3 L (L.drop (km w t L)) (i : Int) = some true := by
  have h40 := hS.len
  have hd : (L.drop (km w t L)).length = L.length - km w t L := List.length_drop ..
  induction d with
  | zero =>
    intro k i hi hk1 hk
    obtain ⟨k, rfl⟩ : ∃ q, k = q + 1 := ⟨k - 1, by omega⟩
    obtain ⟨p, e1, hp⟩ := mod_eq x3 500 (by omega) (by omega)
    simp only [sacristanlaw12_WindowKeeps.l0]
    rw [show wrap64 ((i : Int) + 1) = ((i + 1 : Nat) : Int) by unfold wrap64; omega, if_neg (by omega), e1, Option.bind_some, show wrap64 (t + p) = t + p by unfold wrap64; omega, show wrap64 (t + 1) = t + 1 by unfold wrap64; omega]
    exact keeps_l1 L hS w t p hw ht hp _ (by unfold km; omega) k (by omega)
  | succ d ih =>
    intro k i hi hk1 hk
    obtain ⟨k, rfl⟩ : ∃ q, k = q + 1 := ⟨k - 1, by omega⟩
    by_cases hlt : i + 1 < (L.drop (km w t L)).length
    · simp only [sacristanlaw12_WindowKeeps.l0]
      have hmem := rd_mem (l := L.drop (km w t L)) (i := i) (by omega)
      have hkm : cn (t - w) L ≤ km w t L := by unfold km at hd hlt ⊢; omega
      have hgt := cn_drop hS.ok.2 hkm _ hmem
      rw [show wrap64 ((i : Int) + 1) = ((i + 1 : Nat) : Int) by unfold wrap64; omega, if_pos (by omega), if_pos (by omega), if_pos (by omega), show wrap64 (t - w) = t - w by unfold wrap64; omega, if_neg (by omega)]
      exact ih k (i + 1) (by omega) (by omega) (by omega)
    · obtain ⟨p, e1, hp⟩ := mod_eq x3 500 (by omega) (by omega)
      simp only [sacristanlaw12_WindowKeeps.l0]
      rw [show wrap64 ((i : Int) + 1) = ((i + 1 : Nat) : Int) by unfold wrap64; omega, if_neg (by omega), e1, Option.bind_some, show wrap64 (t + p) = t + p by unfold wrap64; omega, show wrap64 (t + 1) = t + 1 by unfold wrap64; omega]
      exact keeps_l1 L hS w t p hw ht hp _ (by unfold km; omega) k (by omega)
theorem WindowKeeps : sacristanlaw12_WindowKeeps.Pure := by
  intro l a1 a2 a3 hl _ _ _ _ _
  obtain ⟨L, hL, hS⟩ := starts_eq l (by have : maxLen ≤ 9223372036854775807 := by decide
                                        omega)
  have h40 := hS.len
  obtain ⟨w, e1, hw⟩ := mod_eq a1 200 (by omega) (by omega)
  obtain ⟨q, e2, hq⟩ := mod_eq a2 3001 (by omega) (by omega)
  refine ⟨400, ?_⟩
  unfold sacristanlaw12_WindowKeeps.f
  rw [hL 400 (by omega), e1, e2]
  simp only [Option.bind_some]
  rw [show wrap64 (q - 1) = q - 1 by unfold wrap64; omega, Keep_eq L hS.ok (by omega) _ _ (by omega) (by omega) 400 (by omega)]
  simp only [Option.bind_some]
  have hkl : km w (q - 1) L ≤ L.length := by have := cn_le (q - 1 - w) L; unfold km; omega
  have hdl : (L.drop (km w (q - 1) L)).length = L.length - km w (q - 1) L := List.length_drop ..
  rw [if_pos trivial, show decide (((L.drop (km w (q - 1) L)).length : Int) > (L.length : Int)) = false by simp]
  have hfin := keeps_l0 L hS w (q - 1) a3 hw (by omega) 40 398 0 (by omega) (by omega) (by omega)
  have heq : L.drop ((L.length : Int) - ((L.length - km w (q - 1) L : Nat) : Int)).toNat = L.drop (km w (q - 1) L) := by
    congr 1; omega
  simp only [sacristanlaw12_WindowKeeps.j0]
  rw [if_neg (by decide), hdl]
  rw [show wrap64 ((L.length : Int) - ((L.length - km w (q - 1) L : Nat) : Int)) = (L.length : Int) - ((L.length - km w (q - 1) L : Nat) : Int) by unfold wrap64; omega, heq]
  rw [eqints_same _ (by omega) _ (by omega)]
  simp only [Option.bind_some, Bool.not_true]
  have hj1 : sacristanlaw12_WindowKeeps.j1 399 w (q - 1) a3 L (L.drop (km w (q - 1) L)) false = some true := by
    simp only [sacristanlaw12_WindowKeeps.j1]
    rw [if_neg (by decide)]; exact hfin
  by_cases h0 : L.length = 0
  · rw [if_neg (by omega), if_pos (by omega), if_pos (by omega)]
    exact hj1
  · have hk1 : km w (q - 1) L ≤ L.length - 1 := by unfold km; omega
    rw [if_pos (by omega), if_neg (by omega), show wrap64 (((L.length - km w (q - 1) L : Nat) : Int) - 1) = ((L.length - km w (q - 1) L - 1 : Nat) : Int) by unfold wrap64; omega, show wrap64 ((L.length : Int) - 1) = ((L.length - 1 : Nat) : Int) by unfold wrap64; omega]
    rw [if_pos (by omega), if_pos (by omega), if_pos (by omega), if_pos (by omega)]
    rw [if_pos (by
      rw [rd_get (by omega), rd_get (by omega), List.getElem_drop]
      congr 1; omega)]
    rw [if_pos (by omega), if_pos (by omega)]
    exact hj1
end Go.Proofs.Ytipbgeobgppagaa.Pure
