/- Plain laws of windows: what the printed functions are, on starts that are in order. -/
import Derived.Test.YtipbgeobgppagaaV2
namespace Go.Proofs.Ytipbgeobgppagaa.Pure
open Go.RowKit Go.Proofs.Ytipbgeobgppagaa.Ext Go.Proofs.Ytipbgeobgppagaa.V Go.Proofs.YtipbgeobgppagaaW.PrintWords Go.Proofs.YtipbgeobgppagaaW.PrintLast Go.Proofs.YtipbgeobgppagaaW.PrintMore
set_option linter.unusedVariables false
set_option linter.unusedSimpArgs false

/-- Starts that are valid. -/
def okL (l : List Int) : Prop := (∀ x ∈ l, 0 ≤ x ∧ x ≤ 1099511627776) ∧ l.Pairwise (· ≤ ·)
theorem rd_get {l : List Int} {i : Nat} (h : i < l.length) : rd l (i : Int) = l[i] := by simp [rd, h]
theorem rd_mem {l : List Int} {i : Nat} (h : i < l.length) : rd l (i : Int) ∈ l := by rw [rd_get h]; exact List.getElem_mem h
theorem okL.le {l : List Int} (h : okL l) {i j : Nat} (hij : i ≤ j) (hj : j < l.length) : rd l (i : Int) ≤ rd l (j : Int) := by
  rw [rd_get (by omega), rd_get hj]
  by_cases e : i = j
  · subst e; exact Int.le_refl _
  · exact List.pairwise_iff_getElem.1 h.2 i j (by omega) hj (by omega)
theorem okL.take {l : List Int} (h : okL l) (m : Nat) : okL (l.take m) := ⟨fun x hx => h.1 x (List.mem_of_mem_take hx), h.2.sublist (List.take_sublist _ _)⟩
theorem okL.drop {l : List Int} (h : okL l) (m : Nat) : okL (l.drop m) := ⟨fun x hx => h.1 x (List.mem_of_mem_drop hx), h.2.sublist (List.drop_sublist _ _)⟩

theorem check_l0 (l : List Int) (hok : okL l) (hlen : l.length ≤ 1000) (d : Nat) : ∀ (k i : Nat), i ≤ l.length → l.length - i ≤ d → 2 * d + 1 ≤ k → window_check.l0 k l l (l.length : Int) (i : Int) = some 0 := by
  induction d with
  | zero =>
    intro k i hi hd hk
    obtain ⟨k, rfl⟩ : ∃ q, k = q + 1 := ⟨k - 1, by omega⟩
    simp only [window_check.l0]
    rw [if_neg (by omega)]
  | succ d ih =>
    intro k i hi hd hk
    obtain ⟨k, rfl⟩ : ∃ q, k = q + 2 := ⟨k - 2, by omega⟩
    simp only [window_check.l0]
    by_cases hlt : i < l.length
    · have hb := hok.1 _ (rd_mem hlt)
      rw [if_pos (by omega), if_pos (by omega), if_pos (by omega), if_neg (by omega), show decide (rd l (i : Int) > 1099511627776) = false by simp; omega]
      simp only [window_check.j2]
      rw [if_neg (by decide), show wrap64 ((i : Int) + 1) = ((i + 1 : Nat) : Int) by unfold wrap64; omega]
      have hr := ih k (i + 1) (by omega) (by omega) (by omega)
      by_cases h0 : i = 0
      · subst h0
        rw [if_neg (by omega)]; exact hr
      · rw [if_pos (by omega), show wrap64 ((i : Int) - 1) = ((i - 1 : Nat) : Int) by unfold wrap64; omega, if_pos (by omega), if_pos (by omega), if_neg (by have := hok.le (i := i - 1) (j := i) (by omega) hlt; omega)]
        exact hr
    · rw [if_neg (by omega)]
theorem check_eq (l : List Int) (hok : okL l) (hlen : l.length ≤ 1000) (w : Int) (hw : 1 ≤ w ∧ w ≤ 1099511627776) (k : Nat) (hk : 2 * l.length + 2 ≤ k) : window_check.f k l w = some 0 := by
  obtain ⟨k, rfl⟩ : ∃ q, k = q + 1 := ⟨k - 1, by omega⟩
  unfold window_check.f
  rw [if_neg (by omega), show decide (w > 1099511627776) = false by simp; omega]
  simp only [window_check.j0]
  rw [if_neg (by decide)]
  exact check_l0 l hok hlen l.length k 0 (by omega) (by omega) (by omega)
theorem tick_eq (l : List Int) (hok : okL l) (hlen : l.length ≤ 1000) (w t : Int) (hw : 1 ≤ w ∧ w ≤ 1099511627776) (ht : 0 ≤ t ∧ t ≤ 1099511627776) (k : Nat) (hk : 2 * l.length + 2 ≤ k) : window_tick.f k l w t = some 0 := by
  unfold window_tick.f
  rw [check_eq l hok hlen w hw k hk, Option.bind_some, if_pos rfl, if_neg (by omega), if_neg (by omega)]

/-- How many starts there are up to a tick. -/
def cn (a : Int) (l : List Int) : Nat := l.countP (fun x => decide (x ≤ a))
theorem upTo_cn (a : Int) (l : List Int) (h : l.Pairwise (· ≤ ·)) : upTo a l = cn a l := by
  induction l with
  | nil => rfl
  | cons x xs ih =>
    obtain ⟨h1, h2⟩ := List.pairwise_cons.1 h
    simp only [upTo, cn, List.countP_cons]
    by_cases hx : x ≤ a
    · rw [if_pos hx, ih h2, if_pos (by simpa using hx)]; rfl
    · rw [if_neg hx, if_neg (by simpa using hx)]
      have : xs.countP (fun x => decide (x ≤ a)) = 0 := List.countP_eq_zero.2 (fun y hy => by have := h1 y hy; simp; omega)
      rw [this]
theorem cn_le (a : Int) (l : List Int) : cn a l ≤ l.length := List.countP_le_length
theorem cn_mono {a b : Int} (h : a ≤ b) (l : List Int) : cn a l ≤ cn b l := List.countP_mono_left (fun x _ hx => by simp at hx ⊢; omega)
theorem cn_append (a : Int) (l m : List Int) : cn a (l ++ m) = cn a l + cn a m := List.countP_append
theorem cn_one (a x : Int) : cn a [x] = if x ≤ a then 1 else 0 := by
  unfold cn; rw [List.countP_cons]; by_cases h : x ≤ a <;> simp [h]
theorem cn_map (a b : Int) (l : List Int) : cn (a + b) (l.map (· + b)) = cn a l := by
  unfold cn
  rw [List.countP_map]
  exact List.countP_congr (fun x _ => by simp)
/-- How many starts are in the interval that ends with a tick. -/
def cw (w t : Int) (l : List Int) : Int := (cn t l : Int) - (cn (t - w) l : Int)
theorem cw_nn {w t : Int} (hw : 0 ≤ w) (l : List Int) : 0 ≤ cw w t l := by have := cn_mono (a := t - w) (b := t) (by omega) l; unfold cw; omega
theorem cw_le (w t : Int) (l : List Int) : cw w t l ≤ l.length := by have := cn_le t l; unfold cw; omega
theorem count_eq (l : List Int) (hok : okL l) (hlen : l.length ≤ 1000) (w t : Int) (hw : -1099511627776 ≤ w ∧ w ≤ 1099511627776) (ht : 0 ≤ t ∧ t ≤ 1099511627776) : window_count.f l w t = some (cw w t l) := by
  unfold window_count.f
  simp only [window_first.f, Option.bind_some]
  rw [upTo_cn _ _ hok.2, upTo_cn _ _ hok.2, show wrap64 (t - w) = t - w by unfold wrap64; omega]
  have h1 := cn_le t l
  have h2 := cn_le (t - w) l
  unfold cw wrap64
  congr 1; omega
theorem Count_eq (l : List Int) (hok : okL l) (hlen : l.length ≤ 1000) (w t : Int) (hw : 1 ≤ w ∧ w ≤ 1099511627776) (ht : 0 ≤ t ∧ t ≤ 1099511627776) (k : Nat) (hk : 2 * l.length + 2 ≤ k) : window_Count.f k l w t = some (cw w t l, 0) := by
  unfold window_Count.f
  rw [tick_eq l hok hlen w t hw ht k hk, Option.bind_some, if_pos rfl, count_eq l hok hlen w t (by omega) ht]; rfl
/-- How many starts Keep leaves out. -/
def km (w t : Int) (l : List Int) : Nat := min (cn (t - w) l) (l.length - 1)
theorem Keep_eq (l : List Int) (hok : okL l) (hlen : l.length ≤ 1000) (w t : Int) (hw : 1 ≤ w ∧ w ≤ 1099511627776) (ht : 0 ≤ t ∧ t ≤ 1099511627776) (k : Nat) (hk : 2 * l.length + 2 ≤ k) : window_Keep.f k l w t = some (l.drop (km w t l), 0) := by
  unfold window_Keep.f
  rw [tick_eq l hok hlen w t hw ht k hk, Option.bind_some, if_pos rfl, if_pos (by omega), upTo_cn _ _ hok.2, show wrap64 (t - w) = t - w by unfold wrap64; omega]; rfl
theorem eqints_l0 (l m : List Int) (h : l.length = m.length) (hlen : l.length ≤ 1000) (b : Bool) (d : Nat) : ∀ (k i : Nat), i ≤ l.length → l.length - i ≤ d → d + 1 ≤ k → l = m → sacristankit_EqualInts.l0 k l m (i : Int) = some true := by
  induction d with
  | zero =>
    intro k i hi hd hk e
    obtain ⟨k, rfl⟩ : ∃ q, k = q + 1 := ⟨k - 1, by omega⟩
    simp only [sacristankit_EqualInts.l0]
    rw [if_neg (by omega)]
  | succ d ih =>
    intro k i hi hd hk e
    obtain ⟨k, rfl⟩ : ∃ q, k = q + 1 := ⟨k - 1, by omega⟩
    simp only [sacristankit_EqualInts.l0]
    by_cases hlt : i < l.length
    · rw [if_pos (by omega), if_pos (by omega), if_pos (by omega), if_pos (by rw [e]), show wrap64 ((i : Int) + 1) = ((i + 1 : Nat) : Int) by unfold wrap64; omega]
      exact ih k (i + 1) (by omega) (by omega) (by omega) e
    · rw [if_neg (by omega)]
theorem eqints_same (l : List Int) (hlen : l.length ≤ 1000) (k : Nat) (hk : l.length + 1 ≤ k) : sacristankit_EqualInts.f k l l = some true := by
  unfold sacristankit_EqualInts.f
  rw [if_pos rfl]
  exact eqints_l0 l l rfl hlen true l.length k 0 (by omega) (by omega) hk rfl
/-- Whether no start ends an interval with more than limit ones. -/
def wi (w limit : Int) (l : List Int) : Bool := l.all (fun s => decide (cw w s l ≤ limit))
theorem wi_iff (w limit : Int) (l : List Int) : wi w limit l = true ↔ ∀ s ∈ l, cw w s l ≤ limit := by simp [wi]
theorem within_l0 (l : List Int) (hok : okL l) (hlen : l.length ≤ 1000) (w limit : Int) (hw : 1 ≤ w ∧ w ≤ 1099511627776) (d : Nat) : ∀ (k i : Nat), i ≤ l.length → l.length - i ≤ d → d + 1 ≤ k → window_Within.l0 k l w limit l (l.length : Int) (i : Int) = some ((l.drop i).all (fun s => decide (cw w s l ≤ limit)), 0) := by
  induction d with
  | zero =>
    intro k i hi hd hk
    obtain ⟨k, rfl⟩ : ∃ q, k = q + 1 := ⟨k - 1, by omega⟩
    simp only [window_Within.l0]
    rw [if_neg (by omega), List.drop_eq_nil_of_le (by omega)]; rfl
  | succ d ih =>
    intro k i hi hd hk
    obtain ⟨k, rfl⟩ : ∃ q, k = q + 1 := ⟨k - 1, by omega⟩
    simp only [window_Within.l0]
    by_cases hlt : i < l.length
    · have hb := hok.1 _ (rd_mem hlt)
      rw [if_pos (by omega), if_pos (by omega), if_pos (by omega), count_eq l hok hlen w _ (by omega) hb, Option.bind_some, List.drop_eq_getElem_cons hlt, List.all_cons, ← rd_get hlt]
      by_cases hc : cw w (rd l (i : Int)) l > limit
      · rw [if_pos hc, show decide (cw w (rd l (i : Int)) l ≤ limit) = false by simp; omega]; rfl
      · rw [if_neg hc, show decide (cw w (rd l (i : Int)) l ≤ limit) = true by simp; omega, show wrap64 ((i : Int) + 1) = ((i + 1 : Nat) : Int) by unfold wrap64; omega, Bool.true_and]
        exact ih k (i + 1) (by omega) (by omega) (by omega)
    · rw [if_neg (by omega), List.drop_eq_nil_of_le (by omega)]; rfl
theorem Within_eq (l : List Int) (hok : okL l) (hlen : l.length ≤ 1000) (w limit : Int) (hw : 1 ≤ w ∧ w ≤ 1099511627776) (hl : 0 ≤ limit) (k : Nat) (hk : 2 * l.length + 2 ≤ k) : window_Within.f k l w limit = some (wi w limit l, 0) := by
  unfold window_Within.f
  rw [check_eq l hok hlen w hw k hk, Option.bind_some, if_pos rfl, if_neg (by omega)]
  exact within_l0 l hok hlen w limit hw l.length k 0 (by omega) (by omega) (by omega)
theorem red (a M : Int) (h0 : 0 < M) (h1 : M ≤ 2199023255552) : 0 ≤ Int.tmod (wrap64 ((Int.tmod a M) + M)) M ∧ Int.tmod (wrap64 ((Int.tmod a M) + M)) M < M := by
  have h2 := Int.tmod_lt_of_pos a h0
  have h3 := Int.lt_tmod_of_pos a h0
  rw [show wrap64 (Int.tmod a M + M) = Int.tmod a M + M by unfold wrap64; omega]
  exact ⟨Int.tmod_nonneg _ (by omega), Int.tmod_lt_of_pos _ h0⟩
/-- Starts that the statements make. -/
structure StL (L : List Int) : Prop where
  ok : okL L
  len : L.length ≤ 40
  bd : ∀ x ∈ L, 0 ≤ x ∧ x ≤ 4000
theorem starts_l0 (l : List Int) (hl : l.length ≤ 9223372036854775807) (d : Nat) : ∀ (i : Nat) (acc : List Int) (at_ : Int), i ≤ 40 → 40 - i ≤ d → acc.length = i → acc.Pairwise (· ≤ ·) → (∀ x ∈ acc, 0 ≤ x ∧ x ≤ at_) → 0 ≤ at_ → at_ ≤ 1000 + 60 * i → (i = 0 → at_ = 0) →
    ∃ L, (∀ k, 2 * d + 2 ≤ k → sacristanlaw12_Starts.l0 k l acc at_ (i : Int) = some L) ∧ StL L := by
  induction d with
  | zero =>
    intro i acc at_ hi hd hai hp hx h0 hat hz0
    refine ⟨acc, fun k hk => ?_, ⟨⟨fun x h => by have := hx x h; omega, hp⟩, by omega, fun x h => by have := hx x h; omega⟩⟩
    obtain ⟨k, rfl⟩ : ∃ q, k = q + 2 := ⟨k - 2, by omega⟩
    simp only [sacristanlaw12_Starts.l0]
    rw [show decide ((i : Int) < 40) = false by simp; omega]
    split <;> (simp only [sacristanlaw12_Starts.j1]; rw [if_neg (by decide)])
  | succ d ih =>
    intro i acc at_ hi hd hai hp hx h0 hat hz0
    by_cases hlt : i < l.length ∧ i < 40
    · obtain ⟨hlt, h40⟩ := hlt
      have hr1 := red (rd l (i : Int)) 1000 (by omega) (by omega)
      have hr2 := red (rd l (i : Int)) 60 (by omega) (by omega)
      obtain ⟨g, hg0, hg1, hg⟩ : ∃ g : Int, 0 ≤ g ∧ (i = 0 ∧ g < 1000 ∨ g < 60) ∧ g = (if i = 0 then Int.tmod (wrap64 ((Int.tmod (rd l (i : Int)) 1000) + 1000)) 1000 else Int.tmod (wrap64 ((Int.tmod (rd l (i : Int)) 60) + 60)) 60) := by
        refine ⟨_, ?_, ?_, rfl⟩
        · split <;> omega
        · split <;> omega
      have hat2 : at_ + g ≤ 1000 + 60 * ((i + 1 : Nat) : Int) := by
        rcases hg1 with ⟨e, h⟩ | h
        · have : at_ = 0 := by first | omega | exact hz0 e
          omega
        · omega
      obtain ⟨L, hL, hS⟩ := ih (i + 1) (acc ++ [at_ + g]) (at_ + g) (by omega) (by omega) (by simp; omega)
        (List.pairwise_append.2 ⟨hp, List.pairwise_singleton _ _, fun x hx1 y hy => by rw [List.mem_singleton.1 hy]; have := (hx x hx1).2; omega⟩)
        (fun x h => by rcases List.mem_append.1 h with h | h; (have := hx x h; omega); (rw [List.mem_singleton.1 h]; omega)) (by omega) hat2 (by omega)
      refine ⟨L, fun k hk => ?_, hS⟩
      obtain ⟨k, rfl⟩ : ∃ q, k = q + 2 := ⟨k - 2, by omega⟩
      simp only [sacristanlaw12_Starts.l0]
      rw [if_pos (by omega), show decide ((i : Int) < 40) = true by simp; omega]
      simp only [sacristanlaw12_Starts.j1]
      rw [if_pos trivial, show wrap64 ((i : Int) + 1) = ((i + 1 : Nat) : Int) by unfold wrap64; omega]
      by_cases hz : i = 0
      · rw [if_pos hz] at hg
        rw [if_pos (by omega), if_pos (by omega), if_pos (by omega), if_pos (by omega), ← hg, show wrap64 (at_ + g) = at_ + g by unfold wrap64; omega]
        exact hL k (by omega)
      · rw [if_neg hz] at hg
        rw [if_neg (by omega), if_pos (by omega), if_pos (by omega), if_pos (by omega), ← hg, show wrap64 (at_ + g) = at_ + g by unfold wrap64; omega]
        exact hL k (by omega)
    · refine ⟨acc, fun k hk => ?_, ⟨⟨fun x h => by have := hx x h; omega, hp⟩, by omega, fun x h => by have := hx x h; omega⟩⟩
      obtain ⟨k, rfl⟩ : ∃ q, k = q + 2 := ⟨k - 2, by omega⟩
      simp only [sacristanlaw12_Starts.l0]
      split
      · rw [show decide ((i : Int) < 40) = false by simp; omega]
        simp only [sacristanlaw12_Starts.j1]; rw [if_neg (by decide)]
      · simp only [sacristanlaw12_Starts.j1]; rw [if_neg (by decide)]
theorem starts_eq (l : List Int) (hl : l.length ≤ 9223372036854775807) : ∃ L, (∀ k, 82 ≤ k → sacristanlaw12_Starts.f k l = some L) ∧ StL L :=
  starts_l0 l hl 40 0 [] 0 (by omega) (by omega) rfl List.Pairwise.nil (fun x h => by simp at h) (by omega) (by omega) (fun _ => rfl)
theorem mod_eq (a m : Int) (h : 0 < m) (hm : m ≤ 2199023255551) : ∃ r, sacristanlaw12_mod.f a m = some r ∧ 1 ≤ r ∧ r ≤ m := by
  have hr := red a m h (by omega)
  refine ⟨Int.tmod (wrap64 ((Int.tmod a m) + m)) m + 1, ?_, by omega, by omega⟩
  unfold sacristanlaw12_mod.f
  rw [if_neg (by omega)]
  generalize Int.tmod (wrap64 ((Int.tmod a m) + m)) m = r at *
  rw [show wrap64 (r + 1) = r + 1 by unfold wrap64; omega]
theorem awake_eq (k : Nat) (hk : 30 ≤ k) : sacristanlaw12_awake.f k = some true :=
  at_rounds (g := fun k => sacristanlaw12_awake.f k) (fun _ => sacristanlaw12_awake.mono _) hk (show sacristanlaw12_awake.f 30 = some true by decide +kernel)
end Go.Proofs.Ytipbgeobgppagaa.Pure
