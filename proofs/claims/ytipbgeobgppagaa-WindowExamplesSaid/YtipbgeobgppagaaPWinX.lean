/- Plain laws of windows, of any starts: what the program's printed functions are, and the reference's. -/
import Derived.Test.YtipbgeobgppagaaPWin
import Derived.Test.YtipbgeobgppagaaV6
namespace Go.Proofs.Ytipbgeobgppagaa.Pure
open Go.RowKit Go.Proofs.Ytipbgeobgppagaa.Ext Go.Proofs.Ytipbgeobgppagaa.V Go.Proofs.YtipbgeobgppagaaW.PrintWords Go.Proofs.YtipbgeobgppagaaW.PrintLast Go.Proofs.YtipbgeobgppagaaW.PrintMore
set_option linter.unusedVariables false
set_option linter.unusedSimpArgs false

/-- The error of starts, behind the start p. -/
def eL : Option Int → List Int → Int
  | _, [] => 0
  | none, x :: xs => if x < 0 ∨ 1099511627776 < x then 3 else eL (some x) xs
  | some q, x :: xs => if x < 0 ∨ 1099511627776 < x then 3 else if x < q then 13 else eL (some x) xs
def pI (l : List Int) (i : Nat) : Option Int := if i = 0 then none else some (rd l ((i - 1 : Nat) : Int))
theorem eL_step (l : List Int) (i : Nat) (h : i < l.length) : eL (pI l i) (l.drop i) = if rd l (i : Int) < 0 ∨ 1099511627776 < rd l (i : Int) then 3 else if 0 < i ∧ rd l (i : Int) < rd l ((i - 1 : Nat) : Int) then 13 else eL (pI l (i + 1)) (l.drop (i + 1)) := by
  rw [List.drop_eq_getElem_cons h, ← rd_get h]
  have e : pI l (i + 1) = some (rd l (i : Int)) := by simp [pI]
  rw [e]
  by_cases h0 : i = 0
  · subst h0
    simp [pI, eL]
  · have e2 : pI l i = some (rd l ((i - 1 : Nat) : Int)) := by simp [pI, h0]
    rw [e2]
    simp only [eL]
    by_cases h1 : rd l (i : Int) < 0 ∨ 1099511627776 < rd l (i : Int)
    · rw [if_pos h1, if_pos h1]
    · rw [if_neg h1, if_neg h1]
      by_cases h2 : rd l (i : Int) < rd l ((i - 1 : Nat) : Int)
      · rw [if_pos h2, if_pos ⟨by omega, h2⟩]
      · rw [if_neg h2, if_neg (fun q => h2 q.2)]
theorem eL_end (l : List Int) (i : Nat) (h : l.length ≤ i) : eL (pI l i) (l.drop i) = 0 := by
  rw [List.drop_eq_nil_of_le h]; cases pI l i <;> rfl
theorem eL_ok : ∀ (l : List Int) (p : Option Int), eL p l = 0 → (∀ x ∈ l, 0 ≤ x ∧ x ≤ 1099511627776) ∧ l.Pairwise (· ≤ ·) ∧ (∀ q, p = some q → ∀ x ∈ l, q ≤ x)
  | [], _, _ => ⟨by simp, List.Pairwise.nil, by simp⟩
  | x :: xs, p, h => by
    have hx : ¬ (x < 0 ∨ 1099511627776 < x) := by
      intro h1; cases p <;> simp only [eL, if_pos h1] at h <;> omega
    have hp : ∀ q, p = some q → q ≤ x := by
      intro q e; subst e
      simp only [eL, if_neg hx] at h
      by_cases h2 : x < q
      · rw [if_pos h2] at h; omega
      · omega
    have hr : eL (some x) xs = 0 := by
      cases p with
      | none => simpa only [eL, if_neg hx] using h
      | some q => have := hp q rfl; simpa only [eL, if_neg hx, if_neg (show ¬ x < q by omega)] using h
    obtain ⟨i1, i2, i3⟩ := eL_ok xs (some x) hr
    have i4 := i3 x rfl
    refine ⟨?_, List.pairwise_cons.2 ⟨i4, i2⟩, ?_⟩
    · intro y hy
      rcases List.mem_cons.1 hy with rfl | hy
      · omega
      · exact i1 y hy
    · intro q e y hy
      have := hp q e
      rcases List.mem_cons.1 hy with rfl | hy
      · exact this
      · exact Int.le_trans this (i4 y hy)
def errL (l : List Int) : Int := eL none l
theorem errL_ok {l : List Int} (h : errL l = 0) : okL l := ⟨(eL_ok l none h).1, (eL_ok l none h).2.1⟩

theorem check_any (l : List Int) (hlen : l.length ≤ 1000) (d : Nat) : ∀ (k i : Nat), i ≤ l.length → l.length - i ≤ d → 2 * d + 1 ≤ k → window_check.l0 k l l (l.length : Int) (i : Int) = some (eL (pI l i) (l.drop i)) := by
  induction d with
  | zero =>
    intro k i hi hd hk
    obtain ⟨k, rfl⟩ : ∃ q, k = q + 1 := ⟨k - 1, by omega⟩
    simp only [window_check.l0]
    rw [if_neg (by omega), eL_end l i (by omega)]
  | succ d ih =>
    intro k i hi hd hk
    obtain ⟨k, rfl⟩ : ∃ q, k = q + 2 := ⟨k - 2, by omega⟩
    simp only [window_check.l0]
    by_cases hlt : i < l.length
    · rw [if_pos (by omega), if_pos (by omega), if_pos (by omega), eL_step l i hlt]
      have hr := ih k (i + 1) (by omega) (by omega) (by omega)
      have hw : wrap64 ((i : Int) + 1) = ((i + 1 : Nat) : Int) := by unfold wrap64; omega
      by_cases h1 : rd l (i : Int) < 0
      · rw [if_pos h1, if_pos (Or.inl h1)]
        simp only [window_check.j2]
        rw [if_pos trivial]
      · rw [if_neg h1]
        simp only [window_check.j2]
        by_cases h2 : 1099511627776 < rd l (i : Int)
        · rw [if_pos (by simpa using h2), if_pos (Or.inr h2)]
        · rw [if_neg (by simpa using h2), if_neg (show ¬ (rd l (i : Int) < 0 ∨ 1099511627776 < rd l (i : Int)) by omega), hw]
          by_cases h0 : i = 0
          · subst h0
            rw [if_neg (by omega), if_neg (by omega)]; exact hr
          · have hw2 : wrap64 ((i : Int) - 1) = ((i - 1 : Nat) : Int) := by unfold wrap64; omega
            rw [if_pos (by omega), hw2, if_pos (by omega), if_pos (by omega)]
            by_cases h3 : rd l (i : Int) < rd l ((i - 1 : Nat) : Int)
            · rw [if_pos h3, if_pos ⟨by omega, h3⟩]
            · rw [if_neg h3, if_neg (fun q => h3 q.2)]; exact hr
    · rw [if_neg (by omega), eL_end l i (by omega)]
theorem starts_any (l : List Int) (hlen : l.length ≤ 1000) (d : Nat) : ∀ (k i : Nat), i ≤ l.length → l.length - i ≤ d → d + 1 ≤ k → sacristanref12_Starts.l0 k l (i : Int) = some (eL (pI l i) (l.drop i)) := by
  induction d with
  | zero =>
    intro k i hi hd hk
    obtain ⟨k, rfl⟩ : ∃ q, k = q + 1 := ⟨k - 1, by omega⟩
    simp only [sacristanref12_Starts.l0]
    rw [if_neg (by omega), eL_end l i (by omega)]
  | succ d ih =>
    intro k i hi hd hk
    obtain ⟨k, rfl⟩ : ∃ q, k = q + 1 := ⟨k - 1, by omega⟩
    simp only [sacristanref12_Starts.l0]
    by_cases hlt : i < l.length
    · rw [if_pos (by omega), if_pos (by omega), eL_step l i hlt]
      have hr := ih k (i + 1) (by omega) (by omega) (by omega)
      have hw : wrap64 ((i : Int) + 1) = ((i + 1 : Nat) : Int) := by unfold wrap64; omega
      unfold sacristanref12_tick.f
      by_cases h1 : rd l (i : Int) ≥ 0
      · rw [if_pos h1, Option.bind_some]
        by_cases h2 : rd l (i : Int) ≤ 1099511627776
        · rw [if_pos (by simpa using h2), if_neg (show ¬ (rd l (i : Int) < 0 ∨ 1099511627776 < rd l (i : Int)) by omega), hw]
          by_cases h0 : i = 0
          · subst h0
            rw [if_neg (by omega), if_neg (by omega)]; exact hr
          · have hw2 : wrap64 ((i : Int) - 1) = ((i - 1 : Nat) : Int) := by unfold wrap64; omega
            rw [if_pos (by omega), hw2, if_pos (by omega), if_pos (by omega)]
            by_cases h3 : rd l (i : Int) < rd l ((i - 1 : Nat) : Int)
            · rw [if_pos h3, if_pos ⟨by omega, h3⟩]
            · rw [if_neg h3, if_neg (fun q => h3 q.2)]; exact hr
        · rw [if_neg (by simpa using h2), if_pos (Or.inr (by omega))]
      · rw [if_neg h1, Option.bind_some, if_neg (by simp), if_pos (Or.inl (by omega))]
    · rw [if_neg (by omega), eL_end l i (by omega)]
/-- The error that all functions have. -/
def errW (l : List Int) (w : Int) : Int := if w < 1 ∨ 1099511627776 < w then 3 else errL l
theorem wcheck_any (l : List Int) (hlen : l.length ≤ 1000) (w : Int) (k : Nat) (hk : 2 * l.length + 2 ≤ k) : window_check.f k l w = some (errW l w) := by
  obtain ⟨k, rfl⟩ : ∃ q, k = q + 1 := ⟨k - 1, by omega⟩
  unfold window_check.f errW
  by_cases h1 : w < 1
  · rw [if_pos h1, if_pos (Or.inl h1)]
    simp only [window_check.j0]
    rw [if_pos trivial]
  · rw [if_neg h1]
    simp only [window_check.j0]
    by_cases h2 : 1099511627776 < w
    · rw [if_pos (by simpa using h2), if_pos (Or.inr h2)]
    · rw [if_neg (by simpa using h2), if_neg (by omega)]
      exact check_any l hlen l.length k 0 (by omega) (by omega) (by omega)
theorem rcheck_any (l : List Int) (hlen : l.length ≤ 1000) (w : Int) (k : Nat) (hk : l.length + 1 ≤ k) : sacristanref12_check.f k l w = some (errW l w) := by
  unfold sacristanref12_check.f errW sacristanref12_Starts.f
  by_cases h1 : w < 1
  · rw [if_pos h1, if_pos (Or.inl h1)]
  · rw [if_neg h1]
    by_cases h2 : 1099511627776 < w
    · rw [if_pos (by omega), if_pos (Or.inr h2)]
    · rw [if_neg (by omega), if_neg (by omega)]
      have := starts_any l hlen l.length k 0 (by omega) (by omega) hk
      rw [show sacristanref12_Starts.l0 k l 0 = some (errL l) from this, Option.bind_some]
theorem errW_ok {l : List Int} {w : Int} (h : errW l w = 0) : okL l ∧ 1 ≤ w ∧ w ≤ 1099511627776 := by
  unfold errW at h
  by_cases h1 : w < 1 ∨ 1099511627776 < w
  · rw [if_pos h1] at h; omega
  · rw [if_neg h1] at h; exact ⟨errL_ok h, by omega⟩
/-- What the functions with a tick answer: their error. -/
def errT (l : List Int) (w t : Int) : Int := if errW l w = 0 then (if t < 0 ∨ 1099511627776 < t then 3 else 0) else errW l w
theorem wtick_any (l : List Int) (hlen : l.length ≤ 1000) (w t : Int) (k : Nat) (hk : 2 * l.length + 2 ≤ k) : window_tick.f k l w t = some (errT l w t) := by
  unfold window_tick.f errT
  rw [wcheck_any l hlen w k hk, Option.bind_some]
  by_cases h : errW l w = 0
  · rw [if_pos h, if_pos h]
    by_cases h1 : t < 0
    · rw [if_pos h1, if_pos (Or.inl h1)]
    · rw [if_neg h1]
      by_cases h2 : 1099511627776 < t
      · rw [if_pos (by omega), if_pos (Or.inr h2)]
      · rw [if_neg (by omega), if_neg (by omega)]
  · rw [if_neg h, if_neg h]
theorem errT_ok {l : List Int} {w t : Int} (h : errT l w t = 0) : okL l ∧ (1 ≤ w ∧ w ≤ 1099511627776) ∧ (0 ≤ t ∧ t ≤ 1099511627776) := by
  unfold errT at h
  by_cases h1 : errW l w = 0
  · rw [if_pos h1] at h
    by_cases h2 : t < 0 ∨ 1099511627776 < t
    · rw [if_pos h2] at h; omega
    · exact ⟨(errW_ok h1).1, (errW_ok h1).2, by omega⟩
  · rw [if_neg h1] at h; exact absurd h h1
def cS (l : List Int) (w t : Int) : Int × Int := if errT l w t = 0 then (cw w t l, 0) else (0, errT l w t)
theorem wCount_any (l : List Int) (hlen : l.length ≤ 1000) (w t : Int) (k : Nat) (hk : 2 * l.length + 2 ≤ k) : window_Count.f k l w t = some (cS l w t) := by
  unfold cS
  by_cases h : errT l w t = 0
  · rw [if_pos h]
    obtain ⟨h1, h2, h3⟩ := errT_ok h
    exact Count_eq l h1 hlen w t h2 h3 k hk
  · rw [if_neg h]
    unfold window_Count.f
    rw [wtick_any l hlen w t k hk, Option.bind_some, if_neg h]
theorem cP (w t : Int) (hw : 0 ≤ w) (l : List Int) : (l.countP (fun x => decide (t - w < x ∧ x ≤ t)) : Int) = cw w t l := by
  induction l with
  | nil => rfl
  | cons x xs ih =>
    unfold cw cn at *
    rw [List.countP_cons, List.countP_cons, List.countP_cons]
    by_cases h1 : x ≤ t <;> by_cases h2 : x ≤ t - w
    · rw [if_neg (by simp; omega), if_pos (by simpa using h1), if_pos (by simpa using h2)]; omega
    · rw [if_pos (by simp; omega), if_pos (by simpa using h1), if_neg (by simpa using h2)]; omega
    · omega
    · rw [if_neg (by simp; omega), if_neg (by simpa using h1), if_neg (by simpa using h2)]; omega
theorem rcount_l0 (l : List Int) (hlen : l.length ≤ 1000) (w t : Int) (hw : 1 ≤ w ∧ w ≤ 1099511627776) (ht : 0 ≤ t ∧ t ≤ 1099511627776) (d : Nat) : ∀ (k i n : Nat), i ≤ l.length → n ≤ i → l.length - i ≤ d → d + 1 ≤ k →
    sacristanref12_Count.l0 k l w t (n : Int) (i : Int) = some (((n + (l.drop i).countP (fun x => decide (t - w < x ∧ x ≤ t)) : Nat) : Int), 0) := by
  have hwr : wrap64 (t - w) = t - w := by unfold wrap64; omega
  induction d with
  | zero =>
    intro k i n hi hn hd hk
    obtain ⟨k, rfl⟩ : ∃ q, k = q + 1 := ⟨k - 1, by omega⟩
    simp only [sacristanref12_Count.l0]
    rw [if_neg (by omega), List.drop_eq_nil_of_le (by omega)]; simp
  | succ d ih =>
    intro k i n hi hn hd hk
    obtain ⟨k, rfl⟩ : ∃ q, k = q + 1 := ⟨k - 1, by omega⟩
    simp only [sacristanref12_Count.l0]
    by_cases hlt : i < l.length
    · have hw1 : wrap64 ((i : Int) + 1) = ((i + 1 : Nat) : Int) := by unfold wrap64; omega
      have hw2 : wrap64 ((n : Int) + 1) = ((n + 1 : Nat) : Int) := by unfold wrap64; omega
      rw [if_pos (by omega), if_pos (by omega), hwr, hw1, hw2, List.drop_eq_getElem_cons hlt, ← rd_get hlt, List.countP_cons]
      have hz : ∀ X : Nat, ((n + 1 + X : Nat) : Int) = ((n + (X + 1) : Nat) : Int) := fun X => by omega
      have hd2 : l.length - (i + 1) ≤ d := by clear hw ht hwr hw1 hw2 ih; omega
      have a1 := ih k (i + 1) (n + 1) hlt (Nat.succ_le_succ hn) hd2 (Nat.le_of_succ_le_succ hk)
      have a2 := ih k (i + 1) n hlt (Nat.le_succ_of_le hn) hd2 (Nat.le_of_succ_le_succ hk)
      generalize (List.drop (i + 1) l).countP (fun x => decide (t - w < x ∧ x ≤ t)) = X at *
      generalize rd l (i : Int) = x at *
      clear ih hd hk hlen hw1 hw2 hwr
      by_cases h1 : t - w < x
      · rw [if_pos h1]
        by_cases h2 : x ≤ t
        · have e : decide (t - w < x ∧ x ≤ t) = true := decide_eq_true ⟨h1, h2⟩
          rw [if_pos h2, e, if_pos rfl, a1, hz X]
        · have e : decide (t - w < x ∧ x ≤ t) = false := decide_eq_false (fun q => h2 q.2)
          rw [if_neg h2, e, if_neg (by decide), Nat.add_zero]
          exact a2
      · have e : decide (t - w < x ∧ x ≤ t) = false := decide_eq_false (fun q => h1 q.1)
        rw [if_neg h1, e, if_neg (by decide), Nat.add_zero]
        exact a2
    · rw [if_neg (by omega), List.drop_eq_nil_of_le (by omega)]; simp
theorem rtick (t : Int) : sacristanref12_tick.f t = some (decide (0 ≤ t ∧ t ≤ 1099511627776)) := by
  unfold sacristanref12_tick.f
  by_cases h : t ≥ 0
  · rw [if_pos h]; congr 1; simp; omega
  · rw [if_neg h]; congr 1; simp; omega
theorem rCount_any (l : List Int) (hlen : l.length ≤ 1000) (w t : Int) (k : Nat) (hk : l.length + 1 ≤ k) : sacristanref12_Count.f k l w t = some (cS l w t) := by
  unfold sacristanref12_Count.f cS
  rw [rcheck_any l hlen w k hk, Option.bind_some]
  by_cases h : errW l w = 0
  · obtain ⟨h1, h2⟩ := errW_ok h
    rw [if_pos h, rtick, Option.bind_some]
    have e : errT l w t = if t < 0 ∨ 1099511627776 < t then 3 else 0 := by unfold errT; rw [if_pos h]
    by_cases ht : t < 0 ∨ 1099511627776 < t
    · rw [if_pos ht] at e
      rw [if_neg (by simp; omega), e]; rfl
    · rw [if_neg ht] at e
      rw [if_pos (by simp; omega), e, if_pos rfl]
      have := rcount_l0 l hlen w t h2 (by omega) l.length k 0 0 (by omega) (by omega) (by omega) hk
      rw [show sacristanref12_Count.l0 k l w t 0 0 = _ from this, ← cP w t (by omega) l, List.drop_zero, Nat.zero_add]
  · rw [if_neg h]
    have e : errT l w t = errW l w := by unfold errT; rw [if_neg h]
    rw [e, if_neg h]

/-! ### Keep -/
theorem cn_at (a : Int) : ∀ (l : List Int) (i : Nat), l.Pairwise (· ≤ ·) → (h : i < l.length) → (l[i] ≤ a ↔ i < cn a l)
  | [], i, _, h => absurd h (by simp)
  | x :: xs, i, hp, h => by
    obtain ⟨h1, h2⟩ := List.pairwise_cons.1 hp
    by_cases hx : x ≤ a
    · have e : cn a (x :: xs) = cn a xs + 1 := by unfold cn; rw [List.countP_cons, if_pos (by simpa using hx)]
      rw [e]
      cases i with
      | zero => simp [hx]
      | succ i =>
        have := cn_at a xs i h2 (by simpa using h)
        simp only [List.getElem_cons_succ]
        rw [this]; omega
    · have e : cn a (x :: xs) = 0 := by
        unfold cn
        refine List.countP_eq_zero.2 (fun y hy => ?_)
        rcases List.mem_cons.1 hy with rfl | hy
        · simpa using hx
        · have := h1 y hy; simp; omega
      rw [e]
      cases i with
      | zero => simp [hx]
      | succ i =>
        simp only [List.getElem_cons_succ]
        have := h1 (xs[i]'(by simpa using h)) (List.getElem_mem _)
        omega
def kS (l : List Int) (w t : Int) : List Int × Int := if errT l w t = 0 then (l.drop (km w t l), 0) else ([], errT l w t)
theorem wKeep_any (l : List Int) (hlen : l.length ≤ 1000) (w t : Int) (k : Nat) (hk : 2 * l.length + 2 ≤ k) : window_Keep.f k l w t = some (kS l w t) := by
  unfold kS
  by_cases h : errT l w t = 0
  · rw [if_pos h]
    obtain ⟨h1, h2, h3⟩ := errT_ok h
    exact Keep_eq l h1 hlen w t h2 h3 k hk
  · rw [if_neg h]
    unfold window_Keep.f
    rw [wtick_any l hlen w t k hk, Option.bind_some, if_neg h]
theorem take_drop_snoc (l : List Int) (i m : Nat) (h : i < l.length) : (l.take (i + 1)).drop m = if m ≤ i then (l.take i).drop m ++ [rd l (i : Int)] else (l.take i).drop m := by
  rw [rd_get h, List.take_succ_eq_append_getElem h]
  by_cases hm : m ≤ i
  · rw [if_pos hm, List.drop_append_of_le_length (by rw [List.length_take]; omega)]
  · rw [if_neg hm, List.drop_eq_nil_of_le (by simp; omega), List.drop_eq_nil_of_le (by simp; omega)]
theorem rkeep_l0 (l : List Int) (hok : okL l) (hlen : l.length ≤ 1000) (w t : Int) (hw : 1 ≤ w ∧ w ≤ 1099511627776) (ht : 0 ≤ t ∧ t ≤ 1099511627776) (d : Nat) : ∀ (k i : Nat), i ≤ l.length → l.length - i ≤ d → d + 1 ≤ k →
    sacristanref12_Keep.l0 k l w t ((l.take i).drop (km w t l)) (i : Int) = some (l.drop (km w t l), 0) := by
  have hwr : wrap64 (t - w) = t - w := by unfold wrap64; omega
  induction d with
  | zero =>
    intro k i hi hd hk
    obtain ⟨k, rfl⟩ : ∃ q, k = q + 1 := ⟨k - 1, by omega⟩
    simp only [sacristanref12_Keep.l0]
    rw [if_neg (by omega), List.take_of_length_le (by omega)]
  | succ d ih =>
    intro k i hi hd hk
    obtain ⟨k, rfl⟩ : ∃ q, k = q + 1 := ⟨k - 1, by omega⟩
    simp only [sacristanref12_Keep.l0]
    by_cases hlt : i < l.length
    · have hd2 : l.length - (i + 1) ≤ d := by clear hw ht hwr ih; omega
      have hr := ih k (i + 1) hlt hd2 (Nat.le_of_succ_le_succ hk)
      have hw1 : wrap64 ((i : Int) + 1) = ((i + 1 : Nat) : Int) := by clear ih hr; unfold wrap64; omega
      have hw3 : wrap64 ((l.length : Int) - 1) = ((l.length - 1 : Nat) : Int) := by clear ih hr; unfold wrap64; omega
      have hlen2 : ((l.take i).drop (km w t l)).length < 17592186044416 := by clear ih hr; simp; omega
      have hc := cn_at (t - w) l i hok.2 hlt
      rw [← rd_get hlt] at hc
      rw [take_drop_snoc l i _ hlt] at hr
      have hkm : km w t l = min (cn (t - w) l) (l.length - 1) := rfl
      clear ih
      rw [if_pos (by omega), if_pos (by omega), hwr, hw1, hw3]
      by_cases h1 : rd l (i : Int) > t - w
      · have hm : km w t l ≤ i := by rw [hkm]; omega
        rw [if_pos hm] at hr
        rw [if_pos h1, if_pos hlen2]; exact hr
      · rw [if_neg h1]
        by_cases h2 : i = l.length - 1
        · have hm : km w t l ≤ i := by rw [hkm]; omega
          rw [if_pos hm] at hr
          rw [if_pos (by rw [h2]), if_pos hlen2]; exact hr
        · have hm : ¬ km w t l ≤ i := by rw [hkm]; omega
          rw [if_neg hm] at hr
          rw [if_neg (by omega)]; exact hr
    · rw [if_neg (by omega), List.take_of_length_le (by omega)]
theorem rKeep_any (l : List Int) (hlen : l.length ≤ 1000) (w t : Int) (k : Nat) (hk : l.length + 1 ≤ k) : sacristanref12_Keep.f k l w t = some (kS l w t) := by
  unfold sacristanref12_Keep.f kS
  rw [rcheck_any l hlen w k hk, Option.bind_some]
  by_cases h : errW l w = 0
  · obtain ⟨h1, h2⟩ := errW_ok h
    rw [if_pos h, rtick, Option.bind_some]
    have e : errT l w t = if t < 0 ∨ 1099511627776 < t then 3 else 0 := by unfold errT; rw [if_pos h]
    by_cases ht : t < 0 ∨ 1099511627776 < t
    · rw [if_pos ht] at e
      rw [if_neg (by simp; omega), e]; rfl
    · rw [if_neg ht] at e
      rw [if_pos (by simp; omega), e, if_pos rfl]
      have := rkeep_l0 l h1 hlen w t h2 (by omega) l.length k 0 (by omega) (by omega) hk
      rw [List.take_zero, List.drop_nil] at this
      exact this
  · rw [if_neg h]
    have e : errT l w t = errW l w := by unfold errT; rw [if_neg h]
    rw [e, if_neg h]

/-! ### Within -/
def wS (l : List Int) (w limit : Int) : Bool × Int := if errW l w = 0 then (if limit < 0 then (false, 3) else (l.all (fun s => decide (cw w s l ≤ limit)), 0)) else (false, errW l w)
theorem wWithin_any (l : List Int) (hlen : l.length ≤ 1000) (w limit : Int) (k : Nat) (hk : 2 * l.length + 2 ≤ k) : window_Within.f k l w limit = some (wS l w limit) := by
  unfold wS window_Within.f
  rw [wcheck_any l hlen w k hk, Option.bind_some]
  by_cases h : errW l w = 0
  · obtain ⟨h1, h2⟩ := errW_ok h
    rw [if_pos h, if_pos h]
    by_cases h3 : limit < 0
    · rw [if_pos h3, if_pos h3]
    · rw [if_neg h3, if_neg h3]
      have := within_l0 l h1 hlen w limit h2 l.length k 0 (by omega) (by omega) (by omega)
      rw [List.drop_zero] at this
      exact this
  · rw [if_neg h, if_neg h]
theorem rwithin_l0 (l : List Int) (hok : okL l) (hlen : l.length ≤ 1000) (w limit : Int) (hw : errW l w = 0) (hw2 : 1 ≤ w ∧ w ≤ 1099511627776) (d : Nat) : ∀ (k i : Nat), i ≤ l.length → l.length - i ≤ d → d + l.length + 2 ≤ k →
    sacristanref12_Within.l0 k l w limit (i : Int) = some ((l.drop i).all (fun s => decide (cw w s l ≤ limit)), 0) := by
  induction d with
  | zero =>
    intro k i hi hd hk
    obtain ⟨k, rfl⟩ : ∃ q, k = q + 1 := ⟨k - 1, by omega⟩
    simp only [sacristanref12_Within.l0]
    rw [if_neg (by omega), List.drop_eq_nil_of_le (by omega)]; rfl
  | succ d ih =>
    intro k i hi hd hk
    obtain ⟨k, rfl⟩ : ∃ q, k = q + 1 := ⟨k - 1, by omega⟩
    simp only [sacristanref12_Within.l0]
    by_cases hlt : i < l.length
    · have hd2 : l.length - (i + 1) ≤ d := by clear hw2 ih; omega
      have hr := ih k (i + 1) hlt hd2 (by clear hw2 ih; omega)
      have hw1 : wrap64 ((i : Int) + 1) = ((i + 1 : Nat) : Int) := by clear ih hr; unfold wrap64; omega
      have hb := hok.1 _ (rd_mem hlt)
      have e : cS l w (rd l (i : Int)) = (cw w (rd l (i : Int)) l, 0) := by
        have e2 : errT l w (rd l (i : Int)) = 0 := by unfold errT; rw [if_pos hw, if_neg (by omega)]
        unfold cS; rw [if_pos e2]
      rw [if_pos (by omega), if_pos (by omega), rCount_any l hlen w _ k (by clear ih hr; omega), Option.bind_some, e, hw1, List.drop_eq_getElem_cons hlt, ← rd_get hlt, List.all_cons]
      by_cases h1 : cw w (rd l (i : Int)) l > limit
      · rw [if_pos h1, show decide (cw w (rd l (i : Int)) l ≤ limit) = false by simp; omega]; rfl
      · rw [if_neg h1, show decide (cw w (rd l (i : Int)) l ≤ limit) = true by simp; omega, Bool.true_and]; exact hr
    · rw [if_neg (by omega), List.drop_eq_nil_of_le (by omega)]; rfl
theorem rWithin_any (l : List Int) (hlen : l.length ≤ 1000) (w limit : Int) (k : Nat) (hk : 2 * l.length + 2 ≤ k) : sacristanref12_Within.f k l w limit = some (wS l w limit) := by
  unfold wS sacristanref12_Within.f
  rw [rcheck_any l hlen w k (by omega), Option.bind_some]
  by_cases h : errW l w = 0
  · obtain ⟨h1, h2⟩ := errW_ok h
    rw [if_pos h, if_pos h]
    by_cases h3 : limit < 0
    · rw [if_pos h3, if_pos h3]
    · rw [if_neg h3, if_neg h3]
      have := rwithin_l0 l h1 hlen w limit h h2 l.length k 0 (by omega) (by omega) (by omega)
      rw [List.drop_zero] at this
      exact this
  · rw [if_neg h, if_neg h]
end Go.Proofs.Ytipbgeobgppagaa.Pure
