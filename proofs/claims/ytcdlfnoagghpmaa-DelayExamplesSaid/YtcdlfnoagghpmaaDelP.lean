/- Plain laws of delays: what the reference's printed functions are. -/
import Derived.Test.YtcdlfnoagghpmaaD1
import Derived.Test.YtcdlfnoagghpmaaD3
namespace Go.Proofs.Ytcdlfnoagghpmaa.Pure
open Go.RowKit Go.Proofs.Ytcdlfnoagghpmaa Go.Proofs.Ytcdlfnoagghpmaa.Ext Go.Proofs.Ytcdlfnoagghpmaa.D Go.Proofs.YtcdlfnoagghpmaaW.PrintWords Go.Proofs.YtcdlfnoagghpmaaW.PrintLast Go.Proofs.YtcdlfnoagghpmaaW.PrintMore
set_option linter.unusedVariables false
set_option linter.unusedSimpArgs false

theorem after_f (al : Bool) (l wd b m n : Int) (h : n ≤ 9223372036854775807) : delay_After.f al l wd b m n = some (aftF l wd b m n) := if_pos h
theorem aftF_ok {l wd b m n : Int} (h : okP l wd b m = true) (hn : 0 ≤ n) : aftF l wd b m n = (aftV b m n, 0) := if_pos ⟨h, hn⟩
theorem aftF_no {l wd b m n : Int} (h : okP l wd b m = false) : aftF l wd b m n = (0, 3) := if_neg (fun q => by rw [h] at q; cases q.1)
theorem aftF_neg {l wd b m n : Int} (hn : n < 0) : aftF l wd b m n = (0, 3) := if_neg (fun q => by omega)

theorem dcheck_eq (al : Bool) (l wd b m : Int) : sacristanref11_Check.f al l wd b m = some (errP (okP l wd b m)) := by
  unfold sacristanref11_Check.f
  by_cases h : (1 ≤ l ∧ l ≤ 8) ∧ (1 ≤ wd ∧ wd ≤ 1099511627776) ∧ (1 ≤ m ∧ m ≤ 1099511627776 ∧ 1 ≤ b ∧ b ≤ m)
  · rw [errP_ok h, if_neg (by omega), if_neg (by omega), if_neg (by omega), if_neg (by omega), if_neg (by omega), if_neg (by omega), if_neg (by omega), if_neg (by omega)]
  · rw [errP_no h]
    (repeat' split) <;> first | rfl | omega

theorem dly_mn (b m : Int) (j : Nat) (hb : 1 ≤ b) (hm : b ≤ m) (hm2 : m ≤ 2199023255552) : mn (wrap64 (2 * dly b m j)) m = dly b m (j + 1) := by
  have := dly_bd hb hm j
  rw [show wrap64 (2 * dly b m j) = 2 * dly b m j by unfold wrap64; omega]
  simp only [dly, mn]
  split <;> omega

theorem ref_loop (al : Bool) (l wd b m n : Int) (hb : 1 ≤ b) (hm : b ≤ m) (hm2 : m ≤ 1099511627776) (hn : 0 ≤ n) (hn2 : n ≤ 9223372036854775807) (d : Nat) : ∀ (k j : Nat), (∀ i, i < j → dly b m i ≠ m) → 42 - j ≤ d → (j : Int) + 1 ≤ max n 1 → d < k →
    sacristanref11_After.l0 k n (dly b m j) ((j : Int) + 1) al l wd b m = some (aftV b m n, 0) := by
  induction d with
  | zero =>
    intro k j hne hj hmx hk
    have := dly_few hb hm hm2 j hne
    omega
  | succ d ih =>
    intro k j hne hj hmx hk
    obtain ⟨k, rfl⟩ : ∃ q, k = q + 1 := ⟨k - 1, by omega⟩
    have hf := dly_few hb hm hm2 j hne
    have hd := dly_bd hb hm j
    simp only [sacristanref11_After.l0]
    by_cases h1 : (j : Int) + 1 < n
    · rw [if_pos h1]
      by_cases h2 : dly b m j < m
      · rw [if_pos h2, dly_mn b m j hb hm (by omega), show wrap64 ((j : Int) + 1 + 1) = ((j + 1 : Nat) : Int) + 1 by unfold wrap64; omega]
        exact ih k (j + 1) (fun i hi => by by_cases e : i = j; (subst e; omega); exact hne i (by omega)) (by omega) (by omega) (by omega)
      · rw [if_neg h2]
        unfold aftV
        have e : (max n 1 - 1).toNat = j + ((max n 1 - 1).toNat - j) := by omega
        have hjm : dly b m j = m := by omega
        rw [e, dly_stays hb hm hjm, hjm]
    · rw [if_neg h1]
      unfold aftV
      rw [show (max n 1 - 1).toNat = j by omega]

theorem after_eq (k : Nat) (hk : 50 ≤ k) (al : Bool) (l wd b m n : Int) (hn2 : n ≤ 9223372036854775807) : sacristanref11_After.f k al l wd b m n = some (aftF l wd b m n) := by
  unfold sacristanref11_After.f
  rw [dcheck_eq, Option.bind_some]
  by_cases h : okP l wd b m = true
  · have h' := (okP_iff _ _ _ _).1 h
    rw [h, if_pos (show errP true = 0 from rfl)]
    by_cases h0 : n < 0
    · rw [if_pos h0, aftF_neg h0]
    · rw [if_neg h0, aftF_ok h (by omega)]
      exact ref_loop al l wd b m n (by omega) (by omega) (by omega) (by omega) hn2 42 k 0 (fun i hi => by omega) (by omega) (by simp; omega) (by omega)
  · have h : okP l wd b m = false := by simpa using h
    rw [h, if_neg (by decide), aftF_no h]; rfl

theorem awake_eq (k : Nat) (hk : 20 ≤ k) : sacristanlaw11_awake.f k = some true :=
  at_rounds (g := fun k => sacristanlaw11_awake.f k) (fun _ => sacristanlaw11_awake.mono _) hk (show sacristanlaw11_awake.f 20 = some true by decide +kernel)

/-! ### valid -/
theorem red (a M : Int) (h0 : 0 < M) (h1 : M ≤ 2199023255552) : 0 ≤ Int.tmod (wrap64 ((Int.tmod a M) + M)) M ∧ Int.tmod (wrap64 ((Int.tmod a M) + M)) M < M := by
  have h2 := Int.tmod_lt_of_pos a h0
  have h3 := Int.lt_tmod_of_pos a h0
  rw [show wrap64 (Int.tmod a M + M) = Int.tmod a M + M by unfold wrap64; omega]
  exact ⟨Int.tmod_nonneg _ (by omega), Int.tmod_lt_of_pos _ h0⟩
theorem wr1p {x : Int} (h : 0 ≤ x ∧ x < 2199023255552) : wrap64 (1 + x) = 1 + x := by unfold wrap64; omega
theorem valid_eq (a b : Int) : ∃ bs m, 1 ≤ bs ∧ bs ≤ m ∧ m ≤ 1099511627776 ∧ ∀ c d, ∃ l wd, sacristanlaw11_valid.f a b c d = some (false, l, wd, bs, m) ∧ okP l wd bs m = true := by
  have hM := red a 1099511627776 (by omega) (by omega)
  refine ⟨wrap64 (1 + (Int.tmod (wrap64 ((Int.tmod b (wrap64 (1 + (Int.tmod (wrap64 ((Int.tmod a 1099511627776) + 1099511627776)) 1099511627776)))) + (wrap64 (1 + (Int.tmod (wrap64 ((Int.tmod a 1099511627776) + 1099511627776)) 1099511627776))))) (wrap64 (1 + (Int.tmod (wrap64 ((Int.tmod a 1099511627776) + 1099511627776)) 1099511627776))))), wrap64 (1 + (Int.tmod (wrap64 ((Int.tmod a 1099511627776) + 1099511627776)) 1099511627776)), ?_⟩
  generalize hm : wrap64 (1 + (Int.tmod (wrap64 ((Int.tmod a 1099511627776) + 1099511627776)) 1099511627776)) = m
  rw [wr1p (by omega)] at hm
  have hB := red b m (by omega) (by omega)
  have hB2 : wrap64 (1 + (Int.tmod (wrap64 ((Int.tmod b m) + m)) m)) = 1 + (Int.tmod (wrap64 ((Int.tmod b m) + m)) m) := wr1p (by omega)
  refine ⟨by omega, by omega, by omega, fun c d => ?_⟩
  have hC := red c 8 (by omega) (by omega)
  have hD := red d 100 (by omega) (by omega)
  refine ⟨wrap64 (1 + (Int.tmod (wrap64 ((Int.tmod c 8) + 8)) 8)), wrap64 (1 + (Int.tmod (wrap64 ((Int.tmod d 100) + 100)) 100)), ?_, ?_⟩
  · unfold sacristanlaw11_valid.f
    rw [if_neg (by rw [wr1p (by omega)]; omega), show wrap64 (1 + (Int.tmod (wrap64 ((Int.tmod a 1099511627776) + 1099511627776)) 1099511627776)) = m by rw [wr1p (by omega)]; exact hm]
  · rw [okP_iff, wr1p (by omega), wr1p (by omega), hB2]; omega
theorem red64 (n : Int) : 0 ≤ Int.tmod (wrap64 ((Int.tmod n 64) + 64)) 64 ∧ Int.tmod (wrap64 ((Int.tmod n 64) + 64)) 64 < 64 := red n 64 (by omega) (by omega)

/-! ### The delays' laws -/
theorem dly_le_b {b b' m : Int} (h : b ≤ b') (k : Nat) : dly b m k ≤ dly b' m k := by
  induction k with
  | zero => exact h
  | succ k ih => simp only [dly]; omega
theorem dly_le_m {b m m' : Int} (h : m ≤ m') (k : Nat) : dly b m k ≤ dly b m' k := by
  induction k with
  | zero => exact Int.le_refl _
  | succ k ih => simp only [dly]; omega
theorem dly_dbl (b m : Int) (k : Nat) : dly (2 * b) (2 * m) k = 2 * dly b m k := by
  induction k with
  | zero => rfl
  | succ k ih => simp only [dly, ih]; omega
theorem dly_far {b m : Int} (hb : 1 ≤ b) (hm : b ≤ m) (hm2 : m ≤ 1099511627776) (k : Nat) (hk : 42 ≤ k) : dly b m k = m := by
  by_cases h : ∃ i, i < 42 ∧ dly b m i = m
  · obtain ⟨i, hi, he⟩ := h
    rw [show k = i + (k - i) by omega, dly_stays hb hm he]
  · have := dly_few hb hm hm2 42 (fun i hi e => h ⟨i, hi, e⟩)
    omega
end Go.Proofs.Ytcdlfnoagghpmaa.Pure
