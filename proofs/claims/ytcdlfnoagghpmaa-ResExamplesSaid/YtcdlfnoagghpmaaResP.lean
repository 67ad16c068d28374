/- Plain laws of resources: what the reference's printed functions are. -/
import Derived.Test.YtcdlfnoagghpmaaX4
import Derived.Test.YtcdlfnoagghpmaaX3
namespace Go.Proofs.Ytcdlfnoagghpmaa.Pure
open Go.RowKit Go.Proofs.Ytcdlfnoagghpmaa Go.Proofs.Ytcdlfnoagghpmaa.Ext Go.Proofs.Ytcdlfnoagghpmaa.X Go.Proofs.YtcdlfnoagghpmaaW.PrintWords Go.Proofs.YtcdlfnoagghpmaaW.PrintLast
set_option linter.unusedVariables false
set_option linter.unusedSimpArgs false

theorem add2_eq' (a b : R3) : add2 a b = if okR3 a = true ∧ okR3 b = true ∧ okR3 (addR a b) = true then (addR a b, true) else (⟨0, 0, 0⟩, false) := by
  have h0 : addR ⟨0, 0, 0⟩ a = a := by simp [addR]
  unfold add2
  simp only [sumF, h0]
  by_cases ha : okR3 a = true <;> by_cases hb : okR3 b = true <;> by_cases hc : okR3 (addR a b) = true <;> simp [ha, hb, hc]
theorem wr0 : wrap64 (0 + 1) = 1 := by unfold wrap64; omega
theorem wr1 : wrap64 (1 + 1) = 2 := by unfold wrap64; omega
theorem wr2 : wrap64 (2 + 1) = 3 := by unfold wrap64; omega
theorem rcheck_eq (k : Nat) (hk : 5 ≤ k) (a b c : Int) : sacristanref09_Check.f k a b c = some (errI (okR a b c)) := by
  obtain ⟨k, rfl⟩ : ∃ m, k = m + 5 := ⟨k - 5, by omega⟩
  have r0 : rd [a, b, c] 0 = a := rfl
  have r1 : rd [a, b, c] 1 = b := rfl
  have r2 : rd [a, b, c] 2 = c := rfl
  simp only [sacristanref09_Check.f, sacristanref09_amounts.f, Option.bind_some, sacristanref09_Check.l0, wr0, wr1, wr2, r0, r1, r2, List.length_cons, List.length_nil]
  by_cases h : (0 ≤ a ∧ a ≤ 1099511627776) ∧ (0 ≤ b ∧ b ≤ 1099511627776) ∧ (0 ≤ c ∧ c ≤ 1099511627776)
  · rw [errI_ok h, if_pos (by omega), if_pos (by omega), if_neg (by omega), if_neg (by omega), if_pos (by omega), if_pos (by omega), if_neg (by omega), if_neg (by omega), if_pos (by omega), if_pos (by omega), if_neg (by omega), if_neg (by omega), if_neg (by omega)]
  · rw [errI_no h, if_pos (by omega), if_pos (by omega)]
    by_cases h1 : a < 0
    · rw [if_pos h1]
    rw [if_neg h1]
    by_cases h2 : a > 1099511627776
    · rw [if_pos h2]
    rw [if_neg h2, if_pos (by omega), if_pos (by omega)]
    by_cases h3 : b < 0
    · rw [if_pos h3]
    rw [if_neg h3]
    by_cases h4 : b > 1099511627776
    · rw [if_pos h4]
    rw [if_neg h4, if_pos (by omega), if_pos (by omega)]
    by_cases h5 : c < 0
    · rw [if_pos h5]
    rw [if_neg h5, if_pos (by omega)]
theorem errI0 (b : Bool) : errI b = 0 ↔ b = true := by cases b <;> decide
theorem wadd {a b : Int} (ha : 0 ≤ a ∧ a ≤ 1099511627776) (hb : 0 ≤ b ∧ b ≤ 1099511627776) : wrap64 (a + b) = a + b := by unfold wrap64; omega
theorem wsub {a b : Int} (ha : 0 ≤ a ∧ a ≤ 1099511627776) (hb : 0 ≤ b ∧ b ≤ 1099511627776) : wrap64 (a - b) = a - b := by unfold wrap64; omega
theorem radd_eq (k : Nat) (hk : 6 ≤ k) (a b c x y z : Int) : sacristanref09_Add.f k a b c x y z = some (tup (add2 ⟨a, b, c⟩ ⟨x, y, z⟩)) := by
  obtain ⟨k, rfl⟩ : ∃ m, k = m + 1 := ⟨k - 1, by omega⟩
  unfold sacristanref09_Add.f
  rw [rcheck_eq _ (by omega), Option.bind_some, rcheck_eq _ (by omega), Option.bind_some, add2_eq']
  show _ = some (tup (if okR a b c = true ∧ okR x y z = true ∧ okR (a + x) (b + y) (c + z) = true then _ else _))
  by_cases h1 : okR a b c = true
  · rw [if_pos ((errI0 _).2 h1)]
    by_cases h2 : okR x y z = true
    · obtain ⟨p1, p2, p3⟩ := (okR_iff _ _ _).1 h1
      obtain ⟨q1, q2, q3⟩ := (okR_iff _ _ _).1 h2
      rw [(errI0 _).2 h2]
      simp only [sacristanref09_Add.j0]
      rw [if_neg (by simp), wadd p1 q1, wadd p2 q2, wadd p3 q3, rcheck_eq _ (by omega), Option.bind_some]
      by_cases h3 : okR (a + x) (b + y) (c + z) = true
      · rw [if_pos ((errI0 _).2 h3), if_pos ⟨h1, h2, h3⟩]; rfl
      · rw [if_neg (fun h => h3 ((errI0 _).1 h)), if_neg (fun h => h3 h.2.2)]; rfl
    · have he : (errI (okR x y z) != 0) = true := bne_iff_ne.mpr fun h => h2 ((errI0 _).1 h)
      rw [he]
      simp only [sacristanref09_Add.j0]
      rw [if_pos trivial, if_neg (fun h => h2 h.2.1)]; rfl
  · rw [if_neg (fun h => h1 ((errI0 _).1 h))]
    simp only [sacristanref09_Add.j0]
    rw [if_pos trivial, if_neg (fun h => h1 h.1)]; rfl
theorem rfits_eq (a b c x y z : Int) : sacristanref09_Fits.f a b c x y z = some (fitsB a b c x y z) := by
  unfold sacristanref09_Fits.f fitsB
  by_cases h1 : a ≤ x
  · rw [if_pos h1]
    by_cases h2 : b ≤ y
    · rw [if_pos h2]; simp [h1, h2]
    · rw [if_neg h2]; simp [h2]
  · rw [if_neg h1]; simp [h1]
theorem rsub_eq (k : Nat) (hk : 6 ≤ k) (a b c x y z : Int) : sacristanref09_Sub.f k a b c x y z = some (tup (subF ⟨a, b, c⟩ ⟨x, y, z⟩)) := by
  unfold sacristanref09_Sub.f
  rw [rcheck_eq _ (by omega), Option.bind_some, rcheck_eq _ (by omega), Option.bind_some, rfits_eq, Option.bind_some]
  show _ = some (tup (if okR a b c = true ∧ okR x y z = true ∧ fitsB x y z a b c = true then _ else _))
  by_cases h1 : okR a b c = true
  · rw [if_pos ((errI0 _).2 h1)]
    by_cases h2 : okR x y z = true
    · obtain ⟨p1, p2, p3⟩ := (okR_iff _ _ _).1 h1
      obtain ⟨q1, q2, q3⟩ := (okR_iff _ _ _).1 h2
      rw [if_pos ((errI0 _).2 h2)]
      by_cases h3 : fitsB x y z a b c = true
      · rw [if_pos h3, if_pos ⟨h1, h2, h3⟩, wsub p1 q1, wsub p2 q2, wsub p3 q3]; rfl
      · rw [if_neg h3, if_neg (fun h => h3 h.2.2)]; rfl
    · rw [if_neg (fun h => h2 ((errI0 _).1 h)), if_neg (fun h => h2 h.2.1)]; rfl
  · rw [if_neg (fun h => h1 ((errI0 _).1 h)), if_neg (fun h => h1 h.1)]; rfl
theorem sumF_drop {acc : R3} {l : List (S37)} {k : Nat} (ha : okR3 acc = true) (hk : k < l.length) : sumF acc ((l.map toR).drop k) =
    if (add2 acc (toR (rd_T37 l k))).2 = true then sumF (add2 acc (toR (rd_T37 l k))).1 ((l.map toR).drop (k + 1)) else (⟨0, 0, 0⟩, false) := by
  rw [sumF_step (by rw [List.length_map]; exact hk), add2_eq']
  have hr : rdR (l.map toR) k = toR (rd_T37 l k) := by simp [rdR, rd_T37, hk]
  rw [hr]
  by_cases hb : okR3 (toR (rd_T37 l k)) = true <;> by_cases hc : okR3 (addR acc (toR (rd_T37 l k))) = true <;> simp [ha, hb, hc]
theorem add2_ok {a b : R3} (h : (add2 a b).2 = true) : okR3 (add2 a b).1 = true := by
  rw [add2_eq'] at h ⊢
  split
  · rename_i h2; exact h2.2.2
  · rename_i h2; rw [if_neg h2] at h; cases h
theorem add2_no {a b : R3} (h : ¬ (add2 a b).2 = true) : add2 a b = (⟨0, 0, 0⟩, false) := by
  rw [add2_eq'] at h ⊢
  split
  · rename_i h2; rw [if_pos h2] at h; exact absurd rfl h
  · rfl
theorem rsum_l0 (l : List (S37)) (hl : l.length ≤ 1000) (d : Nat) : ∀ (k i : Nat) (acc : R3), okR3 acc = true → i + d = l.length → d + 10 ≤ k →
    sacristanref09_Sum.l0 k l true i acc.c acc.m acc.d = some (tup (sumF acc ((l.map toR).drop i))) := by
  induction d with
  | zero =>
    intro k i acc ha hi hk
    obtain ⟨k, rfl⟩ : ∃ m, k = m + 1 := ⟨k - 1, by omega⟩
    simp only [sacristanref09_Sum.l0]
    rw [if_neg (by omega), List.drop_eq_nil_of_le (by rw [List.length_map]; omega)]
    rfl
  | succ d ih =>
    intro k i acc ha hi hk
    obtain ⟨k, rfl⟩ : ∃ m, k = m + 1 := ⟨k - 1, by omega⟩
    simp only [sacristanref09_Sum.l0]
    rw [if_pos (by omega), if_pos trivial, if_pos (by omega), radd_eq k (by omega), Option.bind_some, sumF_drop ha (by omega)]
    rw [show wrap64 ((i : Int) + 1) = ((i + 1 : Nat) : Int) from by unfold wrap64; omega]
    show sacristanref09_Sum.l0 k l (add2 acc (toR (rd_T37 l i))).2 ((i + 1 : Nat) : Int) (add2 acc (toR (rd_T37 l i))).1.c (add2 acc (toR (rd_T37 l i))).1.m (add2 acc (toR (rd_T37 l i))).1.d = _
    by_cases h : (add2 acc (toR (rd_T37 l i))).2 = true
    · rw [if_pos h, h]
      exact ih k (i + 1) _ (add2_ok h) (by omega) (by omega)
    · rw [if_neg h, add2_no h]
      obtain ⟨k, rfl⟩ : ∃ m, k = m + 1 := ⟨k - 1, by omega⟩
      simp only [sacristanref09_Sum.l0]
      split
      · simp; rfl
      · rfl
theorem rsum_eq (k : Nat) (l : List (S37)) (hl : l.length ≤ 1000) (hk : l.length + 10 ≤ k) : sacristanref09_Sum.f k l = some (tup (sumF ⟨0, 0, 0⟩ (l.map toR))) := by
  have := rsum_l0 l hl l.length k 0 ⟨0, 0, 0⟩ (by decide) (by omega) (by omega)
  exact this
end Go.Proofs.Ytcdlfnoagghpmaa.Pure
