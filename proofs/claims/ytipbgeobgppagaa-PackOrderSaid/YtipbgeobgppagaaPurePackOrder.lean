/- The plain law of PackOrder: bytes of one width are ordered as their numbers; Var grows with its number, and no bytes of a number begin those of another. -/
import Derived.Test.YtipbgeobgppagaaPk2
import Derived.Test.YtipbgeobgppagaaX4
namespace Go.Proofs.Ytipbgeobgppagaa.Pure
open Go.RowKit Go.Proofs.Ytipbgeobgppagaa.Ext Go.Proofs.Ytipbgeobgppagaa.X Go.Proofs.YtipbgeobgppagaaW.PrintWords Go.Proofs.YtipbgeobgppagaaW.PrintLast
open Go.Proofs.Ytipbgeobgppagaa.Pk
set_option linter.unusedVariables false
set_option linter.unusedSimpArgs false

theorem vl_acc (l : List UInt8) : ∀ c : Nat, l.foldl (fun v b => v * 256 + b.toNat) c = c * 256 ^ l.length + vl l := by
  induction l with
  | nil => intro c; simp [vl]
  | cons a l ih =>
    intro c
    unfold vl
    rw [List.foldl_cons, List.foldl_cons, ih, ih, List.length_cons, Nat.pow_succ, Nat.add_mul, Nat.add_mul, Nat.mul_assoc, Nat.mul_comm 256, Nat.zero_mul, Nat.zero_add, Nat.add_assoc]
theorem vl_cons (a : UInt8) (l : List UInt8) : vl (a :: l) = a.toNat * 256 ^ l.length + vl l := by
  show List.foldl _ _ l = _
  rw [vl_acc]
  simp
theorem less_vl (x : List UInt8) : ∀ y : List UInt8, x.length = y.length → Op.bytesLess x y = decide (vl x < vl y) := by
  induction x with
  | nil =>
    intro y h
    cases y with
    | nil => rfl
    | cons b y => simp at h
  | cons a x ih =>
    intro y h
    cases y with
    | nil => simp at h
    | cons b y =>
      have hl : x.length = y.length := by simpa using h
      rw [Op.bytesLess, ih y hl, vl_cons, vl_cons, hl]
      have h1 := vl_lt x
      have h2 := vl_lt y
      rw [hl] at h1
      generalize 256 ^ y.length = P at *
      by_cases hab : a = b
      · subst hab
        have : ¬ a < a := by simp
        simp
      · have hne : a.toNat ≠ b.toNat := fun h => hab (UInt8.toNat_inj.mp h)
        have he : (a == b) = false := beq_eq_false_iff_ne.mpr hab
        rw [he, Bool.false_and, Bool.or_false]
        by_cases hlt : a < b
        · have hlt' : a.toNat < b.toNat := hlt
          have : (a.toNat + 1) * P ≤ b.toNat * P := Nat.mul_le_mul_right _ hlt'
          rw [Nat.add_mul] at this
          rw [decide_eq_true hlt, decide_eq_true (by omega)]
        · have hlt' : b.toNat < a.toNat := by
            have : ¬ a.toNat < b.toNat := hlt
            omega
          have : (b.toNat + 1) * P ≤ a.toNat * P := Nat.mul_le_mul_right _ hlt'
          rw [Nat.add_mul] at this
          rw [decide_eq_false hlt, decide_eq_false (by omega)]
theorem varL_mono {m n : Nat} (h : m ≤ n) : (varL m).length ≤ (varL n).length := by
  unfold varL
  have := lw_mono h
  (repeat' split) <;> simp [be_length] <;> omega
theorem varL_prefix {m n : Nat} (hm : m < 18446744073709551616) (hn : n < 18446744073709551616) (k : Nat) (hk : (varL m).length ≤ k) (h : (varL m).take k = (varL n).take k) : m = n := by
  rw [List.take_of_length_le hk] at h
  have h1 : varL n = varL m ++ (varL n).drop k := by
    conv => lhs; rw [← List.take_append_drop k (varL n)]
    rw [← h]
  have h2 := unvar_var hn []
  have h3 := unvar_var hm ((varL n).drop k)
  rw [← h1] at h3
  rw [List.append_nil] at h2
  rw [h2] at h3
  have := (Prod.mk.inj (Option.some.inj h3)).1
  omega
theorem PackOrder : sacristanlaw02_PackOrder.Pure := by
  intro a0 a1 w w0 w1 w2
  have b0 := Go.bounds_u64 w0
  have b1 := Go.bounds_u64 w1
  obtain ⟨m, rfl⟩ := Int.eq_ofNat_of_zero_le b0.1
  obtain ⟨n, rfl⟩ := Int.eq_ofNat_of_zero_le b1.1
  have hm : m < 18446744073709551616 := by omega
  have hn : n < 18446744073709551616 := by omega
  refine ⟨21, ?_⟩
  have hj : sacristanlaw02_PackOrder.j0 21 m n false = some true := by
    simp only [sacristanlaw02_PackOrder.j0]
    have l1 := varL_length m hm
    have l2 := varL_length n hn
    have hmin : mn ((varL m).length : Int) ((varL n).length : Int) = ((min (varL m).length (varL n).length : Nat) : Int) := by unfold mn; split <;> omega
    rw [if_neg (by simp), var_eq m hm, Option.bind_some, var_eq n hn, Option.bind_some]
    simp only [mkB_size, hmin, Int.toNat_natCast, mkB_extract, List.drop_zero, mkB_toList]
    have hq : ((List.take (min (varL m).length (varL n).length) (varL m) == List.take (min (varL m).length (varL n).length) (varL n)) == ((m : Int) == (n : Int))) = true := by
      by_cases he : m = n
      · subst he; simp
      · have h2 : (List.take (min (varL m).length (varL n).length) (varL m) == List.take (min (varL m).length (varL n).length) (varL n)) = false := beq_eq_false_iff_ne.mpr fun h => by
          by_cases hl : (varL m).length ≤ (varL n).length
          · exact he (varL_prefix hm hn _ (by omega) h)
          · exact he (varL_prefix hn hm _ (by omega) h.symm).symm
        rw [h2, show ((m : Int) == (n : Int)) = false from beq_eq_false_iff_ne.mpr (by omega)]
        rfl
    rw [hq]
    by_cases hlt : (m : Int) < (n : Int)
    · have := varL_mono (show m ≤ n by omega)
      rw [if_pos hlt, if_neg (by omega), if_neg (by omega), if_neg (by omega), if_pos (by omega), if_pos (by omega), if_pos (by omega), if_pos rfl, known_eq _ (by omega)]
      rfl
    · rw [if_neg hlt, if_neg (by omega), if_neg (by omega), if_pos (by omega), if_pos (by omega), if_pos (by omega), if_pos rfl, known_eq _ (by omega)]
      rfl
  unfold sacristanlaw02_PackOrder.f
  rw [fixed_eq 21 (by omega) m hm w, Option.bind_some, fixed_eq 21 (by omega) n hn w, Option.bind_some]
  by_cases h1 : w < 1 ∨ 8 < w
  · rw [if_pos h1, if_pos h1, if_neg (by simp)]; exact hj
  rw [if_neg h1, if_neg h1]
  by_cases h2 : (lw m : Int) > w
  · rw [if_pos h2, if_neg (by simp)]; exact hj
  rw [if_neg h2]
  by_cases h3 : (lw n : Int) > w
  · rw [if_pos h3, if_pos rfl, if_neg (by simp)]; exact hj
  rw [if_neg h3, if_pos rfl, if_pos rfl]
  simp only [mkB_toList]
  have bm := (lw_le_iff m w.toNat).1 (by omega)
  have bn := (lw_le_iff n w.toNat).1 (by omega)
  rw [less_vl _ _ (by rw [be_length, be_length]), vl_be_lt bm, vl_be_lt bn]
  rw [show (decide (m < n)) = decide ((m : Int) < (n : Int)) from by simp]
  have he : (be w.toNat m == be w.toNat n) = ((m : Int) == (n : Int)) := by
    by_cases he : m = n
    · subst he; simp
    · rw [beq_eq_false_iff_ne.mpr (show (m : Int) ≠ n by omega), beq_eq_false_iff_ne.mpr]
      exact fun h => he (be_inj bm bn h)
  rw [he, bne_self_eq_false, bne_self_eq_false, if_neg (by simp)]
  exact hj
end Go.Proofs.Ytipbgeobgppagaa.Pure
