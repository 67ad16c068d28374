/- Plain mathematics of the numbers as bytes: big-endian bytes, the least width, what is written and what is read. No program in sight. -/
import Init.Data.List.Lemmas
namespace Go.Proofs.Ytipbgeobgppagaa.Pk
set_option linter.unusedVariables false

theorem snoc_induct {α : Type} {P : List α → Prop} (h0 : P []) (h1 : ∀ l a, P l → P (l ++ [a])) (l : List α) : P l := by
  have : ∀ l : List α, P l.reverse := by
    intro l
    induction l with
    | nil => exact h0
    | cons a l ih => rw [List.reverse_cons]; exact h1 _ _ ih
  have := this l.reverse
  rwa [List.reverse_reverse] at this

/-- The last `w` bytes of a number, the greatest first. -/
def be : Nat → Nat → List UInt8
  | 0, _ => []
  | w + 1, n => be w (n / 256) ++ [UInt8.ofNat (n % 256)]
/-- The number of bytes. -/
def vl (l : List UInt8) : Nat := l.foldl (fun v b => v * 256 + b.toNat) 0
/-- The least width; 0 for 0. -/
def lw (n : Nat) : Nat := if h : n = 0 then 0 else lw (n / 256) + 1
decreasing_by omega

theorem be_length (w n : Nat) : (be w n).length = w := by
  induction w generalizing n with
  | zero => rfl
  | succ w ih => simp [be, ih]
theorem vl_snoc (l : List UInt8) (b : UInt8) : vl (l ++ [b]) = vl l * 256 + b.toNat := by simp [vl]
theorem vl_nil : vl [] = 0 := rfl
theorem vl_lt (l : List UInt8) : vl l < 256 ^ l.length := by
  induction l using snoc_induct with
  | h0 => simp [vl]
  | h1 l b ih =>
    rw [vl_snoc, List.length_append, List.length_singleton, Nat.pow_succ]
    have := b.toNat_lt
    omega
theorem vl_be (w n : Nat) : vl (be w n) = n % 256 ^ w := by
  induction w generalizing n with
  | zero => simp [be, vl, Nat.mod_one]
  | succ w ih =>
    rw [be, vl_snoc, ih, Nat.pow_succ, UInt8.toNat_ofNat_of_lt' (by have : n % 256 < 256 := Nat.mod_lt _ (by omega); simpa using this)]
    rw [Nat.mul_comm (256 ^ w) 256, Nat.mod_mul]
    omega
theorem be_vl (l : List UInt8) : be l.length (vl l) = l := by
  induction l using snoc_induct with
  | h0 => rfl
  | h1 l b ih =>
    have hb := b.toNat_lt
    rw [List.length_append, List.length_singleton, be, vl_snoc]
    rw [show (vl l * 256 + b.toNat) / 256 = vl l by omega, show (vl l * 256 + b.toNat) % 256 = b.toNat by omega, ih]
    simp
theorem vl_be_lt {w n : Nat} (h : n < 256 ^ w) : vl (be w n) = n := by rw [vl_be, Nat.mod_eq_of_lt h]
theorem be_inj {w m n : Nat} (hm : m < 256 ^ w) (hn : n < 256 ^ w) (h : be w m = be w n) : m = n := by
  rw [← vl_be_lt hm, ← vl_be_lt hn, h]
theorem lw_zero : lw 0 = 0 := by rw [lw]; simp
theorem lw_pos {n : Nat} (h : n ≠ 0) : lw n = lw (n / 256) + 1 := by rw [lw]; simp [h]
theorem lt_pow_lw (n : Nat) : n < 256 ^ lw n := by
  induction n using Nat.strongRecOn with
  | _ n ih =>
    by_cases h : n = 0
    · subst h; simp [lw_zero]
    · rw [lw_pos h, Nat.pow_succ]
      have := ih (n / 256) (by omega)
      omega
theorem lw_le_iff (n w : Nat) : lw n ≤ w ↔ n < 256 ^ w := by
  induction w generalizing n with
  | zero =>
    constructor
    · intro h
      have := lt_pow_lw n
      rw [Nat.le_zero.1 h] at this
      exact this
    · intro h
      have : n = 0 := by simpa using h
      subst this; simp [lw_zero]
  | succ w ih =>
    by_cases h : n = 0
    · subst h; simp [lw_zero, Nat.pow_pos]
    · rw [lw_pos h, Nat.pow_succ, Nat.add_le_add_iff_right, ih]
      omega
theorem lw_mono {m n : Nat} (h : m ≤ n) : lw m ≤ lw n := (lw_le_iff m _).2 (Nat.lt_of_le_of_lt h (lt_pow_lw n))
theorem lw_eq_of {n w : Nat} (h1 : n < 256 ^ (w + 1)) (h2 : 256 ^ w ≤ n) : lw n = w + 1 := by
  have a := (lw_le_iff n (w + 1)).2 h1
  have b : ¬ lw n ≤ w := fun h => by have := (lw_le_iff n w).1 h; omega
  omega
theorem lw_le_8 {n : Nat} (h : n < 18446744073709551616) : lw n ≤ 8 := (lw_le_iff n 8).2 (by simpa using h)

/-! What Var writes and Unvar reads. -/
def varL (n : Nat) : List UInt8 := if n < 248 then [UInt8.ofNat n] else UInt8.ofNat (247 + lw n) :: be (lw n) n
def unvarL : List UInt8 → Option (Nat × List UInt8)
  | [] => none
  | c :: t => if c.toNat < 248 then some (c.toNat, t) else
      if t.length < c.toNat - 247 then none else
      if vl (t.take (c.toNat - 247)) < 248 ∨ lw (vl (t.take (c.toNat - 247))) ≠ c.toNat - 247 then none else
      some (vl (t.take (c.toNat - 247)), t.drop (c.toNat - 247))
theorem toNat_ofNat {n : Nat} (h : n < 256) : (UInt8.ofNat n).toNat = n := UInt8.toNat_ofNat_of_lt' (by simpa using h)
theorem unvar_var {n : Nat} (hn : n < 18446744073709551616) (t : List UInt8) : unvarL (varL n ++ t) = some (n, t) := by
  unfold varL
  split
  case isTrue h =>
    simp only [List.singleton_append, unvarL, toNat_ofNat (show n < 256 by omega), if_pos h]
  case isFalse h =>
    have h8 := lw_le_8 hn
    have h1 : 1 ≤ lw n := by
      by_cases h0 : n = 0
      · omega
      · rw [lw_pos h0]; omega
    simp only [List.cons_append, unvarL, toNat_ofNat (show 247 + lw n < 256 by omega)]
    rw [if_neg (by omega), show 247 + lw n - 247 = lw n by omega]
    have hl : (be (lw n) n).length = lw n := be_length _ _
    have ht : (be (lw n) n ++ t).take (lw n) = be (lw n) n := List.take_left' hl
    have hd : (be (lw n) n ++ t).drop (lw n) = t := List.drop_left' hl
    have hv : vl (be (lw n) n) = n := vl_be_lt (lt_pow_lw n)
    rw [if_neg (by rw [List.length_append, hl]; omega), ht, hd, hv, if_neg (by omega)]
theorem var_unvar {l r : List UInt8} {n : Nat} (h : unvarL l = some (n, r)) : varL n ++ r = l ∧ n < 18446744073709551616 := by
  cases l with
  | nil => simp [unvarL] at h
  | cons c t =>
    have hc := c.toNat_lt
    simp only [unvarL] at h
    split at h
    case isTrue h1 =>
      simp only [Option.some.injEq, Prod.mk.injEq] at h
      obtain ⟨rfl, rfl⟩ := h
      simp only [varL, if_pos h1, List.singleton_append, UInt8.ofNat_toNat, true_and]
      omega
    case isFalse h1 =>
      split at h
      · cases h
      · rename_i h2
        split at h
        · cases h
        · rename_i h3
          simp only [Option.some.injEq, Prod.mk.injEq] at h
          obtain ⟨rfl, rfl⟩ := h
          have h4 : ¬ vl (t.take (c.toNat - 247)) < 248 := fun h => h3 (.inl h)
          have h5 : lw (vl (t.take (c.toNat - 247))) = c.toNat - 247 := Decidable.of_not_not fun h => h3 (.inr h)
          have hlen : (t.take (c.toNat - 247)).length = c.toNat - 247 := by rw [List.length_take]; omega
          have hbe : be (c.toNat - 247) (vl (t.take (c.toNat - 247))) = t.take (c.toNat - 247) := by
            have := be_vl (t.take (c.toNat - 247))
            rwa [hlen] at this
          constructor
          · simp only [varL, if_neg h4, h5, hbe, List.cons_append, List.take_append_drop]
            rw [show 247 + (c.toNat - 247) = c.toNat by omega, UInt8.ofNat_toNat]
          · have h6 := vl_lt (t.take (c.toNat - 247))
            rw [hlen] at h6
            have h7 : 256 ^ (c.toNat - 247) ≤ 256 ^ 8 := Nat.pow_le_pow_right (by omega) (by omega)
            have h8 : (256 : Nat) ^ 8 = 18446744073709551616 := by decide
            omega
theorem varL_length (n : Nat) (hn : n < 18446744073709551616) : 1 ≤ (varL n).length ∧ (varL n).length ≤ 9 := by
  unfold varL
  split
  · simp
  · have := lw_le_8 hn
    simp [be_length]
    omega
theorem unvar_length {l r : List UInt8} {n : Nat} (h : unvarL l = some (n, r)) : r.length < l.length := by
  obtain ⟨h1, h2⟩ := var_unvar h
  have := varL_length n h2
  rw [← h1, List.length_append]
  omega

/-! Numbers that may be negative. -/
def zig (i : Int) : Nat := if i < 0 then 2 * (-(i + 1)).toNat + 1 else 2 * i.toNat
def unzig (v : Nat) : Int := if v % 2 = 1 then -((v / 2 : Nat) : Int) - 1 else ((v / 2 : Nat) : Int)
theorem unzig_zig (i : Int) : unzig (zig i) = i := by unfold unzig zig; split <;> split <;> omega
theorem zig_unzig (v : Nat) : zig (unzig v) = v := by unfold unzig zig; split <;> split <;> omega
theorem zig_lt {i : Int} (h1 : -9223372036854775808 ≤ i) (h2 : i ≤ 9223372036854775807) : zig i < 18446744073709551616 := by unfold zig; split <;> omega
theorem unzig_bd {v : Nat} (h : v < 18446744073709551616) : -9223372036854775808 ≤ unzig v ∧ unzig v ≤ 9223372036854775807 := by unfold unzig; split <;> omega
/-! Strings with their lengths. -/
def untextL (l : List UInt8) : Option (List UInt8 × List UInt8) :=
  match unvarL l with
  | none => none
  | some (n, r) => if n > r.length then none else some (r.take n, r.drop n)
theorem untext_text (s t : List UInt8) (hs : s.length < 18446744073709551616) : untextL (varL s.length ++ s ++ t) = some (s, t) := by
  unfold untextL
  rw [List.append_assoc, unvar_var hs]
  simp
theorem text_untext {l s t : List UInt8} (h : untextL l = some (s, t)) : varL s.length ++ s ++ t = l := by
  unfold untextL at h
  split at h
  · cases h
  · rename_i n r hu
    split at h
    · cases h
    · simp only [Option.some.injEq, Prod.mk.injEq] at h
      obtain ⟨rfl, rfl⟩ := h
      have hl : (r.take n).length = n := by rw [List.length_take]; omega
      rw [hl, List.append_assoc, List.take_append_drop]
      exact (var_unvar hu).1
end Go.Proofs.Ytipbgeobgppagaa.Pk
