/- The plain law of PackReads: Unfixed, Unvar, Unint and Untext read what the reference reads. -/
import Derived.Test.YtipbgeobgppagaaPk3
import Derived.Test.YtipbgeobgppagaaX7
namespace Go.Proofs.Ytipbgeobgppagaa.Pure
open Go.RowKit Go.Proofs.Ytipbgeobgppagaa.Ext Go.Proofs.Ytipbgeobgppagaa.X Go.Proofs.YtipbgeobgppagaaW.PrintWords Go.Proofs.YtipbgeobgppagaaW.PrintLast
open Go.Proofs.Ytipbgeobgppagaa.Pk
set_option linter.unusedVariables false
set_option linter.unusedSimpArgs false

theorem rnumber_l0 (l : List UInt8) (hl : l.length ≤ 8) (d : Nat) : ∀ (k i : Nat), i + d = l.length → d < k →
    sacristanref02_Unfixed.l0 k (mkB l) (vl (l.take i)) i = some (((vl l : Nat) : Int), 0) := by
  induction d with
  | zero =>
    intro k i hi hk
    obtain ⟨k, rfl⟩ : ∃ m, k = m + 1 := ⟨k - 1, by omega⟩
    simp only [sacristanref02_Unfixed.l0]
    rw [if_neg (by rw [mkB_size]; omega), List.take_of_length_le (by omega)]
  | succ d ih =>
    intro k i hi hk
    obtain ⟨k, rfl⟩ : ∃ m, k = m + 1 := ⟨k - 1, by omega⟩
    simp only [sacristanref02_Unfixed.l0]
    have hlt := vl_take_lt l i hl (by omega)
    have hb : (l.getD i 0).toNat < 256 := UInt8.toNat_lt _
    rw [if_pos (by rw [mkB_size]; omega), if_pos (by omega), bt_mkB]
    rw [show IntKind.u64.wrap (((vl (l.take i) : Nat) : Int) * 256) = ((vl (l.take i) : Nat) : Int) * 256 from by rw [IntWalk.u64_in _ (by omega)]]
    rw [show IntKind.u64.wrap (((l.getD i 0).toNat : Nat) : Int) = (((l.getD i 0).toNat : Nat) : Int) from by rw [IntWalk.u64_in _ (by omega)]]
    rw [IntWalk.u64_in _ (by omega)]
    rw [show ((vl (l.take i) : Nat) : Int) * 256 + (((l.getD i 0).toNat : Nat) : Int) = ((vl (l.take i) * 256 + (l.getD i 0).toNat : Nat) : Int) by omega, ← vl_take_succ l i (by omega)]
    rw [show wrap64 ((i : Int) + 1) = ((i + 1 : Nat) : Int) from by unfold wrap64; omega]
    exact ih k (i + 1) (by omega) (by omega)
theorem runfixed_eq (k : Nat) (hk : 20 ≤ k) (l : List UInt8) : sacristanref02_Unfixed.f k (mkB l) = some (if l.length < 1 ∨ 8 < l.length then (0, 2) else (((vl l : Nat) : Int), 0)) := by
  obtain ⟨k, rfl⟩ : ∃ m, k = m + 1 := ⟨k - 1, by omega⟩
  unfold sacristanref02_Unfixed.f
  rw [mkB_size]
  by_cases h1 : l.length < 1
  · rw [if_pos (by omega), if_pos (.inl h1)]; simp only [sacristanref02_Unfixed.j0]; rfl
  · rw [if_neg (by omega)]
    simp only [sacristanref02_Unfixed.j0]
    by_cases h2 : 8 < l.length
    · rw [if_pos (by simp; omega), if_pos (.inr h2)]
    · rw [if_neg (by simp; omega), if_neg (by omega)]
      exact rnumber_l0 l (by omega) l.length k 0 (by omega) (by omega)
theorem runvar_eq (k : Nat) (hk : 30 ≤ k) (l : List UInt8) (hl : l.length ≤ 140737488351232) : sacristanref02_Unvar.f k (mkB l) = some (unvarR l) := by
  unfold sacristanref02_Unvar.f
  rw [mkB_size]
  cases l with
  | nil => rfl
  | cons c t =>
    have hc := c.toNat_lt
    have hb : bt (mkB (c :: t)) 0 = c.toNat := bt_mkB _ 0
    rw [if_neg (by simp <;> omega), if_pos (by simp <;> omega), hb]
    have hu : unvarL (c :: t) = if c.toNat < 248 then some (c.toNat, t) else
      if t.length < c.toNat - 247 then none else
      if vl (t.take (c.toNat - 247)) < 248 ∨ lw (vl (t.take (c.toNat - 247))) ≠ c.toNat - 247 then none else
      some (vl (t.take (c.toNat - 247)), t.drop (c.toNat - 247)) := rfl
    unfold unvarR
    rw [hu]
    by_cases h1 : c.toNat < 248
    · have hv : varL c.toNat = [c] := by simp [varL, h1]
      rw [if_neg (by omega), if_pos h1, IntWalk.u64_in _ (by omega), rvar_eq k (by omega) _ (by omega), Option.bind_some, if_pos (by omega), if_pos (by simp; omega), mkB_toList, mkB_extract, mkB_toList, hv, if_pos (by simp), mkB_extract]
      simp
    · have e1 : wrap64 (c.toNat : Int) = c.toNat := by unfold wrap64; omega
      have e2 : wrap64 (1 + (c.toNat : Int)) = 1 + (c.toNat : Int) := by unfold wrap64; omega
      have e3 : wrap64 (1 + (c.toNat : Int) - 247) = ((1 + (c.toNat - 247) : Nat) : Int) := by unfold wrap64; omega
      rw [if_pos (by omega), if_neg h1]
      simp only [e1, e2, e3, List.length_cons]
      by_cases h2 : t.length < c.toNat - 247
      · rw [if_pos (by omega), if_pos h2]; rfl
      · rw [if_neg (by omega), if_neg h2, if_pos (by omega), if_pos (by omega)]
        have ht : (mkB (c :: t)).extract 1 (((1 + (c.toNat - 247) : Nat) : Int)).toNat = mkB (t.take (c.toNat - 247)) := by
          rw [mkB_extract, Int.toNat_natCast, Nat.add_comm, List.take_succ_cons, List.drop_succ_cons, List.drop_zero]
        have h0 : ((mkB (c :: t)).extract 0 (((1 + (c.toNat - 247) : Nat) : Int)).toNat).toList = c :: t.take (c.toNat - 247) := by
          rw [mkB_extract, Int.toNat_natCast, Nat.add_comm, List.take_succ_cons, List.drop_zero, mkB_toList]
        have hlt : (t.take (c.toNat - 247)).length = c.toNat - 247 := by rw [List.length_take]; omega
        have hd : (mkB (c :: t)).extract (((1 + (c.toNat - 247) : Nat) : Int)).toNat (t.length + 1) = mkB (t.drop (c.toNat - 247)) := by
          rw [mkB_extract, Int.toNat_natCast, List.take_of_length_le (by simp), Nat.add_comm 1, List.drop_succ_cons]
        have hvl : vl (t.take (c.toNat - 247)) < 18446744073709551616 := by
          have h := vl_lt (t.take (c.toNat - 247))
          rw [hlt] at h
          have h7 : 256 ^ (c.toNat - 247) ≤ 256 ^ 8 := Nat.pow_le_pow_right (by omega) (by omega)
          have h8 : (256 : Nat) ^ 8 = 18446744073709551616 := by decide
          omega
        have hbe : be (c.toNat - 247) (vl (t.take (c.toNat - 247))) = t.take (c.toNat - 247) := by
          have := be_vl (t.take (c.toNat - 247))
          rwa [hlt] at this
        rw [ht, runfixed_eq k (by omega), if_neg (by omega), Option.bind_some, rvar_eq k (by omega) _ hvl, Option.bind_some, if_pos (by omega), mkB_toList, h0, hd]
        by_cases h3 : vl (t.take (c.toNat - 247)) < 248 ∨ lw (vl (t.take (c.toNat - 247))) ≠ c.toNat - 247
        · rw [if_pos h3, if_neg]
          · rfl
          · intro he
            unfold varL at he
            split at he
            · have := congrArg List.length he
              simp only [List.length_cons, List.length_nil, hlt] at this
              omega
            · rename_i h4
              have := congrArg List.length he
              simp only [List.length_cons, be_length, hlt] at this
              rcases h3 with h3 | h3
              · exact h4 h3
              · omega
        · have h4 : ¬ vl (t.take (c.toNat - 247)) < 248 := fun h => h3 (.inl h)
          have h5 : lw (vl (t.take (c.toNat - 247))) = c.toNat - 247 := Decidable.of_not_not fun h => h3 (.inr h)
          rw [if_neg h3, if_pos]
          simp only [varL, if_neg h4, h5, hbe]
          rw [show 247 + (c.toNat - 247) = c.toNat by omega, UInt8.ofNat_toNat]
theorem runint_eq (k : Nat) (hk : 30 ≤ k) (l : List UInt8) (hl : l.length ≤ 140737488351232) : sacristanref02_Unint.f k (mkB l) = some (unintR l) := by
  unfold sacristanref02_Unint.f
  rw [runvar_eq k hk l hl, Option.bind_some]
  unfold unvarR unintR
  cases h : unvarL l with
  | none => rfl
  | some p =>
    obtain ⟨n, r⟩ := p
    have hn := unvar_lt h
    simp only []
    rw [if_pos trivial, Int.tmod_eq_emod_of_nonneg (by omega), Int.tdiv_eq_ediv_of_nonneg (by omega)]
    have e0 : IntKind.u64.wrap ((n : Int) / 2) = (n : Int) / 2 := IntWalk.u64_in _ (by omega)
    have e1 : wrap64 ((n : Int) / 2) = (n : Int) / 2 := by unfold wrap64; omega
    have e2 : wrap64 (-((n : Int) / 2)) = -((n : Int) / 2) := by unfold wrap64; omega
    have e3 : wrap64 (-((n : Int) / 2) - 1) = -((n : Int) / 2) - 1 := by unfold wrap64; omega
    rw [e0, e1, e2, e3]
    unfold unzig
    by_cases h2 : n % 2 = 1
    · rw [if_pos (by omega), if_pos h2]
      congr 2
    · rw [if_neg (by omega), if_neg h2]
      congr 2
theorem runtext_eq (k : Nat) (hk : 30 ≤ k) (l : List UInt8) (hl : l.length ≤ 140737488351232) : sacristanref02_Untext.f k (mkB l) = some (untextR l) := by
  unfold sacristanref02_Untext.f
  rw [runvar_eq k hk l hl, Option.bind_some]
  unfold unvarR untextR untextL
  cases h : unvarL l with
  | none => rfl
  | some p =>
    obtain ⟨n, r⟩ := p
    have hr := unvar_length h
    simp only [mkB_size]
    rw [if_pos trivial, IntWalk.u64_in _ (by omega)]
    by_cases h2 : n > r.length
    · rw [if_pos (by omega), if_pos h2]; rfl
    · rw [if_neg (by omega), if_neg h2, if_pos (by omega), if_pos (by omega), Int.toNat_natCast, mkB_extract, mkB_extract, List.take_of_length_le (Nat.le_refl _)]
      rfl
theorem PackReads : sacristanlaw02_PackReads.Pure := by
  intro a0 w0
  obtain ⟨s, rfl⟩ : ∃ l, a0 = mkB l := ⟨_, (mkB_data a0).symm⟩
  rw [mkB_size] at w0
  refine ⟨103, ?_⟩
  unfold sacristanlaw02_PackReads.f
  rw [mkB_size]
  by_cases hs : (s.length : Int) > 2000
  · rw [if_pos hs, known_eq 103 (by omega)]; rfl
  · rw [if_neg hs, unfixed_eq 103 (by omega), Option.bind_some, runfixed_eq 103 (by omega), Option.bind_some, if_pos rfl]
    generalize (if s.length < 1 ∨ 8 < s.length then ((0, 2) : Int × Int) else (((vl s : Nat) : Int), 0)) = p
    rw [show (p.2 != p.2) = false by simp]
    simp only [sacristanlaw02_PackReads.j0]
    rw [if_neg (by simp), unvar_eq 102 (by omega) s w0, Option.bind_some, runvar_eq 102 (by omega) s w0, Option.bind_some, if_pos rfl, if_pos rfl]
    rw [show ((unvarR s).2.2 != (unvarR s).2.2) = false by simp]
    simp only [sacristanlaw02_PackReads.j1]
    rw [if_neg (by simp), unint_eq 101 (by omega) s w0, Option.bind_some, runint_eq 101 (by omega) s w0, Option.bind_some, if_pos rfl, if_pos rfl]
    rw [show ((unintR s).2.2 != (unintR s).2.2) = false by simp]
    simp only [sacristanlaw02_PackReads.j2]
    rw [if_neg (by simp), untext_eq 100 (by omega) s w0, Option.bind_some, runtext_eq 100 (by omega) s w0, Option.bind_some, if_pos rfl, if_pos rfl, if_pos rfl, known_eq 100 (by omega)]
    rfl
end Go.Proofs.Ytipbgeobgppagaa.Pure
