/- What the printed functions of the reference of pack compute; lines of r2's texts (XRk1, XPk3, XPurePackReads), turned to this seat. -/
import Derived.Test.YtldpmeaibkpojaaRV5
import Derived.Test.YtldpmeaibkpojaaRPackU
import Derived.Laws.BitsAllLaws
namespace Go.Proofs.YtldpmeaibkpojaaR.PureV
open Go.RowKit Go.Proofs.YtldpmeaibkpojaaR.Ext Go.Proofs.YtldpmeaibkpojaaR.V Go.Proofs.YtldpmeaibkpojaaRW.PrintWords Go.Proofs.YtldpmeaibkpojaaRW.PrintLast
open Go.Proofs.YtldpmeaibkpojaaR.Pk
set_option linter.unusedVariables false
set_option linter.unusedSimpArgs false

theorem mkB_data (s : ByteArray) : mkB s.data.toList = s := by
  show (⟨s.data.toList.toArray⟩ : ByteArray) = s
  rw [Array.toArray_toList]
theorem data_mkB (l : List UInt8) : (mkB l).data.toList = l := rfl
theorem mkB_size (l : List UInt8) : (mkB l).size = l.length := by
  show l.toArray.size = l.length
  simp
theorem size_data (s : ByteArray) : s.data.toList.length = s.size := by
  rw [Array.length_toList]
  rfl
theorem mkB_append (a b : List UInt8) : mkB a ++ mkB b = mkB (a ++ b) := by
  apply ByteArray.ext
  rw [ByteArray.data_append]
  show a.toArray ++ b.toArray = (a ++ b).toArray
  simp
theorem mkB_extract (l : List UInt8) (i j : Nat) : (mkB l).extract i j = mkB ((l.take j).drop i) := by
  apply ByteArray.ext
  simp [mkB, ByteArray.data_extract, List.extract_eq_take_drop, List.drop_take]
theorem mkB_toList (l : List UInt8) : (mkB l).toList = l := by rw [ByteArray.toList_eq]; exact data_mkB l
theorem mkB_inj {a b : List UInt8} (h : mkB a = mkB b) : a = b := by rw [← data_mkB a, h, data_mkB]
theorem bt_mkB (l : List UInt8) (i : Nat) : bt (mkB l) i = (l.getD i 0).toNat := by
  unfold bt
  split
  · rename_i h
    have hl : i < l.length := by simpa [mkB_size] using h
    simp [mkB, hl, ByteArray.getElem_eq_getElem_data]
  · rename_i h
    have hl : l.length ≤ i := by simpa [mkB_size] using h
    simp [hl]

theorem vl_take_succ (l : List UInt8) (i : Nat) (h : i < l.length) : vl (l.take (i + 1)) = vl (l.take i) * 256 + (l.getD i 0).toNat := by
  rw [List.take_succ_eq_append_getElem h, vl_snoc]
  simp [h]
theorem vl_take_lt (l : List UInt8) (i : Nat) (hl : l.length ≤ 8) (hi : i < l.length) : vl (l.take i) < 72057594037927936 := by
  have h := vl_lt (l.take i)
  rw [List.length_take, Nat.min_eq_left (by omega)] at h
  have h2 : 256 ^ i ≤ 256 ^ 7 := Nat.pow_le_pow_right (by omega) (by omega)
  have h3 : (256 : Nat) ^ 7 = 72057594037927936 := by decide
  omega
theorem unvar_lt {l r : List UInt8} {n : Nat} (h : unvarL l = some (n, r)) : n < 18446744073709551616 := (var_unvar h).2
def unvarR (l : List UInt8) : Int × ByteArray × Int := match unvarL l with | none => (0, mkB [], 4) | some (n, r) => ((n : Int), mkB r, 0)
theorem tdiv_256 (n : Nat) (hn : n < 18446744073709551616) : IntKind.u64.wrap (Int.tdiv (n : Int) 256) = ((n / 256 : Nat) : Int) := by
  rw [Int.tdiv_eq_ediv_of_nonneg (by omega), IntWalk.u64_in _ (by omega)]
  omega
theorem width_l0 (d : Nat) : ∀ (k n c : Nat), n < 18446744073709551616 → lw n ≤ d → d < k → c + d ≤ 1000 →
    sacristanref02_Width.l0 k n c = some ((c + (lw n - 1) : Nat) : Int) := by
  induction d with
  | zero =>
    intro k n c hn hd hk hc
    obtain ⟨k, rfl⟩ : ∃ m, k = m + 1 := ⟨k - 1, by omega⟩
    have : n = 0 := by
      have := (lw_le_iff n 0).1 hd
      simpa using this
    subst this
    simp only [sacristanref02_Width.l0]
    rw [if_neg (by omega), lw_zero]
    rfl
  | succ d ih =>
    intro k n c hn hd hk hc
    obtain ⟨k, rfl⟩ : ∃ m, k = m + 1 := ⟨k - 1, by omega⟩
    simp only [sacristanref02_Width.l0]
    by_cases h : n > 255
    · have h1 : lw n = lw (n / 256) + 1 := lw_pos (by omega)
      have h2 : lw (n / 256) ≠ 0 := by rw [lw_pos (by omega)]; omega
      rw [if_pos (by omega), tdiv_256 n hn, show wrap64 ((c : Int) + 1) = ((c + 1 : Nat) : Int) from by unfold wrap64; omega]
      rw [ih k (n / 256) (c + 1) (by omega) (by omega) (by omega) (by omega)]
      congr 2
      omega
    · have h1 : lw n ≤ 1 := (lw_le_iff n 1).2 (by omega)
      rw [if_neg (by omega)]
      congr 2
      omega
theorem width_eq (k : Nat) (hk : 10 ≤ k) (n : Nat) (hn : n < 18446744073709551616) : sacristanref02_Width.f k n = some ((1 + (lw n - 1) : Nat) : Int) := by
  unfold sacristanref02_Width.f
  exact width_l0 8 k n 1 hn (lw_le_8 hn) (by omega) (by omega)
theorem refbytes_l0 (i : Nat) : ∀ (k n : Nat) (xs : List Int), n < 18446744073709551616 → i ≤ xs.length → xs.length ≤ 100 → i < k →
    sacristanref02_bytes.l0 k n xs ((i : Int) - 1) = some (strOfNums (beB i n ++ xs.drop i)) := by
  induction i with
  | zero =>
    intro k n xs hn hi hx hk
    obtain ⟨k, rfl⟩ : ∃ m, k = m + 1 := ⟨k - 1, by omega⟩
    simp only [sacristanref02_bytes.l0]
    rw [if_neg (by omega)]
    rfl
  | succ i ih =>
    intro k n xs hn hi hx hk
    obtain ⟨k, rfl⟩ : ∃ m, k = m + 1 := ⟨k - 1, by omega⟩
    simp only [sacristanref02_bytes.l0]
    have e : (((i + 1 : Nat) : Int) - 1) = (i : Int) := by omega
    rw [e, if_pos (by omega), if_pos (by omega), if_pos (by omega), tdiv_256 n hn, Int.toNat_natCast]
    rw [show wrap64 ((i : Int) - 1) = (i : Int) - 1 from by unfold wrap64; omega]
    rw [ih k (n / 256) _ (by omega) (by simp; omega) (by simpa using hx) (by omega)]
    have e2 : Int.tmod (n : Int) 256 % 256 = (n : Int) % 256 := by rw [Int.tmod_eq_emod_of_nonneg (by omega)]; omega
    rw [e2, beB]
    congr 1
    rw [List.append_assoc]
    congr 2
    rw [List.drop_eq_getElem_cons (by simp; omega)]
    simp [List.drop_set_of_lt]
theorem refbytes_eq (k : Nat) (n w : Nat) (hn : n < 18446744073709551616) (hw : w ≤ 100) (hk : w < k) : sacristanref02_bytes.f k n w = some (mkB (be w n)) := by
  unfold sacristanref02_bytes.f
  rw [if_pos (by omega), if_pos (by omega), Int.toNat_natCast]
  rw [show wrap64 ((w : Int) - 1) = (w : Int) - 1 from by unfold wrap64; omega]
  rw [refbytes_l0 w k n _ hn (by simp) (by simp; omega) hk, List.drop_of_length_le (by simp), List.append_nil, beB_eq]
theorem rvar_eq (k : Nat) (hk : 20 ≤ k) (n : Nat) (hn : n < 18446744073709551616) : sacristanref02_Var.f k n = some (mkB (varL n)) := by
  unfold sacristanref02_Var.f varL
  have h8 := lw_le_8 hn
  by_cases h : n < 248
  · rw [if_pos (by omega), if_pos h]
    have := refbytes_eq k n 1 hn (by omega) (by omega)
    rw [show ((1 : Nat) : Int) = 1 from rfl] at this
    rw [this, Option.bind_some]
    have e : be 1 n = [UInt8.ofNat n] := by simp [be, Nat.mod_eq_of_lt (show n < 256 by omega)]
    rw [e]
  · have h1 : 1 ≤ lw n := by rw [lw_pos (by omega)]; omega
    rw [if_neg (by omega), if_neg h, width_eq k (by omega) n hn, Option.bind_some]
    rw [show 1 + (lw n - 1) = lw n by omega]
    rw [show wrap64 (247 + ((lw n : Nat) : Int)) = ((247 + lw n : Nat) : Int) from by unfold wrap64; omega, IntWalk.u64_in _ (by omega)]
    have := refbytes_eq k (247 + lw n) 1 (by omega) (by omega) (by omega)
    rw [show ((1 : Nat) : Int) = 1 from rfl] at this
    have e : be 1 (247 + lw n) = [UInt8.ofNat (247 + lw n)] := by simp [be, Nat.mod_eq_of_lt (show 247 + lw n < 256 by omega)]
    rw [this, Option.bind_some, Option.bind_some, refbytes_eq k n (lw n) hn (by omega) (by omega), Option.bind_some, mkB_size, mkB_size, be_length, be_length, if_pos (by omega), mkB_append, e]
    rfl
theorem rnumber_l0 (l : List UInt8) (hl : l.length ≤ 8) (d : Nat) : ∀ (k i : Nat), i + d = l.length → d < k →
    sacristanref02_Unfixed.l0 k (mkB l) (vl (l.take i)) i = some (((vl l : Nat) : Int), 0) := by
  induction d with
  | zero =>
    intro k i hi hk
    obtain ⟨k, rfl⟩ : ∃ m, k = m + 1 := ⟨k - 1, by omega⟩
    simp only [sacristanref02_Unfixed.l0]
    rw [if_neg (by rw [mkB_size]; omega), List.take_of_length_le (by omega)]
  | succ d ih =>
    intro k i hi hk
    obtain ⟨k, rfl⟩ : ∃ m, k = m + 1 := ⟨k - 1, by omega⟩
    simp only [sacristanref02_Unfixed.l0]
    have hlt := vl_take_lt l i hl (by omega)
    have hb : (l.getD i 0).toNat < 256 := UInt8.toNat_lt _
    rw [if_pos (by rw [mkB_size]; omega), if_pos (by omega), bt_mkB]
    rw [show IntKind.u64.wrap (((vl (l.take i) : Nat) : Int) * 256) = ((vl (l.take i) : Nat) : Int) * 256 from by rw [IntWalk.u64_in _ (by omega)]]
    rw [show IntKind.u64.wrap (((l.getD i 0).toNat : Nat) : Int) = (((l.getD i 0).toNat : Nat) : Int) from by rw [IntWalk.u64_in _ (by omega)]]
    rw [IntWalk.u64_in _ (by omega)]
    rw [show ((vl (l.take i) : Nat) : Int) * 256 + (((l.getD i 0).toNat : Nat) : Int) = ((vl (l.take i) * 256 + (l.getD i 0).toNat : Nat) : Int) by omega, ← vl_take_succ l i (by omega)]
    rw [show wrap64 ((i : Int) + 1) = ((i + 1 : Nat) : Int) from by unfold wrap64; omega]
    exact ih k (i + 1) (by omega) (by omega)
theorem runfixed_eq (k : Nat) (hk : 20 ≤ k) (l : List UInt8) : sacristanref02_Unfixed.f k (mkB l) = some (if l.length < 1 ∨ 8 < l.length then (0, 2) else (((vl l : Nat) : Int), 0)) := by
  obtain ⟨k, rfl⟩ : ∃ m, k = m + 1 := ⟨k - 1, by omega⟩
  unfold sacristanref02_Unfixed.f
  rw [mkB_size]
  by_cases h1 : l.length < 1
  · rw [if_pos (by omega), if_pos (.inl h1)]; simp only [sacristanref02_Unfixed.j0]; rfl
  · rw [if_neg (by omega)]
    simp only [sacristanref02_Unfixed.j0]
    by_cases h2 : 8 < l.length
    · rw [if_pos (by simp; omega), if_pos (.inr h2)]
    · rw [if_neg (by simp; omega), if_neg (by omega)]
      exact rnumber_l0 l (by omega) l.length k 0 (by omega) (by omega)
theorem runvar_eq (k : Nat) (hk : 30 ≤ k) (l : List UInt8) (hl : l.length ≤ 140737488351232) : sacristanref02_Unvar.f k (mkB l) = some (unvarR l) := by
  unfold sacristanref02_Unvar.f
  rw [mkB_size]
  cases l with
  | nil => rfl
  | cons c t =>
    have hc := c.toNat_lt
    have hb : bt (mkB (c :: t)) 0 = c.toNat := bt_mkB _ 0
    rw [if_neg (by simp <;> omega), if_pos (by simp <;> omega), hb]
    have hu : unvarL (c :: t) = if c.toNat < 248 then some (c.toNat, t) else
      if t.length < c.toNat - 247 then none else
      if vl (t.take (c.toNat - 247)) < 248 ∨ lw (vl (t.take (c.toNat - 247))) ≠ c.toNat - 247 then none else
      some (vl (t.take (c.toNat - 247)), t.drop (c.toNat - 247)) := rfl
    unfold unvarR
    rw [hu]
    by_cases h1 : c.toNat < 248
    · have hv : varL c.toNat = [c] := by simp [varL, h1]
      rw [if_neg (by omega), if_pos h1, IntWalk.u64_in _ (by omega), rvar_eq k (by omega) _ (by omega), Option.bind_some, if_pos (by omega), if_pos (by simp; omega), mkB_toList, mkB_extract, mkB_toList, hv, if_pos (by simp), mkB_extract]
      simp
    · have e1 : wrap64 (c.toNat : Int) = c.toNat := by unfold wrap64; omega
      have e2 : wrap64 (1 + (c.toNat : Int)) = 1 + (c.toNat : Int) := by unfold wrap64; omega
      have e3 : wrap64 (1 + (c.toNat : Int) - 247) = ((1 + (c.toNat - 247) : Nat) : Int) := by unfold wrap64; omega
      rw [if_pos (by omega), if_neg h1]
      simp only [e1, e2, e3, List.length_cons]
      by_cases h2 : t.length < c.toNat - 247
      · rw [if_pos (by omega), if_pos h2]; rfl
      · rw [if_neg (by omega), if_neg h2, if_pos (by omega), if_pos (by omega)]
        have ht : (mkB (c :: t)).extract 1 (((1 + (c.toNat - 247) : Nat) : Int)).toNat = mkB (t.take (c.toNat - 247)) := by
          rw [mkB_extract, Int.toNat_natCast, Nat.add_comm, List.take_succ_cons, List.drop_succ_cons, List.drop_zero]
        have h0 : ((mkB (c :: t)).extract 0 (((1 + (c.toNat - 247) : Nat) : Int)).toNat).toList = c :: t.take (c.toNat - 247) := by
          rw [mkB_extract, Int.toNat_natCast, Nat.add_comm, List.take_succ_cons, List.drop_zero, mkB_toList]
        have hlt : (t.take (c.toNat - 247)).length = c.toNat - 247 := by rw [List.length_take]; omega
        have hd : (mkB (c :: t)).extract (((1 + (c.toNat - 247) : Nat) : Int)).toNat (t.length + 1) = mkB (t.drop (c.toNat - 247)) := by
          rw [mkB_extract, Int.toNat_natCast, List.take_of_length_le (by simp), Nat.add_comm 1, List.drop_succ_cons]
        have hvl : vl (t.take (c.toNat - 247)) < 18446744073709551616 := by
          have h := vl_lt (t.take (c.toNat - 247))
          rw [hlt] at h
          have h7 : 256 ^ (c.toNat - 247) ≤ 256 ^ 8 := Nat.pow_le_pow_right (by omega) (by omega)
          have h8 : (256 : Nat) ^ 8 = 18446744073709551616 := by decide
          omega
        have hbe : be (c.toNat - 247) (vl (t.take (c.toNat - 247))) = t.take (c.toNat - 247) := by
          have := be_vl (t.take (c.toNat - 247))
          rwa [hlt] at this
        rw [ht, runfixed_eq k (by omega), if_neg (by omega), Option.bind_some, rvar_eq k (by omega) _ hvl, Option.bind_some, if_pos (by omega), mkB_toList, h0, hd]
        by_cases h3 : vl (t.take (c.toNat - 247)) < 248 ∨ lw (vl (t.take (c.toNat - 247))) ≠ c.toNat - 247
        · rw [if_pos h3, if_neg]
          · rfl
          · intro he
            unfold varL at he
            split at he
            · have := congrArg List.length he
              simp only [List.length_cons, List.length_nil, hlt] at this
              omega
            · rename_i h4
              have := congrArg List.length he
              simp only [List.length_cons, be_length, hlt] at this
              rcases h3 with h3 | h3
              · exact h4 h3
              · omega
        · have h4 : ¬ vl (t.take (c.toNat - 247)) < 248 := fun h => h3 (.inl h)
          have h5 : lw (vl (t.take (c.toNat - 247))) = c.toNat - 247 := Decidable.of_not_not fun h => h3 (.inr h)
          rw [if_neg h3, if_pos]
          simp only [varL, if_neg h4, h5, hbe]
          rw [show 247 + (c.toNat - 247) = c.toNat by omega, UInt8.ofNat_toNat]
end Go.Proofs.YtldpmeaibkpojaaR.PureV
