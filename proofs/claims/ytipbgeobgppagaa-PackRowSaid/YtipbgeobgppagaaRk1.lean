/- What the printed functions of pack and of its reference compute, in plain terms. -/
import Derived.Test.YtipbgeobgppagaaR1
import Derived.Laws.BitsAllLaws
namespace Go.Proofs.Ytipbgeobgppagaa.PureR
open Go.RowKit Go.Proofs.Ytipbgeobgppagaa.Ext Go.Proofs.Ytipbgeobgppagaa.R Go.Proofs.YtipbgeobgppagaaW.PrintWords Go.Proofs.YtipbgeobgppagaaW.PrintLast
open Go.Proofs.Ytipbgeobgppagaa.Pk
set_option linter.unusedVariables false
set_option linter.unusedSimpArgs false

theorem mkB_data (s : ByteArray) : mkB s.data.toList = s := by
  show (⟨s.data.toList.toArray⟩ : ByteArray) = s
  rw [Array.toArray_toList]
theorem data_mkB (l : List UInt8) : (mkB l).data.toList = l := rfl
theorem mkB_size (l : List UInt8) : (mkB l).size = l.length := by
  show l.toArray.size = l.length
  simp
theorem size_data (s : ByteArray) : s.data.toList.length = s.size := by
  rw [Array.length_toList]
  rfl
theorem mkB_append (a b : List UInt8) : mkB a ++ mkB b = mkB (a ++ b) := by
  apply ByteArray.ext
  rw [ByteArray.data_append]
  show a.toArray ++ b.toArray = (a ++ b).toArray
  simp
theorem mkB_extract (l : List UInt8) (i j : Nat) : (mkB l).extract i j = mkB ((l.take j).drop i) := by
  apply ByteArray.ext
  simp [mkB, ByteArray.data_extract, List.extract_eq_take_drop, List.drop_take]
theorem mkB_toList (l : List UInt8) : (mkB l).toList = l := by rw [ByteArray.toList_eq]; exact data_mkB l
theorem mkB_inj {a b : List UInt8} (h : mkB a = mkB b) : a = b := by rw [← data_mkB a, h, data_mkB]
theorem bt_mkB (l : List UInt8) (i : Nat) : bt (mkB l) i = (l.getD i 0).toNat := by
  unfold bt
  split
  · rename_i h
    have hl : i < l.length := by simpa [mkB_size] using h
    simp [mkB, hl, ByteArray.getElem_eq_getElem_data]
  · rename_i h
    have hl : l.length ≤ i := by simpa [mkB_size] using h
    simp [hl]

theorem vl_take_succ (l : List UInt8) (i : Nat) (h : i < l.length) : vl (l.take (i + 1)) = vl (l.take i) * 256 + (l.getD i 0).toNat := by
  rw [List.take_succ_eq_append_getElem h, vl_snoc]
  simp [h]
theorem or_add (a b : Nat) (ha : a < 72057594037927936) (hb : b < 256) : Go.bits .or .u64 ((a : Int) * 256) b = ((a * 256 + b : Nat) : Int) := by
  have h := u64_or_nat (a * 256) b (by omega) (by omega)
  rw [show ((a * 256 : Nat) : Int) = (a : Int) * 256 by omega] at h
  rw [h]
  congr 1
  rw [Nat.mul_comm a 256]
  exact (Nat.two_pow_add_eq_or_of_lt (i := 8) (by omega) a).symm
theorem vl_take_lt (l : List UInt8) (i : Nat) (hl : l.length ≤ 8) (hi : i < l.length) : vl (l.take i) < 72057594037927936 := by
  have h := vl_lt (l.take i)
  rw [List.length_take, Nat.min_eq_left (by omega)] at h
  have h2 : 256 ^ i ≤ 256 ^ 7 := Nat.pow_le_pow_right (by omega) (by omega)
  have h3 : (256 : Nat) ^ 7 = 72057594037927936 := by decide
  omega
theorem number_l0 (l : List UInt8) (hl : l.length ≤ 8) (d : Nat) : ∀ (k i : Nat), i + d = l.length → d < k →
    pack_number.l0 k (mkB l) (vl (l.take i)) l.length i = some ((vl l : Nat) : Int) := by
  induction d with
  | zero =>
    intro k i hi hk
    obtain ⟨k, rfl⟩ : ∃ m, k = m + 1 := ⟨k - 1, by omega⟩
    simp only [pack_number.l0]
    rw [if_neg (by omega), List.take_of_length_le (by omega)]
  | succ d ih =>
    intro k i hi hk
    obtain ⟨k, rfl⟩ : ∃ m, k = m + 1 := ⟨k - 1, by omega⟩
    simp only [pack_number.l0]
    have hlt := vl_take_lt l i hl (by omega)
    have hb : (l.getD i 0).toNat < 256 := UInt8.toNat_lt _
    rw [if_pos (by omega), if_pos (by omega), if_pos (by rw [mkB_size]; omega), bt_mkB]
    rw [show IntKind.u64.wrap (((vl (l.take i) : Nat) : Int) * 256) = ((vl (l.take i) : Nat) : Int) * 256 from by rw [IntWalk.u64_in _ (by omega)]]
    rw [show IntKind.u64.wrap (((l.getD i 0).toNat : Nat) : Int) = (((l.getD i 0).toNat : Nat) : Int) from by rw [IntWalk.u64_in _ (by omega)]]
    rw [or_add _ _ hlt hb, ← vl_take_succ l i (by omega)]
    rw [show wrap64 ((i : Int) + 1) = ((i + 1 : Nat) : Int) from by unfold wrap64; omega]
    exact ih k (i + 1) (by omega) (by omega)
theorem number_eq (k : Nat) (hk : 10 ≤ k) (l : List UInt8) (hl : l.length ≤ 8) : pack_number.f k (mkB l) = some ((vl l : Nat) : Int) := by
  unfold pack_number.f
  rw [mkB_size]
  exact number_l0 l hl l.length k 0 (by omega) (by omega)
theorem least_eq (n : Nat) (hn : n < 18446744073709551616) : pack_least.f n = some ((lw n : Nat) : Int) := by
  unfold pack_least.f
  rw [if_pos ⟨by omega, by omega⟩]
  simp
theorem var_eq (n : Nat) (hn : n < 18446744073709551616) : pack_Var.f n = some (mkB (varL n)) := by
  unfold pack_Var.f
  rw [if_pos ⟨by omega, by omega⟩]
  simp
theorem bytes_eq (n w : Nat) (hn : n < 18446744073709551616) (hw : w ≤ 8) : pack_bytes_uint64.f n w = some (mkB (be w n)) := by
  unfold pack_bytes_uint64.f
  rw [if_pos ⟨by omega, by omega, by omega, by omega⟩, Int.toNat_natCast, beB_eq]
/-- What Unvar answers. -/
def unvarR (l : List UInt8) : Int × ByteArray × Int := match unvarL l with | none => (0, mkB [], 4) | some (n, r) => ((n : Int), mkB r, 0)
theorem unvar_eq (k : Nat) (hk : 10 ≤ k) (l : List UInt8) (hl : l.length ≤ 140737488351232) : pack_Unvar.f k (mkB l) = some (unvarR l) := by
  unfold pack_Unvar.f
  rw [mkB_toList, mkB_size]
  cases l with
  | nil => rfl
  | cons c t =>
    have hc := c.toNat_lt
    have hb : bt (mkB (c :: t)) 0 = c.toNat := bt_mkB _ 0
    rw [if_neg (by simp), if_pos (by simp), hb]
    have hu : unvarL (c :: t) = if c.toNat < 248 then some (c.toNat, t) else
      if t.length < c.toNat - 247 then none else
      if vl (t.take (c.toNat - 247)) < 248 ∨ lw (vl (t.take (c.toNat - 247))) ≠ c.toNat - 247 then none else
      some (vl (t.take (c.toNat - 247)), t.drop (c.toNat - 247)) := rfl
    unfold unvarR
    rw [hu]
    by_cases h1 : c.toNat < 248
    · rw [if_pos (by omega), if_pos (by simp; omega), if_pos h1, mkB_extract]
      rw [IntWalk.u64_in _ (by omega)]
      simp
    · have e1 : wrap64 (c.toNat : Int) = c.toNat := by unfold wrap64; omega
      have e2 : wrap64 ((c.toNat : Int) - 247) = ((c.toNat - 247 : Nat) : Int) := by unfold wrap64; omega
      have e3 : wrap64 (1 + ((c.toNat - 247 : Nat) : Int)) = ((1 + (c.toNat - 247) : Nat) : Int) := by unfold wrap64; omega
      rw [if_neg (by omega), if_neg h1]
      simp only [e1, e2, e3, List.length_cons]
      by_cases h2 : t.length < c.toNat - 247
      · rw [if_pos (by omega), if_pos h2]; rfl
      · rw [if_neg (by omega), if_neg h2, if_pos (by omega), if_pos (by omega)]
        have ht : (mkB (c :: t)).extract 1 (((1 + (c.toNat - 247) : Nat) : Int)).toNat = mkB (t.take (c.toNat - 247)) := by
          rw [mkB_extract, Int.toNat_natCast, Nat.add_comm, List.take_succ_cons, List.drop_succ_cons, List.drop_zero]
        have hlt : (t.take (c.toNat - 247)).length = c.toNat - 247 := by rw [List.length_take]; omega
        have hd : (mkB (c :: t)).extract (((1 + (c.toNat - 247) : Nat) : Int)).toNat (t.length + 1) = mkB (t.drop (c.toNat - 247)) := by
          rw [mkB_extract, Int.toNat_natCast, List.take_of_length_le (by simp), Nat.add_comm 1, List.drop_succ_cons]
        have hvl : vl (t.take (c.toNat - 247)) < 18446744073709551616 := by
          have h := vl_lt (t.take (c.toNat - 247))
          rw [hlt] at h
          have h7 : 256 ^ (c.toNat - 247) ≤ 256 ^ 8 := Nat.pow_le_pow_right (by omega) (by omega)
          have h8 : (256 : Nat) ^ 8 = 18446744073709551616 := by decide
          omega
        rw [ht, number_eq k hk _ (by omega), Option.bind_some]
        generalize t.take (c.toNat - 247) = p at *
        by_cases h3 : vl p < 248
        · rw [if_pos (by omega), if_pos (.inl h3)]; rfl
        · rw [if_neg (by omega), least_eq _ hvl, Option.bind_some]
          by_cases h4 : lw (vl p) = c.toNat - 247
          · rw [if_pos (by omega), if_pos (by omega), if_neg (by simp [h3, h4]), hd]
          · rw [if_neg (by omega), if_pos (.inr h4)]; rfl
end Go.Proofs.Ytipbgeobgppagaa.PureR
