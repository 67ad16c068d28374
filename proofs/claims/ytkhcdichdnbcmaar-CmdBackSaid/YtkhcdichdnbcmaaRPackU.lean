/- The contracts of pack, by hand: number, Unvar, Int, Unint. -/
import Derived.Handy
import Derived.KernelRfl
import Derived.Lib.Hide
import Derived.Laws.BitsAllLaws
import Derived.Test.YtkhcdichdnbcmaaRProg
import Derived.Test.YtkhcdichdnbcmaaRPk0
import Derived.Test.YtkhcdichdnbcmaaRBase
import Derived.Test.YtkhcdichdnbcmaaRPackH
import Derived.Test.YtkhcdichdnbcmaaRWWords
import Derived.Test.YtkhcdichdnbcmaaRWLast
import Derived.Test.YtkhcdichdnbcmaaRWMore
namespace Go.Proofs.YtkhcdichdnbcmaaR.Ext
open Go.RowKit Go.Proofs.YtkhcdichdnbcmaaRW.PrintWords
set_option linter.unusedVariables false
set_option linter.unusedSimpArgs false

/-! ### pack.number, pack.Unvar -/
open Pk in
theorem vl_take_succ (l : List UInt8) (i : Nat) (h : i < l.length) : vl (l.take (i + 1)) = vl (l.take i) * 256 + l[i].toNat := by
  rw [List.take_succ_eq_append_getElem h, vl_snoc]
theorem or_add (a b : Nat) (ha : a < 72057594037927936) (hb : b < 256) : Go.bits .or .u64 ((a : Int) * 256) b = ((a * 256 + b : Nat) : Int) := by
  have h := u64_or_nat (a * 256) b (by omega) (by omega)
  rw [show ((a * 256 : Nat) : Int) = (a : Int) * 256 by omega] at h
  rw [h]
  congr 1
  rw [Nat.mul_comm a 256]
  exact (Nat.two_pow_add_eq_or_of_lt (i := 8) (by omega) a).symm
open Pk in
theorem vl_take_lt (l : List UInt8) (i : Nat) (hl : l.length ≤ 8) (hi : i < l.length) : vl (l.take i) < 72057594037927936 := by
  have h := vl_lt (l.take i)
  rw [List.length_take, Nat.min_eq_left (by omega)] at h
  have h2 : 256 ^ i ≤ 256 ^ 7 := Nat.pow_le_pow_right (by omega) (by omega)
  have h3 : (256 : Nat) ^ 7 = 72057594037927936 := by decide
  omega
set_option maxHeartbeats 1000000 in
theorem number_c (s : ByteArray) (hl : s.size ≤ 8) (w : World) : Calls Try.prog 75 #[.string s] w fun e w' => e = .returned (.int .u64 (Pk.vl s.data.toList)) ∧ w' = w := by
  go_enter Try.func75, Try.ntmps75
  go_wp2
  go_loop [3, 4, 7] (fun v _ i => ∃ k : Nat, k ≤ s.size ∧ i = .int .i64 k ∧ v = .int .u64 (Pk.vl (s.data.toList.take k))) (fun _ _ i => s.size - (intOf i).toNat)
  case atStart => exact ⟨0, Nat.zero_le _, rfl, rfl⟩
  case round =>
    obtain ⟨k, hk, rfl, rfl⟩ := hrel
    by_cases hlt : k < s.size
    · have h1 := vl_take_lt s.data.toList k (by simpa using hl) (by simpa using hlt)
      have h2 := vl_take_succ s.data.toList k (by simpa using hlt)
      have hgk : s.data.toList[k]'(by simpa using hlt) = s[k] := by simp [ByteArray.getElem_eq_getElem_data]
      rw [hgk] at h2
      have h3 := s[k].toNat_lt
      have h4 := or_add _ _ h1 (by omega : s[k].toNat < 256)
      rw [← h2] at h4
      have h5 : IntKind.u64.wrap ((Pk.vl (s.data.toList.take k) : Int) * 256) = (Pk.vl (s.data.toList.take k) : Int) * 256 := IntWalk.u64_in _ (by omega)
      have h6 : IntKind.u64.wrap (s[k].toNat : Int) = (s[k].toNat : Int) := IntWalk.u64_in _ (by omega)
      have H4 := Lib.hid h4
      have H5 := Lib.hid h5
      have H6 := Lib.hid h6
      clear h1 h2 h3 h4 h5 h6 hgk
      go_wp2
      go_round
      case rel => exact ⟨k + 1, by omega, by go_num, by rw [H5.out, H6.out, H4.out]⟩
      case measure => simp [intOf]; omega
    · go_wp2
      go_returns
      exact ⟨by rw [List.take_of_length_le (by simp; omega)]; rfl, rfl⟩
def unvarR (l : List UInt8) : Int × ByteArray × Int := match Pk.unvarL l with | none => (0, mkB [], 4) | some (n, r) => ((n : Int), mkB r, 0)
theorem unvarL_cons (c : UInt8) (t : List UInt8) : Pk.unvarL (c :: t) = if c.toNat < 248 then some (c.toNat, t) else
      if t.length < c.toNat - 247 then none else
      if Pk.vl (t.take (c.toNat - 247)) < 248 ∨ Pk.lw (Pk.vl (t.take (c.toNat - 247))) ≠ c.toNat - 247 then none else
      some (Pk.vl (t.take (c.toNat - 247)), t.drop (c.toNat - 247)) := rfl
def retU (x : Int × ByteArray × Int) : Ending := .returned (.tuple #[.int .u64 x.1, .string x.2.1, .int .i64 x.2.2])
theorem unvar_0 (w : World) : Calls Try.prog 47 #[.string (mkB [])] w fun e w' => e = retU (unvarR []) ∧ Drawn0 w w' := by
  have h1 : (mkB []).toList.isEmpty = true := by decide +kernel
  go_enter Try.func47, Try.ntmps47
  go_wp2
  go_returns
  exact ⟨rfl, Drawn0.refl _⟩
set_option maxHeartbeats 2000000 in
theorem unvar_1 (c : UInt8) (l : List UInt8) (hc : c.toNat < 248) (w : World) : Calls Try.prog 47 #[.string (mkB (c :: l))] w fun e w' => e = retU (unvarR (c :: l)) ∧ Drawn0 w w' := by
  have hs : (mkB (c :: l)).size = l.length + 1 := by simp [mkB, ByteArray.size]
  have hp : 0 < (mkB (c :: l)).size := by omega
  have hg : (mkB (c :: l))[0] = c := rfl
  have he : (mkB (c :: l)).toList.isEmpty = false := by rw [ByteArray.toList_eq]; rfl
  have hx : (mkB (c :: l)).extract 1 (l.length + 1) = mkB l := by
    apply ByteArray.ext
    simp [mkB, ByteArray.data_extract, List.extract_eq_take_drop]
  have hcI : (c.toNat : Int) < 248 := by omega
  have hcB : decide ((c.toNat : Int) < 248) = true := decide_eq_true hcI
  have HC := Lib.hid hc
  clear hc
  generalize mkB (c :: l) = s at *
  go_enter Try.func47, Try.ntmps47
  go_wp2_with fail
  go_quiet (fail)
  go_wp2
  go_returns
  refine ⟨?_, ⟨nq, rfl⟩⟩
  have hu : unvarR (c :: l) = ((c.toNat : Int), mkB l, 0) := by
    unfold unvarR
    rw [unvarL_cons, if_pos HC.out]
  rw [hu]; rfl
theorem slice_mid (s : ByteArray) (l : List UInt8) (m : Nat) (hs : s.size = l.length + 1) (hl : m ≤ l.length) (hx : s.extract 1 (1 + m) = mkB (l.take m)) (W : World) : (Instr.slice 9 (.string s) (some (.int .i64 1)) (some (.int .i64 (1 + (m : Int)))) none).run Try.prog W = .ok (.string (mkB (l.take m))) W := by
  have h1 : (1 + (m : Int)).toNat = 1 + m := by omega
  simp [go_sem, hs, Instr.slice]
  rw [if_pos ⟨by omega, by omega⟩, if_pos (by omega), h1, hx]
theorem slice_end (s : ByteArray) (l : List UInt8) (m : Nat) (hs : s.size = l.length + 1) (hl : m ≤ l.length) (hx : s.extract (1 + m) (l.length + 1) = mkB (l.drop m)) (W : World) : (Instr.slice 9 (.string s) (some (.int .i64 (1 + (m : Int)))) none none).run Try.prog W = .ok (.string (mkB (l.drop m))) W := by
  have h1 : (1 + (m : Int)).toNat = 1 + m := by omega
  simp [go_sem, hs, Instr.slice]
  rw [if_pos ⟨by omega, by omega⟩, h1, hx]
set_option maxHeartbeats 2000000 in
set_option maxRecDepth 100000 in
theorem unvar_2 (c : UInt8) (l : List UInt8) (m : Nat) (hc : c.toNat = 247 + m) (hm : 1 ≤ m) (w : World) : Calls Try.prog 47 #[.string (mkB (c :: l))] w fun e w' => e = retU (unvarR (c :: l)) ∧ Drawn0 w w' := by
  have hm8 : m ≤ 8 := by have := c.toNat_lt; omega
  have hs : (mkB (c :: l)).size = l.length + 1 := by simp [mkB, ByteArray.size]
  have hp : 0 < (mkB (c :: l)).size := by omega
  have hg : (mkB (c :: l))[0] = c := rfl
  have he : (mkB (c :: l)).toList.isEmpty = false := by rw [ByteArray.toList_eq]; rfl
  have hx : (mkB (c :: l)).extract 1 (1 + m) = mkB (l.take m) := by
    apply ByteArray.ext
    simp [mkB, ByteArray.data_extract, List.extract_eq_take_drop]
  have hy : (mkB (c :: l)).extract (1 + m) (l.length + 1) = mkB (l.drop m) := by
    apply ByteArray.ext
    simp [mkB, ByteArray.data_extract, List.extract_eq_take_drop, Nat.add_comm 1 m]
    rw [List.take_of_length_le (by simp)]
  have hcI : (c.toNat : Int) = 247 + (m : Int) := by omega
  have hmI : (1 : Int) ≤ m := by omega
  have hmJ : (m : Int) ≤ 8 := by omega
  have HC := Lib.hid hc
  have e1 : wrap64 (c.toNat : Int) = 247 + (m : Int) := by unfold wrap64; omega
  have e2 : 247 + (m : Int) - 247 = (m : Int) := by omega
  have e2b : wrap64 (m : Int) = (m : Int) := by unfold wrap64; omega
  have e3 : wrap64 (1 + (m : Int)) = 1 + (m : Int) := by unfold wrap64; omega
  have hcb : decide ((c.toNat : Int) < 248) = false := decide_eq_false (by omega)
  clear hc hm hm8 hcI
  generalize hss : mkB (c :: l) = s at *
  clear hss
  by_cases hl : l.length < m
  · have hlb : decide ((l.length : Int) + 1 < 1 + (m : Int)) = true := decide_eq_true (by omega)
    have HL := Lib.hid hl
    clear hl hx hy
    go_enter Try.func47, Try.ntmps47
    go_wp2_with fail
    go_returns
    refine ⟨?_, Drawn0.refl _⟩
    have hm : c.toNat - 247 = m := by have := HC.out; omega
    have hu : unvarR (c :: l) = (0, mkB [], 4) := by
      unfold unvarR
      rw [unvarL_cons, if_neg (by have := HC.out; omega), hm, if_pos HL.out]
    rw [hu]; rfl
  · have hlb : decide ((l.length : Int) + 1 < 1 + (m : Int)) = false := decide_eq_false (by omega)
    have hl2 : (1 : Int) + (m : Int) ≤ (l.length : Int) + 1 := by omega
    have q1 := slice_mid s l m hs (by omega) hx
    have q2 := slice_end s l m hs (by omega) hy
    clear hx hy
    have HL := Lib.hid hl
    have htl : (l.take m).length = m := by rw [List.length_take]; omega
    have hts : (mkB (l.take m)).size ≤ 8 := by
      have : (mkB (l.take m)).size = m := by simp [mkB, ByteArray.size]; omega
      omega
    have HN := Lib.hid (fun W => number_c (mkB (l.take m)) hts W)
    have hd : (mkB (l.take m)).data.toList = l.take m := rfl
    have hvlt : Pk.vl (l.take m) < 18446744073709551616 := by
      have h6 := Pk.vl_lt (l.take m)
      rw [htl] at h6
      have h7 : 256 ^ m ≤ 256 ^ 8 := Nat.pow_le_pow_right (by omega) (by omega)
      have h8 : (256 : Nat) ^ 8 = 18446744073709551616 := by decide
      omega
    rw [hd] at HN
    generalize hV : Pk.vl (l.take m) = V at *
    have HLT := Lib.hid hvlt
    have HV := Lib.hid hV
    clear hl htl hts hd hvlt hV
    have hres : unvarR (c :: l) = if V < 248 ∨ Pk.lw V ≠ m then (0, mkB [], 4) else ((V : Int), mkB (l.drop m), 0) := by
      have hm : c.toNat - 247 = m := by have := HC.out; omega
      unfold unvarR
      rw [unvarL_cons, if_neg (by have := HC.out; omega), hm, if_neg HL.out, HV.out]
      by_cases hq : V < 248 ∨ Pk.lw V ≠ m
      · rw [if_pos hq, if_pos hq]
      · rw [if_neg hq, if_neg hq]
    have HR := Lib.hid hres
    clear hres
    by_cases h1 : V < 248
    · have h1b : decide ((V : Int) < 248) = true := decide_eq_true (by omega)
      have H1 := Lib.hid h1
      clear h1
      go_enter Try.func47, Try.ntmps47
      go_wp2_with fail
      refine (HN.out _).mono ?_
      rintro e w1 ⟨rfl, hw1⟩
      have hw1 := hw1.symm
      subst hw1
      go_wp2_with fail
      go_returns
      refine ⟨?_, Drawn0.refl _⟩
      rw [HR.out, if_pos (.inl H1.out)]; rfl
    · have h1b : decide ((V : Int) < 248) = false := decide_eq_false (by omega)
      have H1 := Lib.hid h1
      clear h1
      by_cases h2 : Pk.lw V = m
      · have h2b : ((Pk.lw V : Int) != (m : Int)) = false := by simp; omega
        have H2 := Lib.hid h2
        clear h2
        go_enter Try.func47, Try.ntmps47
        go_wp2_with fail
        refine (HN.out _).mono ?_
        rintro e w1 ⟨rfl, hw1⟩
        have hw1 := hw1.symm
        subst hw1
        go_wp2_with fail
        refine (least_c V HLT.out _).mono ?_
        rintro e w2 ⟨rfl, hw2⟩
        subst hw2
        go_wp2_with fail
        have e5 : IntKind.i64.wrap (1 + (m : Int)) = 1 + (m : Int) := IntWalk.i64_in _ (by omega)
        go_quiet (fail)
        go_wp2
        go_returns
        refine ⟨?_, ⟨nq, rfl⟩⟩
        rw [HR.out, if_neg (by have := H1.out; have := H2.out; omega)]; rfl
      · have h2b : ((Pk.lw V : Int) != (m : Int)) = true := by simp; omega
        have H2 := Lib.hid h2
        clear h2
        go_enter Try.func47, Try.ntmps47
        go_wp2_with fail
        refine (HN.out _).mono ?_
        rintro e w1 ⟨rfl, hw1⟩
        have hw1 := hw1.symm
        subst hw1
        go_wp2_with fail
        refine (least_c V HLT.out _).mono ?_
        rintro e w2 ⟨rfl, hw2⟩
        subst hw2
        go_wp2_with fail
        go_returns
        refine ⟨?_, Drawn0.refl _⟩
        rw [HR.out, if_pos (.inr H2.out)]; rfl
theorem mkB_data (s : ByteArray) : mkB s.data.toList = s := by
  show (⟨s.data.toList.toArray⟩ : ByteArray) = s
  rw [Array.toArray_toList]
theorem unvar_c (s : ByteArray) (w : World) : Calls Try.prog 47 #[.string s] w fun e w' => e = retU (unvarR s.data.toList) ∧ Drawn0 w w' := by
  have h : ∀ l : List UInt8, Calls Try.prog 47 #[.string (mkB l)] w fun e w' => e = retU (unvarR l) ∧ Drawn0 w w' := by
    intro l
    cases l with
    | nil => exact unvar_0 w
    | cons c l =>
      by_cases hc : c.toNat < 248
      · exact unvar_1 c l hc w
      · exact unvar_2 c l (c.toNat - 247) (by omega) (by omega) w
  have := h s.data.toList
  rwa [mkB_data] at this
def pack_Unvar.f (a0 : ByteArray) : Option (Int × ByteArray × Int) := some (unvarR a0.data.toList)
theorem pack_Unvar.calls (a0 : ByteArray) (r1 : Int) (r2 : ByteArray) (r3 : Int) (w : World) (h : pack_Unvar.f a0 = some (r1, r2, r3)) :
    Calls Try.prog 47 #[.string a0] w fun e w' => e = .returned (.tuple #[.int .u64 r1, .string r2, .int .i64 r3]) ∧ Drawn0 w w' := by
  have h := Option.some.inj h
  have := unvar_c a0 w
  unfold retU at this
  rw [h] at this
  exact this
end Go.Proofs.YtkhcdichdnbcmaaR.Ext
