/- Texts of this session, merged (wip/gen/shake.py). -/
import Derived.Laws.BitsAllLaws
import Derived.Test.YtkhcdichdnbcmaaRRr2
import Derived.Test.YtkhcdichdnbcmaaRRr3
import Derived.Test.YtkhcdichdnbcmaaRRr4
import Derived.Test.YtkhcdichdnbcmaaRRr5
import Derived.Test.YtkhcdichdnbcmaaRRr6
import Derived.Test.YtkhcdichdnbcmaaRRr7
section
namespace Go.Proofs.YtkhcdichdnbcmaaR.C
open Go.RowKit Go.Proofs.YtkhcdichdnbcmaaR.Ext Go.Proofs.YtkhcdichdnbcmaaRW.PrintWords Go.Proofs.YtkhcdichdnbcmaaRW.PrintLast Go.Proofs.YtkhcdichdnbcmaaRW.PrintMore
attribute [local go_sem] max2_int min2_int max_two min_two max_three min_three max_four min_four   -- for this text's walks alone
set_option linter.unusedVariables false
set_option linter.unusedSimpArgs false
def sacristanref17_most.f (a0 : Int) : Option (Int) := if a0 = 1 then (some 2147483648) else (if a0 = 2 then (some 3) else (some 1099511627776))
set_option maxHeartbeats 8000000 in
set_option maxRecDepth 100000 in
theorem sacristanref17_most.calls (a0 : Int) (r : Int) (w : World) (h : sacristanref17_most.f a0 = some r) :
  Calls Try.prog 58 #[.int .i64 a0] w fun e w' => e = .returned (.int .i64 r) ∧ Drawn0 w w' := by
 have H : (if a0 = 1 then (some 2147483648) else (if a0 = 2 then (some 3) else (some 1099511627776))) = some r := h
 clear h
 by_cases c2 : a0 = 1
 ·rw [if_pos c2] at H
  have c2b0 : (a0 == 1) = true := beq_iff_eq.mpr c2
  have c2b1 : (a0 != 1) = false := bne_eq_false_iff_eq.mpr c2
  clear c2
  obtain rfl := Option.some.inj H
  go_enter Try.func58, Try.ntmps58
  go_wp2
  go_ret
  exact ⟨by first | rfl | (simp; done) | (simp [*]; done), by repeat (first | exact Drawn0.refl _ | apply Drawn0.step)⟩
 ·rw [if_neg c2] at H
  have c2b0 : (a0 == 1) = false := beq_eq_false_iff_ne.mpr c2
  have c2b1 : (a0 != 1) = true := bne_iff_ne.mpr c2
  by_cases c3 : a0 = 2
  ·rw [if_pos c3] at H
   have c3b0 : (a0 == 2) = true := beq_iff_eq.mpr c3
   have c3b1 : (a0 != 2) = false := bne_eq_false_iff_eq.mpr c3
   clear c3
   obtain rfl := Option.some.inj H
   go_enter Try.func58, Try.ntmps58
   go_wp2
   go_ret
   exact ⟨by first | rfl | (simp; done) | (simp [*]; done), by repeat (first | exact Drawn0.refl _ | apply Drawn0.step)⟩
  ·rw [if_neg c3] at H
   have c3b0 : (a0 == 2) = false := beq_eq_false_iff_ne.mpr c3
   have c3b1 : (a0 != 2) = true := bne_iff_ne.mpr c3
   obtain rfl := Option.some.inj H
   go_enter Try.func58, Try.ntmps58
   go_wp2
   go_ret
   exact ⟨by first | rfl | (simp; done) | (simp [*]; done), by repeat (first | exact Drawn0.refl _ | apply Drawn0.step)⟩
def sacristanref02_Unint.f (k : Nat) (a0 : ByteArray) : Option (Int × ByteArray × Int) := (sacristanref02_Unvar.f k a0).bind fun bt364 => (if bt364.2.2 = 0 then (if (Int.tmod bt364.1 2) = 1 then (some (wrap64 ((wrap64 (-(wrap64 (IntKind.u64.wrap (Int.tdiv bt364.1 2))))) - 1), bt364.2.1, 0)) else (some (wrap64 (IntKind.u64.wrap (Int.tdiv bt364.1 2)), bt364.2.1, 0))) else (some (0, (⟨#[]⟩ : ByteArray), bt364.2.2)))
set_option maxHeartbeats 8000000 in
set_option maxRecDepth 100000 in
theorem sacristanref02_Unint.calls (k : Nat) (a0 : ByteArray) (r1 : Int) (r2 : ByteArray) (r3 : Int) (w : World) (h : sacristanref02_Unint.f k a0 = some (r1, r2, r3)) :
  Calls Try.prog 51 #[.string a0] w fun e w' => e = .returned (.tuple #[.int .i64 r1, .string r2, .int .i64 r3]) ∧ Below w.heap.size w w' := by
 have HB := Aside0.mk (Below.refl w.heap.size w)
 have H : ((sacristanref02_Unvar.f k a0).bind fun bt364 => (if bt364.2.2 = 0 then (if (Int.tmod bt364.1 2) = 1 then (some (wrap64 ((wrap64 (-(wrap64 (IntKind.u64.wrap (Int.tdiv bt364.1 2))))) - 1), bt364.2.1, 0)) else (some (wrap64 (IntKind.u64.wrap (Int.tdiv bt364.1 2)), bt364.2.1, 0))) else (some (0, (⟨#[]⟩ : ByteArray), bt364.2.2)))) = some (r1, r2, r3) := h
 clear h
 replace H := Option.bind_eq_some_iff.mp H
 obtain ⟨⟨t364, t365, t366⟩, A20, H⟩ := H
 replace H : (if t366 = 0 then (if (Int.tmod t364 2) = 1 then (some (wrap64 ((wrap64 (-(wrap64 (IntKind.u64.wrap (Int.tdiv t364 2))))) - 1), t365, 0)) else (some (wrap64 (IntKind.u64.wrap (Int.tdiv t364 2)), t365, 0))) else (some (0, (⟨#[]⟩ : ByteArray), t366))) = some (r1, r2, r3) := H
 have A2 := Aside0.mk A20
 clear A20
 by_cases c3 : t366 = 0
 ·rw [if_pos c3] at H
  have c3b0 : (t366 == 0) = true := beq_iff_eq.mpr c3
  have c3b1 : (t366 != 0) = false := bne_eq_false_iff_eq.mpr c3
  clear c3
  by_cases c4 : (Int.tmod t364 2) = 1
  ·rw [if_pos c4] at H
   have c4b0 : ((Int.tmod t364 2) == 1) = true := beq_iff_eq.mpr c4
   have c4b1 : ((Int.tmod t364 2) != 1) = false := bne_eq_false_iff_eq.mpr c4
   clear c4
   simp only [Option.some.injEq, Prod.mk.injEq] at H
   obtain ⟨rfl, rfl, rfl⟩ := H
   go_enter Try.func51, Try.ntmps51
   go_wp2_with (first | ((with_reducible refine gate_callee (f := 74) rfl ?_); refine goesL_ (some 10) rfl rfl Try.func74 (by kernel_rfl) rfl #[.string a0] rfl (by (try simp only [List.map_toArray, List.map_cons, List.map_nil]); first | done | rfl | (simp only [List.length_drop, List.length_take]; rfl)) ?_; (with_reducible refine (sacristanref02_Unvar.calls k a0 t364 t365 t366 _ A2.out).mono ?_); rintro e w5 ⟨rfl, hb⟩; refine ⟨_, rfl, ?_⟩; have n0_ := Aside0.mk (below_step (w := w) (by repeat (first | (with_reducible first | exact HB.out | apply below_alloc | apply pw_below_drewN | apply below_drew1) | exact HB.out)) hb); clear HB; have HB := n0_; clear n0_; (try clear hb); (try clear hb2); (try clear hk); (try clear hi)))
   go_ret3
   exact ⟨by first | rfl | (simp [errW_none, errW_some] <;> rfl) | (simp [*, errW_none, errW_some] <;> rfl), by repeat (first | (with_reducible first | exact HB.out | apply below_alloc | apply pw_below_drewN | apply below_drew1) | exact HB.out)⟩
  ·rw [if_neg c4] at H
   have c4b0 : ((Int.tmod t364 2) == 1) = false := beq_eq_false_iff_ne.mpr c4
   have c4b1 : ((Int.tmod t364 2) != 1) = true := bne_iff_ne.mpr c4
   simp only [Option.some.injEq, Prod.mk.injEq] at H
   obtain ⟨rfl, rfl, rfl⟩ := H
   go_enter Try.func51, Try.ntmps51
   go_wp2_with (first | ((with_reducible refine gate_callee (f := 74) rfl ?_); refine goesL_ (some 10) rfl rfl Try.func74 (by kernel_rfl) rfl #[.string a0] rfl (by (try simp only [List.map_toArray, List.map_cons, List.map_nil]); first | done | rfl | (simp only [List.length_drop, List.length_take]; rfl)) ?_; (with_reducible refine (sacristanref02_Unvar.calls k a0 t364 t365 t366 _ A2.out).mono ?_); rintro e w6 ⟨rfl, hb⟩; refine ⟨_, rfl, ?_⟩; have n0_ := Aside0.mk (below_step (w := w) (by repeat (first | (with_reducible first | exact HB.out | apply below_alloc | apply pw_below_drewN | apply below_drew1) | exact HB.out)) hb); clear HB; have HB := n0_; clear n0_; (try clear hb); (try clear hb2); (try clear hk); (try clear hi)))
   go_ret3
   exact ⟨by first | rfl | (simp [errW_none, errW_some] <;> rfl) | (simp [*, errW_none, errW_some] <;> rfl), by repeat (first | (with_reducible first | exact HB.out | apply below_alloc | apply pw_below_drewN | apply below_drew1) | exact HB.out)⟩
 ·rw [if_neg c3] at H
  have c3b0 : (t366 == 0) = false := beq_eq_false_iff_ne.mpr c3
  have c3b1 : (t366 != 0) = true := bne_iff_ne.mpr c3
  simp only [Option.some.injEq, Prod.mk.injEq] at H
  obtain ⟨rfl, rfl, rfl⟩ := H
  go_enter Try.func51, Try.ntmps51
  go_wp2_with (first | ((with_reducible refine gate_callee (f := 74) rfl ?_); refine goesL_ (some 10) rfl rfl Try.func74 (by kernel_rfl) rfl #[.string a0] rfl (by (try simp only [List.map_toArray, List.map_cons, List.map_nil]); first | done | rfl | (simp only [List.length_drop, List.length_take]; rfl)) ?_; (with_reducible refine (sacristanref02_Unvar.calls k a0 t364 t365 t366 _ A2.out).mono ?_); rintro e w7 ⟨rfl, hb⟩; refine ⟨_, rfl, ?_⟩; have n0_ := Aside0.mk (below_step (w := w) (by repeat (first | (with_reducible first | exact HB.out | apply below_alloc | apply pw_below_drewN | apply below_drew1) | exact HB.out)) hb); clear HB; have HB := n0_; clear n0_; (try clear hb); (try clear hb2); (try clear hk); (try clear hi)))
  go_ret3
  exact ⟨by first | rfl | (simp [errW_none, errW_some] <;> rfl) | (simp [*, errW_none, errW_some] <;> rfl), by repeat (first | (with_reducible first | exact HB.out | apply below_alloc | apply pw_below_drewN | apply below_drew1) | exact HB.out)⟩
end Go.Proofs.YtkhcdichdnbcmaaR.C
end
section
namespace Go.Proofs.YtkhcdichdnbcmaaR
end Go.Proofs.YtkhcdichdnbcmaaR
end
section
namespace Go.Proofs.YtkhcdichdnbcmaaR.PureR
open Go.RowKit Go.Proofs.YtkhcdichdnbcmaaR.Ext Go.Proofs.YtkhcdichdnbcmaaR.C Go.Proofs.YtkhcdichdnbcmaaRW.PrintWords Go.Proofs.YtkhcdichdnbcmaaRW.PrintLast
open Go.Proofs.YtkhcdichdnbcmaaR.Pk
set_option linter.unusedVariables false
set_option linter.unusedSimpArgs false
theorem mkB_data (s : ByteArray) : mkB s.data.toList = s := by
 show (⟨s.data.toList.toArray⟩ : ByteArray) = s
 rw [Array.toArray_toList]
theorem data_mkB (l : List UInt8) : (mkB l).data.toList = l := rfl
theorem mkB_size (l : List UInt8) : (mkB l).size = l.length := by
 show l.toArray.size = l.length
 simp
theorem mkB_append (a b : List UInt8) : mkB a ++ mkB b = mkB (a ++ b) := by
 apply ByteArray.ext
 rw [ByteArray.data_append]
 show a.toArray ++ b.toArray = (a ++ b).toArray
 simp
theorem mkB_extract (l : List UInt8) (i j : Nat) : (mkB l).extract i j = mkB ((l.take j).drop i) := by
 apply ByteArray.ext
 simp [mkB, ByteArray.data_extract, List.extract_eq_take_drop, List.drop_take]
theorem mkB_toList (l : List UInt8) : (mkB l).toList = l := by rw [ByteArray.toList_eq]; exact data_mkB l
theorem bt_mkB (l : List UInt8) (i : Nat) : bt (mkB l) i = (l.getD i 0).toNat := by
 unfold bt
 split
 ·rename_i h
  have hl : i < l.length := by simpa [mkB_size] using h
  simp [mkB, hl, ByteArray.getElem_eq_getElem_data]
 ·rename_i h
  have hl : l.length ≤ i := by simpa [mkB_size] using h
  simp [hl]
theorem vl_take_succ (l : List UInt8) (i : Nat) (h : i < l.length) : vl (l.take (i + 1)) = vl (l.take i) * 256 + (l.getD i 0).toNat := by
 rw [List.take_succ_eq_append_getElem h, vl_snoc]
 simp [h]
theorem vl_take_lt (l : List UInt8) (i : Nat) (hl : l.length ≤ 8) (hi : i < l.length) : vl (l.take i) < 72057594037927936 := by
 have h := vl_lt (l.take i)
 rw [List.length_take, Nat.min_eq_left (by omega)] at h
 have h2 : 256 ^ i ≤ 256 ^ 7 := Nat.pow_le_pow_right (by omega) (by omega)
 have h3 : (256 : Nat) ^ 7 = 72057594037927936 := by decide
 omega
def unvarR (l : List UInt8) : Int × ByteArray × Int := match unvarL l with | none => (0, mkB [], 4) | some (n, r) => ((n : Int), mkB r, 0)
theorem tdiv_256 (n : Nat) (hn : n < 18446744073709551616) : IntKind.u64.wrap (Int.tdiv (n : Int) 256) = ((n / 256 : Nat) : Int) := by
 rw [Int.tdiv_eq_ediv_of_nonneg (by omega), IntWalk.u64_in _ (by omega)]
 omega
theorem width_l0 (d : Nat) : ∀ (k n c : Nat), n < 18446744073709551616 → lw n ≤ d → d < k → c + d ≤ 1000 →
  sacristanref02_Width.l0 k n c = some ((c + (lw n - 1) : Nat) : Int) := by
 induction d with
 | zero =>
  intro k n c hn hd hk hc
  obtain ⟨k, rfl⟩ : ∃ m, k = m + 1 := ⟨k - 1, by omega⟩
  have : n = 0 := by
   have := (lw_le_iff n 0).1 hd
   simpa using this
  subst this
  simp only [sacristanref02_Width.l0]
  rw [if_neg (by omega), lw_zero]
  rfl
 | succ d ih =>
  intro k n c hn hd hk hc
  obtain ⟨k, rfl⟩ : ∃ m, k = m + 1 := ⟨k - 1, by omega⟩
  simp only [sacristanref02_Width.l0]
  by_cases h : n > 255
  ·have h1 : lw n = lw (n / 256) + 1 := lw_pos (by omega)
   have h2 : lw (n / 256) ≠ 0 := by rw [lw_pos (by omega)]; omega
   rw [if_pos (by omega), tdiv_256 n hn, show wrap64 ((c : Int) + 1) = ((c + 1 : Nat) : Int) from by unfold wrap64; omega]
   rw [ih k (n / 256) (c + 1) (by omega) (by omega) (by omega) (by omega)]
   congr 2
   omega
  ·have h1 : lw n ≤ 1 := (lw_le_iff n 1).2 (by omega)
   rw [if_neg (by omega)]
   congr 2
   omega
theorem width_eq (k : Nat) (hk : 10 ≤ k) (n : Nat) (hn : n < 18446744073709551616) : sacristanref02_Width.f k n = some ((1 + (lw n - 1) : Nat) : Int) := by
 unfold sacristanref02_Width.f
 exact width_l0 8 k n 1 hn (lw_le_8 hn) (by omega) (by omega)
theorem refbytes_l0 (i : Nat) : ∀ (k n : Nat) (xs : List Int), n < 18446744073709551616 → i ≤ xs.length → xs.length ≤ 100 → i < k →
  sacristanref02_bytes.l0 k n xs ((i : Int) - 1) = some (strOfNums (beB i n ++ xs.drop i)) := by
 induction i with
 | zero =>
  intro k n xs hn hi hx hk
  obtain ⟨k, rfl⟩ : ∃ m, k = m + 1 := ⟨k - 1, by omega⟩
  simp only [sacristanref02_bytes.l0]
  rw [if_neg (by omega)]
  rfl
 | succ i ih =>
  intro k n xs hn hi hx hk
  obtain ⟨k, rfl⟩ : ∃ m, k = m + 1 := ⟨k - 1, by omega⟩
  simp only [sacristanref02_bytes.l0]
  have e : (((i + 1 : Nat) : Int) - 1) = (i : Int) := by omega
  rw [e, if_pos (by omega), if_pos (by omega), if_pos (by omega), tdiv_256 n hn, Int.toNat_natCast]
  rw [show wrap64 ((i : Int) - 1) = (i : Int) - 1 from by unfold wrap64; omega]
  rw [ih k (n / 256) _ (by omega) (by simp; omega) (by simpa using hx) (by omega)]
  have e2 : Int.tmod (n : Int) 256 % 256 = (n : Int) % 256 := by rw [Int.tmod_eq_emod_of_nonneg (by omega)]; omega
  rw [e2, beB]
  congr 1
  rw [List.append_assoc]
  congr 2
  rw [List.drop_eq_getElem_cons (by simp; omega)]
  simp [List.drop_set_of_lt]
theorem refbytes_eq (k : Nat) (n w : Nat) (hn : n < 18446744073709551616) (hw : w ≤ 100) (hk : w < k) : sacristanref02_bytes.f k n w = some (mkB (be w n)) := by
 unfold sacristanref02_bytes.f
 rw [if_pos (by omega), if_pos (by omega), Int.toNat_natCast]
 rw [show wrap64 ((w : Int) - 1) = (w : Int) - 1 from by unfold wrap64; omega]
 rw [refbytes_l0 w k n _ hn (by simp) (by simp; omega) hk, List.drop_of_length_le (by simp), List.append_nil, beB_eq]
theorem rvar_eq (k : Nat) (hk : 20 ≤ k) (n : Nat) (hn : n < 18446744073709551616) : sacristanref02_Var.f k n = some (mkB (varL n)) := by
 unfold sacristanref02_Var.f varL
 have h8 := lw_le_8 hn
 by_cases h : n < 248
 ·rw [if_pos (by omega), if_pos h]
  have := refbytes_eq k n 1 hn (by omega) (by omega)
  rw [show ((1 : Nat) : Int) = 1 from rfl] at this
  rw [this, Option.bind_some]
  have e : be 1 n = [UInt8.ofNat n] := by simp [be, Nat.mod_eq_of_lt (show n < 256 by omega)]
  rw [e]
 ·have h1 : 1 ≤ lw n := by rw [lw_pos (by omega)]; omega
  rw [if_neg (by omega), if_neg h, width_eq k (by omega) n hn, Option.bind_some]
  rw [show 1 + (lw n - 1) = lw n by omega]
  rw [show wrap64 (247 + ((lw n : Nat) : Int)) = ((247 + lw n : Nat) : Int) from by unfold wrap64; omega, IntWalk.u64_in _ (by omega)]
  have := refbytes_eq k (247 + lw n) 1 (by omega) (by omega) (by omega)
  rw [show ((1 : Nat) : Int) = 1 from rfl] at this
  have e : be 1 (247 + lw n) = [UInt8.ofNat (247 + lw n)] := by simp [be, Nat.mod_eq_of_lt (show 247 + lw n < 256 by omega)]
  rw [this, Option.bind_some, Option.bind_some, refbytes_eq k n (lw n) hn (by omega) (by omega), Option.bind_some, mkB_size, mkB_size, be_length, be_length, if_pos (by omega), mkB_append, e]
  rfl
theorem rnumber_l0 (l : List UInt8) (hl : l.length ≤ 8) (d : Nat) : ∀ (k i : Nat), i + d = l.length → d < k →
  sacristanref02_Unfixed.l0 k (mkB l) (vl (l.take i)) i = some (((vl l : Nat) : Int), 0) := by
 induction d with
 | zero =>
  intro k i hi hk
  obtain ⟨k, rfl⟩ : ∃ m, k = m + 1 := ⟨k - 1, by omega⟩
  simp only [sacristanref02_Unfixed.l0]
  rw [if_neg (by rw [mkB_size]; omega), List.take_of_length_le (by omega)]
 | succ d ih =>
  intro k i hi hk
  obtain ⟨k, rfl⟩ : ∃ m, k = m + 1 := ⟨k - 1, by omega⟩
  simp only [sacristanref02_Unfixed.l0]
  have hlt := vl_take_lt l i hl (by omega)
  have hb : (l.getD i 0).toNat < 256 := UInt8.toNat_lt _
  rw [if_pos (by rw [mkB_size]; omega), if_pos (by omega), bt_mkB]
  rw [show IntKind.u64.wrap (((vl (l.take i) : Nat) : Int) * 256) = ((vl (l.take i) : Nat) : Int) * 256 from by rw [IntWalk.u64_in _ (by omega)]]
  rw [show IntKind.u64.wrap (((l.getD i 0).toNat : Nat) : Int) = (((l.getD i 0).toNat : Nat) : Int) from by rw [IntWalk.u64_in _ (by omega)]]
  rw [IntWalk.u64_in _ (by omega)]
  rw [show ((vl (l.take i) : Nat) : Int) * 256 + (((l.getD i 0).toNat : Nat) : Int) = ((vl (l.take i) * 256 + (l.getD i 0).toNat : Nat) : Int) by omega, ← vl_take_succ l i (by omega)]
  rw [show wrap64 ((i : Int) + 1) = ((i + 1 : Nat) : Int) from by unfold wrap64; omega]
  exact ih k (i + 1) (by omega) (by omega)
theorem runfixed_eq (k : Nat) (hk : 20 ≤ k) (l : List UInt8) : sacristanref02_Unfixed.f k (mkB l) = some (if l.length < 1 ∨ 8 < l.length then (0, 2) else (((vl l : Nat) : Int), 0)) := by
 obtain ⟨k, rfl⟩ : ∃ m, k = m + 1 := ⟨k - 1, by omega⟩
 unfold sacristanref02_Unfixed.f
 rw [mkB_size]
 by_cases h1 : l.length < 1
 ·rw [if_pos (by omega), if_pos (.inl h1)]; simp only [sacristanref02_Unfixed.j0]; rfl
 ·rw [if_neg (by omega)]
  simp only [sacristanref02_Unfixed.j0]
  by_cases h2 : 8 < l.length
  ·rw [if_pos (by simp; omega), if_pos (.inr h2)]
  ·rw [if_neg (by simp; omega), if_neg (by omega)]
   exact rnumber_l0 l (by omega) l.length k 0 (by omega) (by omega)
theorem runvar_eq (k : Nat) (hk : 30 ≤ k) (l : List UInt8) (hl : l.length ≤ 140737488351232) : sacristanref02_Unvar.f k (mkB l) = some (unvarR l) := by
 unfold sacristanref02_Unvar.f
 rw [mkB_size]
 cases l with
 | nil => rfl
 | cons c t =>
  have hc := c.toNat_lt
  have hb : bt (mkB (c :: t)) 0 = c.toNat := bt_mkB _ 0
  rw [if_neg (by simp <;> omega), if_pos (by simp <;> omega), hb]
  have hu : unvarL (c :: t) = if c.toNat < 248 then some (c.toNat, t) else
   if t.length < c.toNat - 247 then none else
   if vl (t.take (c.toNat - 247)) < 248 ∨ lw (vl (t.take (c.toNat - 247))) ≠ c.toNat - 247 then none else
   some (vl (t.take (c.toNat - 247)), t.drop (c.toNat - 247)) := rfl
  unfold unvarR
  rw [hu]
  by_cases h1 : c.toNat < 248
  ·have hv : varL c.toNat = [c] := by simp [varL, h1]
   rw [if_neg (by omega), if_pos h1, IntWalk.u64_in _ (by omega), rvar_eq k (by omega) _ (by omega), Option.bind_some, if_pos (by omega), if_pos (by simp; omega), mkB_toList, mkB_extract, mkB_toList, hv, if_pos (by simp), mkB_extract]
   simp
  ·have e1 : wrap64 (c.toNat : Int) = c.toNat := by unfold wrap64; omega
   have e2 : wrap64 (1 + (c.toNat : Int)) = 1 + (c.toNat : Int) := by unfold wrap64; omega
   have e3 : wrap64 (1 + (c.toNat : Int) - 247) = ((1 + (c.toNat - 247) : Nat) : Int) := by unfold wrap64; omega
   rw [if_pos (by omega), if_neg h1]
   simp only [e1, e2, e3, List.length_cons]
   by_cases h2 : t.length < c.toNat - 247
   ·rw [if_pos (by omega), if_pos h2]; rfl
   ·rw [if_neg (by omega), if_neg h2, if_pos (by omega), if_pos (by omega)]
    have ht : (mkB (c :: t)).extract 1 (((1 + (c.toNat - 247) : Nat) : Int)).toNat = mkB (t.take (c.toNat - 247)) := by
     rw [mkB_extract, Int.toNat_natCast, Nat.add_comm, List.take_succ_cons, List.drop_succ_cons, List.drop_zero]
    have h0 : ((mkB (c :: t)).extract 0 (((1 + (c.toNat - 247) : Nat) : Int)).toNat).toList = c :: t.take (c.toNat - 247) := by
     rw [mkB_extract, Int.toNat_natCast, Nat.add_comm, List.take_succ_cons, List.drop_zero, mkB_toList]
    have hlt : (t.take (c.toNat - 247)).length = c.toNat - 247 := by rw [List.length_take]; omega
    have hd : (mkB (c :: t)).extract (((1 + (c.toNat - 247) : Nat) : Int)).toNat (t.length + 1) = mkB (t.drop (c.toNat - 247)) := by
     rw [mkB_extract, Int.toNat_natCast, List.take_of_length_le (by simp), Nat.add_comm 1, List.drop_succ_cons]
    have hvl : vl (t.take (c.toNat - 247)) < 18446744073709551616 := by
     have h := vl_lt (t.take (c.toNat - 247))
     rw [hlt] at h
     have h7 : 256 ^ (c.toNat - 247) ≤ 256 ^ 8 := Nat.pow_le_pow_right (by omega) (by omega)
     have h8 : (256 : Nat) ^ 8 = 18446744073709551616 := by decide
     omega
    have hbe : be (c.toNat - 247) (vl (t.take (c.toNat - 247))) = t.take (c.toNat - 247) := by
     have := be_vl (t.take (c.toNat - 247))
     rwa [hlt] at this
    rw [ht, runfixed_eq k (by omega), if_neg (by omega), Option.bind_some, rvar_eq k (by omega) _ hvl, Option.bind_some, if_pos (by omega), mkB_toList, h0, hd]
    by_cases h3 : vl (t.take (c.toNat - 247)) < 248 ∨ lw (vl (t.take (c.toNat - 247))) ≠ c.toNat - 247
    ·rw [if_pos h3, if_neg]
     ·rfl
     ·intro he
      unfold varL at he
      split at he
      ·have := congrArg List.length he
       simp only [List.length_cons, List.length_nil, hlt] at this
       omega
      ·rename_i h4
       have := congrArg List.length he
       simp only [List.length_cons, be_length, hlt] at this
       rcases h3 with h3 | h3
       ·exact h4 h3
       ·omega
    ·have h4 : ¬ vl (t.take (c.toNat - 247)) < 248 := fun h => h3 (.inl h)
     have h5 : lw (vl (t.take (c.toNat - 247))) = c.toNat - 247 := Decidable.of_not_not fun h => h3 (.inr h)
     rw [if_neg h3, if_pos]
     simp only [varL, if_neg h4, h5, hbe]
     rw [show 247 + (c.toNat - 247) = c.toNat by omega, UInt8.ofNat_toNat]
end Go.Proofs.YtkhcdichdnbcmaaR.PureR
end
section
namespace Go.Proofs.YtkhcdichdnbcmaaR.PureR
open Go.RowKit Go.Proofs.YtkhcdichdnbcmaaR Go.Proofs.YtkhcdichdnbcmaaR.Ext Go.Proofs.YtkhcdichdnbcmaaR.C Go.Proofs.YtkhcdichdnbcmaaR.Sp Go.Proofs.YtkhcdichdnbcmaaRW.PrintWords Go.Proofs.YtkhcdichdnbcmaaRW.PrintLast
open Go.Proofs.YtkhcdichdnbcmaaR.Pk
set_option linter.unusedVariables false
set_option linter.unusedSimpArgs false
theorem w1 {i : Nat} (h : i ≤ 1000) : wrap64 ((i : Int) + 1) = ((i + 1 : Nat) : Int) := by unfold wrap64; omega
theorem rd_at (l : List Int) (i : Nat) (h : i < l.length) : rd l (i : Int) = l[i] := by simp [rd, h]
theorem rdT_at (l : List (S90)) (i : Nat) (h : i < l.length) : rd_T90 l (i : Int) = l[i] := by simp [rd_T90, h]
theorem fstE0 {e : Int} (h : e = 0) (l : List Int) : fstE (e :: l) = fstE l := by simp only [fstE]; rw [if_pos h]
theorem fstEN {e : Int} (h : ¬ e = 0) (l : List Int) : fstE (e :: l) = e := by simp only [fstE]; rw [if_neg h]
theorem range_ok {n lo hi : Int} (h1 : lo ≤ n) (h2 : n ≤ hi) : rangeE n lo hi = 0 := by unfold rangeE; rw [if_pos ((inI_iff _ _ _).2 ⟨h1, h2⟩)]
theorem range_no {n lo hi : Int} (h : n < lo ∨ hi < n) : rangeE n lo hi = 3 := by unfold rangeE; rw [if_neg (fun k => by have := (inI_iff _ _ _).1 k; omega)]
theorem res_eq (k : Nat) (a b c : Int) : sacristanref09_Check.f (k + 5) a b c = some (resE a b c) := by
 unfold sacristanref09_Check.f sacristanref09_amounts.f resE
 simp only [Option.bind_some, inI_iff]
 simp only [sacristanref09_Check.l0]
 have e0 : rd [a, b, c] 0 = a := rfl
 have e1 : rd [a, b, c] 1 = b := rfl
 have e2 : rd [a, b, c] 2 = c := rfl
 have f1 : wrap64 (0 + 1) = 1 := by unfold wrap64; omega
 have f2 : wrap64 (1 + 1) = 2 := by unfold wrap64; omega
 have f3 : wrap64 (2 + 1) = 3 := by unfold wrap64; omega
 simp only [f1, f2, f3, e0, e1, e2]
 simp
 grind
theorem ports_l0 (l : List Int) (hl : l.length ≤ 8) (d : Nat) : ∀ k i : Nat, i + d = l.length → 2 * d < k → sacristanref10_Check.l0 k l i = some (portsG (if i = 0 then 0 else l.getD (i - 1) 0) (l.drop i)) := by
 induction d with
 | zero =>
  intro k i hi hk
  obtain ⟨k, rfl⟩ : ∃ m, k = m + 1 := ⟨k - 1, by omega⟩
  simp only [sacristanref10_Check.l0]
  rw [if_neg (by omega), List.drop_eq_nil_of_le (by omega)]
  rfl
 | succ d ih =>
  intro k i hi hk
  obtain ⟨k, rfl⟩ : ∃ m, k = m + 2 := ⟨k - 2, by omega⟩
  have hil : i < l.length := by omega
  have q := ih k (i + 1) (by omega) (by omega)
  rw [if_neg (by omega), Nat.add_sub_cancel] at q
  have hg : l.getD i 0 = l[i] := by simp [hil]
  rw [hg] at q
  rw [List.drop_eq_getElem_cons hil]
  simp only [sacristanref10_Check.l0, portsG]
  rw [if_pos (by omega), if_pos (by omega), rd_at l i hil]
  by_cases h1 : l[i] < 1
  ·rw [if_pos h1, if_pos (.inl h1)]
   simp only [sacristanref10_Check.j1]
   rw [if_pos trivial]
  ·rw [if_neg h1]
   by_cases h2 : l[i] > 65535
   ·rw [decide_eq_true h2, if_pos (.inr h2)]
    simp only [sacristanref10_Check.j1]
    rw [if_pos trivial]
   ·rw [decide_eq_false h2, if_neg (fun h => h.elim h1 h2)]
    simp only [sacristanref10_Check.j1]
    rw [if_neg (by simp), rd_at l i hil]
    by_cases h3 : i = 0
    ·subst h3
     rw [if_neg (by omega), if_pos rfl, if_neg (by omega), w1 (by omega)]
     exact q
    ·have h4 : wrap64 ((i : Int) - 1) = ((i - 1 : Nat) : Int) := by unfold wrap64; omega
     rw [if_pos (by omega), if_pos (by omega), if_pos (by omega), h4, if_pos (by omega), if_pos (by omega), rd_at l (i - 1) (by omega), if_neg h3, w1 (by omega)]
     have hg2 : l.getD (i - 1) 0 = l[i - 1] := by simp [show i - 1 < l.length by omega]
     rw [hg2]
     split
     ·rfl
     ·exact q
theorem ports_eq (k : Nat) (hk : 20 ≤ k) (l : List Int) : sacristanref10_Check.f k l = some (portsE l) := by
 unfold sacristanref10_Check.f portsE
 by_cases h : l.length > 8
 ·rw [if_pos (by omega), if_pos h]
 ·rw [if_neg (by omega), if_neg h]
  have := ports_l0 l (by omega) l.length k 0 (by omega) (by omega)
  simpa using this
theorem pol_eq (b : Bool) (l w c m : Int) : sacristanref11_Check.f b l w c m = some (polE l w c m) := by
 unfold sacristanref11_Check.f polE
 simp only [inI_iff]
 grind
theorem tasks_l0 (a b c d : Int) (p : List Int) (m : List (S90)) (hm : m.length ≤ 4) (n : Nat) : ∀ k i : Nat, i + n = m.length → n < k → sacristanref13_Check.l0 k i a b c d p m = some (fstE (((m.map toTS).drop i).flatMap taskE)) := by
 induction n with
 | zero =>
  intro k i hi hk
  obtain ⟨k, rfl⟩ : ∃ m, k = m + 1 := ⟨k - 1, by omega⟩
  simp only [sacristanref13_Check.l0]
  rw [if_neg (by omega), List.drop_eq_nil_of_le (by rw [List.length_map]; omega)]
  rfl
 | succ n ih =>
  intro k i hi hk
  obtain ⟨k, rfl⟩ : ∃ m, k = m + 1 := ⟨k - 1, by omega⟩
  have hil : i < m.length := by omega
  have q := ih k (i + 1) (by omega) (by omega)
  simp only [sacristanref13_Check.l0]
  rw [if_pos (by omega), if_pos (by omega), rdT_at m i hil, pol_eq, Option.bind_some, List.drop_eq_getElem_cons (by rw [List.length_map]; exact hil), List.flatMap_cons, w1 (by omega), q]
  have e : (m.map toTS)[i]'(by rw [List.length_map]; exact hil) = toTS m[i] := by simp
  rw [e]
  generalize ((m.map toTS).drop (i + 1)).flatMap taskE = z
  show _ = some (fstE (polE (m[i]).f0.f1 (m[i]).f0.f2 (m[i]).f0.f3 (m[i]).f0.f4 :: rangeE (m[i]).f1 0 1000 :: z))
  by_cases h1 : polE (m[i]).f0.f1 (m[i]).f0.f2 (m[i]).f0.f3 (m[i]).f0.f4 = 0
  ·rw [if_pos h1, fstE0 h1]
   by_cases h2 : (m[i]).f1 < 0
   ·rw [if_pos h2, range_no (.inl h2), fstEN (by omega)]
   ·rw [if_neg h2]
    by_cases h3 : (m[i]).f1 > 1000
    ·rw [if_pos h3, range_no (.inr h3), fstEN (by omega)]
    ·rw [if_neg h3, range_ok (by omega) (by omega), fstE0 rfl]
  ·rw [if_neg h1, fstEN h1]
theorem check_eq (k : Nat) (a b c d : Int) (l : List Int) (m : List (S90)) : sacristanref13_Check.f (k + 30) a b c d l m = some (specE (spOf a b c d l m)) := by
 have e : specE (spOf a b c d l m) = fstE (rangeE a 0 2147483648 :: resE b c d :: portsE l :: countE m.length :: (((m.map toTS).take 4).flatMap taskE)) := by
  unfold specE askE spOf
  simp only [List.length_map]
  rfl
 rw [e]
 unfold sacristanref13_Check.f
 by_cases h1 : a < 0
 ·rw [if_pos h1, range_no (.inl h1), fstEN (by omega)]
  simp only [sacristanref13_Check.j0]
  rw [if_pos trivial]
 ·rw [if_neg h1]
  by_cases h2 : a > 2147483648
  ·rw [decide_eq_true h2, range_no (.inr h2), fstEN (by omega)]
   simp only [sacristanref13_Check.j0]
   rw [if_pos trivial]
  ·rw [decide_eq_false h2, range_ok (by omega) (by omega), fstE0 rfl]
   simp only [sacristanref13_Check.j0]
   rw [if_neg (by simp), res_eq, Option.bind_some]
   by_cases h3 : resE b c d = 0
   ·rw [if_pos h3, fstE0 h3, ports_eq _ (by omega), Option.bind_some]
    by_cases h4 : portsE l = 0
    ·rw [if_pos h4, fstE0 h4]
     unfold countE
     by_cases h5 : m.length = 0
     ·rw [if_pos (by omega), if_pos h5, fstEN (by omega)]
     ·rw [if_neg (by omega), if_neg h5]
      by_cases h6 : m.length > 4
      ·rw [if_pos (by omega), if_pos h6, fstEN (by omega)]
      ·rw [if_neg (by omega), if_neg h6, fstE0 rfl, List.take_of_length_le (by rw [List.length_map]; omega)]
       have := tasks_l0 a b c d l m (by omega) m.length (k + 29) 0 (by omega) (by omega)
       simpa using this
    ·rw [if_neg h4, fstEN h4]
   ·rw [if_neg h3, fstEN h3]
abbrev M62 : Int := 4611686018427387904
abbrev R8 : Type := Int × Int × Int × Int × List Int × (List (S90)) × ByteArray × Bool
def BadT (o : Option R8) : Prop := ∃ t, o = some t ∧ t.2.2.2.2.2.2.2 = true
def numR (l : List UInt8) (b : Bool) : Int × List UInt8 × Bool := if b = true then (0, l, true) else match numL M62 l with | none => (0, l, true) | some x => (x.1, x.2, false)
theorem numR_true (l : List UInt8) : numR l true = (0, l, true) := rfl
theorem numR_none {l : List UInt8} (h : numL M62 l = none) : numR l false = (0, l, true) := by unfold numR; rw [if_neg (by simp), h]
theorem numR_some {l : List UInt8} {x : Int × List UInt8} (h : numL M62 l = some x) : numR l false = (x.1, x.2, false) := by unfold numR; rw [if_neg (by simp), h]
theorem numL_len {m : Int} {l : List UInt8} {x : Int × List UInt8} (h : numL m l = some x) : x.2.length ≤ l.length := by
 unfold numL at h
 obtain ⟨⟨n, r⟩, h1, h2⟩ := Option.bind_eq_some_iff.1 h
 split at h2
 ·injection h2 with h2
  subst h2
  have := unvar_length h1
  simp only
  omega
 ·cases h2
theorem numL_le {m : Int} (hm : m ≤ M62) (l : List UInt8) : numL m l = (numL M62 l).bind fun x => if x.1 ≤ m then some x else none := by
 unfold numL
 cases unvarL l with
 | none => rfl
 | some x =>
  simp only [Option.bind_some]
  by_cases h : (x.1 : Int) ≤ m
  ·rw [if_pos h, if_pos (by omega), Option.bind_some, if_pos h]
  ·rw [if_neg h]
   by_cases h2 : (x.1 : Int) ≤ M62
   ·rw [if_pos h2, Option.bind_some, if_neg h]
   ·rw [if_neg h2]; rfl
theorem numR_len (l : List UInt8) (b : Bool) : (numR l b).2.1.length ≤ l.length := by
 cases b with
 | true => exact Nat.le_refl _
 | false =>
  cases h : numL M62 l with
  | none => rw [numR_none h]; exact Nat.le_refl _
  | some x => rw [numR_some h]; exact numL_len h
theorem num_eq (k : Nat) (hk : 30 ≤ k) (l : List UInt8) (hl : l.length ≤ 2000) (b : Bool) : sacristanref13_Reader_Num.f k (mkB l) b = some ((numR l b).1, mkB (numR l b).2.1, (numR l b).2.2) := by
 unfold sacristanref13_Reader_Num.f
 rw [runvar_eq k hk l (by omega), Option.bind_some]
 cases b with
 | true => rw [if_pos rfl]; rfl
 | false =>
  rw [if_neg (by simp)]
  unfold unvarR
  cases h : unvarL l with
  | none =>
   have hn : numL M62 l = none := by unfold numL; rw [h]; rfl
   rw [numR_none hn]
   rfl
  | some x =>
   obtain ⟨n, r⟩ := x
   by_cases hn : (n : Int) ≤ M62
   ·have hs : numL M62 l = some ((n : Int), r) := by unfold numL; rw [h]; simp only [Option.bind_some]; rw [if_pos hn]
    have hw : wrap64 (n : Int) = n := by unfold wrap64; unfold M62 at hn; omega
    rw [numR_some hs]
    simp only []
    rw [if_pos trivial, if_neg (by unfold M62 at hn; omega), hw]
   ·have hs : numL M62 l = none := by unfold numL; rw [h]; simp only [Option.bind_some]; rw [if_neg hn]
    rw [numR_none hs]
    simp only []
    rw [if_pos trivial, if_pos (by unfold M62 at hn; omega)]
theorem l1_bad (k : Nat) (n i : Int) (l : ByteArray) (a b c d : Int) (p : List Int) (ts : List (S90)) : BadT (sacristanref13_Reader_Spec.l1 (k + 2) n i l true a b c d p ts) := by
 simp only [sacristanref13_Reader_Spec.l1]
 by_cases h : i < n
 ·rw [if_pos h]
  simp only [sacristanref13_Reader_Spec.j5]
  rw [if_neg (by simp), if_pos trivial]
  exact ⟨_, rfl, rfl⟩
 ·rw [if_neg h]
  simp only [sacristanref13_Reader_Spec.j5]
  rw [if_neg (by simp), if_pos trivial]
  exact ⟨_, rfl, rfl⟩
theorem j2_bad (k : Nat) (l : List UInt8) (hl : l.length ≤ 2000) (a b c d : Int) (p : List Int) : BadT (sacristanref13_Reader_Spec.j2 (k + 40) (mkB l) true a b c d p) := by
 simp only [sacristanref13_Reader_Spec.j2]
 rw [num_eq _ (by omega) l hl, numR_true, Option.bind_some]
 rw [if_pos rfl]
 simp only [sacristanref13_Reader_Spec.j3]
 exact l1_bad _ _ _ _ _ _ _ _ _ _
theorem l0_bad (k : Nat) (n i : Int) (l : List UInt8) (hl : l.length ≤ 2000) (a b c d : Int) (p : List Int) : BadT (sacristanref13_Reader_Spec.l0 (k + 41) n i (mkB l) true a b c d p) := by
 simp only [sacristanref13_Reader_Spec.l0]
 by_cases h : i < n
 ·rw [if_pos h, if_pos trivial]; exact j2_bad k l hl a b c d p
 ·rw [if_neg h]; exact j2_bad k l hl a b c d p
theorem ports_run (a b c d : Int) (n : Nat) (hn : n ≤ 8) (m : Nat) : ∀ (k i : Nat) (l : List UInt8) (p : List Int), i + m = n → l.length ≤ 2000 → p.length ≤ i →
  match manyP (numL M62) m l with
  | none => BadT (sacristanref13_Reader_Spec.l0 (k + 41 + m) n i (mkB l) false a b c d p)
  | some (xs, r) => sacristanref13_Reader_Spec.l0 (k + 41 + m) n i (mkB l) false a b c d p = sacristanref13_Reader_Spec.j2 (k + 40) (mkB r) false a b c d (p ++ xs) ∧ r.length ≤ l.length := by
 induction m with
 | zero =>
  intro k i l p hi hl hp
  simp only [manyP]
  refine ⟨?_, Nat.le_refl _⟩
  simp only [sacristanref13_Reader_Spec.l0]
  rw [if_neg (by omega), List.append_nil]
 | succ m ih =>
  intro k i l p hi hl hp
  have hs : sacristanref13_Reader_Spec.l0 (k + 41 + (m + 1)) n i (mkB l) false a b c d p = sacristanref13_Reader_Spec.l0 (k + 41 + m) n ((i + 1 : Nat) : Int) (mkB (numR l false).2.1) (numR l false).2.2 a b c d (p ++ [(numR l false).1]) := by
   rw [show k + 41 + (m + 1) = (k + 41 + m) + 1 by omega]
   simp only [sacristanref13_Reader_Spec.l0]
   rw [if_pos (by omega), if_neg (by simp), num_eq _ (by omega) l hl, Option.bind_some, if_pos (by omega), w1 (by omega)]
  rw [hs]
  simp only [manyP]
  cases h : numL M62 l with
  | none =>
   rw [numR_none h]
   simp only [Option.bind_none]
   rw [show k + 41 + m = (k + m) + 41 by omega]
   exact l0_bad _ _ _ l hl _ _ _ _ _
  | some x =>
   rw [numR_some h]
   simp only [Option.bind_some]
   have hx := numL_len h
   have q := ih k (i + 1) x.2 (p ++ [x.1]) (by omega) (by omega) (by simp; omega)
   cases h2 : manyP (numL M62) m x.2 with
   | none =>
    rw [h2] at q
    exact q
   | some y =>
    rw [h2] at q
    obtain ⟨q1, q2⟩ := q
    refine ⟨?_, by omega⟩
    rw [q1, List.append_assoc]
    rfl
def n1 (l : List UInt8) (b : Bool) := numR l b
def n2 (l : List UInt8) (b : Bool) := numR (n1 l b).2.1 (n1 l b).2.2
def n3 (l : List UInt8) (b : Bool) := numR (n2 l b).2.1 (n2 l b).2.2
def n4 (l : List UInt8) (b : Bool) := numR (n3 l b).2.1 (n3 l b).2.2
def n5 (l : List UInt8) (b : Bool) := numR (n4 l b).2.1 (n4 l b).2.2
theorem n_len (l : List UInt8) (b : Bool) : (n1 l b).2.1.length ≤ l.length ∧ (n2 l b).2.1.length ≤ l.length ∧ (n3 l b).2.1.length ≤ l.length ∧ (n4 l b).2.1.length ≤ l.length ∧ (n5 l b).2.1.length ≤ l.length := by
 have h1 := numR_len l b
 have h2 := numR_len (n1 l b).2.1 (n1 l b).2.2
 have h3 := numR_len (n2 l b).2.1 (n2 l b).2.2
 have h4 := numR_len (n3 l b).2.1 (n3 l b).2.2
 have h5 := numR_len (n4 l b).2.1 (n4 l b).2.2
 unfold n5 n4 n3 n2 n1 at *
 omega
theorem numR_bad (l : List UInt8) {b : Bool} (h : b = true) : (numR l b).2.2 = true := by subst h; rfl
theorem n5_bad1 (l : List UInt8) (b : Bool) (h : (n4 l b).2.2 = true) : (n5 l b).2.2 = true := numR_bad _ h
theorem n5_bad2 (l : List UInt8) (b : Bool) (h : (n3 l b).2.2 = true) : (n5 l b).2.2 = true := n5_bad1 _ _ (numR_bad _ h)
theorem n5_bad3 (l : List UInt8) (b : Bool) (h : (n2 l b).2.2 = true) : (n5 l b).2.2 = true := n5_bad2 _ _ (numR_bad _ h)
theorem n5_bad4 (l : List UInt8) (b : Bool) (h : (n1 l b).2.2 = true) : (n5 l b).2.2 = true := n5_bad3 _ _ (numR_bad _ h)
theorem n5_bad5 (l : List UInt8) (b : Bool) (h : b = true) : (n5 l b).2.2 = true := n5_bad4 _ _ (numR_bad _ h)
def five (l : List UInt8) : Option ((Int × Int × Int × Int × Int) × List UInt8) :=
 (numL M62 l).bind fun b => (numL M62 b.2).bind fun c => (numL M62 c.2).bind fun d => (numL M62 d.2).bind fun e => (numL M62 e.2).bind fun f => some ((b.1, c.1, d.1, e.1, f.1), f.2)
theorem five_run (l : List UInt8) :
  match five l with
  | none => (n5 l false).2.2 = true
  | some (x, r) => (n1 l false).1 = x.1 ∧ (n2 l false).1 = x.2.1 ∧ (n3 l false).1 = x.2.2.1 ∧ (n4 l false).1 = x.2.2.2.1 ∧ n5 l false = (x.2.2.2.2, r, false) := by
 unfold five
 cases h1 : numL M62 l with
 | none => exact n5_bad4 _ _ (by unfold n1; rw [numR_none h1])
 | some b =>
  have e1 : n1 l false = (b.1, b.2, false) := numR_some h1
  simp only [Option.bind_some]
  cases h2 : numL M62 b.2 with
  | none => exact n5_bad3 _ _ (by unfold n2; rw [e1]; simp only; rw [numR_none h2])
  | some c =>
   have e2 : n2 l false = (c.1, c.2, false) := by unfold n2; rw [e1]; exact numR_some h2
   simp only [Option.bind_some]
   cases h3 : numL M62 c.2 with
   | none => exact n5_bad2 _ _ (by unfold n3; rw [e2]; simp only; rw [numR_none h3])
   | some d =>
    have e3 : n3 l false = (d.1, d.2, false) := by unfold n3; rw [e2]; exact numR_some h3
    simp only [Option.bind_some]
    cases h4 : numL M62 d.2 with
    | none => exact n5_bad1 _ _ (by unfold n4; rw [e3]; simp only; rw [numR_none h4])
    | some e =>
     have e4 : n4 l false = (e.1, e.2, false) := by unfold n4; rw [e3]; exact numR_some h4
     simp only [Option.bind_some]
     cases h5 : numL M62 e.2 with
     | none => show (n5 l false).2.2 = true; unfold n5; rw [e4]; simp only; rw [numR_none h5]
     | some f =>
      have e5 : n5 l false = (f.1, f.2, false) := by unfold n5; rw [e4]; exact numR_some h5
      simp only [Option.bind_some]
      rw [e1, e2, e3, e4, e5]
      exact ⟨rfl, rfl, rfl, rfl, rfl⟩
theorem num_eq1 (k : Nat) (hk : 30 ≤ k) (l : List UInt8) (b : Bool) (hl : l.length ≤ 2000) : sacristanref13_Reader_Num.f k (mkB l) b = some ((n1 l b).1, mkB (n1 l b).2.1, (n1 l b).2.2) := num_eq k hk l hl b
theorem num_eq2 (k : Nat) (hk : 30 ≤ k) (l : List UInt8) (b : Bool) (hl : (n1 l b).2.1.length ≤ 2000) : sacristanref13_Reader_Num.f k (mkB (n1 l b).2.1) (n1 l b).2.2 = some ((n2 l b).1, mkB (n2 l b).2.1, (n2 l b).2.2) := num_eq k hk _ hl _
theorem num_eq3 (k : Nat) (hk : 30 ≤ k) (l : List UInt8) (b : Bool) (hl : (n2 l b).2.1.length ≤ 2000) : sacristanref13_Reader_Num.f k (mkB (n2 l b).2.1) (n2 l b).2.2 = some ((n3 l b).1, mkB (n3 l b).2.1, (n3 l b).2.2) := num_eq k hk _ hl _
theorem num_eq4 (k : Nat) (hk : 30 ≤ k) (l : List UInt8) (b : Bool) (hl : (n3 l b).2.1.length ≤ 2000) : sacristanref13_Reader_Num.f k (mkB (n3 l b).2.1) (n3 l b).2.2 = some ((n4 l b).1, mkB (n4 l b).2.1, (n4 l b).2.2) := num_eq k hk _ hl _
theorem num_eq5 (k : Nat) (hk : 30 ≤ k) (l : List UInt8) (b : Bool) (hl : (n4 l b).2.1.length ≤ 2000) : sacristanref13_Reader_Num.f k (mkB (n4 l b).2.1) (n4 l b).2.2 = some ((n5 l b).1, mkB (n5 l b).2.1, (n5 l b).2.2) := num_eq k hk _ hl _
theorem j6_eq (k : Nat) (n : Int) (i : Nat) (v : Int) (l : List UInt8) (bb : Bool) (a b c d : Int) (p : List Int) (ts : List (S90)) (hi : i ≤ 10) (hts : ts.length ≤ 10) (hl : l.length ≤ 2000) :
  sacristanref13_Reader_Spec.j6 (k + 41) n i v (mkB l) bb a b c d p ts = sacristanref13_Reader_Spec.l1 (k + 40) n ((i + 1 : Nat) : Int) (mkB (n5 l bb).2.1) (n5 l bb).2.2 a b c d p (ts ++ [⟨⟨(v == 1), (n1 l bb).1, (n2 l bb).1, (n3 l bb).1, (n4 l bb).1⟩, (n5 l bb).1⟩]) := by
 have hn := n_len l bb
 simp only [sacristanref13_Reader_Spec.j6]
 rw [num_eq1 _ (by omega) l bb hl, Option.bind_some]
 simp only []
 rw [num_eq2 _ (by omega) l bb (by omega), Option.bind_some]
 simp only []
 rw [num_eq3 _ (by omega) l bb (by omega), Option.bind_some]
 simp only []
 rw [num_eq4 _ (by omega) l bb (by omega), Option.bind_some]
 simp only []
 rw [num_eq5 _ (by omega) l bb (by omega), Option.bind_some]
 rw [if_pos (by omega), w1 (by omega)]
theorem rdT2_five (l : List UInt8) : rdT2 l = (numL 1 l).bind fun a => (five a.2).bind fun x => some (⟨decide (a.1 = 1), x.1.1, x.1.2.1, x.1.2.2.1, x.1.2.2.2.1, x.1.2.2.2.2⟩, x.2) := by
 unfold rdT2 five
 simp only [Option.bind_assoc, Option.bind_some]
theorem task_step (k : Nat) (n i : Nat) (l : List UInt8) (a b c d : Int) (p : List Int) (ts : List (S90)) (hi : i < n) (hn : n ≤ 4) (hts : ts.length ≤ i) (hl : l.length ≤ 2000) :
  match rdT2 l with
  | none => BadT (sacristanref13_Reader_Spec.l1 (k + 43) n i (mkB l) false a b c d p ts)
  | some (t, r) => sacristanref13_Reader_Spec.l1 (k + 43) n i (mkB l) false a b c d p ts = sacristanref13_Reader_Spec.l1 (k + 40) n ((i + 1 : Nat) : Int) (mkB r) false a b c d p (ts ++ [ofTS t]) ∧ r.length ≤ l.length := by
 have hs : ∀ bb, (bb = (if (numR l false).2.2 = true then true else decide ((numR l false).1 > 1))) → sacristanref13_Reader_Spec.l1 (k + 43) n i (mkB l) false a b c d p ts = sacristanref13_Reader_Spec.j6 (k + 41) n i (numR l false).1 (mkB (numR l false).2.1) bb a b c d p ts := by
  intro bb hbb
  simp only [sacristanref13_Reader_Spec.l1]
  rw [if_pos (by omega)]
  simp only [sacristanref13_Reader_Spec.j5]
  rw [if_pos (by simp), num_eq _ (by omega) l hl, Option.bind_some]
  simp only []
  by_cases hb : (numR l false).2.2 = true
  ·rw [if_pos hb] at hbb ⊢
   rw [hbb]
  ·rw [if_neg hb] at hbb ⊢
   rw [hbb]
 rw [rdT2_five, numL_le (by decide) l]
 have bad : ∀ v r ts', r.length ≤ 2000 → ts'.length ≤ 4 → BadT (sacristanref13_Reader_Spec.j6 (k + 41) n i v (mkB r) true a b c d p ts') := by
  intro v r ts' hr ht
  rw [j6_eq k n i v r true a b c d p ts' (by omega) (by omega) hr, n5_bad5 r true rfl]
  exact l1_bad _ _ _ _ _ _ _ _ _ _
 cases h : numL M62 l with
 | none =>
  rw [hs true (by rw [numR_none h]; rfl)]
  exact bad _ _ _ (by have := numR_len l false; omega) (by omega)
 | some x =>
  have hx := numL_len h
  simp only [Option.bind_some]
  by_cases h1 : x.1 ≤ 1
  ·rw [if_pos h1, hs false (by rw [numR_some h]; simp; omega), numR_some h, j6_eq k n i x.1 x.2 false a b c d p ts (by omega) (by omega) (by omega)]
   simp only [Option.bind_some]
   have q := five_run x.2
   have hl5 := (n_len x.2 false).2.2.2.2
   cases h5 : five x.2 with
   | none =>
    rw [h5] at q
    have q : (n5 x.2 false).2.2 = true := q
    rw [q]
    exact l1_bad _ _ _ _ _ _ _ _ _ _
   | some y =>
    rw [h5] at q
    obtain ⟨y, r⟩ := y
    obtain ⟨q1, q2, q3, q4, q5⟩ := q
    rw [q5] at hl5
    rw [q1, q2, q3, q4, q5]
    simp only [Option.bind_some]
    refine ⟨?_, by simp only at hl5; omega⟩
    rfl
  ·rw [if_neg h1, hs true (by rw [numR_some h]; simp; omega), numR_some h]
   exact bad _ _ _ (by simp only; omega) (by omega)
theorem tasks_run (a b c d : Int) (p : List Int) (n : Nat) (hn : n ≤ 4) (m : Nat) : ∀ (k i : Nat) (l : List UInt8) (ts : List (S90)), i + m = n → l.length ≤ 2000 → ts.length ≤ i →
  match manyP rdT2 m l with
  | none => BadT (sacristanref13_Reader_Spec.l1 (k + 40 + 3 * m) n i (mkB l) false a b c d p ts)
  | some (xs, r) => sacristanref13_Reader_Spec.l1 (k + 40 + 3 * m) n i (mkB l) false a b c d p ts = sacristanref13_Reader_Spec.l1 (k + 40) n n (mkB r) false a b c d p (ts ++ xs.map ofTS) ∧ r.length ≤ l.length := by
 induction m with
 | zero =>
  intro k i l ts hi hl ht
  simp only [manyP]
  refine ⟨?_, Nat.le_refl _⟩
  obtain rfl : i = n := by omega
  rw [List.map_nil, List.append_nil]
 | succ m ih =>
  intro k i l ts hi hl ht
  have q := task_step (k + 3 * m) n i l a b c d p ts (by omega) hn ht hl
  rw [show k + 40 + 3 * (m + 1) = k + 3 * m + 43 by omega]
  simp only [manyP]
  cases h : rdT2 l with
  | none => rw [h] at q; exact q
  | some x =>
   obtain ⟨t, r⟩ := x
   rw [h] at q
   obtain ⟨q1, q2⟩ := q
   rw [q1]
   simp only [Option.bind_some]
   have q3 := ih k (i + 1) r (ts ++ [ofTS t]) (by omega) (by omega) (by simp; omega)
   rw [show k + 3 * m + 40 = k + 40 + 3 * m by omega]
   cases h2 : manyP rdT2 m r with
   | none => rw [h2] at q3; exact q3
   | some y =>
    rw [h2] at q3
    obtain ⟨q4, q5⟩ := q3
    refine ⟨?_, by omega⟩
    rw [q4, List.append_assoc]
    rfl
theorem l1_end (k : Nat) (n : Nat) (r : ByteArray) (a b c d : Int) (p : List Int) (ts : List (S90)) : sacristanref13_Reader_Spec.l1 (k + 40) n n r false a b c d p ts = some (a, b, c, d, p, ts, r, (specE (spOf a b c d p ts) != 0)) := by
 simp only [sacristanref13_Reader_Spec.l1]
 rw [if_neg (by omega)]
 simp only [sacristanref13_Reader_Spec.j5]
 rw [if_neg (by simp), if_neg (by simp), show k + 38 = (k + 8) + 30 by omega, check_eq, Option.bind_some]
def rdS3 (l : List UInt8) : Option (SP × List UInt8) :=
 (five l).bind fun x => (if x.1.2.2.2.2 ≤ 8 then manyP (numL M62) x.1.2.2.2.2.toNat x.2 else none).bind fun e => (listP 4 rdT2 e.2).bind fun f => some (⟨x.1.1, x.1.2.1, x.1.2.2.1, x.1.2.2.2.1, e.1, f.1⟩, f.2)
theorem rdS3_eq (l : List UInt8) : rdS2 l = rdS3 l := by
 unfold rdS2 rdS3 five listP
 simp only [Option.bind_assoc, Option.bind_some]
 congr 1; funext a; congr 1; funext b; congr 1; funext c; congr 1; funext d
 rw [numL_le (m := 8) (by decide)]
 simp only [Option.bind_assoc]
 congr 1; funext e
 split
 ·simp only [Option.bind_some]
 ·rfl
theorem numL_nn {m : Int} {l : List UInt8} {x : Int × List UInt8} (h : numL m l = some x) : 0 ≤ x.1 := by
 unfold numL at h
 obtain ⟨⟨n, r⟩, h1, h2⟩ := Option.bind_eq_some_iff.1 h
 split at h2
 ·injection h2 with h2
  subst h2
  simp only
  omega
 ·cases h2
theorem j2_run (k : Nat) (l : List UInt8) (hl : l.length ≤ 2000) (a b c d : Int) (p : List Int) :
  match listP 4 rdT2 l with
  | none => BadT (sacristanref13_Reader_Spec.j2 (k + 60) (mkB l) false a b c d p)
  | some (xs, r) => sacristanref13_Reader_Spec.j2 (k + 60) (mkB l) false a b c d p = some (a, b, c, d, p, xs.map ofTS, mkB r, (specE (spOf a b c d p (xs.map ofTS)) != 0)) := by
 have hs : ∀ bb, (bb = (if (numR l false).2.2 = true then true else decide ((numR l false).1 > 4))) → sacristanref13_Reader_Spec.j2 (k + 60) (mkB l) false a b c d p = sacristanref13_Reader_Spec.l1 (k + 58) (numR l false).1 0 (mkB (numR l false).2.1) bb a b c d p [] := by
  intro bb hbb
  simp only [sacristanref13_Reader_Spec.j2]
  rw [num_eq _ (by omega) l hl, Option.bind_some]
  simp only []
  by_cases hb : (numR l false).2.2 = true
  ·rw [if_pos hb] at hbb ⊢
   rw [hbb]
   simp only [sacristanref13_Reader_Spec.j3]
  ·rw [if_neg hb] at hbb ⊢
   rw [hbb]
   simp only [sacristanref13_Reader_Spec.j3]
 unfold listP
 rw [numL_le (by decide) l]
 cases h : numL M62 l with
 | none =>
  rw [hs true (by rw [numR_none h]; rfl)]
  exact l1_bad _ _ _ _ _ _ _ _ _ _
 | some x =>
  have hx := numL_len h
  have hx0 := numL_nn h
  simp only [Option.bind_some]
  by_cases h1 : x.1 ≤ 4
  ·rw [if_pos h1, hs false (by rw [numR_some h]; simp; omega), numR_some h]
   simp only [Option.bind_some]
   obtain ⟨n, hn⟩ := Int.eq_ofNat_of_zero_le hx0
   have q := tasks_run a b c d p n (by omega) n (k + 18 - 3 * n) 0 x.2 [] (by omega) (by omega) (by simp)
   rw [hn, Int.toNat_natCast]
   rw [show k + 18 - 3 * n + 40 + 3 * n = k + 58 by omega] at q
   cases h2 : manyP rdT2 n x.2 with
   | none => rw [h2] at q; exact q
   | some y =>
    rw [h2] at q
    obtain ⟨ys, r⟩ := y
    obtain ⟨q1, q2⟩ := q
    exact q1.trans (l1_end _ _ _ _ _ _ _ _ _)
  ·rw [if_neg h1, hs true (by rw [numR_some h]; simp; omega), numR_some h]
   exact l1_bad _ _ _ _ _ _ _ _ _ _
theorem spec_run (l : List UInt8) (hl : l.length ≤ 2000) :
  match rdS2 l with
  | none => BadT (sacristanref13_Reader_Spec.f 100 (mkB l) false)
  | some (s, r) => sacristanref13_Reader_Spec.f 100 (mkB l) false = some (s.id, s.cpu, s.mem, s.disk, s.ports, s.tasks.map ofTS, mkB r, (specE s != 0)) := by
 have hn := n_len l false
 have hs : ∀ bb, (bb = (if (n5 l false).2.2 = true then true else decide ((n5 l false).1 > 8))) → sacristanref13_Reader_Spec.f 100 (mkB l) false = sacristanref13_Reader_Spec.l0 99 (n5 l false).1 0 (mkB (n5 l false).2.1) bb (n1 l false).1 (n2 l false).1 (n3 l false).1 (n4 l false).1 [] := by
  intro bb hbb
  unfold sacristanref13_Reader_Spec.f
  rw [num_eq1 100 (by omega) l false hl, Option.bind_some]
  simp only []
  rw [num_eq2 100 (by omega) l false (by omega), Option.bind_some]
  simp only []
  rw [num_eq3 100 (by omega) l false (by omega), Option.bind_some]
  simp only []
  rw [num_eq4 100 (by omega) l false (by omega), Option.bind_some]
  simp only []
  rw [num_eq5 100 (by omega) l false (by omega), Option.bind_some]
  by_cases hb : (n5 l false).2.2 = true
  ·rw [if_pos hb] at hbb
   subst hbb
   refine (if_pos hb).trans ?_
   simp only [sacristanref13_Reader_Spec.j0]
  ·rw [if_neg hb] at hbb
   subst hbb
   refine (if_neg hb).trans ?_
   simp only [sacristanref13_Reader_Spec.j0]
 rw [rdS3_eq]
 unfold rdS3
 have q := five_run l
 cases h5 : five l with
 | none =>
  rw [h5] at q
  have q : (n5 l false).2.2 = true := q
  rw [hs true (by rw [if_pos q])]
  exact l0_bad 58 _ _ _ (by omega) _ _ _ _ _
 | some y =>
  rw [h5] at q
  obtain ⟨⟨y1, y2, y3, y4, y5⟩, r⟩ := y
  obtain ⟨q1, q2, q3, q4, q5⟩ := q
  simp only at q1 q2 q3 q4 q5
  have hr := hn.2.2.2.2
  rw [q5] at hr
  simp only at hr
  simp only [Option.bind_some]
  by_cases h8 : y5 ≤ 8
  ·rw [if_pos h8, hs false (by rw [q5]; simp; omega), q1, q2, q3, q4, q5]
   simp only []
   have h0 : 0 ≤ y5 := by
    unfold five at h5
    simp only [Option.bind_eq_some_iff] at h5
    obtain ⟨_, _, _, _, _, _, _, _, f, hf, h5⟩ := h5
    have := numL_nn hf
    injection h5 with h5
    injection h5 with h5 _
    injection h5 with _ h5
    injection h5 with _ h5
    injection h5 with _ h5
    injection h5 with _ h5
    omega
   obtain ⟨n, rfl⟩ := Int.eq_ofNat_of_zero_le h0
   have p := ports_run y1 y2 y3 y4 n (by omega) n (58 - n) 0 r [] (by omega) (by omega) (by simp)
   rw [show 58 - n + 41 + n = 99 by omega] at p
   rw [Int.toNat_natCast]
   cases h2 : manyP (numL M62) n r with
   | none => rw [h2] at p; exact p
   | some e =>
    rw [h2] at p
    obtain ⟨xs, r2⟩ := e
    obtain ⟨p1, p2⟩ := p
    simp only [Option.bind_some]
    have p1' : sacristanref13_Reader_Spec.l0 99 (n : Int) 0 (mkB r) false y1 y2 y3 y4 [] = sacristanref13_Reader_Spec.j2 (58 - n + 40) (mkB r2) false y1 y2 y3 y4 xs := p1
    rw [p1', show 58 - n + 40 = (38 - n) + 60 by omega]
    have t := j2_run (38 - n) r2 (by omega) y1 y2 y3 y4 xs
    cases h3 : listP 4 rdT2 r2 with
    | none => rw [h3] at t; exact t
    | some f =>
     rw [h3] at t
     obtain ⟨ts, r3⟩ := f
     have t : _ = some (y1, y2, y3, y4, xs, ts.map ofTS, mkB r3, (specE (spOf y1 y2 y3 y4 xs (ts.map ofTS)) != 0)) := t
     rw [t]
     have e : spOf y1 y2 y3 y4 xs (ts.map ofTS) = ⟨y1, y2, y3, y4, xs, ts⟩ := by
      unfold spOf
      rw [List.map_map, show (toTS ∘ ofTS) = id from rfl, List.map_id]
     rw [e]
     rfl
  ·rw [if_neg h8, hs true (by rw [q5]; simp; omega), q5]
   exact l0_bad 58 _ _ _ (by simp only; omega) _ _ _ _ _
theorem spec_bad (l : List UInt8) (hl : l.length ≤ 2000) : BadT (sacristanref13_Reader_Spec.f 100 (mkB l) true) := by
 have hn := n_len l true
 have hb : (n5 l true).2.2 = true := n5_bad5 l true rfl
 have hs : sacristanref13_Reader_Spec.f 100 (mkB l) true = sacristanref13_Reader_Spec.l0 99 (n5 l true).1 0 (mkB (n5 l true).2.1) true (n1 l true).1 (n2 l true).1 (n3 l true).1 (n4 l true).1 [] := by
  unfold sacristanref13_Reader_Spec.f
  rw [num_eq1 100 (by omega) l true hl, Option.bind_some]
  simp only []
  rw [num_eq2 100 (by omega) l true (by omega), Option.bind_some]
  simp only []
  rw [num_eq3 100 (by omega) l true (by omega), Option.bind_some]
  simp only []
  rw [num_eq4 100 (by omega) l true (by omega), Option.bind_some]
  simp only []
  rw [num_eq5 100 (by omega) l true (by omega), Option.bind_some]
  refine (if_pos hb).trans ?_
  simp only [sacristanref13_Reader_Spec.j0]
 rw [hs]
 exact l0_bad 58 _ _ _ (by omega) _ _ _ _ _
end Go.Proofs.YtkhcdichdnbcmaaR.PureR
end
section
namespace Go.Proofs.YtkhcdichdnbcmaaR.PureR
end Go.Proofs.YtkhcdichdnbcmaaR.PureR
end
section
namespace Go.Proofs.YtkhcdichdnbcmaaR
end Go.Proofs.YtkhcdichdnbcmaaR
end
