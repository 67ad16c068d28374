/- Texts of this session, merged (wip/gen/shake.py). -/
import Derived.Test.YtkhcdichdnbcmaaRProg
import Derived.Laws.BitsAllLaws
import Derived.Test.YtkhcdichdnbcmaaRRm2
import Derived.Test.YtkhcdichdnbcmaaRRm3
import Derived.Test.YtkhcdichdnbcmaaRRm4
import Derived.Test.YtkhcdichdnbcmaaRRm5
import Derived.Test.YtkhcdichdnbcmaaRRm6
section
namespace Go.Proofs.YtkhcdichdnbcmaaR.C
open Go.RowKit Go.Proofs.YtkhcdichdnbcmaaR.Ext Go.Proofs.YtkhcdichdnbcmaaRW.PrintWords Go.Proofs.YtkhcdichdnbcmaaRW.PrintLast Go.Proofs.YtkhcdichdnbcmaaRW.PrintMore
attribute [local go_sem] max2_int min2_int max_two min_two max_three min_three max_four min_four   -- for this text's walks alone
set_option linter.unusedVariables false
set_option linter.unusedSimpArgs false
def IsS84 (w0 W : World) (g : Nat) (f0 : ByteArray) (f1 : Bool) : Prop := W.heap[g]? = some (.cells #[.string f0, .bool f1] 84 (0, 0)) ∧ w0.heap.size ≤ g
theorem IsS84.grown {w0 W : World} {g : Nat} {f0 : ByteArray} {f1 : Bool} {W1 : World} {row : Option Nat} (h : IsS84 w0 W g f0 f1) (hw : W.grownBy W1 row) (hne : some g ≠ row) : IsS84 w0 W1 g f0 f1 := by
 obtain ⟨hb, hg⟩ := h
 exact ⟨blk_grown hb hw hne, hg⟩
theorem IsS84.fresh {w0 W : World} {g : Nat} {f0 : ByteArray} {f1 : Bool} (h : IsS84 w0 W g f0 f1) : ∀ k, W.heap.size ≤ k → k ≠ g := by
 obtain ⟨hb, hg⟩ := h
 exact Kd.freshB hb
theorem IsS84.kept {w0 W : World} {g : Nat} {f0 : ByteArray} {f1 : Bool} {W1 : World} {S : Nat → Prop} (h : IsS84 w0 W g f0 f1) (hk : Kept W W1 S) (hne : ¬ S g) : IsS84 w0 W1 g f0 f1 := by
 obtain ⟨hb, hg⟩ := h
 exact ⟨blk_kept hb hk hne, hg⟩
theorem IsS84.below {w0 W : World} {g : Nat} {f0 : ByteArray} {f1 : Bool} {W1 : World} (h : IsS84 w0 W g f0 f1) (hw : Below W.heap.size W W1) : IsS84 w0 W1 g f0 f1 := h.grown (grown_of_below hw none) (by simp)
theorem IsS84.alloc {w0 W : World} {g : Nat} {f0 : ByteArray} {f1 : Bool} (h : IsS84 w0 W g f0 f1) (o : Obj) : IsS84 w0 (W.alloc o) g f0 f1 := h.below (below_alloc (Below.refl _ _) o)
theorem IsS84.drewN {w0 W : World} {g : Nat} {f0 : ByteArray} {f1 : Bool} (h : IsS84 w0 W g f0 f1) (m : Nat) : IsS84 w0 (W.drewN m) g f0 f1 := h
theorem IsS84.drew {w0 W : World} {g : Nat} {f0 : ByteArray} {f1 : Bool} (h : IsS84 w0 W g f0 f1) : IsS84 w0 W.drew g f0 f1 := h
theorem IsS84.at_ {w0 W : World} {g : Nat} {f0 : ByteArray} {f1 : Bool} {w' : World} {m : Nat} (hq : W.drewN m = w') (h : IsS84 w0 W g f0 f1) : IsS84 w0 w' g f0 f1 := by subst hq; exact IsS84.drewN h m
theorem IsS84.apart {w0 W : World} {g : Nat} {f0 : ByteArray} {f1 : Bool} {α : Type} {d : Kd α} {e : Nat} {base : Nat} {ok : Nat → Prop} {v : Value} {xs : List α} (h : IsS84 w0 W g f0 f1) (ho : d.R e W base ok v xs) (ht : ∀ q, q ∈ e :: d.E → q ≠ 84) : d.R e W base (fun k => ok k ∧ k ≠ g) v xs := by
 obtain ⟨hb, hg⟩ := h
 exact Kd.R_types ho hb ht
theorem IsS84.own_ne {w0 W : World} {g : Nat} {f0 : ByteArray} {f1 : Bool} {α : Type} {d : Kd α} {e : Nat} {base : Nat} {ok : Nat → Prop} {v : Value} {xs : List α} (h : IsS84 w0 W g f0 f1) (ho : d.R e W base ok v xs) (ht : e ≠ 84) : some g ≠ v.ownBlock := by
 obtain ⟨hb, hg⟩ := h
 exact Kd.R_ne ho hb ht
theorem IsS84.lt {w0 W : World} {g : Nat} {f0 : ByteArray} {f1 : Bool} (h : IsS84 w0 W g f0 f1) : g < W.heap.size := by
 obtain ⟨hb, hg⟩ := h
 exact blk_lt hb
theorem IsS84.new (w0 W : World) (f0 : ByteArray) (f1 : Bool) (hB : Below w0.heap.size w0 W) : IsS84 w0 (W.alloc (.cells #[.string f0, .bool f1] 84)) W.heap.size f0 f1 := ⟨by simpa using heap_alloc_new W _, hB.size⟩
end Go.Proofs.YtkhcdichdnbcmaaR.C
end
section
namespace Go.Proofs.YtkhcdichdnbcmaaR.C
open Go.RowKit Go.Proofs.YtkhcdichdnbcmaaR.Ext Go.Proofs.YtkhcdichdnbcmaaRW.PrintWords Go.Proofs.YtkhcdichdnbcmaaRW.PrintLast Go.Proofs.YtkhcdichdnbcmaaRW.PrintMore
attribute [local go_sem] max2_int min2_int max_two min_two max_three min_three max_four min_four   -- for this text's walks alone
set_option linter.unusedVariables false
set_option linter.unusedSimpArgs false
def sacristanref17_most.f (a0 : Int) : Option (Int) := if a0 = 1 then (some 2147483648) else (if a0 = 2 then (some 3) else (some 1099511627776))
set_option maxHeartbeats 8000000 in
set_option maxRecDepth 100000 in
theorem sacristanref17_most.calls (a0 : Int) (r : Int) (w : World) (h : sacristanref17_most.f a0 = some r) :
  Calls Try.prog 58 #[.int .i64 a0] w fun e w' => e = .returned (.int .i64 r) ∧ Drawn0 w w' := by
 have H : (if a0 = 1 then (some 2147483648) else (if a0 = 2 then (some 3) else (some 1099511627776))) = some r := h
 clear h
 by_cases c2 : a0 = 1
 ·rw [if_pos c2] at H
  have c2b0 : (a0 == 1) = true := beq_iff_eq.mpr c2
  have c2b1 : (a0 != 1) = false := bne_eq_false_iff_eq.mpr c2
  clear c2
  obtain rfl := Option.some.inj H
  go_enter Try.func58, Try.ntmps58
  go_wp2
  go_ret
  exact ⟨by first | rfl | (simp; done) | (simp [*]; done), by repeat (first | exact Drawn0.refl _ | apply Drawn0.step)⟩
 ·rw [if_neg c2] at H
  have c2b0 : (a0 == 1) = false := beq_eq_false_iff_ne.mpr c2
  have c2b1 : (a0 != 1) = true := bne_iff_ne.mpr c2
  by_cases c3 : a0 = 2
  ·rw [if_pos c3] at H
   have c3b0 : (a0 == 2) = true := beq_iff_eq.mpr c3
   have c3b1 : (a0 != 2) = false := bne_eq_false_iff_eq.mpr c3
   clear c3
   obtain rfl := Option.some.inj H
   go_enter Try.func58, Try.ntmps58
   go_wp2
   go_ret
   exact ⟨by first | rfl | (simp; done) | (simp [*]; done), by repeat (first | exact Drawn0.refl _ | apply Drawn0.step)⟩
  ·rw [if_neg c3] at H
   have c3b0 : (a0 == 2) = false := beq_eq_false_iff_ne.mpr c3
   have c3b1 : (a0 != 2) = true := bne_iff_ne.mpr c3
   obtain rfl := Option.some.inj H
   go_enter Try.func58, Try.ntmps58
   go_wp2
   go_ret
   exact ⟨by first | rfl | (simp; done) | (simp [*]; done), by repeat (first | exact Drawn0.refl _ | apply Drawn0.step)⟩
def sacristanref02_Int.f (k : Nat) (a0 : Int) : Option (ByteArray) := if a0 < 0 then ((sacristanref02_Var.f k (IntKind.u64.wrap ((IntKind.u64.wrap (2 * (IntKind.u64.wrap (wrap64 (-(wrap64 (a0 + 1))))))) + 1))).bind fun t367 => (some t367)) else ((sacristanref02_Var.f k (IntKind.u64.wrap (2 * (IntKind.u64.wrap (a0))))).bind fun t368 => (some t368))
set_option maxHeartbeats 8000000 in
set_option maxRecDepth 100000 in
theorem sacristanref02_Int.calls (k : Nat) (a0 : Int) (r : ByteArray) (w : World) (h : sacristanref02_Int.f k a0 = some r) :
  Calls Try.prog 56 #[.int .i64 a0] w fun e w' => e = .returned (.string r) ∧ Below w.heap.size w w' := by
 have HB := Aside0.mk (Below.refl w.heap.size w)
 have H : (if a0 < 0 then ((sacristanref02_Var.f k (IntKind.u64.wrap ((IntKind.u64.wrap (2 * (IntKind.u64.wrap (wrap64 (-(wrap64 (a0 + 1))))))) + 1))).bind fun t367 => (some t367)) else ((sacristanref02_Var.f k (IntKind.u64.wrap (2 * (IntKind.u64.wrap (a0))))).bind fun t368 => (some t368))) = some r := h
 clear h
 by_cases c2 : a0 < 0
 ·rw [if_pos c2] at H
  have c2b0 : decide (a0 < 0) = true := decide_eq_true c2
  clear c2
  replace H := Option.bind_eq_some_iff.mp H
  obtain ⟨t367, A30, H⟩ := H
  replace H : (some t367) = some r := H
  have A3 := Aside0.mk A30
  clear A30
  obtain rfl := Option.some.inj H
  go_enter Try.func56, Try.ntmps56
  go_wp2_with (first | ((with_reducible refine gate_callee (f := 39) rfl ?_); refine goesL_ (some 11) rfl rfl Try.func39 (by kernel_rfl) rfl #[.int .u64 (IntKind.u64.wrap ((IntKind.u64.wrap (2 * (IntKind.u64.wrap (wrap64 (-(wrap64 (a0 + 1))))))) + 1))] rfl (by (try simp only [List.map_toArray, List.map_cons, List.map_nil]); first | done | rfl | (simp only [List.length_drop, List.length_take]; rfl)) ?_; (with_reducible refine (sacristanref02_Var.calls k (IntKind.u64.wrap ((IntKind.u64.wrap (2 * (IntKind.u64.wrap (wrap64 (-(wrap64 (a0 + 1))))))) + 1)) t367 _ A3.out).mono ?_); rintro e w4 ⟨rfl, hb⟩; refine ⟨_, rfl, ?_⟩; have n0_ := Aside0.mk (below_step (w := w) (by repeat (first | (with_reducible first | exact HB.out | apply below_alloc | apply pw_below_drewN | apply below_drew1) | exact HB.out)) hb); clear HB; have HB := n0_; clear n0_; (try clear hb); (try clear hb2); (try clear hk); (try clear hi)))
  go_ret
  exact ⟨by first | rfl | (simp [errW_none, errW_some] <;> rfl) | (simp [*, errW_none, errW_some] <;> rfl), by repeat (first | (with_reducible first | exact HB.out | apply below_alloc | apply pw_below_drewN | apply below_drew1) | exact HB.out)⟩
 ·rw [if_neg c2] at H
  have c2b0 : decide (a0 < 0) = false := decide_eq_false c2
  clear c2
  replace H := Option.bind_eq_some_iff.mp H
  obtain ⟨t368, A50, H⟩ := H
  replace H : (some t368) = some r := H
  have A5 := Aside0.mk A50
  clear A50
  obtain rfl := Option.some.inj H
  go_enter Try.func56, Try.ntmps56
  go_wp2_with (first | ((with_reducible refine gate_callee (f := 39) rfl ?_); refine goesL_ (some 15) rfl rfl Try.func39 (by kernel_rfl) rfl #[.int .u64 (IntKind.u64.wrap (2 * (IntKind.u64.wrap (a0))))] rfl (by (try simp only [List.map_toArray, List.map_cons, List.map_nil]); first | done | rfl | (simp only [List.length_drop, List.length_take]; rfl)) ?_; (with_reducible refine (sacristanref02_Var.calls k (IntKind.u64.wrap (2 * (IntKind.u64.wrap (a0)))) t368 _ A5.out).mono ?_); rintro e w6 ⟨rfl, hb⟩; refine ⟨_, rfl, ?_⟩; have n0_ := Aside0.mk (below_step (w := w) (by repeat (first | (with_reducible first | exact HB.out | apply below_alloc | apply pw_below_drewN | apply below_drew1) | exact HB.out)) hb); clear HB; have HB := n0_; clear n0_; (try clear hb); (try clear hb2); (try clear hk); (try clear hi)))
  go_ret
  exact ⟨by first | rfl | (simp [errW_none, errW_some] <;> rfl) | (simp [*, errW_none, errW_some] <;> rfl), by repeat (first | (with_reducible first | exact HB.out | apply below_alloc | apply pw_below_drewN | apply below_drew1) | exact HB.out)⟩
end Go.Proofs.YtkhcdichdnbcmaaR.C
end
section
namespace Go.Proofs.YtkhcdichdnbcmaaR
end Go.Proofs.YtkhcdichdnbcmaaR
end
section
namespace Go.Proofs.YtkhcdichdnbcmaaR
end Go.Proofs.YtkhcdichdnbcmaaR
end
section
namespace Go.Proofs.YtkhcdichdnbcmaaR.C
open Go.RowKit Go.Proofs.YtkhcdichdnbcmaaR.Ext Go.Proofs.YtkhcdichdnbcmaaRW.PrintWords Go.Proofs.YtkhcdichdnbcmaaRW.PrintLast Go.Proofs.YtkhcdichdnbcmaaRW.PrintMore
attribute [local go_sem] max2_int min2_int max_two min_two max_three min_three max_four min_four   -- for this text's walks alone
set_option linter.unusedVariables false
set_option linter.unusedSimpArgs false
def sacristanref13_Reader_Spec.T10 : Bool × List (List Nat × List Nat) := (true, [([], []), ([0], [0]), ([], []), ([2], [2]), ([3], [3]), ([1, 4, 3], [1, 4]), ([0, 1, 2, 3, 4, 5], []), ([6, 5, 5, 0, 1, 2, 3, 4, 5], [5, 6])])
def sacristanref13_Reader_Spec.B10 : List Nat := [0, 1, 0, 4, 12, 31, 63, 127]
theorem sacristanref13_Reader_Spec.tab10 : rtab .any (opsOf Try.f46 10) = sacristanref13_Reader_Spec.T10 := by kernel_rfl
theorem sacristanref13_Reader_Spec.bits10 : waitsOk sacristanref13_Reader_Spec.T10.2 sacristanref13_Reader_Spec.B10 = true := by kernel_rfl
end Go.Proofs.YtkhcdichdnbcmaaR.C
end
section
namespace Go.Proofs.YtkhcdichdnbcmaaR.PureR
open Go.RowKit Go.Proofs.YtkhcdichdnbcmaaR.Ext Go.Proofs.YtkhcdichdnbcmaaR.C Go.Proofs.YtkhcdichdnbcmaaRW.PrintWords Go.Proofs.YtkhcdichdnbcmaaRW.PrintLast
open Go.Proofs.YtkhcdichdnbcmaaR.Pk
set_option linter.unusedVariables false
set_option linter.unusedSimpArgs false
theorem mkB_data (s : ByteArray) : mkB s.data.toList = s := by
 show (⟨s.data.toList.toArray⟩ : ByteArray) = s
 rw [Array.toArray_toList]
theorem mkB_size (l : List UInt8) : (mkB l).size = l.length := by
 show l.toArray.size = l.length
 simp
theorem mkB_append (a b : List UInt8) : mkB a ++ mkB b = mkB (a ++ b) := by
 apply ByteArray.ext
 rw [ByteArray.data_append]
 show a.toArray ++ b.toArray = (a ++ b).toArray
 simp
theorem vl_take_succ (l : List UInt8) (i : Nat) (h : i < l.length) : vl (l.take (i + 1)) = vl (l.take i) * 256 + (l.getD i 0).toNat := by
 rw [List.take_succ_eq_append_getElem h, vl_snoc]
 simp [h]
theorem vl_take_lt (l : List UInt8) (i : Nat) (hl : l.length ≤ 8) (hi : i < l.length) : vl (l.take i) < 72057594037927936 := by
 have h := vl_lt (l.take i)
 rw [List.length_take, Nat.min_eq_left (by omega)] at h
 have h2 : 256 ^ i ≤ 256 ^ 7 := Nat.pow_le_pow_right (by omega) (by omega)
 have h3 : (256 : Nat) ^ 7 = 72057594037927936 := by decide
 omega
def unvarR (l : List UInt8) : Int × ByteArray × Int := match unvarL l with | none => (0, mkB [], 4) | some (n, r) => ((n : Int), mkB r, 0)
theorem tdiv_256 (n : Nat) (hn : n < 18446744073709551616) : IntKind.u64.wrap (Int.tdiv (n : Int) 256) = ((n / 256 : Nat) : Int) := by
 rw [Int.tdiv_eq_ediv_of_nonneg (by omega), IntWalk.u64_in _ (by omega)]
 omega
theorem width_l0 (d : Nat) : ∀ (k n c : Nat), n < 18446744073709551616 → lw n ≤ d → d < k → c + d ≤ 1000 →
  sacristanref02_Width.l0 k n c = some ((c + (lw n - 1) : Nat) : Int) := by
 induction d with
 | zero =>
  intro k n c hn hd hk hc
  obtain ⟨k, rfl⟩ : ∃ m, k = m + 1 := ⟨k - 1, by omega⟩
  have : n = 0 := by
   have := (lw_le_iff n 0).1 hd
   simpa using this
  subst this
  simp only [sacristanref02_Width.l0]
  rw [if_neg (by omega), lw_zero]
  rfl
 | succ d ih =>
  intro k n c hn hd hk hc
  obtain ⟨k, rfl⟩ : ∃ m, k = m + 1 := ⟨k - 1, by omega⟩
  simp only [sacristanref02_Width.l0]
  by_cases h : n > 255
  ·have h1 : lw n = lw (n / 256) + 1 := lw_pos (by omega)
   have h2 : lw (n / 256) ≠ 0 := by rw [lw_pos (by omega)]; omega
   rw [if_pos (by omega), tdiv_256 n hn, show wrap64 ((c : Int) + 1) = ((c + 1 : Nat) : Int) from by unfold wrap64; omega]
   rw [ih k (n / 256) (c + 1) (by omega) (by omega) (by omega) (by omega)]
   congr 2
   omega
  ·have h1 : lw n ≤ 1 := (lw_le_iff n 1).2 (by omega)
   rw [if_neg (by omega)]
   congr 2
   omega
theorem width_eq (k : Nat) (hk : 10 ≤ k) (n : Nat) (hn : n < 18446744073709551616) : sacristanref02_Width.f k n = some ((1 + (lw n - 1) : Nat) : Int) := by
 unfold sacristanref02_Width.f
 exact width_l0 8 k n 1 hn (lw_le_8 hn) (by omega) (by omega)
theorem refbytes_l0 (i : Nat) : ∀ (k n : Nat) (xs : List Int), n < 18446744073709551616 → i ≤ xs.length → xs.length ≤ 100 → i < k →
  sacristanref02_bytes.l0 k n xs ((i : Int) - 1) = some (strOfNums (beB i n ++ xs.drop i)) := by
 induction i with
 | zero =>
  intro k n xs hn hi hx hk
  obtain ⟨k, rfl⟩ : ∃ m, k = m + 1 := ⟨k - 1, by omega⟩
  simp only [sacristanref02_bytes.l0]
  rw [if_neg (by omega)]
  rfl
 | succ i ih =>
  intro k n xs hn hi hx hk
  obtain ⟨k, rfl⟩ : ∃ m, k = m + 1 := ⟨k - 1, by omega⟩
  simp only [sacristanref02_bytes.l0]
  have e : (((i + 1 : Nat) : Int) - 1) = (i : Int) := by omega
  rw [e, if_pos (by omega), if_pos (by omega), if_pos (by omega), tdiv_256 n hn, Int.toNat_natCast]
  rw [show wrap64 ((i : Int) - 1) = (i : Int) - 1 from by unfold wrap64; omega]
  rw [ih k (n / 256) _ (by omega) (by simp; omega) (by simpa using hx) (by omega)]
  have e2 : Int.tmod (n : Int) 256 % 256 = (n : Int) % 256 := by rw [Int.tmod_eq_emod_of_nonneg (by omega)]; omega
  rw [e2, beB]
  congr 1
  rw [List.append_assoc]
  congr 2
  rw [List.drop_eq_getElem_cons (by simp; omega)]
  simp [List.drop_set_of_lt]
theorem refbytes_eq (k : Nat) (n w : Nat) (hn : n < 18446744073709551616) (hw : w ≤ 100) (hk : w < k) : sacristanref02_bytes.f k n w = some (mkB (be w n)) := by
 unfold sacristanref02_bytes.f
 rw [if_pos (by omega), if_pos (by omega), Int.toNat_natCast]
 rw [show wrap64 ((w : Int) - 1) = (w : Int) - 1 from by unfold wrap64; omega]
 rw [refbytes_l0 w k n _ hn (by simp) (by simp; omega) hk, List.drop_of_length_le (by simp), List.append_nil, beB_eq]
theorem rvar_eq (k : Nat) (hk : 20 ≤ k) (n : Nat) (hn : n < 18446744073709551616) : sacristanref02_Var.f k n = some (mkB (varL n)) := by
 unfold sacristanref02_Var.f varL
 have h8 := lw_le_8 hn
 by_cases h : n < 248
 ·rw [if_pos (by omega), if_pos h]
  have := refbytes_eq k n 1 hn (by omega) (by omega)
  rw [show ((1 : Nat) : Int) = 1 from rfl] at this
  rw [this, Option.bind_some]
  have e : be 1 n = [UInt8.ofNat n] := by simp [be, Nat.mod_eq_of_lt (show n < 256 by omega)]
  rw [e]
 ·have h1 : 1 ≤ lw n := by rw [lw_pos (by omega)]; omega
  rw [if_neg (by omega), if_neg h, width_eq k (by omega) n hn, Option.bind_some]
  rw [show 1 + (lw n - 1) = lw n by omega]
  rw [show wrap64 (247 + ((lw n : Nat) : Int)) = ((247 + lw n : Nat) : Int) from by unfold wrap64; omega, IntWalk.u64_in _ (by omega)]
  have := refbytes_eq k (247 + lw n) 1 (by omega) (by omega) (by omega)
  rw [show ((1 : Nat) : Int) = 1 from rfl] at this
  have e : be 1 (247 + lw n) = [UInt8.ofNat (247 + lw n)] := by simp [be, Nat.mod_eq_of_lt (show 247 + lw n < 256 by omega)]
  rw [this, Option.bind_some, Option.bind_some, refbytes_eq k n (lw n) hn (by omega) (by omega), Option.bind_some, mkB_size, mkB_size, be_length, be_length, if_pos (by omega), mkB_append, e]
  rfl
end Go.Proofs.YtkhcdichdnbcmaaR.PureR
end
section
namespace Go.Proofs.YtkhcdichdnbcmaaR.PureR
open Go.RowKit Go.Proofs.YtkhcdichdnbcmaaR Go.Proofs.YtkhcdichdnbcmaaR.Ext Go.Proofs.YtkhcdichdnbcmaaR.C Go.Proofs.YtkhcdichdnbcmaaR.Sp Go.Proofs.YtkhcdichdnbcmaaRW.PrintWords Go.Proofs.YtkhcdichdnbcmaaRW.PrintLast
open Go.Proofs.YtkhcdichdnbcmaaR.Pk
set_option linter.unusedVariables false
set_option linter.unusedSimpArgs false
theorem w1 {i : Nat} (h : i ≤ 1000) : wrap64 ((i : Int) + 1) = ((i + 1 : Nat) : Int) := by unfold wrap64; omega
theorem rd_at (l : List Int) (i : Nat) (h : i < l.length) : rd l (i : Int) = l[i] := by simp [rd, h]
theorem rdT_at (l : List (S90)) (i : Nat) (h : i < l.length) : rd_T90 l (i : Int) = l[i] := by simp [rd_T90, h]
theorem fstE0 {e : Int} (h : e = 0) (l : List Int) : fstE (e :: l) = fstE l := by simp only [fstE]; rw [if_pos h]
theorem fstEN {e : Int} (h : ¬ e = 0) (l : List Int) : fstE (e :: l) = e := by simp only [fstE]; rw [if_neg h]
theorem range_ok {n lo hi : Int} (h1 : lo ≤ n) (h2 : n ≤ hi) : rangeE n lo hi = 0 := by unfold rangeE; rw [if_pos ((inI_iff _ _ _).2 ⟨h1, h2⟩)]
theorem range_no {n lo hi : Int} (h : n < lo ∨ hi < n) : rangeE n lo hi = 3 := by unfold rangeE; rw [if_neg (fun k => by have := (inI_iff _ _ _).1 k; omega)]
theorem res_eq (k : Nat) (a b c : Int) : sacristanref09_Check.f (k + 5) a b c = some (resE a b c) := by
 unfold sacristanref09_Check.f sacristanref09_amounts.f resE
 simp only [Option.bind_some, inI_iff]
 simp only [sacristanref09_Check.l0]
 have e0 : rd [a, b, c] 0 = a := rfl
 have e1 : rd [a, b, c] 1 = b := rfl
 have e2 : rd [a, b, c] 2 = c := rfl
 have f1 : wrap64 (0 + 1) = 1 := by unfold wrap64; omega
 have f2 : wrap64 (1 + 1) = 2 := by unfold wrap64; omega
 have f3 : wrap64 (2 + 1) = 3 := by unfold wrap64; omega
 simp only [f1, f2, f3, e0, e1, e2]
 simp
 grind
theorem ports_l0 (l : List Int) (hl : l.length ≤ 8) (d : Nat) : ∀ k i : Nat, i + d = l.length → 2 * d < k → sacristanref10_Check.l0 k l i = some (portsG (if i = 0 then 0 else l.getD (i - 1) 0) (l.drop i)) := by
 induction d with
 | zero =>
  intro k i hi hk
  obtain ⟨k, rfl⟩ : ∃ m, k = m + 1 := ⟨k - 1, by omega⟩
  simp only [sacristanref10_Check.l0]
  rw [if_neg (by omega), List.drop_eq_nil_of_le (by omega)]
  rfl
 | succ d ih =>
  intro k i hi hk
  obtain ⟨k, rfl⟩ : ∃ m, k = m + 2 := ⟨k - 2, by omega⟩
  have hil : i < l.length := by omega
  have q := ih k (i + 1) (by omega) (by omega)
  rw [if_neg (by omega), Nat.add_sub_cancel] at q
  have hg : l.getD i 0 = l[i] := by simp [hil]
  rw [hg] at q
  rw [List.drop_eq_getElem_cons hil]
  simp only [sacristanref10_Check.l0, portsG]
  rw [if_pos (by omega), if_pos (by omega), rd_at l i hil]
  by_cases h1 : l[i] < 1
  ·rw [if_pos h1, if_pos (.inl h1)]
   simp only [sacristanref10_Check.j1]
   rw [if_pos trivial]
  ·rw [if_neg h1]
   by_cases h2 : l[i] > 65535
   ·rw [decide_eq_true h2, if_pos (.inr h2)]
    simp only [sacristanref10_Check.j1]
    rw [if_pos trivial]
   ·rw [decide_eq_false h2, if_neg (fun h => h.elim h1 h2)]
    simp only [sacristanref10_Check.j1]
    rw [if_neg (by simp), rd_at l i hil]
    by_cases h3 : i = 0
    ·subst h3
     rw [if_neg (by omega), if_pos rfl, if_neg (by omega), w1 (by omega)]
     exact q
    ·have h4 : wrap64 ((i : Int) - 1) = ((i - 1 : Nat) : Int) := by unfold wrap64; omega
     rw [if_pos (by omega), if_pos (by omega), if_pos (by omega), h4, if_pos (by omega), if_pos (by omega), rd_at l (i - 1) (by omega), if_neg h3, w1 (by omega)]
     have hg2 : l.getD (i - 1) 0 = l[i - 1] := by simp [show i - 1 < l.length by omega]
     rw [hg2]
     split
     ·rfl
     ·exact q
theorem ports_eq (k : Nat) (hk : 20 ≤ k) (l : List Int) : sacristanref10_Check.f k l = some (portsE l) := by
 unfold sacristanref10_Check.f portsE
 by_cases h : l.length > 8
 ·rw [if_pos (by omega), if_pos h]
 ·rw [if_neg (by omega), if_neg h]
  have := ports_l0 l (by omega) l.length k 0 (by omega) (by omega)
  simpa using this
theorem pol_eq (b : Bool) (l w c m : Int) : sacristanref11_Check.f b l w c m = some (polE l w c m) := by
 unfold sacristanref11_Check.f polE
 simp only [inI_iff]
 grind
theorem tasks_l0 (a b c d : Int) (p : List Int) (m : List (S90)) (hm : m.length ≤ 4) (n : Nat) : ∀ k i : Nat, i + n = m.length → n < k → sacristanref13_Check.l0 k i a b c d p m = some (fstE (((m.map toTS).drop i).flatMap taskE)) := by
 induction n with
 | zero =>
  intro k i hi hk
  obtain ⟨k, rfl⟩ : ∃ m, k = m + 1 := ⟨k - 1, by omega⟩
  simp only [sacristanref13_Check.l0]
  rw [if_neg (by omega), List.drop_eq_nil_of_le (by rw [List.length_map]; omega)]
  rfl
 | succ n ih =>
  intro k i hi hk
  obtain ⟨k, rfl⟩ : ∃ m, k = m + 1 := ⟨k - 1, by omega⟩
  have hil : i < m.length := by omega
  have q := ih k (i + 1) (by omega) (by omega)
  simp only [sacristanref13_Check.l0]
  rw [if_pos (by omega), if_pos (by omega), rdT_at m i hil, pol_eq, Option.bind_some, List.drop_eq_getElem_cons (by rw [List.length_map]; exact hil), List.flatMap_cons, w1 (by omega), q]
  have e : (m.map toTS)[i]'(by rw [List.length_map]; exact hil) = toTS m[i] := by simp
  rw [e]
  generalize ((m.map toTS).drop (i + 1)).flatMap taskE = z
  show _ = some (fstE (polE (m[i]).f0.f1 (m[i]).f0.f2 (m[i]).f0.f3 (m[i]).f0.f4 :: rangeE (m[i]).f1 0 1000 :: z))
  by_cases h1 : polE (m[i]).f0.f1 (m[i]).f0.f2 (m[i]).f0.f3 (m[i]).f0.f4 = 0
  ·rw [if_pos h1, fstE0 h1]
   by_cases h2 : (m[i]).f1 < 0
   ·rw [if_pos h2, range_no (.inl h2), fstEN (by omega)]
   ·rw [if_neg h2]
    by_cases h3 : (m[i]).f1 > 1000
    ·rw [if_pos h3, range_no (.inr h3), fstEN (by omega)]
    ·rw [if_neg h3, range_ok (by omega) (by omega), fstE0 rfl]
  ·rw [if_neg h1, fstEN h1]
theorem check_eq (k : Nat) (a b c d : Int) (l : List Int) (m : List (S90)) : sacristanref13_Check.f (k + 30) a b c d l m = some (specE (spOf a b c d l m)) := by
 have e : specE (spOf a b c d l m) = fstE (rangeE a 0 2147483648 :: resE b c d :: portsE l :: countE m.length :: (((m.map toTS).take 4).flatMap taskE)) := by
  unfold specE askE spOf
  simp only [List.length_map]
  rfl
 rw [e]
 unfold sacristanref13_Check.f
 by_cases h1 : a < 0
 ·rw [if_pos h1, range_no (.inl h1), fstEN (by omega)]
  simp only [sacristanref13_Check.j0]
  rw [if_pos trivial]
 ·rw [if_neg h1]
  by_cases h2 : a > 2147483648
  ·rw [decide_eq_true h2, range_no (.inr h2), fstEN (by omega)]
   simp only [sacristanref13_Check.j0]
   rw [if_pos trivial]
  ·rw [decide_eq_false h2, range_ok (by omega) (by omega), fstE0 rfl]
   simp only [sacristanref13_Check.j0]
   rw [if_neg (by simp), res_eq, Option.bind_some]
   by_cases h3 : resE b c d = 0
   ·rw [if_pos h3, fstE0 h3, ports_eq _ (by omega), Option.bind_some]
    by_cases h4 : portsE l = 0
    ·rw [if_pos h4, fstE0 h4]
     unfold countE
     by_cases h5 : m.length = 0
     ·rw [if_pos (by omega), if_pos h5, fstEN (by omega)]
     ·rw [if_neg (by omega), if_neg h5]
      by_cases h6 : m.length > 4
      ·rw [if_pos (by omega), if_pos h6, fstEN (by omega)]
      ·rw [if_neg (by omega), if_neg h6, fstE0 rfl, List.take_of_length_le (by rw [List.length_map]; omega)]
       have := tasks_l0 a b c d l m (by omega) m.length (k + 29) 0 (by omega) (by omega)
       simpa using this
    ·rw [if_neg h4, fstEN h4]
   ·rw [if_neg h3, fstEN h3]
abbrev M62 : Int := 4611686018427387904
def numR (l : List UInt8) (b : Bool) : Int × List UInt8 × Bool := if b = true then (0, l, true) else match numL M62 l with | none => (0, l, true) | some x => (x.1, x.2, false)
def n1 (l : List UInt8) (b : Bool) := numR l b
def n2 (l : List UInt8) (b : Bool) := numR (n1 l b).2.1 (n1 l b).2.2
def n3 (l : List UInt8) (b : Bool) := numR (n2 l b).2.1 (n2 l b).2.2
def n4 (l : List UInt8) (b : Bool) := numR (n3 l b).2.1 (n3 l b).2.2
def n5 (l : List UInt8) (b : Bool) := numR (n4 l b).2.1 (n4 l b).2.2
end Go.Proofs.YtkhcdichdnbcmaaR.PureR
end
section
namespace Go.Proofs.YtkhcdichdnbcmaaR.PureR
open Go.RowKit Go.Proofs.YtkhcdichdnbcmaaR Go.Proofs.YtkhcdichdnbcmaaR.Ext Go.Proofs.YtkhcdichdnbcmaaR.C Go.Proofs.YtkhcdichdnbcmaaRW.PrintWords Go.Proofs.YtkhcdichdnbcmaaRW.PrintLast Go.Proofs.YtkhcdichdnbcmaaRW.PrintMore
open Go.Proofs.YtkhcdichdnbcmaaR.Sp Go.Proofs.YtkhcdichdnbcmaaR.Pk
set_option linter.unusedVariables false
set_option linter.unusedSimpArgs false
theorem numbers_l0 (a b c d : Int) (l : List Int) (m : List (S90)) (hm : m.length ≤ 1000) (n : Nat) : ∀ (k i : Nat) (xs : List Int), i + n = m.length → n < k → xs.length ≤ 10000 + 6 * i →
  sacristanref13_numbers.l0 k xs i a b c d l m = some (xs ++ ((m.map toTS).drop i).flatMap numsT) := by
 induction n with
 | zero =>
  intro k i xs hi hk hx
  obtain ⟨k, rfl⟩ : ∃ q, k = q + 1 := ⟨k - 1, by omega⟩
  simp only [sacristanref13_numbers.l0]
  rw [if_neg (by omega), List.drop_eq_nil_of_le (by rw [List.length_map]; omega)]
  simp
 | succ n ih =>
  intro k i xs hi hk hx
  obtain ⟨k, rfl⟩ : ∃ q, k = q + 1 := ⟨k - 1, by omega⟩
  have hil : i < m.length := by omega
  have e : (m.map toTS)[i]'(by rw [List.length_map]; exact hil) = toTS m[i] := by simp
  rw [List.drop_eq_getElem_cons (by rw [List.length_map]; exact hil), List.flatMap_cons, e]
  simp only [sacristanref13_numbers.l0]
  rw [if_pos (by omega), if_pos (by omega), rdT_at m i hil, w1 (by omega)]
  by_cases hb : (m[i]).f0.f0 = true
  ·have en : numsT (toTS m[i]) = [1, (m[i]).f0.f1, (m[i]).f0.f2, (m[i]).f0.f3, (m[i]).f0.f4, (m[i]).f1] := by simp [numsT, toTS, b2i, hb]
   rw [if_pos hb, Option.bind_some, if_pos (by simp; omega), ih k (i + 1) _ (by omega) (by omega) (by simp; omega), en, List.append_assoc]
  ·have en : numsT (toTS m[i]) = [0, (m[i]).f0.f1, (m[i]).f0.f2, (m[i]).f0.f3, (m[i]).f0.f4, (m[i]).f1] := by simp [numsT, toTS, b2i, hb]
   rw [if_neg hb, Option.bind_some, if_pos (by simp; omega), ih k (i + 1) _ (by omega) (by omega) (by simp; omega), en, List.append_assoc]
theorem numbers_eq (k : Nat) (a b c d : Int) (l : List Int) (m : List (S90)) (hl : l.length ≤ 1000) (hm : m.length ≤ 1000) (hk : m.length < k) :
  sacristanref13_numbers.f k a b c d l m = some (numsS (spOf a b c d l m)) := by
 unfold sacristanref13_numbers.f
 simp only [Option.bind_some]
 rw [if_pos (by simp; omega), if_pos (by simp; omega)]
 have := numbers_l0 a b c d l m hm m.length k 0 ([a, b, c, d, (l.length : Int)] ++ l ++ [(m.length : Int)]) (by omega) hk (by simp; omega)
 refine this.trans ?_
 simp [numsS, spOf]
theorem encode_l0 (xs : List Int) (hx : ∀ x ∈ xs, 0 ≤ x ∧ x < 9223372036854775808) (hl : xs.length ≤ 1000) (n : Nat) : ∀ (k i : Nat) (acc : List UInt8), i + n = xs.length → n + 20 < k → acc.length ≤ 9 * i →
  sacristanref13_Encode.l0 k (YtkhcdichdnbcmaaR.Ext.mkB acc) xs i = some (YtkhcdichdnbcmaaR.Ext.mkB (acc ++ encNs (xs.drop i)), 0) := by
 induction n with
 | zero =>
  intro k i acc hi hk ha
  obtain ⟨k, rfl⟩ : ∃ q, k = q + 1 := ⟨k - 1, by omega⟩
  simp only [sacristanref13_Encode.l0]
  rw [if_neg (by omega), List.drop_eq_nil_of_le (by omega), encNs_nil, List.append_nil]
 | succ n ih =>
  intro k i acc hi hk ha
  obtain ⟨k, rfl⟩ : ∃ q, k = q + 1 := ⟨k - 1, by omega⟩
  have hil : i < xs.length := by omega
  have hb := hx xs[i] (List.getElem_mem _)
  obtain ⟨v, hv⟩ : ∃ v : Nat, xs[i] = (v : Int) := ⟨xs[i].toNat, by omega⟩
  rw [List.drop_eq_getElem_cons hil, encNs_cons]
  simp only [sacristanref13_Encode.l0]
  have hvl := Pk.varL_length v (by omega)
  have ee : encN xs[i] = Pk.varL v := by unfold encN; rw [hv, Int.toNat_natCast]
  rw [if_pos (by omega), if_pos (by omega), rd_at xs i hil, hv, IntWalk.u64_in _ (by omega), rvar_eq k (by omega) v (by omega), Option.bind_some]
  have e2 : (YtkhcdichdnbcmaaR.Ext.mkB acc).size = acc.length := mkB_size _
  have e3 : (YtkhcdichdnbcmaaR.Ext.mkB (Pk.varL v)).size = (Pk.varL v).length := mkB_size _
  have e4 : YtkhcdichdnbcmaaR.Ext.mkB acc ++ YtkhcdichdnbcmaaR.Ext.mkB (Pk.varL v) = YtkhcdichdnbcmaaR.Ext.mkB (acc ++ Pk.varL v) := mkB_append _ _
  rw [e2, e3, if_pos (by omega), e4, w1 (by omega), ih k (i + 1) _ (by omega) (by omega) (by simp; omega)]
  rw [← hv, ee, List.append_assoc]
theorem nums_ok {s : SP} (h : okS s = true) (hp : s.ports.length ≤ 1000) : ∀ x ∈ numsS s, 0 ≤ x ∧ x < 9223372036854775808 := by
 obtain ⟨⟨h1, h2⟩, ⟨h3, h4⟩, ⟨h5, h6⟩, ⟨h7, h8⟩, ⟨h9, h10⟩, ⟨h11, h12⟩⟩ := okS_gS h
 intro x hx
 unfold numsS at hx
 simp only [List.mem_append, List.mem_cons, List.not_mem_nil, or_false, List.mem_flatMap] at hx
 rcases hx with (((rfl | rfl | rfl | rfl | rfl) | hx) | rfl) | ⟨t, ht, hx⟩
 ·omega
 ·omega
 ·omega
 ·omega
 ·omega
 ·have := h10 x hx; omega
 ·omega
 ·obtain ⟨⟨a1, a2⟩, ⟨a3, a4⟩, ⟨a5, a6⟩, ⟨a7, a8⟩, ⟨a9, a10⟩⟩ := h12 t ht
  unfold numsT at hx
  simp only [List.mem_cons, List.not_mem_nil, or_false] at hx
  rcases hx with rfl | rfl | rfl | rfl | rfl | rfl
  ·unfold b2i; split <;> omega
  all_goals omega
theorem nums_len (s : SP) : (numsS s).length = 6 + s.ports.length + 6 * s.tasks.length := by
 unfold numsS
 have : (s.tasks.flatMap numsT).length = 6 * s.tasks.length := by
  generalize s.tasks = ts
  induction ts with
  | nil => rfl
  | cons t ts ih => rw [List.flatMap_cons, List.length_append, ih, List.length_cons]; simp [numsT]; omega
 simp [this]
 omega
theorem rencode_eq (k : Nat) (a b c d : Int) (l : List Int) (m : List (S90)) (hl : l.length ≤ 20) (hm : m.length ≤ 10) :
  sacristanref13_Encode.f (k + 200) a b c d l m = some (YtkhcdichdnbcmaaR.Ext.mkB (Go.Proofs.YtkhcdichdnbcmaaR.encR (spOf a b c d l m)), specE (spOf a b c d l m)) := by
 unfold sacristanref13_Encode.f
 rw [check_eq (k + 170), Option.bind_some]
 by_cases h : specE (spOf a b c d l m) = 0
 ·have hok : okS (spOf a b c d l m) = true := by simp [okS, h]
  have hn := nums_len (spOf a b c d l m)
  have hln : (spOf a b c d l m).ports.length = l.length := rfl
  have hmn : (spOf a b c d l m).tasks.length = m.length := by simp [spOf]
  rw [if_pos h, numbers_eq (k + 200) a b c d l m (by omega) (by omega) (by omega), Option.bind_some]
  have := encode_l0 _ (nums_ok hok (by omega)) (by omega) (numsS (spOf a b c d l m)).length (k + 200) 0 [] (by omega) (by omega) (by simp)
  rw [show (0 : Int) = ((0 : Nat) : Int) from rfl, show (⟨#[]⟩ : ByteArray) = YtkhcdichdnbcmaaR.Ext.mkB [] from rfl, this, h]
  simp [Go.Proofs.YtkhcdichdnbcmaaR.encR, h, encS]
 ·rw [if_neg h]
  have hok : ¬ okS (spOf a b c d l m) = true := by simp [okS, h]
  simp [Go.Proofs.YtkhcdichdnbcmaaR.encR, h]
  rfl
end Go.Proofs.YtkhcdichdnbcmaaR.PureR
end
section
namespace Go.Proofs.YtkhcdichdnbcmaaR
open Go.RowKit Go.Proofs.YtkhcdichdnbcmaaR Go.Proofs.YtkhcdichdnbcmaaR.Ext Go.Proofs.YtkhcdichdnbcmaaR.C Go.Proofs.YtkhcdichdnbcmaaR.Sp Go.Proofs.YtkhcdichdnbcmaaRW.PrintWords Go.Proofs.YtkhcdichdnbcmaaRW.PrintLast
set_option linter.unusedVariables false
set_option linter.unusedSimpArgs false
theorem rvar_c (n : Nat) (hn : n < 18446744073709551616) (w : World) : Calls Try.prog 39 #[.int .u64 n] w fun e w' => e = .returned (.string (YtkhcdichdnbcmaaR.Ext.mkB (Pk.varL n))) ∧ Below w.heap.size w w' :=
 sacristanref02_Var.calls 20 n _ w (PureR.rvar_eq 20 (Nat.le_refl _) n hn)
end Go.Proofs.YtkhcdichdnbcmaaR
end
