/- Texts of this session, merged (wip/gen/shake.py). -/
import Derived.Laws.MakeOwn
import Derived.Laws.OwnMore
import Derived.Test.YtkhcdichdnbcmaaRSh3
import Derived.Test.YtkhcdichdnbcmaaRSh4
section
namespace Go.Proofs.YtkhcdichdnbcmaaR.C
open Go.RowKit Go.Proofs.YtkhcdichdnbcmaaR.Ext Go.Proofs.YtkhcdichdnbcmaaRW.PrintWords Go.Proofs.YtkhcdichdnbcmaaRW.PrintLast Go.Proofs.YtkhcdichdnbcmaaRW.PrintMore
attribute [local go_sem] max2_int min2_int max_two min_two max_three min_three max_four min_four   -- for this text's walks alone
set_option linter.unusedVariables false
set_option linter.unusedSimpArgs false
def sacristanref02_Width.l0 : Nat → Int → Int → Option (Int)
 | 0, _, _ => none
 | k + 1, x0, x3 => if x0 > 255 then (sacristanref02_Width.l0 k (IntKind.u64.wrap (Int.tdiv x0 256)) (wrap64 (x3 + 1))) else (some x3)
def sacristanref02_Width.f (k : Nat) (a0 : Int) : Option (Int) := sacristanref02_Width.l0 k a0 1
set_option maxHeartbeats 8000000 in
set_option maxRecDepth 100000 in
theorem sacristanref02_Width.calls (k : Nat) (a0 : Int) (r : Int) (w : World) (h : sacristanref02_Width.f k a0 = some r) :
  Calls Try.prog 65 #[.int .u64 a0] w fun e w' => e = .returned (.int .i64 r) ∧ Drawn0 w w' := by
 have H : (sacristanref02_Width.l0 k a0 1) = some r := h
 clear h
 have H' := Aside0.mk H
 clear H
 go_enter Try.func65, Try.ntmps65
 go_wp2
 go_loopg [0, 3] k (fun kq v0 v3 w' => ∃ (x0_1 : Int) (x3_1 : Int), v0 = .int .u64 x0_1 ∧ v3 = .int .i64 x3_1 ∧ Aside0 (sacristanref02_Width.l0 kq x0_1 x3_1 = some r) ∧ Aside0 (kq ≤ k) ∧ Drawn0 w w')
 case atStart => exact ⟨(a0), (1), (by first | rfl | (simp; done) | (simp [*]; done)), (by first | rfl | (simp; done) | (simp [*]; done)), H', ⟨Nat.le_refl _⟩, by repeat (first | exact Drawn0.refl _ | apply Drawn0.step)⟩
 case round =>
  clear H'
  obtain ⟨x0_1, x3_1, rfl, rfl, HA, HK1, ⟨m1, rfl⟩⟩ := hrel
  cases gk with
  | zero => exact absurd HA.out (by simp [sacristanref02_Width.l0])
  | succ k1 =>
   have H := HA.out
   clear HA
   simp only [sacristanref02_Width.l0] at H
   by_cases c2 : x0_1 > 255
   ·rw [if_pos c2] at H
    have c2b0 : decide (255 < x0_1) = true := decide_eq_true c2
    clear c2
    have H' := Aside0.mk H
    clear H
    go_wp2
    go_roundg k1
    case measure => have := HK1.out; omega
    case rel => exact ⟨(IntKind.u64.wrap (Int.tdiv x0_1 256)), (wrap64 (x3_1 + 1)), (by first | rfl | (simp; done) | (simp [*]; done)), (by first | rfl | (simp; done) | (simp [*]; done)), H', ⟨by have := HK1.out; omega⟩, by repeat (first | exact Drawn0.refl _ | apply Drawn0.step)⟩
   ·rw [if_neg c2] at H
    have c2b0 : decide (255 < x0_1) = false := decide_eq_false c2
    clear c2
    obtain rfl := Option.some.inj H
    go_wp2
    go_ret
    exact ⟨by first | rfl | (simp; done) | (simp [*]; done), by repeat (first | exact Drawn0.refl _ | apply Drawn0.step)⟩
def sacristanref02_Var.f (k : Nat) (a0 : Int) : Option (ByteArray) := if a0 < 248 then ((sacristanref02_bytes.f k a0 1).bind fun t169 => (some t169)) else ((sacristanref02_Width.f k a0).bind fun t170 => ((sacristanref02_bytes.f k (IntKind.u64.wrap (wrap64 (247 + t170))) 1).bind fun t171 => ((sacristanref02_Width.f k a0).bind fun t172 => ((sacristanref02_bytes.f k a0 t172).bind fun t173 => (if t171.size + t173.size ≤ 9223372036854775807 then (some (t171 ++ t173)) else (none))))))
set_option maxHeartbeats 8000000 in
set_option maxRecDepth 100000 in
theorem sacristanref02_Var.calls (k : Nat) (a0 : Int) (r : ByteArray) (w : World) (h : sacristanref02_Var.f k a0 = some r) :
  Calls Try.prog 39 #[.int .u64 a0] w fun e w' => e = .returned (.string r) ∧ Below w.heap.size w w' := by
 have HB := Aside0.mk (Below.refl w.heap.size w)
 have H : (if a0 < 248 then ((sacristanref02_bytes.f k a0 1).bind fun t169 => (some t169)) else ((sacristanref02_Width.f k a0).bind fun t170 => ((sacristanref02_bytes.f k (IntKind.u64.wrap (wrap64 (247 + t170))) 1).bind fun t171 => ((sacristanref02_Width.f k a0).bind fun t172 => ((sacristanref02_bytes.f k a0 t172).bind fun t173 => (if t171.size + t173.size ≤ 9223372036854775807 then (some (t171 ++ t173)) else (none))))))) = some r := h
 clear h
 by_cases c2 : a0 < 248
 ·rw [if_pos c2] at H
  have c2b0 : decide (a0 < 248) = true := decide_eq_true c2
  clear c2
  replace H := Option.bind_eq_some_iff.mp H
  obtain ⟨t169, A30, H⟩ := H
  replace H : (some t169) = some r := H
  have A3 := Aside0.mk A30
  clear A30
  obtain rfl := Option.some.inj H
  go_enter Try.func39, Try.ntmps39
  go_wp2_with (first | ((with_reducible refine gate_callee (f := 64) rfl ?_); refine goesL_ (some 6) rfl rfl Try.func64 (by kernel_rfl) rfl #[.int .u64 a0, .int .i64 1] rfl (by (try simp only [List.map_toArray, List.map_cons, List.map_nil]); first | done | rfl | (simp only [List.length_drop, List.length_take]; rfl)) ?_; (with_reducible refine (sacristanref02_bytes.calls k a0 1 t169 _ A3.out).mono ?_); rintro e w4 ⟨rfl, hb⟩; refine ⟨_, rfl, ?_⟩; have n0_ := Aside0.mk (below_step (w := w) (by repeat (first | (with_reducible first | exact HB.out | apply below_alloc | apply pw_below_drewN | apply below_drew1) | exact HB.out)) hb); clear HB; have HB := n0_; clear n0_; (try clear hb); (try clear hb2); (try clear hk); (try clear hi)))
  go_ret
  exact ⟨by first | rfl | (simp [errW_none, errW_some] <;> rfl) | (simp [*, errW_none, errW_some] <;> rfl), by repeat (first | (with_reducible first | exact HB.out | apply below_alloc | apply pw_below_drewN | apply below_drew1) | exact HB.out)⟩
 ·rw [if_neg c2] at H
  have c2b0 : decide (a0 < 248) = false := decide_eq_false c2
  clear c2
  replace H := Option.bind_eq_some_iff.mp H
  obtain ⟨t170, A50, H⟩ := H
  replace H : ((sacristanref02_bytes.f k (IntKind.u64.wrap (wrap64 (247 + t170))) 1).bind fun t171 => ((sacristanref02_Width.f k a0).bind fun t172 => ((sacristanref02_bytes.f k a0 t172).bind fun t173 => (if t171.size + t173.size ≤ 9223372036854775807 then (some (t171 ++ t173)) else (none))))) = some r := H
  have A5 := Aside0.mk A50
  clear A50
  replace H := Option.bind_eq_some_iff.mp H
  obtain ⟨t171, A60, H⟩ := H
  replace H : ((sacristanref02_Width.f k a0).bind fun t172 => ((sacristanref02_bytes.f k a0 t172).bind fun t173 => (if t171.size + t173.size ≤ 9223372036854775807 then (some (t171 ++ t173)) else (none)))) = some r := H
  have A6 := Aside0.mk A60
  clear A60
  replace H := Option.bind_eq_some_iff.mp H
  obtain ⟨t172, A70, H⟩ := H
  replace H : ((sacristanref02_bytes.f k a0 t172).bind fun t173 => (if t171.size + t173.size ≤ 9223372036854775807 then (some (t171 ++ t173)) else (none))) = some r := H
  have A7 := Aside0.mk A70
  clear A70
  replace H := Option.bind_eq_some_iff.mp H
  obtain ⟨t173, A80, H⟩ := H
  replace H : (if t171.size + t173.size ≤ 9223372036854775807 then (some (t171 ++ t173)) else (none)) = some r := H
  have A8 := Aside0.mk A80
  clear A80
  by_cases c9 : t171.size + t173.size ≤ 9223372036854775807
  ·rw [if_pos c9] at H
   have c9b0 := eq_true c9
   have c9b1 : decide (t171.size + t173.size ≤ 9223372036854775807) = true := decide_eq_true c9
   try have c9b2 : (9223372036854775807 < t171.size + t173.size) = False := eq_false (Nat.not_lt.2 c9)
   obtain rfl := Option.some.inj H
   go_enter Try.func39, Try.ntmps39
   go_wp2_with (first | ((with_reducible refine gate_callee (f := 65) rfl ?_); refine goesL_ (some 8) rfl rfl Try.func65 (by kernel_rfl) rfl #[.int .u64 a0] rfl (by (try simp only [List.map_toArray, List.map_cons, List.map_nil]); first | done | rfl | (simp only [List.length_drop, List.length_take]; rfl)) ?_; (with_reducible refine (sacristanref02_Width.calls k a0 t170 _ A5.out).mono ?_); rintro e w' ⟨rfl, ⟨nd, rfl⟩⟩; refine ⟨_, rfl, ?_⟩) | ((with_reducible refine gate_callee (f := 64) rfl ?_); refine goesL_ (some 11) rfl rfl Try.func64 (by kernel_rfl) rfl #[.int .u64 (IntKind.u64.wrap (wrap64 (247 + t170))), .int .i64 1] rfl (by (try simp only [List.map_toArray, List.map_cons, List.map_nil]); first | done | rfl | (simp only [List.length_drop, List.length_take]; rfl)) ?_; (with_reducible refine (sacristanref02_bytes.calls k (IntKind.u64.wrap (wrap64 (247 + t170))) 1 t171 _ A6.out).mono ?_); rintro e w10 ⟨rfl, hb⟩; refine ⟨_, rfl, ?_⟩; have n0_ := Aside0.mk (below_step (w := w) (by repeat (first | (with_reducible first | exact HB.out | apply below_alloc | apply pw_below_drewN | apply below_drew1) | exact HB.out)) hb); clear HB; have HB := n0_; clear n0_; (try clear hb); (try clear hb2); (try clear hk); (try clear hi)) | ((with_reducible refine gate_callee (f := 65) rfl ?_); refine goesL_ (some 14) rfl rfl Try.func65 (by kernel_rfl) rfl #[.int .u64 a0] rfl (by (try simp only [List.map_toArray, List.map_cons, List.map_nil]); first | done | rfl | (simp only [List.length_drop, List.length_take]; rfl)) ?_; (with_reducible refine (sacristanref02_Width.calls k a0 t172 _ A7.out).mono ?_); rintro e w' ⟨rfl, ⟨nd, rfl⟩⟩; refine ⟨_, rfl, ?_⟩) | ((with_reducible refine gate_callee (f := 64) rfl ?_); refine goesL_ (some 15) rfl rfl Try.func64 (by kernel_rfl) rfl #[.int .u64 a0, .int .i64 t172] rfl (by (try simp only [List.map_toArray, List.map_cons, List.map_nil]); first | done | rfl | (simp only [List.length_drop, List.length_take]; rfl)) ?_; (with_reducible refine (sacristanref02_bytes.calls k a0 t172 t173 _ A8.out).mono ?_); rintro e w11 ⟨rfl, hb⟩; refine ⟨_, rfl, ?_⟩; have n0_ := Aside0.mk (below_step (w := w) (by repeat (first | (with_reducible first | exact HB.out | apply below_alloc | apply pw_below_drewN | apply below_drew1) | exact HB.out)) hb); clear HB; have HB := n0_; clear n0_; (try clear hb); (try clear hb2); (try clear hk); (try clear hi)))
   go_ret
   exact ⟨by first | rfl | (simp [errW_none, errW_some] <;> rfl) | (simp [*, errW_none, errW_some] <;> rfl), by repeat (first | (with_reducible first | exact HB.out | apply below_alloc | apply pw_below_drewN | apply below_drew1) | exact HB.out)⟩
  ·rw [if_neg c9] at H
   exact absurd H (by simp)
mutual
def sacristanref02_Unfixed.j0 : Nat → ByteArray → Bool → Option (Int × Int)
 | 0, _, _ => none
 | k + 1, x0, x13 => if x13 = true then (some (0, 2)) else (sacristanref02_Unfixed.l0 k x0 0 0)
def sacristanref02_Unfixed.l0 : Nat → ByteArray → Int → Int → Option (Int × Int)
 | 0, _, _, _ => none
 | k + 1, x0, x4, x5 => if x5 < (x0.size : Int) then (if 0 ≤ x5 then (sacristanref02_Unfixed.l0 k x0 (IntKind.u64.wrap ((IntKind.u64.wrap (x4 * 256)) + (IntKind.u64.wrap (bt x0 x5)))) (wrap64 (x5 + 1))) else (none)) else (some (x4, 0))
end
def sacristanref02_Unfixed.f (k : Nat) (a0 : ByteArray) : Option (Int × Int) := if (a0.size : Int) < 1 then (sacristanref02_Unfixed.j0 k a0 true) else (sacristanref02_Unfixed.j0 k a0 (decide ((a0.size : Int) > 8)))
set_option maxHeartbeats 8000000 in
set_option maxRecDepth 100000 in
theorem sacristanref02_Unfixed.calls (k : Nat) (a0 : ByteArray) (r1 : Int) (r2 : Int) (w : World) (h : sacristanref02_Unfixed.f k a0 = some (r1, r2)) :
  Calls Try.prog 91 #[.string a0] w fun e w' => e = .returned (.tuple #[.int .u64 r1, .int .i64 r2]) ∧ Drawn0 w w' := by
 have H : (if (a0.size : Int) < 1 then (sacristanref02_Unfixed.j0 k a0 true) else (sacristanref02_Unfixed.j0 k a0 (decide ((a0.size : Int) > 8)))) = some (r1, r2) := h
 clear h
 have HC2 := Aside0.mk H
 clear H
 go_enter Try.func91, Try.ntmps91
 go_upto_region 1 with (fail)
 go_cut [13] (fun v13 wc => ∃ (kq : Nat) (x13_1 : Bool), v13 = .bool x13_1 ∧ Aside0 (sacristanref02_Unfixed.j0 kq a0 x13_1 = some (r1, r2)) ∧ Aside0 (kq ≤ k) ∧ Drawn0 w wc)
 case first =>
  have H := HC2.out
  clear HC2
  by_cases c3 : (a0.size : Int) < 1
  ·rw [if_pos c3] at H
   have c3b0 : decide ((a0.size : Int) < 1) = true := decide_eq_true c3
   have c3b1 : decide (a0.size < 1) = true := decide_eq_true (by omega)
   clear c3
   (first | rw [c3b0] | rw [c3b1] | (simp only [i64_w, i32_w]; rw [c3b0]) | skip)
   have H' := Aside0.mk H
   clear H
   go_wp2
   go_meet
   case rel => exact ⟨_, (true), (by first | rfl | (simp; done) | (simp [*]; done)), H', ⟨by first | omega | exact Nat.le_refl _⟩, by repeat (first | exact Drawn0.refl _ | apply Drawn0.step)⟩
  ·rw [if_neg c3] at H
   have c3b0 : decide ((a0.size : Int) < 1) = false := decide_eq_false c3
   have c3b1 : decide (a0.size < 1) = false := decide_eq_false (by omega)
   clear c3
   (first | rw [c3b0] | rw [c3b1] | (simp only [i64_w, i32_w]; rw [c3b0]) | skip)
   have H' := Aside0.mk H
   clear H
   go_wp2
   go_meet
   case rel => exact ⟨_, (decide ((a0.size : Int) > 8)), (by first | rfl | (simp; done) | (simp [*]; done)), H', ⟨by first | omega | exact Nat.le_refl _⟩, by repeat (first | exact Drawn0.refl _ | apply Drawn0.step)⟩
 case rest =>
  clear HC2
  try clear p2
  try clear c3
  try clear c3b0
  try clear c3b1
  obtain ⟨kq, x13_1, rfl, HA, HJ1, ⟨mc1, rfl⟩⟩ := hcut
  cases kq with
  | zero => exact absurd HA.out (by simp [sacristanref02_Unfixed.j0])
  | succ kj1 =>
   have H := HA.out
   clear HA
   simp only [sacristanref02_Unfixed.j0] at H
   by_cases c4 : x13_1 = true
   ·subst c4
    have H1 : (some (0, 2)) = some (r1, r2) := by rw [if_pos rfl] at H; exact H
    clear H
    have H := H1
    clear H1
    simp only [Option.some.injEq, Prod.mk.injEq] at H
    obtain ⟨rfl, rfl⟩ := H
    go_wp2
    go_ret2
    exact ⟨by first | rfl | (simp; done) | (simp [*]; done), by repeat (first | exact Drawn0.refl _ | apply Drawn0.step)⟩
   ·replace c4 := Bool.eq_false_iff.mpr c4
    subst c4
    have H1 : (sacristanref02_Unfixed.l0 kj1 a0 0 0) = some (r1, r2) := by rw [if_neg (show ¬ (false = true) by decide)] at H; exact H
    clear H
    have H := H1
    clear H1
    have H' := Aside0.mk H
    clear H
    go_wp2
    go_loopg [4, 5] kj1 (fun kq v4 v5 w' => ∃ (x4_2 : Int) (x5_2 : Int), v4 = .int .u64 x4_2 ∧ v5 = .int .i64 x5_2 ∧ Aside0 (sacristanref02_Unfixed.l0 kq a0 x4_2 x5_2 = some (r1, r2)) ∧ Aside0 (kq ≤ kj1) ∧ Drawn0 w w')
    case atStart => exact ⟨(0), (0), (by first | rfl | (simp; done) | (simp [*]; done)), (by first | rfl | (simp; done) | (simp [*]; done)), H', ⟨Nat.le_refl _⟩, by repeat (first | exact Drawn0.refl _ | apply Drawn0.step)⟩
    case round =>
     clear H'
     try clear c1
     try clear p2
     try clear c3
     try clear c3b0
     try clear c3b1
     try clear c4
     try clear p2
     obtain ⟨x4_2, x5_2, rfl, rfl, HA, HK2, ⟨m2, rfl⟩⟩ := hrel
     cases gk with
     | zero => exact absurd HA.out (by simp [sacristanref02_Unfixed.l0])
     | succ k2 =>
      have H := HA.out
      clear HA
      simp only [sacristanref02_Unfixed.l0] at H
      by_cases c5 : x5_2 < (a0.size : Int)
      ·rw [if_pos c5] at H
       have c5b0 : decide (x5_2 < (a0.size : Int)) = true := decide_eq_true c5
       clear c5
       by_cases c6 : 0 ≤ x5_2
       ·rw [if_pos c6] at H
        have c6b0 : decide (0 ≤ x5_2) = true := decide_eq_true c6
        clear c6
        have H' := Aside0.mk H
        clear H
        have p7 : 0 ≤ (x5_2 : Int) := of_decide_eq_true (by first | (with_reducible assumption) | assumption)
        have q7 : x5_2 < (a0.size : Int) := of_decide_eq_true (by first | (with_reducible assumption) | assumption)
        have hx7 := bt_at a0 x5_2
        replace p7 := eq_true p7
        replace q7 := eq_true q7
        go_wp2
        go_roundg k2
        case measure => have := HJ1.out; have := HK2.out; omega
        case rel => exact ⟨(IntKind.u64.wrap ((IntKind.u64.wrap (x4_2 * 256)) + (IntKind.u64.wrap (bt a0 x5_2)))), (wrap64 (x5_2 + 1)), (by first | rfl | (simp; done) | (simp [*]; done)), (by first | rfl | (simp; done) | (simp [*]; done)), H', ⟨by have := HJ1.out; have := HK2.out; omega⟩, by repeat (first | exact Drawn0.refl _ | apply Drawn0.step)⟩
       ·rw [if_neg c6] at H
        exact absurd H (by simp)
      ·rw [if_neg c5] at H
       have c5b0 : decide (x5_2 < (a0.size : Int)) = false := decide_eq_false c5
       clear c5
       simp only [Option.some.injEq, Prod.mk.injEq] at H
       obtain ⟨rfl, rfl⟩ := H
       go_wp2
       go_ret2
       exact ⟨by first | rfl | (simp; done) | (simp [*]; done), by repeat (first | exact Drawn0.refl _ | apply Drawn0.step)⟩
end Go.Proofs.YtkhcdichdnbcmaaR.C
end
section
namespace Go.Proofs.YtkhcdichdnbcmaaR.C
open Go.RowKit Go.Proofs.YtkhcdichdnbcmaaR.Ext Go.Proofs.YtkhcdichdnbcmaaRW.PrintWords Go.Proofs.YtkhcdichdnbcmaaRW.PrintLast Go.Proofs.YtkhcdichdnbcmaaRW.PrintMore
attribute [local go_sem] max2_int min2_int max_two min_two max_three min_three max_four min_four   -- for this text's walks alone
set_option linter.unusedVariables false
set_option linter.unusedSimpArgs false
def sacristanref02_Unvar.f (k : Nat) (a0 : ByteArray) : Option (Int × ByteArray × Int) := if (a0.size : Int) = 0 then (some (0, (⟨#[]⟩ : ByteArray), 4)) else (if 0 < (a0.size : Int) then (if (bt a0 0) > 247 then (if (a0.size : Int) < (wrap64 ((wrap64 (1 + (wrap64 (bt a0 0)))) - 247)) then (some (0, (⟨#[]⟩ : ByteArray), 4)) else (if 1 ≤ (wrap64 ((wrap64 (1 + (wrap64 (bt a0 0)))) - 247)) then (if (wrap64 ((wrap64 (1 + (wrap64 (bt a0 0)))) - 247)) ≤ (a0.size : Int) then ((sacristanref02_Unfixed.f k (a0.extract 1 ((wrap64 ((wrap64 (1 + (wrap64 (bt a0 0)))) - 247)) : Int).toNat)).bind fun bt174 => ((sacristanref02_Var.f k bt174.1).bind fun t176 => (if 0 ≤ (wrap64 ((wrap64 (1 + (wrap64 (bt a0 0)))) - 247)) then (if t176.toList = (a0.extract 0 ((wrap64 ((wrap64 (1 + (wrap64 (bt a0 0)))) - 247)) : Int).toNat).toList then (some (bt174.1, a0.extract ((wrap64 ((wrap64 (1 + (wrap64 (bt a0 0)))) - 247)) : Int).toNat a0.size, 0)) else (some (0, (⟨#[]⟩ : ByteArray), 4))) else (none)))) else (none)) else (none))) else ((sacristanref02_Var.f k (IntKind.u64.wrap (bt a0 0))).bind fun t177 => (if 0 ≤ 1 then (if 1 ≤ (a0.size : Int) then (if t177.toList = (a0.extract 0 1).toList then (some (IntKind.u64.wrap (bt a0 0), a0.extract 1 a0.size, 0)) else (some (0, (⟨#[]⟩ : ByteArray), 4))) else (none)) else (none)))) else (none))
set_option maxHeartbeats 8000000 in
set_option maxRecDepth 100000 in
theorem sacristanref02_Unvar.calls (k : Nat) (a0 : ByteArray) (r1 : Int) (r2 : ByteArray) (r3 : Int) (w : World) (h : sacristanref02_Unvar.f k a0 = some (r1, r2, r3)) :
  Calls Try.prog 74 #[.string a0] w fun e w' => e = .returned (.tuple #[.int .u64 r1, .string r2, .int .i64 r3]) ∧ Below w.heap.size w w' := by
 have HB := Aside0.mk (Below.refl w.heap.size w)
 have H : (if (a0.size : Int) = 0 then (some (0, (⟨#[]⟩ : ByteArray), 4)) else (if 0 < (a0.size : Int) then (if (bt a0 0) > 247 then (if (a0.size : Int) < (wrap64 ((wrap64 (1 + (wrap64 (bt a0 0)))) - 247)) then (some (0, (⟨#[]⟩ : ByteArray), 4)) else (if 1 ≤ (wrap64 ((wrap64 (1 + (wrap64 (bt a0 0)))) - 247)) then (if (wrap64 ((wrap64 (1 + (wrap64 (bt a0 0)))) - 247)) ≤ (a0.size : Int) then ((sacristanref02_Unfixed.f k (a0.extract 1 ((wrap64 ((wrap64 (1 + (wrap64 (bt a0 0)))) - 247)) : Int).toNat)).bind fun bt174 => ((sacristanref02_Var.f k bt174.1).bind fun t176 => (if 0 ≤ (wrap64 ((wrap64 (1 + (wrap64 (bt a0 0)))) - 247)) then (if t176.toList = (a0.extract 0 ((wrap64 ((wrap64 (1 + (wrap64 (bt a0 0)))) - 247)) : Int).toNat).toList then (some (bt174.1, a0.extract ((wrap64 ((wrap64 (1 + (wrap64 (bt a0 0)))) - 247)) : Int).toNat a0.size, 0)) else (some (0, (⟨#[]⟩ : ByteArray), 4))) else (none)))) else (none)) else (none))) else ((sacristanref02_Var.f k (IntKind.u64.wrap (bt a0 0))).bind fun t177 => (if 0 ≤ 1 then (if 1 ≤ (a0.size : Int) then (if t177.toList = (a0.extract 0 1).toList then (some (IntKind.u64.wrap (bt a0 0), a0.extract 1 a0.size, 0)) else (some (0, (⟨#[]⟩ : ByteArray), 4))) else (none)) else (none)))) else (none))) = some (r1, r2, r3) := h
 clear h
 by_cases c2 : (a0.size : Int) = 0
 ·rw [if_pos c2] at H
  have c2b0 : ((a0.size : Int) == 0) = true := beq_iff_eq.mpr c2
  have c2b1 : ((a0.size : Int) != 0) = false := bne_eq_false_iff_eq.mpr c2
  clear c2
  simp only [Option.some.injEq, Prod.mk.injEq] at H
  obtain ⟨rfl, rfl, rfl⟩ := H
  go_enter Try.func74, Try.ntmps74
  go_wp2
  go_ret3
  exact ⟨by first | rfl | (simp [errW_none, errW_some] <;> rfl) | (simp [*, errW_none, errW_some] <;> rfl), by repeat (first | (with_reducible first | exact HB.out | apply below_alloc | apply pw_below_drewN | apply below_drew1) | exact HB.out)⟩
 ·rw [if_neg c2] at H
  have c2b0 : ((a0.size : Int) == 0) = false := beq_eq_false_iff_ne.mpr c2
  have c2b1 : ((a0.size : Int) != 0) = true := bne_iff_ne.mpr c2
  by_cases c3 : 0 < (a0.size : Int)
  ·rw [if_pos c3] at H
   have c3b0 : decide (0 < (a0.size : Int)) = true := decide_eq_true c3
   have c3b1 : decide (0 < a0.size) = true := decide_eq_true (by omega)
   clear c3
   by_cases c6 : (bt a0 0) > 247
   ·rw [if_pos c6] at H
    have c6b0 : decide (247 < (bt a0 0)) = true := decide_eq_true c6
    clear c6
    by_cases c8 : (a0.size : Int) < (wrap64 ((wrap64 (1 + (wrap64 (bt a0 0)))) - 247))
    ·rw [if_pos c8] at H
     have c8b0 : decide ((a0.size : Int) < (wrap64 ((wrap64 (1 + (wrap64 (bt a0 0)))) - 247))) = true := decide_eq_true c8
     clear c8
     simp only [Option.some.injEq, Prod.mk.injEq] at H
     obtain ⟨rfl, rfl, rfl⟩ := H
     have p4 : 0 ≤ (0 : Int) := (by omega)
     have q4 : 0 < a0.size := (by have : (0 : Int) < (a0.size : Int) := of_decide_eq_true (by first | (with_reducible assumption) | assumption); omega)
     have hx4 : ∀ h : 0 < a0.size, ((a0[0]'h).toNat : Int) = bt a0 0 := bt_at a0 0
     clear p4
     have qi4 : (0 < (a0.size : Int)) = True := eq_true (of_decide_eq_true (by first | (with_reducible assumption) | assumption))
     replace q4 := eq_true q4
     have p5 : 0 ≤ (0 : Int) := (by omega)
     have q5 : 0 < a0.size := (by have : (0 : Int) < (a0.size : Int) := of_decide_eq_true (by first | (with_reducible assumption) | assumption); omega)
     have hx5 : ∀ h : 0 < a0.size, ((a0[0]'h).toNat : Int) = bt a0 0 := bt_at a0 0
     clear p5
     have qi5 : (0 < (a0.size : Int)) = True := eq_true (of_decide_eq_true (by first | (with_reducible assumption) | assumption))
     replace q5 := eq_true q5
     have p7 : 0 ≤ (0 : Int) := (by omega)
     have q7 : 0 < a0.size := (by have : (0 : Int) < (a0.size : Int) := of_decide_eq_true (by first | (with_reducible assumption) | assumption); omega)
     have hx7 : ∀ h : 0 < a0.size, ((a0[0]'h).toNat : Int) = bt a0 0 := bt_at a0 0
     clear p7
     have qi7 : (0 < (a0.size : Int)) = True := eq_true (of_decide_eq_true (by first | (with_reducible assumption) | assumption))
     replace q7 := eq_true q7
     go_enter Try.func74, Try.ntmps74
     go_wp2
     go_ret3
     exact ⟨by first | rfl | (simp [errW_none, errW_some] <;> rfl) | (simp [*, errW_none, errW_some] <;> rfl), by repeat (first | (with_reducible first | exact HB.out | apply below_alloc | apply pw_below_drewN | apply below_drew1) | exact HB.out)⟩
    ·rw [if_neg c8] at H
     have c8b0 : decide ((a0.size : Int) < (wrap64 ((wrap64 (1 + (wrap64 (bt a0 0)))) - 247))) = false := decide_eq_false c8
     clear c8
     by_cases c9 : 1 ≤ (wrap64 ((wrap64 (1 + (wrap64 (bt a0 0)))) - 247))
     ·rw [if_pos c9] at H
      have c9b0 := eq_true c9
      have c9b1 : decide (1 ≤ (wrap64 ((wrap64 (1 + (wrap64 (bt a0 0)))) - 247))) = true := decide_eq_true c9
      by_cases c10 : (wrap64 ((wrap64 (1 + (wrap64 (bt a0 0)))) - 247)) ≤ (a0.size : Int)
      ·rw [if_pos c10] at H
       have c10b0 := eq_true c10
       have c10b1 : decide ((wrap64 ((wrap64 (1 + (wrap64 (bt a0 0)))) - 247)) ≤ (a0.size : Int)) = true := decide_eq_true c10
       replace H := Option.bind_eq_some_iff.mp H
       obtain ⟨⟨t174, t175⟩, A110, H⟩ := H
       replace H : ((sacristanref02_Var.f k t174).bind fun t176 => (if 0 ≤ (wrap64 ((wrap64 (1 + (wrap64 (bt a0 0)))) - 247)) then (if t176.toList = (a0.extract 0 ((wrap64 ((wrap64 (1 + (wrap64 (bt a0 0)))) - 247)) : Int).toNat).toList then (some (t174, a0.extract ((wrap64 ((wrap64 (1 + (wrap64 (bt a0 0)))) - 247)) : Int).toNat a0.size, 0)) else (some (0, (⟨#[]⟩ : ByteArray), 4))) else (none))) = some (r1, r2, r3) := H
       have A11 := Aside0.mk A110
       clear A110
       replace H := Option.bind_eq_some_iff.mp H
       obtain ⟨t176, A120, H⟩ := H
       replace H : (if 0 ≤ (wrap64 ((wrap64 (1 + (wrap64 (bt a0 0)))) - 247)) then (if t176.toList = (a0.extract 0 ((wrap64 ((wrap64 (1 + (wrap64 (bt a0 0)))) - 247)) : Int).toNat).toList then (some (t174, a0.extract ((wrap64 ((wrap64 (1 + (wrap64 (bt a0 0)))) - 247)) : Int).toNat a0.size, 0)) else (some (0, (⟨#[]⟩ : ByteArray), 4))) else (none)) = some (r1, r2, r3) := H
       have A12 := Aside0.mk A120
       clear A120
       obtain ⟨ji13, hji13⟩ : ∃ j_ : Int, (wrap64 ((wrap64 (1 + (wrap64 (bt a0 0)))) - 247)) = j_ := ⟨_, rfl⟩
       replace H : (if 0 ≤ (ji13) then (if t176.toList = (a0.extract 0 ((ji13) : Int).toNat).toList then (some (t174, a0.extract ((ji13) : Int).toNat a0.size, 0)) else (some (0, (⟨#[]⟩ : ByteArray), 4))) else (none)) = some (r1, r2, r3) := by first | (rw [hji13] at H; exact H) | (simp only [hji13] at H ⊢; exact H)
       (try rw [hji13] at c8b0)
       (try rw [hji13] at c9b0)
       (try rw [hji13] at c9b1)
       (try rw [hji13] at c9)
       (try rw [hji13] at c10b0)
       (try rw [hji13] at c10b1)
       (try rw [hji13] at c10)
       (try rw [hji13] at A11)
       (try rw [hji13] at A12)
       have hji13w : (IntKind.i64.wrap ((wrap64 (1 + (wrap64 (bt a0 0)))) - 247)) = ji13 := (i64_w _).trans hji13
       by_cases c14 : 0 ≤ (ji13)
       ·rw [if_pos c14] at H
        have c14b0 := eq_true c14
        have c14b1 : decide (0 ≤ (ji13)) = true := decide_eq_true c14
        clear c14
        have c15b0 := eq_true (of_decide_eq_true (by first | (with_reducible assumption) | assumption) : (ji13) ≤ (a0.size : Int))
        by_cases c16 : t176.toList = (a0.extract 0 ((ji13) : Int).toNat).toList
        ·rw [if_pos c16] at H
         have c16b0 : (t176.toList == (a0.extract 0 ((ji13) : Int).toNat).toList) = true := beq_iff_eq.mpr c16
         have c16b1 : (t176.toList != (a0.extract 0 ((ji13) : Int).toNat).toList) = false := bne_eq_false_iff_eq.mpr c16
         clear c16
         have c17b0 := eq_true (of_decide_eq_true (by first | (with_reducible assumption) | assumption) : 0 ≤ (ji13))
         have c18b0 := eq_true (of_decide_eq_true (by first | (with_reducible assumption) | assumption) : (ji13) ≤ (a0.size : Int))
         simp only [Option.some.injEq, Prod.mk.injEq] at H
         obtain ⟨rfl, rfl, rfl⟩ := H
         have p4 : 0 ≤ (0 : Int) := (by omega)
         have q4 : 0 < a0.size := (by have : (0 : Int) < (a0.size : Int) := of_decide_eq_true (by first | (with_reducible assumption) | assumption); omega)
         have hx4 : ∀ h : 0 < a0.size, ((a0[0]'h).toNat : Int) = bt a0 0 := bt_at a0 0
         clear p4
         have qi4 : (0 < (a0.size : Int)) = True := eq_true (of_decide_eq_true (by first | (with_reducible assumption) | assumption))
         replace q4 := eq_true q4
         have p5 : 0 ≤ (0 : Int) := (by omega)
         have q5 : 0 < a0.size := (by have : (0 : Int) < (a0.size : Int) := of_decide_eq_true (by first | (with_reducible assumption) | assumption); omega)
         have hx5 : ∀ h : 0 < a0.size, ((a0[0]'h).toNat : Int) = bt a0 0 := bt_at a0 0
         clear p5
         have qi5 : (0 < (a0.size : Int)) = True := eq_true (of_decide_eq_true (by first | (with_reducible assumption) | assumption))
         replace q5 := eq_true q5
         have p7 : 0 ≤ (0 : Int) := (by omega)
         have q7 : 0 < a0.size := (by have : (0 : Int) < (a0.size : Int) := of_decide_eq_true (by first | (with_reducible assumption) | assumption); omega)
         have hx7 : ∀ h : 0 < a0.size, ((a0[0]'h).toNat : Int) = bt a0 0 := bt_at a0 0
         clear p7
         have qi7 : (0 < (a0.size : Int)) = True := eq_true (of_decide_eq_true (by first | (with_reducible assumption) | assumption))
         replace q7 := eq_true q7
         go_enter Try.func74, Try.ntmps74
         try go_wp2_with (first | ((with_reducible refine gate_callee (f := 91) rfl ?_); refine goesL_ (some 29) rfl rfl Try.func91 (by kernel_rfl) rfl #[.string (a0.extract 1 ((ji13) : Int).toNat)] rfl (by (try simp only [List.map_toArray, List.map_cons, List.map_nil]); first | done | (simp only [hji13]; rfl) | rfl | (simp only [List.length_drop, List.length_take]; rfl)) ?_; (with_reducible refine (sacristanref02_Unfixed.calls k (a0.extract 1 ((ji13) : Int).toNat) t174 t175 _ A11.out).mono ?_); rintro e w' ⟨rfl, ⟨nd, rfl⟩⟩; refine ⟨_, rfl, ?_⟩))
         have n0_ := Aside0.mk (below_drew1 (pw_below_drewN HB.out nd))
         clear HB
         have HB := n0_
         clear n0_
         refine start_ (n := 6) (S := fun w' => True) (ds := []) #[false, false, false, false, false, false] (by kernel_rfl) rfl rfl trivial (fun hHeld => ?_)
         generalize (w.drewN nd).drew = w19 at HB hHeld ⊢
         refine pure_ (i := 0) (N := some 32) (v := ?_) (a' := ?_) #[true, false, false, false, false, false] rfl rfl (by kernel_rfl) (fun _ _ _ h => h) (Or.inl ⟨by rfl, ?_⟩) ?_ ?_
         rotate_left
         ·intro w'
          go_simp
          with_reducible rfl
         rotate_left
         ·simp only [Act.put, List.setIfInBounds_toArray, List.set_cons_zero, List.set_cons_succ, i64_w, i32_w]
          rfl
         refine pure_ (i := 2) (N := some 34) (v := ?_) (a' := ?_) #[true, false, true, false, false, false] rfl rfl (by kernel_rfl) (fun _ _ _ h => h) (Or.inl ⟨by rfl, ?_⟩) ?_ ?_
         rotate_left
         ·intro w'
          go_simp
          with_reducible rfl
         rotate_left
         ·simp only [Act.put, List.setIfInBounds_toArray, List.set_cons_zero, List.set_cons_succ, i64_w, i32_w]
          rfl
         refine pure_ (i := 3) (N := some 35) (v := ?_) (a' := ?_) #[true, false, true, true, false, false] rfl rfl (by kernel_rfl) (fun _ _ _ h => h) (Or.inl ⟨by rfl, ?_⟩) ?_ ?_
         rotate_left
         ·intro w'
          go_simp
          with_reducible rfl
         rotate_left
         ·simp only [Act.put, List.setIfInBounds_toArray, List.set_cons_zero, List.set_cons_succ, i64_w, i32_w]
          rfl
         refine pure_ (i := 4) (N := some 36) (v := ?_) (a' := ?_) #[true, false, true, true, true, false] rfl rfl (by kernel_rfl) (fun _ _ _ h => h) (Or.inl ⟨by rfl, ?_⟩) ?_ ?_
         rotate_left
         ·intro w'
          go_simp
          with_reducible rfl
         rotate_left
         ·simp only [Act.put, List.setIfInBounds_toArray, List.set_cons_zero, List.set_cons_succ, i64_w, i32_w]
          rfl
         refine one_ (i := 1) (N := some 33) #[true, true, true, true, true, false] rfl rfl (by kernel_rfl) (by decide) (fun K hK => ?_)
         refine goes_ Try.func39 (by kernel_rfl) rfl #[.int .u64 t174] (by rfl) rfl rfl (by (try simp only [List.map_toArray, List.map_cons, List.map_nil]); first | done | rfl | (simp only [List.length_drop, List.length_take]; rfl)) ?_
         with_reducible refine (sacristanref02_Var.calls k t174 t176 _ A12.out).mono ?_
         rintro e w20 ⟨rfl, hb⟩
         refine ⟨_, rfl, ?_⟩
         have n0_ := Aside0.mk (below_step (w := w) (by repeat (first | (with_reducible first | exact HB.out | apply below_alloc | apply pw_below_drewN | apply below_drew1) | exact HB.out)) hb)
         clear HB
         have HB := n0_
         clear n0_
         (try clear hb)
         (try clear hb2)
         (try clear hk)
         (try clear hi)
         refine hK.out _ _ trivial (fun hHeld => ?_)
         clear hK K
         refine norm_ (a' := ?_) ?_ ?_
         rotate_left
         ·show Act.put _ (some 33) _ = _
          simp only [Act.put, List.setIfInBounds_toArray, List.set_cons_zero, List.set_cons_succ, i64_w, i32_w]
          rfl
         refine pure_ (i := 5) (N := some 37) (v := ?_) (a' := ?_) #[true, true, true, true, true, true] rfl rfl (by kernel_rfl) (fun _ _ _ h => h) (Or.inl ⟨by rfl, ?_⟩) ?_ ?_
         rotate_left
         ·intro w'
          go_simp
          with_reducible rfl
         rotate_left
         ·simp only [Act.put, List.setIfInBounds_toArray, List.set_cons_zero, List.set_cons_succ, i64_w, i32_w]
          rfl
         refine done_ (by kernel_rfl) ?_
         try go_wp2
         have n0_ := Aside0.mk (below_drew1 HB.out)
         clear HB
         have HB := n0_
         clear n0_
         refine start_ (n := 7) (S := fun w' => True) (ds := []) #[false, false, false, false, false, false, false] (by kernel_rfl) rfl rfl trivial (fun hHeld => ?_)
         generalize w20.drew = w21 at HB hHeld ⊢
         refine pure_ (i := 0) (N := some 38) (v := ?_) (a' := ?_) #[true, false, false, false, false, false, false] rfl rfl (by kernel_rfl) (fun _ _ _ h => h) (Or.inl ⟨by rfl, ?_⟩) ?_ ?_
         rotate_left
         ·intro w'
          go_simp
          with_reducible rfl
         rotate_left
         ·simp only [Act.put, List.setIfInBounds_toArray, List.set_cons_zero, List.set_cons_succ, i64_w, i32_w]
          rfl
         refine pure_ (i := 1) (N := some 39) (v := ?_) (a' := ?_) #[true, true, false, false, false, false, false] rfl rfl (by kernel_rfl) (fun _ _ _ h => h) (Or.inl ⟨by rfl, ?_⟩) ?_ ?_
         rotate_left
         ·intro w'
          go_simp
          with_reducible rfl
         rotate_left
         ·simp only [Act.put, List.setIfInBounds_toArray, List.set_cons_zero, List.set_cons_succ, i64_w, i32_w]
          rfl
         refine pure_ (i := 2) (N := some 40) (v := ?_) (a' := ?_) #[true, true, true, false, false, false, false] rfl rfl (by kernel_rfl) (fun _ _ _ h => h) (Or.inl ⟨by rfl, ?_⟩) ?_ ?_
         rotate_left
         ·intro w'
          go_simp
          with_reducible rfl
         rotate_left
         ·simp only [Act.put, List.setIfInBounds_toArray, List.set_cons_zero, List.set_cons_succ, i64_w, i32_w]
          rfl
         refine pure_ (i := 3) (N := some 41) (v := ?_) (a' := ?_) #[true, true, true, true, false, false, false] rfl rfl (by kernel_rfl) (fun _ _ _ h => h) (Or.inl ⟨by rfl, ?_⟩) ?_ ?_
         rotate_left
         ·intro w'
          go_simp
          with_reducible rfl
         rotate_left
         ·simp only [Act.put, List.setIfInBounds_toArray, List.set_cons_zero, List.set_cons_succ, i64_w, i32_w]
          rfl
         refine pure_ (i := 4) (N := some 2) (v := ?_) (a' := ?_) #[true, true, true, true, true, false, false] rfl rfl (by kernel_rfl) (fun _ _ _ h => h) (Or.inl ⟨by rfl, ?_⟩) ?_ ?_
         rotate_left
         ·intro w'
          go_simp
          with_reducible rfl
         rotate_left
         ·simp only [Act.put, List.setIfInBounds_toArray, List.set_cons_zero, List.set_cons_succ, i64_w, i32_w]
          rfl
         refine pure_ (i := 5) (N := some 3) (v := ?_) (a' := ?_) #[true, true, true, true, true, true, false] rfl rfl (by kernel_rfl) (fun _ _ _ h => h) (Or.inl ⟨by rfl, ?_⟩) ?_ ?_
         rotate_left
         ·intro w'
          go_simp
          with_reducible rfl
         rotate_left
         ·simp only [Act.put, List.setIfInBounds_toArray, List.set_cons_zero, List.set_cons_succ, i64_w, i32_w]
          rfl
         refine pure_ (i := 6) (N := some 4) (v := ?_) (a' := ?_) #[true, true, true, true, true, true, true] rfl rfl (by kernel_rfl) (fun _ _ _ h => h) (Or.inl ⟨by rfl, ?_⟩) ?_ ?_
         rotate_left
         ·intro w'
          go_simp
          with_reducible rfl
         rotate_left
         ·simp only [Act.put, List.setIfInBounds_toArray, List.set_cons_zero, List.set_cons_succ, i64_w, i32_w]
          rfl
         refine done_ (by kernel_rfl) ?_
         try go_wp2
         go_ret3
         exact ⟨by first | rfl | (simp [errW_none, errW_some] <;> rfl) | (simp only [← hji13]; first | rfl | (simp [errW_none, errW_some] <;> rfl)) | (simp [*, errW_none, errW_some] <;> rfl), by repeat (first | (with_reducible first | exact HB.out | apply below_alloc | apply pw_below_drewN | apply below_drew1) | exact HB.out)⟩
        ·rw [if_neg c16] at H
         have c16b0 : (t176.toList == (a0.extract 0 ((ji13) : Int).toNat).toList) = false := beq_eq_false_iff_ne.mpr c16
         have c16b1 : (t176.toList != (a0.extract 0 ((ji13) : Int).toNat).toList) = true := bne_iff_ne.mpr c16
         simp only [Option.some.injEq, Prod.mk.injEq] at H
         obtain ⟨rfl, rfl, rfl⟩ := H
         have p4 : 0 ≤ (0 : Int) := (by omega)
         have q4 : 0 < a0.size := (by have : (0 : Int) < (a0.size : Int) := of_decide_eq_true (by first | (with_reducible assumption) | assumption); omega)
         have hx4 : ∀ h : 0 < a0.size, ((a0[0]'h).toNat : Int) = bt a0 0 := bt_at a0 0
         clear p4
         have qi4 : (0 < (a0.size : Int)) = True := eq_true (of_decide_eq_true (by first | (with_reducible assumption) | assumption))
         replace q4 := eq_true q4
         have p5 : 0 ≤ (0 : Int) := (by omega)
         have q5 : 0 < a0.size := (by have : (0 : Int) < (a0.size : Int) := of_decide_eq_true (by first | (with_reducible assumption) | assumption); omega)
         have hx5 : ∀ h : 0 < a0.size, ((a0[0]'h).toNat : Int) = bt a0 0 := bt_at a0 0
         clear p5
         have qi5 : (0 < (a0.size : Int)) = True := eq_true (of_decide_eq_true (by first | (with_reducible assumption) | assumption))
         replace q5 := eq_true q5
         have p7 : 0 ≤ (0 : Int) := (by omega)
         have q7 : 0 < a0.size := (by have : (0 : Int) < (a0.size : Int) := of_decide_eq_true (by first | (with_reducible assumption) | assumption); omega)
         have hx7 : ∀ h : 0 < a0.size, ((a0[0]'h).toNat : Int) = bt a0 0 := bt_at a0 0
         clear p7
         have qi7 : (0 < (a0.size : Int)) = True := eq_true (of_decide_eq_true (by first | (with_reducible assumption) | assumption))
         replace q7 := eq_true q7
         go_enter Try.func74, Try.ntmps74
         try go_wp2_with (first | ((with_reducible refine gate_callee (f := 91) rfl ?_); refine goesL_ (some 29) rfl rfl Try.func91 (by kernel_rfl) rfl #[.string (a0.extract 1 ((ji13) : Int).toNat)] rfl (by (try simp only [List.map_toArray, List.map_cons, List.map_nil]); first | done | (simp only [hji13]; rfl) | rfl | (simp only [List.length_drop, List.length_take]; rfl)) ?_; (with_reducible refine (sacristanref02_Unfixed.calls k (a0.extract 1 ((ji13) : Int).toNat) t174 t175 _ A11.out).mono ?_); rintro e w' ⟨rfl, ⟨nd, rfl⟩⟩; refine ⟨_, rfl, ?_⟩))
         have n0_ := Aside0.mk (below_drew1 (pw_below_drewN HB.out nd))
         clear HB
         have HB := n0_
         clear n0_
         refine start_ (n := 6) (S := fun w' => True) (ds := []) #[false, false, false, false, false, false] (by kernel_rfl) rfl rfl trivial (fun hHeld => ?_)
         generalize (w.drewN nd).drew = w22 at HB hHeld ⊢
         refine pure_ (i := 0) (N := some 32) (v := ?_) (a' := ?_) #[true, false, false, false, false, false] rfl rfl (by kernel_rfl) (fun _ _ _ h => h) (Or.inl ⟨by rfl, ?_⟩) ?_ ?_
         rotate_left
         ·intro w'
          go_simp
          with_reducible rfl
         rotate_left
         ·simp only [Act.put, List.setIfInBounds_toArray, List.set_cons_zero, List.set_cons_succ, i64_w, i32_w]
          rfl
         refine pure_ (i := 2) (N := some 34) (v := ?_) (a' := ?_) #[true, false, true, false, false, false] rfl rfl (by kernel_rfl) (fun _ _ _ h => h) (Or.inl ⟨by rfl, ?_⟩) ?_ ?_
         rotate_left
         ·intro w'
          go_simp
          with_reducible rfl
         rotate_left
         ·simp only [Act.put, List.setIfInBounds_toArray, List.set_cons_zero, List.set_cons_succ, i64_w, i32_w]
          rfl
         refine pure_ (i := 3) (N := some 35) (v := ?_) (a' := ?_) #[true, false, true, true, false, false] rfl rfl (by kernel_rfl) (fun _ _ _ h => h) (Or.inl ⟨by rfl, ?_⟩) ?_ ?_
         rotate_left
         ·intro w'
          go_simp
          with_reducible rfl
         rotate_left
         ·simp only [Act.put, List.setIfInBounds_toArray, List.set_cons_zero, List.set_cons_succ, i64_w, i32_w]
          rfl
         refine pure_ (i := 4) (N := some 36) (v := ?_) (a' := ?_) #[true, false, true, true, true, false] rfl rfl (by kernel_rfl) (fun _ _ _ h => h) (Or.inl ⟨by rfl, ?_⟩) ?_ ?_
         rotate_left
         ·intro w'
          go_simp
          with_reducible rfl
         rotate_left
         ·simp only [Act.put, List.setIfInBounds_toArray, List.set_cons_zero, List.set_cons_succ, i64_w, i32_w]
          rfl
         refine one_ (i := 1) (N := some 33) #[true, true, true, true, true, false] rfl rfl (by kernel_rfl) (by decide) (fun K hK => ?_)
         refine goes_ Try.func39 (by kernel_rfl) rfl #[.int .u64 t174] (by rfl) rfl rfl (by (try simp only [List.map_toArray, List.map_cons, List.map_nil]); first | done | rfl | (simp only [List.length_drop, List.length_take]; rfl)) ?_
         with_reducible refine (sacristanref02_Var.calls k t174 t176 _ A12.out).mono ?_
         rintro e w23 ⟨rfl, hb⟩
         refine ⟨_, rfl, ?_⟩
         have n0_ := Aside0.mk (below_step (w := w) (by repeat (first | (with_reducible first | exact HB.out | apply below_alloc | apply pw_below_drewN | apply below_drew1) | exact HB.out)) hb)
         clear HB
         have HB := n0_
         clear n0_
         (try clear hb)
         (try clear hb2)
         (try clear hk)
         (try clear hi)
         refine hK.out _ _ trivial (fun hHeld => ?_)
         clear hK K
         refine norm_ (a' := ?_) ?_ ?_
         rotate_left
         ·show Act.put _ (some 33) _ = _
          simp only [Act.put, List.setIfInBounds_toArray, List.set_cons_zero, List.set_cons_succ, i64_w, i32_w]
          rfl
         refine pure_ (i := 5) (N := some 37) (v := ?_) (a' := ?_) #[true, true, true, true, true, true] rfl rfl (by kernel_rfl) (fun _ _ _ h => h) (Or.inl ⟨by rfl, ?_⟩) ?_ ?_
         rotate_left
         ·intro w'
          go_simp
          with_reducible rfl
         rotate_left
         ·simp only [Act.put, List.setIfInBounds_toArray, List.set_cons_zero, List.set_cons_succ, i64_w, i32_w]
          rfl
         refine done_ (by kernel_rfl) ?_
         try go_wp2
         go_ret3
         exact ⟨by first | rfl | (simp [errW_none, errW_some] <;> rfl) | (simp only [← hji13]; first | rfl | (simp [errW_none, errW_some] <;> rfl)) | (simp [*, errW_none, errW_some] <;> rfl), by repeat (first | (with_reducible first | exact HB.out | apply below_alloc | apply pw_below_drewN | apply below_drew1) | exact HB.out)⟩
       ·rw [if_neg c14] at H
        exact absurd H (by simp)
      ·rw [if_neg c10] at H
       exact absurd H (by simp)
     ·rw [if_neg c9] at H
      exact absurd H (by simp)
   ·rw [if_neg c6] at H
    have c6b0 : decide (247 < (bt a0 0)) = false := decide_eq_false c6
    clear c6
    replace H := Option.bind_eq_some_iff.mp H
    obtain ⟨t177, A240, H⟩ := H
    replace H : (if 0 ≤ 1 then (if 1 ≤ (a0.size : Int) then (if t177.toList = (a0.extract 0 1).toList then (some (IntKind.u64.wrap (bt a0 0), a0.extract 1 a0.size, 0)) else (some (0, (⟨#[]⟩ : ByteArray), 4))) else (none)) else (none)) = some (r1, r2, r3) := H
    have A24 := Aside0.mk A240
    clear A240
    by_cases c25 : 0 ≤ 1
    ·rw [if_pos c25] at H
     have c25b0 := eq_true c25
     have c25b1 : decide (0 ≤ 1) = true := decide_eq_true c25
     clear c25
     by_cases c26 : 1 ≤ (a0.size : Int)
     ·rw [if_pos c26] at H
      have c26b0 := eq_true c26
      have c26b1 : decide (1 ≤ (a0.size : Int)) = true := decide_eq_true c26
      clear c26
      by_cases c27 : t177.toList = (a0.extract 0 1).toList
      ·rw [if_pos c27] at H
       have c27b0 : (t177.toList == (a0.extract 0 1).toList) = true := beq_iff_eq.mpr c27
       have c27b1 : (t177.toList != (a0.extract 0 1).toList) = false := bne_eq_false_iff_eq.mpr c27
       clear c27
       have c28b0 := eq_true (of_decide_eq_true (by first | (with_reducible assumption) | assumption) : 1 ≤ (a0.size : Int))
       simp only [Option.some.injEq, Prod.mk.injEq] at H
       obtain ⟨rfl, rfl, rfl⟩ := H
       have p4 : 0 ≤ (0 : Int) := (by omega)
       have q4 : 0 < a0.size := (by have : (0 : Int) < (a0.size : Int) := of_decide_eq_true (by first | (with_reducible assumption) | assumption); omega)
       have hx4 : ∀ h : 0 < a0.size, ((a0[0]'h).toNat : Int) = bt a0 0 := bt_at a0 0
       clear p4
       have qi4 : (0 < (a0.size : Int)) = True := eq_true (of_decide_eq_true (by first | (with_reducible assumption) | assumption))
       replace q4 := eq_true q4
       have p5 : 0 ≤ (0 : Int) := (by omega)
       have q5 : 0 < a0.size := (by have : (0 : Int) < (a0.size : Int) := of_decide_eq_true (by first | (with_reducible assumption) | assumption); omega)
       have hx5 : ∀ h : 0 < a0.size, ((a0[0]'h).toNat : Int) = bt a0 0 := bt_at a0 0
       clear p5
       have qi5 : (0 < (a0.size : Int)) = True := eq_true (of_decide_eq_true (by first | (with_reducible assumption) | assumption))
       replace q5 := eq_true q5
       go_enter Try.func74, Try.ntmps74
       try go_wp2
       have n0_ := Aside0.mk (below_drew1 HB.out)
       clear HB
       have HB := n0_
       clear n0_
       refine start_ (n := 6) (S := fun w' => True) (ds := []) #[false, false, false, false, false, false] (by kernel_rfl) rfl rfl trivial (fun hHeld => ?_)
       generalize w.drew = w29 at HB hHeld ⊢
       refine pure_ (i := 0) (N := some 32) (v := ?_) (a' := ?_) #[true, false, false, false, false, false] rfl rfl (by kernel_rfl) (fun _ _ _ h => h) (Or.inl ⟨by rfl, ?_⟩) ?_ ?_
       rotate_left
       ·intro w'
        go_simp
        with_reducible rfl
       rotate_left
       ·simp only [Act.put, List.setIfInBounds_toArray, List.set_cons_zero, List.set_cons_succ, i64_w, i32_w]
        rfl
       refine pure_ (i := 2) (N := some 34) (v := ?_) (a' := ?_) #[true, false, true, false, false, false] rfl rfl (by kernel_rfl) (fun _ _ _ h => h) (Or.inl ⟨by rfl, ?_⟩) ?_ ?_
       rotate_left
       ·intro w'
        go_simp
        with_reducible rfl
       rotate_left
       ·simp only [Act.put, List.setIfInBounds_toArray, List.set_cons_zero, List.set_cons_succ, i64_w, i32_w]
        rfl
       refine pure_ (i := 3) (N := some 35) (v := ?_) (a' := ?_) #[true, false, true, true, false, false] rfl rfl (by kernel_rfl) (fun _ _ _ h => h) (Or.inl ⟨by rfl, ?_⟩) ?_ ?_
       rotate_left
       ·intro w'
        go_simp
        with_reducible rfl
       rotate_left
       ·simp only [Act.put, List.setIfInBounds_toArray, List.set_cons_zero, List.set_cons_succ, i64_w, i32_w]
        rfl
       refine pure_ (i := 4) (N := some 36) (v := ?_) (a' := ?_) #[true, false, true, true, true, false] rfl rfl (by kernel_rfl) (fun _ _ _ h => h) (Or.inl ⟨by rfl, ?_⟩) ?_ ?_
       rotate_left
       ·intro w'
        go_simp
        with_reducible rfl
       rotate_left
       ·simp only [Act.put, List.setIfInBounds_toArray, List.set_cons_zero, List.set_cons_succ, i64_w, i32_w]
        rfl
       refine one_ (i := 1) (N := some 33) #[true, true, true, true, true, false] rfl rfl (by kernel_rfl) (by decide) (fun K hK => ?_)
       refine goes_ Try.func39 (by kernel_rfl) rfl #[.int .u64 (IntKind.u64.wrap (bt a0 0))] (by rfl) rfl rfl (by (try simp only [List.map_toArray, List.map_cons, List.map_nil]); first | done | rfl | (simp only [List.length_drop, List.length_take]; rfl)) ?_
       with_reducible refine (sacristanref02_Var.calls k (IntKind.u64.wrap (bt a0 0)) t177 _ A24.out).mono ?_
       rintro e w30 ⟨rfl, hb⟩
       refine ⟨_, rfl, ?_⟩
       have n0_ := Aside0.mk (below_step (w := w) (by repeat (first | (with_reducible first | exact HB.out | apply below_alloc | apply pw_below_drewN | apply below_drew1) | exact HB.out)) hb)
       clear HB
       have HB := n0_
       clear n0_
       (try clear hb)
       (try clear hb2)
       (try clear hk)
       (try clear hi)
       refine hK.out _ _ trivial (fun hHeld => ?_)
       clear hK K
       refine norm_ (a' := ?_) ?_ ?_
       rotate_left
       ·show Act.put _ (some 33) _ = _
        simp only [Act.put, List.setIfInBounds_toArray, List.set_cons_zero, List.set_cons_succ, i64_w, i32_w]
        rfl
       refine pure_ (i := 5) (N := some 37) (v := ?_) (a' := ?_) #[true, true, true, true, true, true] rfl rfl (by kernel_rfl) (fun _ _ _ h => h) (Or.inl ⟨by rfl, ?_⟩) ?_ ?_
       rotate_left
       ·intro w'
        go_simp
        with_reducible rfl
       rotate_left
       ·simp only [Act.put, List.setIfInBounds_toArray, List.set_cons_zero, List.set_cons_succ, i64_w, i32_w]
        rfl
       refine done_ (by kernel_rfl) ?_
       try go_wp2
       have n0_ := Aside0.mk (below_drew1 HB.out)
       clear HB
       have HB := n0_
       clear n0_
       refine start_ (n := 7) (S := fun w' => True) (ds := []) #[false, false, false, false, false, false, false] (by kernel_rfl) rfl rfl trivial (fun hHeld => ?_)
       generalize w30.drew = w31 at HB hHeld ⊢
       refine pure_ (i := 0) (N := some 38) (v := ?_) (a' := ?_) #[true, false, false, false, false, false, false] rfl rfl (by kernel_rfl) (fun _ _ _ h => h) (Or.inl ⟨by rfl, ?_⟩) ?_ ?_
       rotate_left
       ·intro w'
        go_simp
        with_reducible rfl
       rotate_left
       ·simp only [Act.put, List.setIfInBounds_toArray, List.set_cons_zero, List.set_cons_succ, i64_w, i32_w]
        rfl
       refine pure_ (i := 1) (N := some 39) (v := ?_) (a' := ?_) #[true, true, false, false, false, false, false] rfl rfl (by kernel_rfl) (fun _ _ _ h => h) (Or.inl ⟨by rfl, ?_⟩) ?_ ?_
       rotate_left
       ·intro w'
        go_simp
        with_reducible rfl
       rotate_left
       ·simp only [Act.put, List.setIfInBounds_toArray, List.set_cons_zero, List.set_cons_succ, i64_w, i32_w]
        rfl
       refine pure_ (i := 2) (N := some 40) (v := ?_) (a' := ?_) #[true, true, true, false, false, false, false] rfl rfl (by kernel_rfl) (fun _ _ _ h => h) (Or.inl ⟨by rfl, ?_⟩) ?_ ?_
       rotate_left
       ·intro w'
        go_simp
        with_reducible rfl
       rotate_left
       ·simp only [Act.put, List.setIfInBounds_toArray, List.set_cons_zero, List.set_cons_succ, i64_w, i32_w]
        rfl
       refine pure_ (i := 3) (N := some 41) (v := ?_) (a' := ?_) #[true, true, true, true, false, false, false] rfl rfl (by kernel_rfl) (fun _ _ _ h => h) (Or.inl ⟨by rfl, ?_⟩) ?_ ?_
       rotate_left
       ·intro w'
        go_simp
        with_reducible rfl
       rotate_left
       ·simp only [Act.put, List.setIfInBounds_toArray, List.set_cons_zero, List.set_cons_succ, i64_w, i32_w]
        rfl
       refine pure_ (i := 4) (N := some 2) (v := ?_) (a' := ?_) #[true, true, true, true, true, false, false] rfl rfl (by kernel_rfl) (fun _ _ _ h => h) (Or.inl ⟨by rfl, ?_⟩) ?_ ?_
       rotate_left
       ·intro w'
        go_simp
        with_reducible rfl
       rotate_left
       ·simp only [Act.put, List.setIfInBounds_toArray, List.set_cons_zero, List.set_cons_succ, i64_w, i32_w]
        rfl
       refine pure_ (i := 5) (N := some 3) (v := ?_) (a' := ?_) #[true, true, true, true, true, true, false] rfl rfl (by kernel_rfl) (fun _ _ _ h => h) (Or.inl ⟨by rfl, ?_⟩) ?_ ?_
       rotate_left
       ·intro w'
        go_simp
        with_reducible rfl
       rotate_left
       ·simp only [Act.put, List.setIfInBounds_toArray, List.set_cons_zero, List.set_cons_succ, i64_w, i32_w]
        rfl
       refine pure_ (i := 6) (N := some 4) (v := ?_) (a' := ?_) #[true, true, true, true, true, true, true] rfl rfl (by kernel_rfl) (fun _ _ _ h => h) (Or.inl ⟨by rfl, ?_⟩) ?_ ?_
       rotate_left
       ·intro w'
        go_simp
        with_reducible rfl
       rotate_left
       ·simp only [Act.put, List.setIfInBounds_toArray, List.set_cons_zero, List.set_cons_succ, i64_w, i32_w]
        rfl
       refine done_ (by kernel_rfl) ?_
       try go_wp2
       go_ret3
       exact ⟨by first | rfl | (simp [errW_none, errW_some] <;> rfl) | (simp [*, errW_none, errW_some] <;> rfl), by repeat (first | (with_reducible first | exact HB.out | apply below_alloc | apply pw_below_drewN | apply below_drew1) | exact HB.out)⟩
      ·rw [if_neg c27] at H
       have c27b0 : (t177.toList == (a0.extract 0 1).toList) = false := beq_eq_false_iff_ne.mpr c27
       have c27b1 : (t177.toList != (a0.extract 0 1).toList) = true := bne_iff_ne.mpr c27
       simp only [Option.some.injEq, Prod.mk.injEq] at H
       obtain ⟨rfl, rfl, rfl⟩ := H
       have p4 : 0 ≤ (0 : Int) := (by omega)
       have q4 : 0 < a0.size := (by have : (0 : Int) < (a0.size : Int) := of_decide_eq_true (by first | (with_reducible assumption) | assumption); omega)
       have hx4 : ∀ h : 0 < a0.size, ((a0[0]'h).toNat : Int) = bt a0 0 := bt_at a0 0
       clear p4
       have qi4 : (0 < (a0.size : Int)) = True := eq_true (of_decide_eq_true (by first | (with_reducible assumption) | assumption))
       replace q4 := eq_true q4
       have p5 : 0 ≤ (0 : Int) := (by omega)
       have q5 : 0 < a0.size := (by have : (0 : Int) < (a0.size : Int) := of_decide_eq_true (by first | (with_reducible assumption) | assumption); omega)
       have hx5 : ∀ h : 0 < a0.size, ((a0[0]'h).toNat : Int) = bt a0 0 := bt_at a0 0
       clear p5
       have qi5 : (0 < (a0.size : Int)) = True := eq_true (of_decide_eq_true (by first | (with_reducible assumption) | assumption))
       replace q5 := eq_true q5
       go_enter Try.func74, Try.ntmps74
       try go_wp2
       have n0_ := Aside0.mk (below_drew1 HB.out)
       clear HB
       have HB := n0_
       clear n0_
       refine start_ (n := 6) (S := fun w' => True) (ds := []) #[false, false, false, false, false, false] (by kernel_rfl) rfl rfl trivial (fun hHeld => ?_)
       generalize w.drew = w32 at HB hHeld ⊢
       refine pure_ (i := 0) (N := some 32) (v := ?_) (a' := ?_) #[true, false, false, false, false, false] rfl rfl (by kernel_rfl) (fun _ _ _ h => h) (Or.inl ⟨by rfl, ?_⟩) ?_ ?_
       rotate_left
       ·intro w'
        go_simp
        with_reducible rfl
       rotate_left
       ·simp only [Act.put, List.setIfInBounds_toArray, List.set_cons_zero, List.set_cons_succ, i64_w, i32_w]
        rfl
       refine pure_ (i := 2) (N := some 34) (v := ?_) (a' := ?_) #[true, false, true, false, false, false] rfl rfl (by kernel_rfl) (fun _ _ _ h => h) (Or.inl ⟨by rfl, ?_⟩) ?_ ?_
       rotate_left
       ·intro w'
        go_simp
        with_reducible rfl
       rotate_left
       ·simp only [Act.put, List.setIfInBounds_toArray, List.set_cons_zero, List.set_cons_succ, i64_w, i32_w]
        rfl
       refine pure_ (i := 3) (N := some 35) (v := ?_) (a' := ?_) #[true, false, true, true, false, false] rfl rfl (by kernel_rfl) (fun _ _ _ h => h) (Or.inl ⟨by rfl, ?_⟩) ?_ ?_
       rotate_left
       ·intro w'
        go_simp
        with_reducible rfl
       rotate_left
       ·simp only [Act.put, List.setIfInBounds_toArray, List.set_cons_zero, List.set_cons_succ, i64_w, i32_w]
        rfl
       refine pure_ (i := 4) (N := some 36) (v := ?_) (a' := ?_) #[true, false, true, true, true, false] rfl rfl (by kernel_rfl) (fun _ _ _ h => h) (Or.inl ⟨by rfl, ?_⟩) ?_ ?_
       rotate_left
       ·intro w'
        go_simp
        with_reducible rfl
       rotate_left
       ·simp only [Act.put, List.setIfInBounds_toArray, List.set_cons_zero, List.set_cons_succ, i64_w, i32_w]
        rfl
       refine one_ (i := 1) (N := some 33) #[true, true, true, true, true, false] rfl rfl (by kernel_rfl) (by decide) (fun K hK => ?_)
       refine goes_ Try.func39 (by kernel_rfl) rfl #[.int .u64 (IntKind.u64.wrap (bt a0 0))] (by rfl) rfl rfl (by (try simp only [List.map_toArray, List.map_cons, List.map_nil]); first | done | rfl | (simp only [List.length_drop, List.length_take]; rfl)) ?_
       with_reducible refine (sacristanref02_Var.calls k (IntKind.u64.wrap (bt a0 0)) t177 _ A24.out).mono ?_
       rintro e w33 ⟨rfl, hb⟩
       refine ⟨_, rfl, ?_⟩
       have n0_ := Aside0.mk (below_step (w := w) (by repeat (first | (with_reducible first | exact HB.out | apply below_alloc | apply pw_below_drewN | apply below_drew1) | exact HB.out)) hb)
       clear HB
       have HB := n0_
       clear n0_
       (try clear hb)
       (try clear hb2)
       (try clear hk)
       (try clear hi)
       refine hK.out _ _ trivial (fun hHeld => ?_)
       clear hK K
       refine norm_ (a' := ?_) ?_ ?_
       rotate_left
       ·show Act.put _ (some 33) _ = _
        simp only [Act.put, List.setIfInBounds_toArray, List.set_cons_zero, List.set_cons_succ, i64_w, i32_w]
        rfl
       refine pure_ (i := 5) (N := some 37) (v := ?_) (a' := ?_) #[true, true, true, true, true, true] rfl rfl (by kernel_rfl) (fun _ _ _ h => h) (Or.inl ⟨by rfl, ?_⟩) ?_ ?_
       rotate_left
       ·intro w'
        go_simp
        with_reducible rfl
       rotate_left
       ·simp only [Act.put, List.setIfInBounds_toArray, List.set_cons_zero, List.set_cons_succ, i64_w, i32_w]
        rfl
       refine done_ (by kernel_rfl) ?_
       try go_wp2
       go_ret3
       exact ⟨by first | rfl | (simp [errW_none, errW_some] <;> rfl) | (simp [*, errW_none, errW_some] <;> rfl), by repeat (first | (with_reducible first | exact HB.out | apply below_alloc | apply pw_below_drewN | apply below_drew1) | exact HB.out)⟩
     ·rw [if_neg c26] at H
      exact absurd H (by simp)
    ·rw [if_neg c25] at H
     exact absurd H (by simp)
  ·rw [if_neg c3] at H
   exact absurd H (by simp)
def IsS84 (w0 W : World) (g : Nat) (f0 : ByteArray) (f1 : Bool) : Prop := W.heap[g]? = some (.cells #[.string f0, .bool f1] 84 (0, 0)) ∧ w0.heap.size ≤ g
theorem IsS84.grown {w0 W : World} {g : Nat} {f0 : ByteArray} {f1 : Bool} {W1 : World} {row : Option Nat} (h : IsS84 w0 W g f0 f1) (hw : W.grownBy W1 row) (hne : some g ≠ row) : IsS84 w0 W1 g f0 f1 := by
 obtain ⟨hb, hg⟩ := h
 exact ⟨blk_grown hb hw hne, hg⟩
theorem IsS84.fresh {w0 W : World} {g : Nat} {f0 : ByteArray} {f1 : Bool} (h : IsS84 w0 W g f0 f1) : ∀ k, W.heap.size ≤ k → k ≠ g := by
 obtain ⟨hb, hg⟩ := h
 exact Kd.freshB hb
theorem IsS84.kept {w0 W : World} {g : Nat} {f0 : ByteArray} {f1 : Bool} {W1 : World} {S : Nat → Prop} (h : IsS84 w0 W g f0 f1) (hk : Kept W W1 S) (hne : ¬ S g) : IsS84 w0 W1 g f0 f1 := by
 obtain ⟨hb, hg⟩ := h
 exact ⟨blk_kept hb hk hne, hg⟩
theorem IsS84.below {w0 W : World} {g : Nat} {f0 : ByteArray} {f1 : Bool} {W1 : World} (h : IsS84 w0 W g f0 f1) (hw : Below W.heap.size W W1) : IsS84 w0 W1 g f0 f1 := h.grown (grown_of_below hw none) (by simp)
theorem IsS84.alloc {w0 W : World} {g : Nat} {f0 : ByteArray} {f1 : Bool} (h : IsS84 w0 W g f0 f1) (o : Obj) : IsS84 w0 (W.alloc o) g f0 f1 := h.below (below_alloc (Below.refl _ _) o)
theorem IsS84.drewN {w0 W : World} {g : Nat} {f0 : ByteArray} {f1 : Bool} (h : IsS84 w0 W g f0 f1) (m : Nat) : IsS84 w0 (W.drewN m) g f0 f1 := h
theorem IsS84.drew {w0 W : World} {g : Nat} {f0 : ByteArray} {f1 : Bool} (h : IsS84 w0 W g f0 f1) : IsS84 w0 W.drew g f0 f1 := h
theorem IsS84.at_ {w0 W : World} {g : Nat} {f0 : ByteArray} {f1 : Bool} {w' : World} {m : Nat} (hq : W.drewN m = w') (h : IsS84 w0 W g f0 f1) : IsS84 w0 w' g f0 f1 := by subst hq; exact IsS84.drewN h m
theorem IsS84.apart {w0 W : World} {g : Nat} {f0 : ByteArray} {f1 : Bool} {α : Type} {d : Kd α} {e : Nat} {base : Nat} {ok : Nat → Prop} {v : Value} {xs : List α} (h : IsS84 w0 W g f0 f1) (ho : d.R e W base ok v xs) (ht : ∀ q, q ∈ e :: d.E → q ≠ 84) : d.R e W base (fun k => ok k ∧ k ≠ g) v xs := by
 obtain ⟨hb, hg⟩ := h
 exact Kd.R_types ho hb ht
theorem IsS84.own_ne {w0 W : World} {g : Nat} {f0 : ByteArray} {f1 : Bool} {α : Type} {d : Kd α} {e : Nat} {base : Nat} {ok : Nat → Prop} {v : Value} {xs : List α} (h : IsS84 w0 W g f0 f1) (ho : d.R e W base ok v xs) (ht : e ≠ 84) : some g ≠ v.ownBlock := by
 obtain ⟨hb, hg⟩ := h
 exact Kd.R_ne ho hb ht
theorem IsS84.lt {w0 W : World} {g : Nat} {f0 : ByteArray} {f1 : Bool} (h : IsS84 w0 W g f0 f1) : g < W.heap.size := by
 obtain ⟨hb, hg⟩ := h
 exact blk_lt hb
theorem IsS84.ge {w0 W : World} {g : Nat} {f0 : ByteArray} {f1 : Bool} (h : IsS84 w0 W g f0 f1) : w0.heap.size ≤ g := by
 obtain ⟨hb, hg⟩ := h
 exact hg
theorem IsS84.far {w0 W : World} {g : Nat} {f0 : ByteArray} {f1 : Bool} {p : Addr} (h : IsS84 w0 W g f0 f1) (hne : g ≠ p.block) (u : Value) : IsS84 w0 (W.setCell p u) g f0 f1 := by
 obtain ⟨hb, hg⟩ := h
 exact ⟨blk_far hb hne u, hg⟩
theorem cellS84_0 {W : World} {g : Nat} {f0 : ByteArray} {f1 : Bool} (h : W.heap[g]? = some (.cells #[.string f0, .bool f1] 84 (0, 0))) : W.cell? ⟨g, 0, none⟩ = some (.string f0) := (blk_cell h 0).trans rfl
theorem IsS84.set_0 {w0 W : World} {g : Nat} {f0 : ByteArray} {f1 : Bool} (h : IsS84 w0 W g f0 f1) (x : ByteArray) : IsS84 w0 (W.setCell ⟨g, 0, none⟩ (.string x)) g x f1 := by
 obtain ⟨hb, hg⟩ := h
 exact ⟨by simpa using blk_set hb 0 (.string x), hg⟩
theorem cellS84_1 {W : World} {g : Nat} {f0 : ByteArray} {f1 : Bool} (h : W.heap[g]? = some (.cells #[.string f0, .bool f1] 84 (0, 0))) : W.cell? ⟨g, 1, none⟩ = some (.bool f1) := (blk_cell h 1).trans rfl
theorem IsS84.set_1 {w0 W : World} {g : Nat} {f0 : ByteArray} {f1 : Bool} (h : IsS84 w0 W g f0 f1) (x : Bool) : IsS84 w0 (W.setCell ⟨g, 1, none⟩ (.bool x)) g f0 x := by
 obtain ⟨hb, hg⟩ := h
 exact ⟨by simpa using blk_set hb 1 (.bool x), hg⟩
theorem IsS84.new (w0 W : World) (f0 : ByteArray) (f1 : Bool) (hB : Below w0.heap.size w0 W) : IsS84 w0 (W.alloc (.cells #[.string f0, .bool f1] 84)) W.heap.size f0 f1 := ⟨by simpa using heap_alloc_new W _, hB.size⟩
def sacristanref13_Reader_Num.f (k : Nat) (s0_0 : ByteArray) (s0_1 : Bool) : Option (Int × ByteArray × Bool) := (sacristanref02_Unvar.f k s0_0).bind fun bt178 => (if s0_1 = true then (some (0, s0_0, true)) else (if bt178.2.2 = 0 then (if bt178.1 > 4611686018427387904 then (some (0, s0_0, true)) else (some (wrap64 (bt178.1), bt178.2.1, s0_1))) else (some (0, s0_0, true))))
set_option maxHeartbeats 8000000 in
set_option maxRecDepth 100000 in
theorem sacristanref13_Reader_Num.calls (k : Nat) (g : Nat) (s0_0 : ByteArray) (s0_1 : Bool) (r1 : Int) (r2 : ByteArray) (r3 : Bool) (w0 w : World) (hI : IsS84 w0 w g s0_0 s0_1) (hB : Below w0.heap.size w0 w) (h : sacristanref13_Reader_Num.f k s0_0 s0_1 = some (r1, r2, r3)) :
  Calls Try.prog 45 #[.pointer (some ⟨g, 0, none⟩)] w fun e w' => e = .returned (.int .i64 r1) ∧ IsS84 w0 w' g r2 r3 ∧ Below w0.heap.size w0 w' ∧ KeepBut w w' g none := by
 have HI0 := Aside0.mk hI
 have HK := Aside0.mk (KeepBut.refl w g none)
 have HL := Aside0.mk hB.size
 clear hI
 have HW0 := Aside0.mk hB.size
 have HB := Aside0.mk hB
 clear hB
 have H : ((sacristanref02_Unvar.f k s0_0).bind fun bt178 => (if s0_1 = true then (some (0, s0_0, true)) else (if bt178.2.2 = 0 then (if bt178.1 > 4611686018427387904 then (some (0, s0_0, true)) else (some (wrap64 (bt178.1), bt178.2.1, s0_1))) else (some (0, s0_0, true))))) = some (r1, r2, r3) := h
 clear h
 replace H := Option.bind_eq_some_iff.mp H
 obtain ⟨⟨t178, t179, t180⟩, A20, H⟩ := H
 replace H : (if s0_1 = true then (some (0, s0_0, true)) else (if t180 = 0 then (if t178 > 4611686018427387904 then (some (0, s0_0, true)) else (some (wrap64 (t178), t179, s0_1))) else (some (0, s0_0, true)))) = some (r1, r2, r3) := H
 have A2 := Aside0.mk A20
 clear A20
 by_cases c3 : s0_1 = true
 ·subst c3
  have H1 : (some (0, s0_0, true)) = some (r1, r2, r3) := by rw [if_pos rfl] at H; exact H
  clear H
  have H := H1
  clear H1
  simp only [Option.some.injEq, Prod.mk.injEq] at H
  obtain ⟨rfl, rfl, rfl⟩ := H
  obtain ⟨HGz4, hgz4⟩ := HI0.out
  have hcz4_0 := cellS84_0 HGz4
  have hcz4_1 := cellS84_1 HGz4
  have hfz4_0 := blk_frozen HGz4 0
  have hfz4_1 := blk_frozen HGz4 1
  clear HGz4 hgz4
  go_enter Try.func45, Try.ntmps45
  go_wp2_with (first | ((with_reducible refine gate_callee (f := 74) rfl ?_); refine goesL_ (some 11) rfl rfl Try.func74 (by kernel_rfl) rfl #[.string s0_0] rfl (by (try simp only [List.map_toArray, List.map_cons, List.map_nil]); first | done | rfl | (simp only [List.length_drop, List.length_take]; rfl)) ?_; (with_reducible refine (sacristanref02_Unvar.calls k s0_0 t178 t179 t180 _ A2.out).mono ?_); rintro e w5 ⟨rfl, hb⟩; refine ⟨_, rfl, ?_⟩; have n0_ := Aside0.mk (IsS84.below (by repeat (first | (with_reducible first | exact HI0.out | apply IsS84.alloc | apply IsS84.drewN | apply IsS84.drew | apply IsS84.set_0 | apply IsS84.set_1) | exact HI0.out)) hb); have n1_ := Aside0.mk (KeepBut.trans (by repeat (first | (with_reducible first | exact HK.out | apply KeepBut.set_ | apply keep_drewN | apply keep_drew | apply keep_alloc) | exact HK.out)) (KeepBut.of_below hb g none) (.inl rfl)); have n2_ := Aside0.mk (below_step (by repeat (first | (with_reducible first | exact HB.out | apply below_alloc | apply pw_below_drewN | apply below_drew1 | refine below_set ?_ (IsS84.ge HI0.out)) | exact HB.out)) hb); clear HI0; clear HK; clear HB; have HI0 := n0_; have HK := n1_; have HB := n2_; clear n0_ n1_ n2_; (try clear hb); (try clear hb2); (try clear hk); (try clear hi); obtain ⟨HGz6, hgz6⟩ := HI0.out; have hcz6_0 := cellS84_0 HGz6; have hcz6_1 := cellS84_1 HGz6; have hfz6_0 := blk_frozen HGz6 0; have hfz6_1 := blk_frozen HGz6 1; clear HGz6 hgz6))
  go_ret
  exact ⟨by first | rfl | (simp [errW_none, errW_some] <;> rfl) | (simp [*, errW_none, errW_some] <;> rfl), by repeat (first | (with_reducible first | exact HI0.out | apply IsS84.alloc | apply IsS84.drewN | apply IsS84.drew | apply IsS84.set_0 | apply IsS84.set_1) | exact HI0.out), by repeat (first | (with_reducible first | exact HB.out | apply below_alloc | apply pw_below_drewN | apply below_drew1 | refine below_set ?_ (IsS84.ge HI0.out)) | exact HB.out), by repeat (first | (with_reducible first | exact HK.out | apply KeepBut.set_ | apply keep_drewN | apply keep_drew | apply keep_alloc) | exact HK.out)⟩
 ·replace c3 := Bool.eq_false_iff.mpr c3
  subst c3
  have H1 : (if t180 = 0 then (if t178 > 4611686018427387904 then (some (0, s0_0, true)) else (some (wrap64 (t178), t179, false))) else (some (0, s0_0, true))) = some (r1, r2, r3) := by rw [if_neg (show ¬ (false = true) by decide)] at H; exact H
  clear H
  have H := H1
  clear H1
  by_cases c7 : t180 = 0
  ·rw [if_pos c7] at H
   have c7b0 : (t180 == 0) = true := beq_iff_eq.mpr c7
   have c7b1 : (t180 != 0) = false := bne_eq_false_iff_eq.mpr c7
   clear c7
   by_cases c8 : t178 > 4611686018427387904
   ·rw [if_pos c8] at H
    have c8b0 : decide (4611686018427387904 < t178) = true := decide_eq_true c8
    clear c8
    simp only [Option.some.injEq, Prod.mk.injEq] at H
    obtain ⟨rfl, rfl, rfl⟩ := H
    obtain ⟨HGz9, hgz9⟩ := HI0.out
    have hcz9_0 := cellS84_0 HGz9
    have hcz9_1 := cellS84_1 HGz9
    have hfz9_0 := blk_frozen HGz9 0
    have hfz9_1 := blk_frozen HGz9 1
    clear HGz9 hgz9
    go_enter Try.func45, Try.ntmps45
    go_wp2_with (first | ((with_reducible refine gate_callee (f := 74) rfl ?_); refine goesL_ (some 11) rfl rfl Try.func74 (by kernel_rfl) rfl #[.string s0_0] rfl (by (try simp only [List.map_toArray, List.map_cons, List.map_nil]); first | done | rfl | (simp only [List.length_drop, List.length_take]; rfl)) ?_; (with_reducible refine (sacristanref02_Unvar.calls k s0_0 t178 t179 t180 _ A2.out).mono ?_); rintro e w10 ⟨rfl, hb⟩; refine ⟨_, rfl, ?_⟩; have n0_ := Aside0.mk (IsS84.below (by repeat (first | (with_reducible first | exact HI0.out | apply IsS84.alloc | apply IsS84.drewN | apply IsS84.drew | apply IsS84.set_0 | apply IsS84.set_1) | exact HI0.out)) hb); have n1_ := Aside0.mk (KeepBut.trans (by repeat (first | (with_reducible first | exact HK.out | apply KeepBut.set_ | apply keep_drewN | apply keep_drew | apply keep_alloc) | exact HK.out)) (KeepBut.of_below hb g none) (.inl rfl)); have n2_ := Aside0.mk (below_step (by repeat (first | (with_reducible first | exact HB.out | apply below_alloc | apply pw_below_drewN | apply below_drew1 | refine below_set ?_ (IsS84.ge HI0.out)) | exact HB.out)) hb); clear HI0; clear HK; clear HB; have HI0 := n0_; have HK := n1_; have HB := n2_; clear n0_ n1_ n2_; (try clear hb); (try clear hb2); (try clear hk); (try clear hi); obtain ⟨HGz11, hgz11⟩ := HI0.out; have hcz11_0 := cellS84_0 HGz11; have hcz11_1 := cellS84_1 HGz11; have hfz11_0 := blk_frozen HGz11 0; have hfz11_1 := blk_frozen HGz11 1; clear HGz11 hgz11))
    go_ret
    exact ⟨by first | rfl | (simp [errW_none, errW_some] <;> rfl) | (simp [*, errW_none, errW_some] <;> rfl), by repeat (first | (with_reducible first | exact HI0.out | apply IsS84.alloc | apply IsS84.drewN | apply IsS84.drew | apply IsS84.set_0 | apply IsS84.set_1) | exact HI0.out), by repeat (first | (with_reducible first | exact HB.out | apply below_alloc | apply pw_below_drewN | apply below_drew1 | refine below_set ?_ (IsS84.ge HI0.out)) | exact HB.out), by repeat (first | (with_reducible first | exact HK.out | apply KeepBut.set_ | apply keep_drewN | apply keep_drew | apply keep_alloc) | exact HK.out)⟩
   ·rw [if_neg c8] at H
    have c8b0 : decide (4611686018427387904 < t178) = false := decide_eq_false c8
    clear c8
    simp only [Option.some.injEq, Prod.mk.injEq] at H
    obtain ⟨rfl, rfl, rfl⟩ := H
    obtain ⟨HGz12, hgz12⟩ := HI0.out
    have hcz12_0 := cellS84_0 HGz12
    have hcz12_1 := cellS84_1 HGz12
    have hfz12_0 := blk_frozen HGz12 0
    have hfz12_1 := blk_frozen HGz12 1
    clear HGz12 hgz12
    go_enter Try.func45, Try.ntmps45
    go_wp2_with (first | ((with_reducible refine gate_callee (f := 74) rfl ?_); refine goesL_ (some 11) rfl rfl Try.func74 (by kernel_rfl) rfl #[.string s0_0] rfl (by (try simp only [List.map_toArray, List.map_cons, List.map_nil]); first | done | rfl | (simp only [List.length_drop, List.length_take]; rfl)) ?_; (with_reducible refine (sacristanref02_Unvar.calls k s0_0 t178 t179 t180 _ A2.out).mono ?_); rintro e w13 ⟨rfl, hb⟩; refine ⟨_, rfl, ?_⟩; have n0_ := Aside0.mk (IsS84.below (by repeat (first | (with_reducible first | exact HI0.out | apply IsS84.alloc | apply IsS84.drewN | apply IsS84.drew | apply IsS84.set_0 | apply IsS84.set_1) | exact HI0.out)) hb); have n1_ := Aside0.mk (KeepBut.trans (by repeat (first | (with_reducible first | exact HK.out | apply KeepBut.set_ | apply keep_drewN | apply keep_drew | apply keep_alloc) | exact HK.out)) (KeepBut.of_below hb g none) (.inl rfl)); have n2_ := Aside0.mk (below_step (by repeat (first | (with_reducible first | exact HB.out | apply below_alloc | apply pw_below_drewN | apply below_drew1 | refine below_set ?_ (IsS84.ge HI0.out)) | exact HB.out)) hb); clear HI0; clear HK; clear HB; have HI0 := n0_; have HK := n1_; have HB := n2_; clear n0_ n1_ n2_; (try clear hb); (try clear hb2); (try clear hk); (try clear hi); obtain ⟨HGz14, hgz14⟩ := HI0.out; have hcz14_0 := cellS84_0 HGz14; have hcz14_1 := cellS84_1 HGz14; have hfz14_0 := blk_frozen HGz14 0; have hfz14_1 := blk_frozen HGz14 1; clear HGz14 hgz14))
    go_ret
    exact ⟨by first | rfl | (simp [errW_none, errW_some] <;> rfl) | (simp [*, errW_none, errW_some] <;> rfl), by repeat (first | (with_reducible first | exact HI0.out | apply IsS84.alloc | apply IsS84.drewN | apply IsS84.drew | apply IsS84.set_0 | apply IsS84.set_1) | exact HI0.out), by repeat (first | (with_reducible first | exact HB.out | apply below_alloc | apply pw_below_drewN | apply below_drew1 | refine below_set ?_ (IsS84.ge HI0.out)) | exact HB.out), by repeat (first | (with_reducible first | exact HK.out | apply KeepBut.set_ | apply keep_drewN | apply keep_drew | apply keep_alloc) | exact HK.out)⟩
  ·rw [if_neg c7] at H
   have c7b0 : (t180 == 0) = false := beq_eq_false_iff_ne.mpr c7
   have c7b1 : (t180 != 0) = true := bne_iff_ne.mpr c7
   simp only [Option.some.injEq, Prod.mk.injEq] at H
   obtain ⟨rfl, rfl, rfl⟩ := H
   obtain ⟨HGz15, hgz15⟩ := HI0.out
   have hcz15_0 := cellS84_0 HGz15
   have hcz15_1 := cellS84_1 HGz15
   have hfz15_0 := blk_frozen HGz15 0
   have hfz15_1 := blk_frozen HGz15 1
   clear HGz15 hgz15
   go_enter Try.func45, Try.ntmps45
   go_wp2_with (first | ((with_reducible refine gate_callee (f := 74) rfl ?_); refine goesL_ (some 11) rfl rfl Try.func74 (by kernel_rfl) rfl #[.string s0_0] rfl (by (try simp only [List.map_toArray, List.map_cons, List.map_nil]); first | done | rfl | (simp only [List.length_drop, List.length_take]; rfl)) ?_; (with_reducible refine (sacristanref02_Unvar.calls k s0_0 t178 t179 t180 _ A2.out).mono ?_); rintro e w16 ⟨rfl, hb⟩; refine ⟨_, rfl, ?_⟩; have n0_ := Aside0.mk (IsS84.below (by repeat (first | (with_reducible first | exact HI0.out | apply IsS84.alloc | apply IsS84.drewN | apply IsS84.drew | apply IsS84.set_0 | apply IsS84.set_1) | exact HI0.out)) hb); have n1_ := Aside0.mk (KeepBut.trans (by repeat (first | (with_reducible first | exact HK.out | apply KeepBut.set_ | apply keep_drewN | apply keep_drew | apply keep_alloc) | exact HK.out)) (KeepBut.of_below hb g none) (.inl rfl)); have n2_ := Aside0.mk (below_step (by repeat (first | (with_reducible first | exact HB.out | apply below_alloc | apply pw_below_drewN | apply below_drew1 | refine below_set ?_ (IsS84.ge HI0.out)) | exact HB.out)) hb); clear HI0; clear HK; clear HB; have HI0 := n0_; have HK := n1_; have HB := n2_; clear n0_ n1_ n2_; (try clear hb); (try clear hb2); (try clear hk); (try clear hi); obtain ⟨HGz17, hgz17⟩ := HI0.out; have hcz17_0 := cellS84_0 HGz17; have hcz17_1 := cellS84_1 HGz17; have hfz17_0 := blk_frozen HGz17 0; have hfz17_1 := blk_frozen HGz17 1; clear HGz17 hgz17))
   go_ret
   exact ⟨by first | rfl | (simp [errW_none, errW_some] <;> rfl) | (simp [*, errW_none, errW_some] <;> rfl), by repeat (first | (with_reducible first | exact HI0.out | apply IsS84.alloc | apply IsS84.drewN | apply IsS84.drew | apply IsS84.set_0 | apply IsS84.set_1) | exact HI0.out), by repeat (first | (with_reducible first | exact HB.out | apply below_alloc | apply pw_below_drewN | apply below_drew1 | refine below_set ?_ (IsS84.ge HI0.out)) | exact HB.out), by repeat (first | (with_reducible first | exact HK.out | apply KeepBut.set_ | apply keep_drewN | apply keep_drew | apply keep_alloc) | exact HK.out)⟩
end Go.Proofs.YtkhcdichdnbcmaaR.C
end
section
namespace Go.Proofs.YtkhcdichdnbcmaaR
open Go.RowKit Go.Proofs.YtkhcdichdnbcmaaR Go.Proofs.YtkhcdichdnbcmaaR.Ext Go.Proofs.YtkhcdichdnbcmaaR.C Go.Proofs.YtkhcdichdnbcmaaR.Sp Go.Proofs.YtkhcdichdnbcmaaRW.PrintWords Go.Proofs.YtkhcdichdnbcmaaRW.PrintLast
set_option linter.unusedVariables false
set_option linter.unusedSimpArgs false
theorem toList_mkB (l : List UInt8) : (YtkhcdichdnbcmaaR.Ext.mkB l).toList = l := by rw [ByteArray.toList_eq]; rfl
def numT (most : Int) (l : List UInt8) : Int × List UInt8 × Bool := match numL most l with | some (n, r) => (n, r, true) | none => (0, [], false)
theorem number_eq (most : Int) (h0 : 0 ≤ most) (h1 : most ≤ 9223372036854775807) (l : List UInt8) : cmd_number.f (YtkhcdichdnbcmaaR.Ext.mkB l) most = some ((numT most l).1, YtkhcdichdnbcmaaR.Ext.mkB (numT most l).2.1, (numT most l).2.2) := by
 unfold cmd_number.f pack_Unvar.f numT numL
 have hm : IntKind.u64.wrap most = most := IntWalk.u64_in _ (by omega)
 rw [hm]
 have hd : (YtkhcdichdnbcmaaR.Ext.mkB l).data.toList = l := rfl
 rw [hd]
 unfold Go.Proofs.YtkhcdichdnbcmaaR.Ext.unvarR
 cases hu : Pk.unvarL l with
 | none => rfl
 | some x =>
  obtain ⟨n, r⟩ := x
  simp only [Option.bind_some]
  rw [if_pos trivial]
  by_cases hn : (n : Int) ≤ most
  ·rw [if_neg (by omega), if_pos hn]
   have : wrap64 (n : Int) = n := by unfold wrap64; omega
   rw [this]
  ·rw [if_pos (by omega), if_neg hn]
   rfl
theorem number_s {w0 w : World} {L : List HP} (most : Int) (h0 : 0 ≤ most) (h1 : most ≤ 9223372036854775807) (l : List UInt8) (n : Int) (r : List UInt8) (o : Bool) (hx : numT most l = (n, r, o)) (h : St w0 w L) :
  Calls Try.prog 43 #[.string (YtkhcdichdnbcmaaR.Ext.mkB l), .int .i64 most] w fun e w' => e = .returned (.tuple #[.int .i64 n, .string (YtkhcdichdnbcmaaR.Ext.mkB r), .bool o]) ∧ St w0 w' L := by
 have q := number_eq most h0 h1 l
 rw [hx] at q
 refine (cmd_number.calls _ _ _ _ _ w q).mono ?_
 rintro e w' ⟨rfl, ⟨k, rfl⟩⟩
 exact ⟨rfl, h.drewN k⟩
theorem dec_s {w0 w : World} {L : List HP} (bs : List UInt8) (x1 x2 x3 x4 : Int) (ps : List Int) (ts : List Sp.TS) (rest : List UInt8) (er : Int) (hx : decR bs = (⟨x1, x2, x3, x4, ps, ts⟩, rest, er)) (h : St w0 w L) : Calls Try.prog 44 #[.string (YtkhcdichdnbcmaaR.Ext.mkB bs)] w fun e w' => ∃ A B c d n m, e = .returned (.tuple #[.agg #[.int .i64 x1, .int .i64 x2, .int .i64 x3, .int .i64 x4, .slice A n c, .slice B m d], .string (YtkhcdichdnbcmaaR.Ext.mkB rest), .int .i64 er]) ∧ St w0 w' (RI (.slice A n c) ps :: RT (.slice B m d) (ts.map ofTS) :: L) := by
 have q := decode_c bs w
 rw [hx] at q
 refine q.mono ?_
 rintro e w' ⟨v4, v5, rfl, h4, h5, hb⟩
 obtain ⟨A, n, c, rfl⟩ := R_slice3 h4
 obtain ⟨B, m, d, rfl⟩ := R_slice3 h5
 exact ⟨A, B, c, d, n, m, rfl, h.rows2 (flat_int _) kX_flat (by decide) hb h4 (k_of h5)⟩
theorem chk9_s {w0 w : World} {L : List HP} (k e a b c d : Int) {A B : Option Addr} {n m p q : Nat} (id : Int) (ps : List Int) (ts : List TX) (h : St w0 w (RI (.slice A n p) ps :: RT (.slice B m q) ts :: L)) (r : Int) (hr : Sp.cmdE ⟨k, e, spOf a b c d ps ts, id⟩ = r) :
  Calls Try.prog 17 #[.agg #[.int .u8 k, .int .i64 e, .int .i64 a, .int .i64 b, .int .i64 c, .int .i64 d, .slice A n p, .slice B m q, .int .i64 id]] w fun e w' => e = .returned (.int .i64 r) ∧ St w0 w' (RI (.slice A n p) ps :: RT (.slice B m q) ts :: L) := by
 obtain ⟨c1, e1, l1⟩ := h.rowKC
 obtain ⟨c2, e2, l2⟩ := (h.pick 1).rowKC
 subst e1; subst e2
 refine (cmd_Check.calls k e a b c d A p ps B q ts id r w c1 l1 c2 l2 (by unfold cmd_Check.f; rw [hr])).mono ?_
 rintro e w' ⟨rfl, hb⟩
 exact ⟨rfl, h.more hb⟩
theorem enc9_s {w0 w : World} {L : List HP} (k e a b c d : Int) {A B : Option Addr} {n m p q : Nat} (id : Int) (ps : List Int) (ts : List TX) (h : St w0 w (RI (.slice A n p) ps :: RT (.slice B m q) ts :: L)) (x : List UInt8) (r : Int) (hx : Sp.encCR ⟨k, e, spOf a b c d ps ts, id⟩ = x) (hr : Sp.cmdE ⟨k, e, spOf a b c d ps ts, id⟩ = r) :
  Calls Try.prog 13 #[.agg #[.int .u8 k, .int .i64 e, .int .i64 a, .int .i64 b, .int .i64 c, .int .i64 d, .slice A n p, .slice B m q, .int .i64 id]] w fun e w' => e = .returned (.tuple #[.string (YtkhcdichdnbcmaaR.Ext.mkB x), .int .i64 r]) ∧ St w0 w' (RI (.slice A n p) ps :: RT (.slice B m q) ts :: L) := by
 obtain ⟨c1, e1, l1⟩ := h.rowKC
 obtain ⟨c2, e2, l2⟩ := (h.pick 1).rowKC
 subst e1; subst e2
 refine (cmd_Encode.calls k e a b c d A p ps B q ts id _ _ w c1 l1 c2 l2 (by unfold cmd_Encode.f encCB; rw [hr, hx])).mono ?_
 rintro e w' ⟨rfl, hb⟩
 exact ⟨rfl, h.more hb⟩
set_option maxRecDepth 100000 in
set_option maxHeartbeats 1000000 in
theorem cdec_long {w0 w : World} {L : List HP} (l : List UInt8) (h : St w0 w L)
  (hl : 1024 < l.length) :
  Calls Try.prog 20 #[.string (YtkhcdichdnbcmaaR.Ext.mkB l)] w fun ee w' => ee = .returned (.tuple #[.agg #[.int .u8 0, .int .i64 0, .int .i64 0, .int .i64 0, .int .i64 0, .int .i64 0, .slice none 0 0, .slice none 0 0, .int .i64 0], .int .i64 5]) ∧ St w0 w' L := by
 have hsz := mkB_size l
 have f1 : decide (1024 < ((YtkhcdichdnbcmaaR.Ext.mkB l).size : Int)) = true := decide_eq_true (by rw [hsz]; omega)
 have f2 : decide (1024 < (YtkhcdichdnbcmaaR.Ext.mkB l).size) = true := decide_eq_true (by rw [hsz]; omega)
 have f3 : (1024 < (YtkhcdichdnbcmaaR.Ext.mkB l).size) = True := eq_true (by rw [hsz]; omega)
 clear hsz hl
 have s0 := h.alloc #[.int .u8 0, .int .i64 0, .int .i64 0, .int .i64 0, .int .i64 0, .int .i64 0, .slice none 0 0, .slice none 0 0, .int .i64 0] tCm
 clear h
 have S0 := Lib.hid s0
 clear s0
 go_enter Try.func20, Try.ntmps20
 go_wp2_with (first | ((with_reducible refine wpList_storeSt S0.out rfl _ _ 29 rfl 0 #[.int .u8 0, .int .i64 0, .int .i64 0, .int .i64 0, .int .i64 0, .int .i64 0, .slice none 0 0, .slice none 0 0, .int .i64 0] #[.int .u8 0, .int .i64 0, .int .i64 0, .int .i64 0, .int .i64 0, .int .i64 0, .slice none 0 0, .slice none 0 0, .int .i64 0] size_cmd ?hn ?hx ?hv ?hf ?h1 ?he ?_); (case hn => rfl); (case hx => rfl); (case hv => rfl); (case hf => simp); (case h1 => simp [Value.oneCell']); (case he => rfl); intro wz sz; have hcz := sz.cells; have hfz := sz.free; have SZ := Lib.hid sz; clear sz)| fail)
 refine bodyPost_ret (v := .tuple #[.agg #[.int .u8 0, .int .i64 0, .int .i64 0, .int .i64 0, .int .i64 0, .int .i64 0, .slice none 0 0, .slice none 0 0, .int .i64 0], .int .i64 5]) (by simp [results, Try.results20, go_sem, hcz]) rfl ?_
 exact ⟨rfl, SZ.out.drop⟩
set_option maxRecDepth 100000 in
set_option maxHeartbeats 1000000 in
theorem cdec_k {w0 w : World} {L : List HP} (l : List UInt8) (h : St w0 w L)
  (hl : l.length ≤ 1024)
  (H1 : Go.RowKit.Hid (∀ (W : World) (M : List HP), St w0 W M → Calls Try.prog 43 #[.string (YtkhcdichdnbcmaaR.Ext.mkB l), .int .i64 3] W fun ee w' => ee = .returned (.tuple #[.int .i64 0, .string (YtkhcdichdnbcmaaR.Ext.mkB []), .bool false]) ∧ St w0 w' M)) :
  Calls Try.prog 20 #[.string (YtkhcdichdnbcmaaR.Ext.mkB l)] w fun ee w' => ee = .returned (.tuple #[.agg #[.int .u8 0, .int .i64 0, .int .i64 0, .int .i64 0, .int .i64 0, .int .i64 0, .slice none 0 0, .slice none 0 0, .int .i64 0], .int .i64 4]) ∧ St w0 w' L := by
 have hsz := mkB_size l
 have f1 : decide (1024 < ((YtkhcdichdnbcmaaR.Ext.mkB l).size : Int)) = false := decide_eq_false (by rw [hsz]; omega)
 have f2 : decide (1024 < (YtkhcdichdnbcmaaR.Ext.mkB l).size) = false := decide_eq_false (by rw [hsz]; omega)
 have f3 : (1024 < (YtkhcdichdnbcmaaR.Ext.mkB l).size) = False := eq_false (by rw [hsz]; omega)
 clear hsz hl
 have s0 := h.alloc #[.int .u8 0, .int .i64 0, .int .i64 0, .int .i64 0, .int .i64 0, .int .i64 0, .slice none 0 0, .slice none 0 0, .int .i64 0] tCm
 clear h
 have S0 := Lib.hid s0
 clear s0
 go_enter Try.func20, Try.ntmps20
 go_wp2_with fail
 generalize w.heap.size = b2 at *
 refine (H1.out _ _ S0.out).mono ?_
 rintro ee w1 ⟨rfl, s1⟩
 clear S0 H1 f1 f2 f3
 have S1 := Lib.hid s1
 clear s1
 go_wp2_with (first | ((with_reducible refine wpList_storeSt S1.out rfl _ _ 29 rfl 0 #[.int .u8 0, .int .i64 0, .int .i64 0, .int .i64 0, .int .i64 0, .int .i64 0, .slice none 0 0, .slice none 0 0, .int .i64 0] #[.int .u8 0, .int .i64 0, .int .i64 0, .int .i64 0, .int .i64 0, .int .i64 0, .slice none 0 0, .slice none 0 0, .int .i64 0] size_cmd ?hn ?hx ?hv ?hf ?h1 ?he ?_); (case hn => rfl); (case hx => rfl); (case hv => rfl); (case hf => simp); (case h1 => simp [Value.oneCell']); (case he => rfl); intro wz sz; have hcz := sz.cells; have hfz := sz.free; have SZ := Lib.hid sz; clear sz)| fail)
 refine bodyPost_ret (v := .tuple #[.agg #[.int .u8 0, .int .i64 0, .int .i64 0, .int .i64 0, .int .i64 0, .int .i64 0, .slice none 0 0, .slice none 0 0, .int .i64 0], .int .i64 4]) (by simp [results, Try.results20, go_sem, hcz]) rfl ?_
 exact ⟨rfl, SZ.out.drop⟩
set_option maxRecDepth 100000 in
set_option maxHeartbeats 1000000 in
theorem cdec_e {w0 w : World} {L : List HP} (l : List UInt8) (k : Int) (r1 : List UInt8) (h : St w0 w L)
  (hl : l.length ≤ 1024)
  (hk : 0 ≤ k ∧ k ≤ 3)
  (H1 : Go.RowKit.Hid (∀ (W : World) (M : List HP), St w0 W M → Calls Try.prog 43 #[.string (YtkhcdichdnbcmaaR.Ext.mkB l), .int .i64 3] W fun ee w' => ee = .returned (.tuple #[.int .i64 k, .string (YtkhcdichdnbcmaaR.Ext.mkB r1), .bool true]) ∧ St w0 w' M))
  (H2 : Go.RowKit.Hid (∀ (W : World) (M : List HP), St w0 W M → Calls Try.prog 43 #[.string (YtkhcdichdnbcmaaR.Ext.mkB r1), .int .i64 1099511627776] W fun ee w' => ee = .returned (.tuple #[.int .i64 0, .string (YtkhcdichdnbcmaaR.Ext.mkB []), .bool false]) ∧ St w0 w' M)) :
  Calls Try.prog 20 #[.string (YtkhcdichdnbcmaaR.Ext.mkB l)] w fun ee w' => ee = .returned (.tuple #[.agg #[.int .u8 0, .int .i64 0, .int .i64 0, .int .i64 0, .int .i64 0, .int .i64 0, .slice none 0 0, .slice none 0 0, .int .i64 0], .int .i64 4]) ∧ St w0 w' L := by
 have hcv : IntKind.u8.wrap k = k := by unfold IntKind.wrap; simp [IntKind.bits, IntKind.signed]; omega
 clear hk
 have hsz := mkB_size l
 have f1 : decide (1024 < ((YtkhcdichdnbcmaaR.Ext.mkB l).size : Int)) = false := decide_eq_false (by rw [hsz]; omega)
 have f2 : decide (1024 < (YtkhcdichdnbcmaaR.Ext.mkB l).size) = false := decide_eq_false (by rw [hsz]; omega)
 have f3 : (1024 < (YtkhcdichdnbcmaaR.Ext.mkB l).size) = False := eq_false (by rw [hsz]; omega)
 clear hsz hl
 have s0 := h.alloc #[.int .u8 0, .int .i64 0, .int .i64 0, .int .i64 0, .int .i64 0, .int .i64 0, .slice none 0 0, .slice none 0 0, .int .i64 0] tCm
 clear h
 have S0 := Lib.hid s0
 clear s0
 go_enter Try.func20, Try.ntmps20
 go_wp2_with fail
 generalize w.heap.size = b2 at *
 refine (H1.out _ _ S0.out).mono ?_
 rintro ee w1 ⟨rfl, s1⟩
 clear S0 H1 f1 f2 f3
 have s2 := s1.alloc #[.int .u8 k, .int .i64 0, .int .i64 0, .int .i64 0, .int .i64 0, .int .i64 0, .slice none 0 0, .slice none 0 0, .int .i64 0] tCm
 clear s1
 have S2 := Lib.hid s2
 clear s2
 go_wp2_with fail
 generalize w1.heap.size = b7 at *
 refine (H2.out _ _ S2.out).mono ?_
 rintro ee w2 ⟨rfl, s3⟩
 clear S2 H2
 have hcb7 := s3.cells
 have hfb7 := s3.free
 have s4 := s3.setb 1 (.int .i64 0) rfl
 have s5 := s4.pick 1
 simp only [List.getElem_cons_succ, List.getElem_cons_zero, List.eraseIdx_cons_succ, List.eraseIdx_cons_zero] at s5
 have S5 := Lib.hid s5
 clear s3 s4 s5
 go_wp2_with (first | ((with_reducible refine wpList_storeSt S5.out rfl _ _ 29 rfl 0 #[.int .u8 0, .int .i64 0, .int .i64 0, .int .i64 0, .int .i64 0, .int .i64 0, .slice none 0 0, .slice none 0 0, .int .i64 0] #[.int .u8 0, .int .i64 0, .int .i64 0, .int .i64 0, .int .i64 0, .int .i64 0, .slice none 0 0, .slice none 0 0, .int .i64 0] size_cmd ?hn ?hx ?hv ?hf ?h1 ?he ?_); (case hn => rfl); (case hx => rfl); (case hv => rfl); (case hf => simp); (case h1 => simp [Value.oneCell']); (case he => rfl); intro wz sz; have hcz := sz.cells; have hfz := sz.free; have SZ := Lib.hid sz; clear sz)| fail)
 refine bodyPost_ret (v := .tuple #[.agg #[.int .u8 0, .int .i64 0, .int .i64 0, .int .i64 0, .int .i64 0, .int .i64 0, .slice none 0 0, .slice none 0 0, .int .i64 0], .int .i64 4]) (by simp [results, Try.results20, go_sem, hcz]) rfl ?_
 exact ⟨rfl, SZ.out.drop.drop⟩
set_option maxRecDepth 100000 in
set_option maxHeartbeats 1000000 in
theorem cdec_ps {w0 w : World} {L : List HP} (l : List UInt8) (r1 r2 r3 : List UInt8) (e a b c d er : Int) (ps : List Int) (ts : List TX) (h : St w0 w L)
  (hl : l.length ≤ 1024)
  (H1 : Go.RowKit.Hid (∀ (W : World) (M : List HP), St w0 W M → Calls Try.prog 43 #[.string (YtkhcdichdnbcmaaR.Ext.mkB l), .int .i64 3] W fun ee w' => ee = .returned (.tuple #[.int .i64 1, .string (YtkhcdichdnbcmaaR.Ext.mkB r1), .bool true]) ∧ St w0 w' M))
  (H2 : Go.RowKit.Hid (∀ (W : World) (M : List HP), St w0 W M → Calls Try.prog 43 #[.string (YtkhcdichdnbcmaaR.Ext.mkB r1), .int .i64 1099511627776] W fun ee w' => ee = .returned (.tuple #[.int .i64 e, .string (YtkhcdichdnbcmaaR.Ext.mkB r2), .bool true]) ∧ St w0 w' M))
  (her : er ≠ 0)
  (HD : Go.RowKit.Hid (∀ (W : World) (M : List HP), St w0 W M → Calls Try.prog 44 #[.string (YtkhcdichdnbcmaaR.Ext.mkB r2)] W fun ee w' => ∃ A B p q n m, ee = .returned (.tuple #[.agg #[.int .i64 a, .int .i64 b, .int .i64 c, .int .i64 d, .slice A n p, .slice B m q], .string (YtkhcdichdnbcmaaR.Ext.mkB r3), .int .i64 er]) ∧ St w0 w' (RI (.slice A n p) ps :: RT (.slice B m q) ts :: M))) :
  Calls Try.prog 20 #[.string (YtkhcdichdnbcmaaR.Ext.mkB l)] w fun ee w' => ee = .returned (.tuple #[.agg #[.int .u8 0, .int .i64 0, .int .i64 0, .int .i64 0, .int .i64 0, .int .i64 0, .slice none 0 0, .slice none 0 0, .int .i64 0], .int .i64 4]) ∧ St w0 w' L := by
 have g3 : (er == 0) = false := beq_eq_false_iff_ne.mpr her
 clear her
 have hsz := mkB_size l
 have f1 : decide (1024 < ((YtkhcdichdnbcmaaR.Ext.mkB l).size : Int)) = false := decide_eq_false (by rw [hsz]; omega)
 have f2 : decide (1024 < (YtkhcdichdnbcmaaR.Ext.mkB l).size) = false := decide_eq_false (by rw [hsz]; omega)
 have f3 : (1024 < (YtkhcdichdnbcmaaR.Ext.mkB l).size) = False := eq_false (by rw [hsz]; omega)
 clear hsz hl
 have s0 := h.alloc #[.int .u8 0, .int .i64 0, .int .i64 0, .int .i64 0, .int .i64 0, .int .i64 0, .slice none 0 0, .slice none 0 0, .int .i64 0] tCm
 clear h
 have S0 := Lib.hid s0
 clear s0
 go_enter Try.func20, Try.ntmps20
 go_wp2_with fail
 generalize w.heap.size = b2 at *
 refine (H1.out _ _ S0.out).mono ?_
 rintro ee w1 ⟨rfl, s1⟩
 clear S0 H1 f1 f2 f3
 have s2 := s1.alloc #[.int .u8 1, .int .i64 0, .int .i64 0, .int .i64 0, .int .i64 0, .int .i64 0, .slice none 0 0, .slice none 0 0, .int .i64 0] tCm
 clear s1
 have S2 := Lib.hid s2
 clear s2
 go_wp2_with fail
 generalize w1.heap.size = b7 at *
 refine (H2.out _ _ S2.out).mono ?_
 rintro ee w2 ⟨rfl, s3⟩
 clear S2 H2
 have hcb7 := s3.cells
 have hfb7 := s3.free
 have s4 := s3.setb 1 (.int .i64 e) rfl
 clear s3
 have S4 := Lib.hid s4
 clear s4
 go_wp2_with fail
 refine (HD.out _ _ S4.out).mono ?_
 rintro ee w3 ⟨A, B, p, q, n, m, rfl, s5⟩
 clear S4 HD hcb7 hfb7
 have s6 := s5.pick 2
 simp only [List.getElem_cons_succ, List.getElem_cons_zero, List.eraseIdx_cons_succ, List.eraseIdx_cons_zero] at s6
 have S6 := Lib.hid s6
 clear s5 s6
 have hc6 := S6.out.cells
 have hf6 := S6.out.free
 go_wp2_with (first | ((with_reducible refine wpList_storeSt S6.out rfl _ _ 27 rfl 2 #[.int .i64 a, .int .i64 b, .int .i64 c, .int .i64 d, .slice A n p, .slice B m q] #[.int .u8 1, .int .i64 e, .int .i64 a, .int .i64 b, .int .i64 c, .int .i64 d, .slice A n p, .slice B m q, .int .i64 0] size_spec ?hn ?hx ?hv ?hf ?h1 ?he ?_); (case hn => rfl); (case hx => rfl); (case hv => rfl); (case hf => simp); (case h1 => simp [Value.oneCell']); (case he => rfl); intro w4 s7; clear hc6 hf6; have hc7 := s7.cells; have hf7 := s7.free; have S7 := Lib.hid s7; clear s7) | ((with_reducible refine wpList_storeSt (L := _) (w := w4) (cs := #[.int .u8 0, .int .i64 0, .int .i64 0, .int .i64 0, .int .i64 0, .int .i64 0, .slice none 0 0, .slice none 0 0, .int .i64 0]) (b := b2) (tb := tCm) (by have z := S7.out.pick 3; simp only [List.getElem_cons_succ, List.getElem_cons_zero, List.eraseIdx_cons_succ, List.eraseIdx_cons_zero] at z; exact z) rfl _ _ 29 rfl 0 #[.int .u8 0, .int .i64 0, .int .i64 0, .int .i64 0, .int .i64 0, .int .i64 0, .slice none 0 0, .slice none 0 0, .int .i64 0] #[.int .u8 0, .int .i64 0, .int .i64 0, .int .i64 0, .int .i64 0, .int .i64 0, .slice none 0 0, .slice none 0 0, .int .i64 0] size_cmd ?hn ?hx ?hv ?hf ?h1 ?he ?_); (case hn => rfl); (case hx => rfl); (case hv => rfl); (case hf => simp); (case h1 => simp [Value.oneCell']); (case he => rfl); intro wz sz; have hcz := sz.cells; have hfz := sz.free; have SZ := Lib.hid sz; clear sz)| fail)
 refine bodyPost_ret (v := .tuple #[.agg #[.int .u8 0, .int .i64 0, .int .i64 0, .int .i64 0, .int .i64 0, .int .i64 0, .slice none 0 0, .slice none 0 0, .int .i64 0], .int .i64 4]) (by simp [results, Try.results20, go_sem, hcz]) rfl ?_
 exact ⟨rfl, SZ.out.drop.drop.drop.drop⟩
set_option maxRecDepth 100000 in
set_option maxHeartbeats 1000000 in
theorem cdec_pr {w0 w : World} {L : List HP} (l : List UInt8) (r1 r2 r3 : List UInt8) (e a b c d er : Int) (ps : List Int) (ts : List TX) (h : St w0 w L)
  (hl : l.length ≤ 1024)
  (H1 : Go.RowKit.Hid (∀ (W : World) (M : List HP), St w0 W M → Calls Try.prog 43 #[.string (YtkhcdichdnbcmaaR.Ext.mkB l), .int .i64 3] W fun ee w' => ee = .returned (.tuple #[.int .i64 1, .string (YtkhcdichdnbcmaaR.Ext.mkB r1), .bool true]) ∧ St w0 w' M))
  (H2 : Go.RowKit.Hid (∀ (W : World) (M : List HP), St w0 W M → Calls Try.prog 43 #[.string (YtkhcdichdnbcmaaR.Ext.mkB r1), .int .i64 1099511627776] W fun ee w' => ee = .returned (.tuple #[.int .i64 e, .string (YtkhcdichdnbcmaaR.Ext.mkB r2), .bool true]) ∧ St w0 w' M))
  (her : er = 0) (hr : r3 ≠ [])
  (HD : Go.RowKit.Hid (∀ (W : World) (M : List HP), St w0 W M → Calls Try.prog 44 #[.string (YtkhcdichdnbcmaaR.Ext.mkB r2)] W fun ee w' => ∃ A B p q n m, ee = .returned (.tuple #[.agg #[.int .i64 a, .int .i64 b, .int .i64 c, .int .i64 d, .slice A n p, .slice B m q], .string (YtkhcdichdnbcmaaR.Ext.mkB r3), .int .i64 er]) ∧ St w0 w' (RI (.slice A n p) ps :: RT (.slice B m q) ts :: M))) :
  Calls Try.prog 20 #[.string (YtkhcdichdnbcmaaR.Ext.mkB l)] w fun ee w' => ee = .returned (.tuple #[.agg #[.int .u8 0, .int .i64 0, .int .i64 0, .int .i64 0, .int .i64 0, .int .i64 0, .slice none 0 0, .slice none 0 0, .int .i64 0], .int .i64 4]) ∧ St w0 w' L := by
 subst her
 have g1 : ((YtkhcdichdnbcmaaR.Ext.mkB r3).toList == ([] : List UInt8)) = false := by rw [toList_mkB]; exact beq_eq_false_iff_ne.mpr hr
 have g2 : ((YtkhcdichdnbcmaaR.Ext.mkB r3).toList != ([] : List UInt8)) = true := by rw [toList_mkB]; exact bne_iff_ne.mpr hr
 clear hr
 have hsz := mkB_size l
 have f1 : decide (1024 < ((YtkhcdichdnbcmaaR.Ext.mkB l).size : Int)) = false := decide_eq_false (by rw [hsz]; omega)
 have f2 : decide (1024 < (YtkhcdichdnbcmaaR.Ext.mkB l).size) = false := decide_eq_false (by rw [hsz]; omega)
 have f3 : (1024 < (YtkhcdichdnbcmaaR.Ext.mkB l).size) = False := eq_false (by rw [hsz]; omega)
 clear hsz hl
 have s0 := h.alloc #[.int .u8 0, .int .i64 0, .int .i64 0, .int .i64 0, .int .i64 0, .int .i64 0, .slice none 0 0, .slice none 0 0, .int .i64 0] tCm
 clear h
 have S0 := Lib.hid s0
 clear s0
 go_enter Try.func20, Try.ntmps20
 go_wp2_with fail
 generalize w.heap.size = b2 at *
 refine (H1.out _ _ S0.out).mono ?_
 rintro ee w1 ⟨rfl, s1⟩
 clear S0 H1 f1 f2 f3
 have s2 := s1.alloc #[.int .u8 1, .int .i64 0, .int .i64 0, .int .i64 0, .int .i64 0, .int .i64 0, .slice none 0 0, .slice none 0 0, .int .i64 0] tCm
 clear s1
 have S2 := Lib.hid s2
 clear s2
 go_wp2_with fail
 generalize w1.heap.size = b7 at *
 refine (H2.out _ _ S2.out).mono ?_
 rintro ee w2 ⟨rfl, s3⟩
 clear S2 H2
 have hcb7 := s3.cells
 have hfb7 := s3.free
 have s4 := s3.setb 1 (.int .i64 e) rfl
 clear s3
 have S4 := Lib.hid s4
 clear s4
 go_wp2_with fail
 refine (HD.out _ _ S4.out).mono ?_
 rintro ee w3 ⟨A, B, p, q, n, m, rfl, s5⟩
 clear S4 HD hcb7 hfb7
 have s6 := s5.pick 2
 simp only [List.getElem_cons_succ, List.getElem_cons_zero, List.eraseIdx_cons_succ, List.eraseIdx_cons_zero] at s6
 have S6 := Lib.hid s6
 clear s5 s6
 have hc6 := S6.out.cells
 have hf6 := S6.out.free
 go_wp2_with (first | ((with_reducible refine wpList_storeSt S6.out rfl _ _ 27 rfl 2 #[.int .i64 a, .int .i64 b, .int .i64 c, .int .i64 d, .slice A n p, .slice B m q] #[.int .u8 1, .int .i64 e, .int .i64 a, .int .i64 b, .int .i64 c, .int .i64 d, .slice A n p, .slice B m q, .int .i64 0] size_spec ?hn ?hx ?hv ?hf ?h1 ?he ?_); (case hn => rfl); (case hx => rfl); (case hv => rfl); (case hf => simp); (case h1 => simp [Value.oneCell']); (case he => rfl); intro w4 s7; clear hc6 hf6; have hc7 := s7.cells; have hf7 := s7.free; have S7 := Lib.hid s7; clear s7) | ((with_reducible refine wpList_storeSt (L := _) (w := w4) (cs := #[.int .u8 0, .int .i64 0, .int .i64 0, .int .i64 0, .int .i64 0, .int .i64 0, .slice none 0 0, .slice none 0 0, .int .i64 0]) (b := b2) (tb := tCm) (by have z := S7.out.pick 3; simp only [List.getElem_cons_succ, List.getElem_cons_zero, List.eraseIdx_cons_succ, List.eraseIdx_cons_zero] at z; exact z) rfl _ _ 29 rfl 0 #[.int .u8 0, .int .i64 0, .int .i64 0, .int .i64 0, .int .i64 0, .int .i64 0, .slice none 0 0, .slice none 0 0, .int .i64 0] #[.int .u8 0, .int .i64 0, .int .i64 0, .int .i64 0, .int .i64 0, .int .i64 0, .slice none 0 0, .slice none 0 0, .int .i64 0] size_cmd ?hn ?hx ?hv ?hf ?h1 ?he ?_); (case hn => rfl); (case hx => rfl); (case hv => rfl); (case hf => simp); (case h1 => simp [Value.oneCell']); (case he => rfl); intro wz sz; have hcz := sz.cells; have hfz := sz.free; have SZ := Lib.hid sz; clear sz)| fail)
 refine bodyPost_ret (v := .tuple #[.agg #[.int .u8 0, .int .i64 0, .int .i64 0, .int .i64 0, .int .i64 0, .int .i64 0, .slice none 0 0, .slice none 0 0, .int .i64 0], .int .i64 4]) (by simp [results, Try.results20, go_sem, hcz]) rfl ?_
 exact ⟨rfl, SZ.out.drop.drop.drop.drop⟩
set_option maxRecDepth 100000 in
set_option maxHeartbeats 1000000 in
theorem cdec_pc {w0 w : World} {L : List HP} (l : List UInt8) (r1 r2 r3 : List UInt8) (e a b c d er : Int) (ps : List Int) (ts : List TX) (E : Int) (h : St w0 w L)
  (hl : l.length ≤ 1024)
  (H1 : Go.RowKit.Hid (∀ (W : World) (M : List HP), St w0 W M → Calls Try.prog 43 #[.string (YtkhcdichdnbcmaaR.Ext.mkB l), .int .i64 3] W fun ee w' => ee = .returned (.tuple #[.int .i64 1, .string (YtkhcdichdnbcmaaR.Ext.mkB r1), .bool true]) ∧ St w0 w' M))
  (H2 : Go.RowKit.Hid (∀ (W : World) (M : List HP), St w0 W M → Calls Try.prog 43 #[.string (YtkhcdichdnbcmaaR.Ext.mkB r1), .int .i64 1099511627776] W fun ee w' => ee = .returned (.tuple #[.int .i64 e, .string (YtkhcdichdnbcmaaR.Ext.mkB r2), .bool true]) ∧ St w0 w' M))
  (her : er = 0) (hr : r3 = []) (hE : E ≠ 0)
  (HD : Go.RowKit.Hid (∀ (W : World) (M : List HP), St w0 W M → Calls Try.prog 44 #[.string (YtkhcdichdnbcmaaR.Ext.mkB r2)] W fun ee w' => ∃ A B p q n m, ee = .returned (.tuple #[.agg #[.int .i64 a, .int .i64 b, .int .i64 c, .int .i64 d, .slice A n p, .slice B m q], .string (YtkhcdichdnbcmaaR.Ext.mkB r3), .int .i64 er]) ∧ St w0 w' (RI (.slice A n p) ps :: RT (.slice B m q) ts :: M)))
  (HC : Go.RowKit.Hid (∀ (W : World) (M : List HP) (A B : Option Addr) (n m p q : Nat), St w0 W (RI (.slice A n p) ps :: RT (.slice B m q) ts :: M) → Calls Try.prog 17 #[.agg #[.int .u8 1, .int .i64 e, .int .i64 a, .int .i64 b, .int .i64 c, .int .i64 d, .slice A n p, .slice B m q, .int .i64 0]] W fun ee w' => ee = .returned (.int .i64 E) ∧ St w0 w' (RI (.slice A n p) ps :: RT (.slice B m q) ts :: M))) :
  Calls Try.prog 20 #[.string (YtkhcdichdnbcmaaR.Ext.mkB l)] w fun ee w' => ee = .returned (.tuple #[.agg #[.int .u8 0, .int .i64 0, .int .i64 0, .int .i64 0, .int .i64 0, .int .i64 0, .slice none 0 0, .slice none 0 0, .int .i64 0], .int .i64 4]) ∧ St w0 w' L := by
 subst her
 have g1 : ((YtkhcdichdnbcmaaR.Ext.mkB r3).toList == ([] : List UInt8)) = true := by rw [toList_mkB]; subst hr; rfl
 have g2 : ((YtkhcdichdnbcmaaR.Ext.mkB r3).toList != ([] : List UInt8)) = false := by rw [toList_mkB]; subst hr; rfl
 clear hr
 have g3 : (E != 0) = true := bne_iff_ne.mpr hE
 clear hE
 have hsz := mkB_size l
 have f1 : decide (1024 < ((YtkhcdichdnbcmaaR.Ext.mkB l).size : Int)) = false := decide_eq_false (by rw [hsz]; omega)
 have f2 : decide (1024 < (YtkhcdichdnbcmaaR.Ext.mkB l).size) = false := decide_eq_false (by rw [hsz]; omega)
 have f3 : (1024 < (YtkhcdichdnbcmaaR.Ext.mkB l).size) = False := eq_false (by rw [hsz]; omega)
 clear hsz hl
 have s0 := h.alloc #[.int .u8 0, .int .i64 0, .int .i64 0, .int .i64 0, .int .i64 0, .int .i64 0, .slice none 0 0, .slice none 0 0, .int .i64 0] tCm
 clear h
 have S0 := Lib.hid s0
 clear s0
 go_enter Try.func20, Try.ntmps20
 go_wp2_with fail
 generalize w.heap.size = b2 at *
 refine (H1.out _ _ S0.out).mono ?_
 rintro ee w1 ⟨rfl, s1⟩
 clear S0 H1 f1 f2 f3
 have s2 := s1.alloc #[.int .u8 1, .int .i64 0, .int .i64 0, .int .i64 0, .int .i64 0, .int .i64 0, .slice none 0 0, .slice none 0 0, .int .i64 0] tCm
 clear s1
 have S2 := Lib.hid s2
 clear s2
 go_wp2_with fail
 generalize w1.heap.size = b7 at *
 refine (H2.out _ _ S2.out).mono ?_
 rintro ee w2 ⟨rfl, s3⟩
 clear S2 H2
 have hcb7 := s3.cells
 have hfb7 := s3.free
 have s4 := s3.setb 1 (.int .i64 e) rfl
 clear s3
 have S4 := Lib.hid s4
 clear s4
 go_wp2_with fail
 refine (HD.out _ _ S4.out).mono ?_
 rintro ee w3 ⟨A, B, p, q, n, m, rfl, s5⟩
 clear S4 HD hcb7 hfb7
 have s6 := s5.pick 2
 simp only [List.getElem_cons_succ, List.getElem_cons_zero, List.eraseIdx_cons_succ, List.eraseIdx_cons_zero] at s6
 have S6 := Lib.hid s6
 clear s5 s6
 have hc6 := S6.out.cells
 have hf6 := S6.out.free
 go_wp2_with (first | ((with_reducible refine wpList_storeSt S6.out rfl _ _ 27 rfl 2 #[.int .i64 a, .int .i64 b, .int .i64 c, .int .i64 d, .slice A n p, .slice B m q] #[.int .u8 1, .int .i64 e, .int .i64 a, .int .i64 b, .int .i64 c, .int .i64 d, .slice A n p, .slice B m q, .int .i64 0] size_spec ?hn ?hx ?hv ?hf ?h1 ?he ?_); (case hn => rfl); (case hx => rfl); (case hv => rfl); (case hf => simp); (case h1 => simp [Value.oneCell']); (case he => rfl); intro w4 s7; clear hc6 hf6; have hc7 := s7.cells; have hf7 := s7.free; have S7 := Lib.hid s7; clear s7) | fail)
 have s8 := S7.out.pick 1
 simp only [List.getElem_cons_succ, List.getElem_cons_zero, List.eraseIdx_cons_succ, List.eraseIdx_cons_zero] at s8
 have s9 := s8.pick 2
 simp only [List.getElem_cons_succ, List.getElem_cons_zero, List.eraseIdx_cons_succ, List.eraseIdx_cons_zero] at s9
 have s10 := s9.pick 1
 simp only [List.getElem_cons_succ, List.getElem_cons_zero, List.eraseIdx_cons_succ, List.eraseIdx_cons_zero] at s10
 refine (HC.out _ _ _ _ _ _ _ _ s10).mono ?_
 rintro ee w5 ⟨rfl, s11⟩
 clear s8 s9 s10 S7 hc7 hf7 HC
 have s12 := s11.pick 3
 simp only [List.getElem_cons_succ, List.getElem_cons_zero, List.eraseIdx_cons_succ, List.eraseIdx_cons_zero] at s12
 have S12 := Lib.hid s12
 have hc12 := (S12.out.pick 3).cells
 clear s11 s12
 go_wp2_with (first | ((with_reducible refine wpList_storeSt S12.out rfl _ _ 29 rfl 0 #[.int .u8 0, .int .i64 0, .int .i64 0, .int .i64 0, .int .i64 0, .int .i64 0, .slice none 0 0, .slice none 0 0, .int .i64 0] #[.int .u8 0, .int .i64 0, .int .i64 0, .int .i64 0, .int .i64 0, .int .i64 0, .slice none 0 0, .slice none 0 0, .int .i64 0] size_cmd ?hn ?hx ?hv ?hf ?h1 ?he ?_); (case hn => rfl); (case hx => rfl); (case hv => rfl); (case hf => simp); (case h1 => simp [Value.oneCell']); (case he => rfl); intro wz sz; have hcz := sz.cells; have hfz := sz.free; have SZ := Lib.hid sz; clear sz)| fail)
 refine bodyPost_ret (v := .tuple #[.agg #[.int .u8 0, .int .i64 0, .int .i64 0, .int .i64 0, .int .i64 0, .int .i64 0, .slice none 0 0, .slice none 0 0, .int .i64 0], .int .i64 4]) (by simp [results, Try.results20, go_sem, hcz]) rfl ?_
 exact ⟨rfl, SZ.out.drop.drop.drop.drop⟩
set_option maxRecDepth 100000 in
set_option maxHeartbeats 1000000 in
theorem cdec_pok {w0 w : World} {L : List HP} (l : List UInt8) (r1 r2 r3 : List UInt8) (e a b c d er : Int) (ps : List Int) (ts : List TX) (E : Int) (h : St w0 w L)
  (hl : l.length ≤ 1024)
  (H1 : Go.RowKit.Hid (∀ (W : World) (M : List HP), St w0 W M → Calls Try.prog 43 #[.string (YtkhcdichdnbcmaaR.Ext.mkB l), .int .i64 3] W fun ee w' => ee = .returned (.tuple #[.int .i64 1, .string (YtkhcdichdnbcmaaR.Ext.mkB r1), .bool true]) ∧ St w0 w' M))
  (H2 : Go.RowKit.Hid (∀ (W : World) (M : List HP), St w0 W M → Calls Try.prog 43 #[.string (YtkhcdichdnbcmaaR.Ext.mkB r1), .int .i64 1099511627776] W fun ee w' => ee = .returned (.tuple #[.int .i64 e, .string (YtkhcdichdnbcmaaR.Ext.mkB r2), .bool true]) ∧ St w0 w' M))
  (her : er = 0) (hr : r3 = []) (hE : E = 0)
  (HD : Go.RowKit.Hid (∀ (W : World) (M : List HP), St w0 W M → Calls Try.prog 44 #[.string (YtkhcdichdnbcmaaR.Ext.mkB r2)] W fun ee w' => ∃ A B p q n m, ee = .returned (.tuple #[.agg #[.int .i64 a, .int .i64 b, .int .i64 c, .int .i64 d, .slice A n p, .slice B m q], .string (YtkhcdichdnbcmaaR.Ext.mkB r3), .int .i64 er]) ∧ St w0 w' (RI (.slice A n p) ps :: RT (.slice B m q) ts :: M)))
  (HC : Go.RowKit.Hid (∀ (W : World) (M : List HP) (A B : Option Addr) (n m p q : Nat), St w0 W (RI (.slice A n p) ps :: RT (.slice B m q) ts :: M) → Calls Try.prog 17 #[.agg #[.int .u8 1, .int .i64 e, .int .i64 a, .int .i64 b, .int .i64 c, .int .i64 d, .slice A n p, .slice B m q, .int .i64 0]] W fun ee w' => ee = .returned (.int .i64 E) ∧ St w0 w' (RI (.slice A n p) ps :: RT (.slice B m q) ts :: M))) :
  Calls Try.prog 20 #[.string (YtkhcdichdnbcmaaR.Ext.mkB l)] w fun ee w' => ∃ A B n m p q, ee = .returned (.tuple #[.agg #[.int .u8 1, .int .i64 e, .int .i64 a, .int .i64 b, .int .i64 c, .int .i64 d, .slice A n p, .slice B m q, .int .i64 0], .int .i64 0]) ∧ St w0 w' (RI (.slice A n p) ps :: RT (.slice B m q) ts :: L) := by
 subst her
 have g1 : ((YtkhcdichdnbcmaaR.Ext.mkB r3).toList == ([] : List UInt8)) = true := by rw [toList_mkB]; subst hr; rfl
 have g2 : ((YtkhcdichdnbcmaaR.Ext.mkB r3).toList != ([] : List UInt8)) = false := by rw [toList_mkB]; subst hr; rfl
 clear hr
 have g3 : (E != 0) = false := by subst hE; rfl
 clear hE
 have hsz := mkB_size l
 have f1 : decide (1024 < ((YtkhcdichdnbcmaaR.Ext.mkB l).size : Int)) = false := decide_eq_false (by rw [hsz]; omega)
 have f2 : decide (1024 < (YtkhcdichdnbcmaaR.Ext.mkB l).size) = false := decide_eq_false (by rw [hsz]; omega)
 have f3 : (1024 < (YtkhcdichdnbcmaaR.Ext.mkB l).size) = False := eq_false (by rw [hsz]; omega)
 clear hsz hl
 have s0 := h.alloc #[.int .u8 0, .int .i64 0, .int .i64 0, .int .i64 0, .int .i64 0, .int .i64 0, .slice none 0 0, .slice none 0 0, .int .i64 0] tCm
 clear h
 have S0 := Lib.hid s0
 clear s0
 go_enter Try.func20, Try.ntmps20
 go_wp2_with fail
 generalize w.heap.size = b2 at *
 refine (H1.out _ _ S0.out).mono ?_
 rintro ee w1 ⟨rfl, s1⟩
 clear S0 H1 f1 f2 f3
 have s2 := s1.alloc #[.int .u8 1, .int .i64 0, .int .i64 0, .int .i64 0, .int .i64 0, .int .i64 0, .slice none 0 0, .slice none 0 0, .int .i64 0] tCm
 clear s1
 have S2 := Lib.hid s2
 clear s2
 go_wp2_with fail
 generalize w1.heap.size = b7 at *
 refine (H2.out _ _ S2.out).mono ?_
 rintro ee w2 ⟨rfl, s3⟩
 clear S2 H2
 have hcb7 := s3.cells
 have hfb7 := s3.free
 have s4 := s3.setb 1 (.int .i64 e) rfl
 clear s3
 have S4 := Lib.hid s4
 clear s4
 go_wp2_with fail
 refine (HD.out _ _ S4.out).mono ?_
 rintro ee w3 ⟨A, B, p, q, n, m, rfl, s5⟩
 clear S4 HD hcb7 hfb7
 have s6 := s5.pick 2
 simp only [List.getElem_cons_succ, List.getElem_cons_zero, List.eraseIdx_cons_succ, List.eraseIdx_cons_zero] at s6
 have S6 := Lib.hid s6
 clear s5 s6
 have hc6 := S6.out.cells
 have hf6 := S6.out.free
 go_wp2_with (first | ((with_reducible refine wpList_storeSt S6.out rfl _ _ 27 rfl 2 #[.int .i64 a, .int .i64 b, .int .i64 c, .int .i64 d, .slice A n p, .slice B m q] #[.int .u8 1, .int .i64 e, .int .i64 a, .int .i64 b, .int .i64 c, .int .i64 d, .slice A n p, .slice B m q, .int .i64 0] size_spec ?hn ?hx ?hv ?hf ?h1 ?he ?_); (case hn => rfl); (case hx => rfl); (case hv => rfl); (case hf => simp); (case h1 => simp [Value.oneCell']); (case he => rfl); intro w4 s7; clear hc6 hf6; have hc7 := s7.cells; have hf7 := s7.free; have S7 := Lib.hid s7; clear s7) | fail)
 have s8 := S7.out.pick 1
 simp only [List.getElem_cons_succ, List.getElem_cons_zero, List.eraseIdx_cons_succ, List.eraseIdx_cons_zero] at s8
 have s9 := s8.pick 2
 simp only [List.getElem_cons_succ, List.getElem_cons_zero, List.eraseIdx_cons_succ, List.eraseIdx_cons_zero] at s9
 have s10 := s9.pick 1
 simp only [List.getElem_cons_succ, List.getElem_cons_zero, List.eraseIdx_cons_succ, List.eraseIdx_cons_zero] at s10
 refine (HC.out _ _ _ _ _ _ _ _ s10).mono ?_
 rintro ee w5 ⟨rfl, s11⟩
 clear s8 s9 s10 S7 hc7 hf7 HC
 have s12 := s11.pick 3
 simp only [List.getElem_cons_succ, List.getElem_cons_zero, List.eraseIdx_cons_succ, List.eraseIdx_cons_zero] at s12
 have S12 := Lib.hid s12
 have hc12 := (S12.out.pick 3).cells
 clear s11 s12
 go_wp2_with (first | ((with_reducible refine wpList_storeSt S12.out rfl _ _ 29 rfl 0 #[.int .u8 1, .int .i64 e, .int .i64 a, .int .i64 b, .int .i64 c, .int .i64 d, .slice A n p, .slice B m q, .int .i64 0] #[.int .u8 1, .int .i64 e, .int .i64 a, .int .i64 b, .int .i64 c, .int .i64 d, .slice A n p, .slice B m q, .int .i64 0] size_cmd ?hn ?hx ?hv ?hf ?h1 ?he ?_); (case hn => rfl); (case hx => rfl); (case hv => rfl); (case hf => simp); (case h1 => simp [Value.oneCell']); (case he => rfl); intro wz sz; have hcz := sz.cells; have hfz := sz.free; have SZ := Lib.hid sz; clear sz)| fail)
 refine bodyPost_ret (v := .tuple #[.agg #[.int .u8 1, .int .i64 e, .int .i64 a, .int .i64 b, .int .i64 c, .int .i64 d, .slice A n p, .slice B m q, .int .i64 0], .int .i64 0]) (by simp [results, Try.results20, go_sem, hcz]) rfl ?_
 have t1 := SZ.out.drop
 have t2 := t1.pick 2
 simp only [List.getElem_cons_succ, List.getElem_cons_zero, List.eraseIdx_cons_succ, List.eraseIdx_cons_zero] at t2
 exact ⟨A, B, n, m, p, q, rfl, t2.drop⟩
set_option maxRecDepth 100000 in
set_option maxHeartbeats 1000000 in
theorem cdec_in {w0 w : World} {L : List HP} (l : List UInt8) (r1 r2 r3 : List UInt8) (k e x : Int) (h : St w0 w L)
  (hl : l.length ≤ 1024)
  (hk : 0 ≤ k ∧ k ≤ 3) (hne : k ≠ 1)
  (H1 : Go.RowKit.Hid (∀ (W : World) (M : List HP), St w0 W M → Calls Try.prog 43 #[.string (YtkhcdichdnbcmaaR.Ext.mkB l), .int .i64 3] W fun ee w' => ee = .returned (.tuple #[.int .i64 k, .string (YtkhcdichdnbcmaaR.Ext.mkB r1), .bool true]) ∧ St w0 w' M))
  (H2 : Go.RowKit.Hid (∀ (W : World) (M : List HP), St w0 W M → Calls Try.prog 43 #[.string (YtkhcdichdnbcmaaR.Ext.mkB r1), .int .i64 1099511627776] W fun ee w' => ee = .returned (.tuple #[.int .i64 e, .string (YtkhcdichdnbcmaaR.Ext.mkB r2), .bool true]) ∧ St w0 w' M))
  (H3 : Go.RowKit.Hid (∀ (W : World) (M : List HP), St w0 W M → Calls Try.prog 43 #[.string (YtkhcdichdnbcmaaR.Ext.mkB r2), .int .i64 2147483648] W fun ee w' => ee = .returned (.tuple #[.int .i64 x, .string (YtkhcdichdnbcmaaR.Ext.mkB r3), .bool false]) ∧ St w0 w' M)) :
  Calls Try.prog 20 #[.string (YtkhcdichdnbcmaaR.Ext.mkB l)] w fun ee w' => ee = .returned (.tuple #[.agg #[.int .u8 0, .int .i64 0, .int .i64 0, .int .i64 0, .int .i64 0, .int .i64 0, .slice none 0 0, .slice none 0 0, .int .i64 0], .int .i64 4]) ∧ St w0 w' L := by
 have hcv : IntKind.u8.wrap k = k := by unfold IntKind.wrap; simp [IntKind.bits, IntKind.signed]; omega
 clear hk
 have hk1 : (k == 1) = false := beq_eq_false_iff_ne.mpr hne
 have hk2 : decide (k = 1) = false := decide_eq_false hne
 have hk3 : (k = 1) = False := eq_false hne
 clear hne
 have hsz := mkB_size l
 have f1 : decide (1024 < ((YtkhcdichdnbcmaaR.Ext.mkB l).size : Int)) = false := decide_eq_false (by rw [hsz]; omega)
 have f2 : decide (1024 < (YtkhcdichdnbcmaaR.Ext.mkB l).size) = false := decide_eq_false (by rw [hsz]; omega)
 have f3 : (1024 < (YtkhcdichdnbcmaaR.Ext.mkB l).size) = False := eq_false (by rw [hsz]; omega)
 clear hsz hl
 have s0 := h.alloc #[.int .u8 0, .int .i64 0, .int .i64 0, .int .i64 0, .int .i64 0, .int .i64 0, .slice none 0 0, .slice none 0 0, .int .i64 0] tCm
 clear h
 have S0 := Lib.hid s0
 clear s0
 go_enter Try.func20, Try.ntmps20
 go_wp2_with fail
 generalize w.heap.size = b2 at *
 refine (H1.out _ _ S0.out).mono ?_
 rintro ee w1 ⟨rfl, s1⟩
 clear S0 H1 f1 f2 f3
 have s2 := s1.alloc #[.int .u8 k, .int .i64 0, .int .i64 0, .int .i64 0, .int .i64 0, .int .i64 0, .slice none 0 0, .slice none 0 0, .int .i64 0] tCm
 clear s1
 have S2 := Lib.hid s2
 clear s2
 go_wp2_with fail
 generalize w1.heap.size = b7 at *
 refine (H2.out _ _ S2.out).mono ?_
 rintro ee w2 ⟨rfl, s3⟩
 clear S2 H2
 have hcb7 := s3.cells
 have hfb7 := s3.free
 have s4 := s3.setb 1 (.int .i64 e) rfl
 clear s3
 have S4 := Lib.hid s4
 clear s4
 go_wp2_with fail
 refine (H3.out _ _ S4.out).mono ?_
 rintro ee w3 ⟨rfl, s5⟩
 clear S4 H3 hcb7 hfb7
 have hc5 := s5.cells
 have hf5 := s5.free
 have s6 := s5.setb 8 (.int .i64 x) rfl
 clear s5
 have s7 := s6.pick 1
 simp only [List.getElem_cons_succ, List.getElem_cons_zero, List.eraseIdx_cons_succ, List.eraseIdx_cons_zero] at s7
 have S7 := Lib.hid s7
 clear s6 s7
 go_wp2_with (first | ((with_reducible refine wpList_storeSt S7.out rfl _ _ 29 rfl 0 #[.int .u8 0, .int .i64 0, .int .i64 0, .int .i64 0, .int .i64 0, .int .i64 0, .slice none 0 0, .slice none 0 0, .int .i64 0] #[.int .u8 0, .int .i64 0, .int .i64 0, .int .i64 0, .int .i64 0, .int .i64 0, .slice none 0 0, .slice none 0 0, .int .i64 0] size_cmd ?hn ?hx ?hv ?hf ?h1 ?he ?_); (case hn => rfl); (case hx => rfl); (case hv => rfl); (case hf => simp); (case h1 => simp [Value.oneCell']); (case he => rfl); intro wz sz; have hcz := sz.cells; have hfz := sz.free; have SZ := Lib.hid sz; clear sz) | fail)
 refine bodyPost_ret (v := .tuple #[.agg #[.int .u8 0, .int .i64 0, .int .i64 0, .int .i64 0, .int .i64 0, .int .i64 0, .slice none 0 0, .slice none 0 0, .int .i64 0], .int .i64 4]) (by simp [results, Try.results20, go_sem, hcz]) rfl ?_
 exact ⟨rfl, SZ.out.drop.drop⟩
set_option maxRecDepth 100000 in
set_option maxHeartbeats 1000000 in
theorem cdec_ir {w0 w : World} {L : List HP} (l : List UInt8) (r1 r2 r3 : List UInt8) (k e x : Int) (h : St w0 w L)
  (hl : l.length ≤ 1024)
  (hk : 0 ≤ k ∧ k ≤ 3) (hne : k ≠ 1)
  (H1 : Go.RowKit.Hid (∀ (W : World) (M : List HP), St w0 W M → Calls Try.prog 43 #[.string (YtkhcdichdnbcmaaR.Ext.mkB l), .int .i64 3] W fun ee w' => ee = .returned (.tuple #[.int .i64 k, .string (YtkhcdichdnbcmaaR.Ext.mkB r1), .bool true]) ∧ St w0 w' M))
  (H2 : Go.RowKit.Hid (∀ (W : World) (M : List HP), St w0 W M → Calls Try.prog 43 #[.string (YtkhcdichdnbcmaaR.Ext.mkB r1), .int .i64 1099511627776] W fun ee w' => ee = .returned (.tuple #[.int .i64 e, .string (YtkhcdichdnbcmaaR.Ext.mkB r2), .bool true]) ∧ St w0 w' M))
  (H3 : Go.RowKit.Hid (∀ (W : World) (M : List HP), St w0 W M → Calls Try.prog 43 #[.string (YtkhcdichdnbcmaaR.Ext.mkB r2), .int .i64 2147483648] W fun ee w' => ee = .returned (.tuple #[.int .i64 x, .string (YtkhcdichdnbcmaaR.Ext.mkB r3), .bool true]) ∧ St w0 w' M))
  (hr : r3 ≠ []) :
  Calls Try.prog 20 #[.string (YtkhcdichdnbcmaaR.Ext.mkB l)] w fun ee w' => ee = .returned (.tuple #[.agg #[.int .u8 0, .int .i64 0, .int .i64 0, .int .i64 0, .int .i64 0, .int .i64 0, .slice none 0 0, .slice none 0 0, .int .i64 0], .int .i64 4]) ∧ St w0 w' L := by
 have hcv : IntKind.u8.wrap k = k := by unfold IntKind.wrap; simp [IntKind.bits, IntKind.signed]; omega
 clear hk
 have hk1 : (k == 1) = false := beq_eq_false_iff_ne.mpr hne
 have hk2 : decide (k = 1) = false := decide_eq_false hne
 have hk3 : (k = 1) = False := eq_false hne
 clear hne
 have g1 : ((YtkhcdichdnbcmaaR.Ext.mkB r3).toList == ([] : List UInt8)) = false := by rw [toList_mkB]; exact beq_eq_false_iff_ne.mpr hr
 have g2 : ((YtkhcdichdnbcmaaR.Ext.mkB r3).toList != ([] : List UInt8)) = true := by rw [toList_mkB]; exact bne_iff_ne.mpr hr
 clear hr
 have hsz := mkB_size l
 have f1 : decide (1024 < ((YtkhcdichdnbcmaaR.Ext.mkB l).size : Int)) = false := decide_eq_false (by rw [hsz]; omega)
 have f2 : decide (1024 < (YtkhcdichdnbcmaaR.Ext.mkB l).size) = false := decide_eq_false (by rw [hsz]; omega)
 have f3 : (1024 < (YtkhcdichdnbcmaaR.Ext.mkB l).size) = False := eq_false (by rw [hsz]; omega)
 clear hsz hl
 have s0 := h.alloc #[.int .u8 0, .int .i64 0, .int .i64 0, .int .i64 0, .int .i64 0, .int .i64 0, .slice none 0 0, .slice none 0 0, .int .i64 0] tCm
 clear h
 have S0 := Lib.hid s0
 clear s0
 go_enter Try.func20, Try.ntmps20
 go_wp2_with fail
 generalize w.heap.size = b2 at *
 refine (H1.out _ _ S0.out).mono ?_
 rintro ee w1 ⟨rfl, s1⟩
 clear S0 H1 f1 f2 f3
 have s2 := s1.alloc #[.int .u8 k, .int .i64 0, .int .i64 0, .int .i64 0, .int .i64 0, .int .i64 0, .slice none 0 0, .slice none 0 0, .int .i64 0] tCm
 clear s1
 have S2 := Lib.hid s2
 clear s2
 go_wp2_with fail
 generalize w1.heap.size = b7 at *
 refine (H2.out _ _ S2.out).mono ?_
 rintro ee w2 ⟨rfl, s3⟩
 clear S2 H2
 have hcb7 := s3.cells
 have hfb7 := s3.free
 have s4 := s3.setb 1 (.int .i64 e) rfl
 clear s3
 have S4 := Lib.hid s4
 clear s4
 go_wp2_with fail
 refine (H3.out _ _ S4.out).mono ?_
 rintro ee w3 ⟨rfl, s5⟩
 clear S4 H3 hcb7 hfb7
 have hc5 := s5.cells
 have hf5 := s5.free
 have s6 := s5.setb 8 (.int .i64 x) rfl
 clear s5
 have s7 := s6.pick 1
 simp only [List.getElem_cons_succ, List.getElem_cons_zero, List.eraseIdx_cons_succ, List.eraseIdx_cons_zero] at s7
 have S7 := Lib.hid s7
 clear s6 s7
 go_wp2_with (first | ((with_reducible refine wpList_storeSt S7.out rfl _ _ 29 rfl 0 #[.int .u8 0, .int .i64 0, .int .i64 0, .int .i64 0, .int .i64 0, .int .i64 0, .slice none 0 0, .slice none 0 0, .int .i64 0] #[.int .u8 0, .int .i64 0, .int .i64 0, .int .i64 0, .int .i64 0, .int .i64 0, .slice none 0 0, .slice none 0 0, .int .i64 0] size_cmd ?hn ?hx ?hv ?hf ?h1 ?he ?_); (case hn => rfl); (case hx => rfl); (case hv => rfl); (case hf => simp); (case h1 => simp [Value.oneCell']); (case he => rfl); intro wz sz; have hcz := sz.cells; have hfz := sz.free; have SZ := Lib.hid sz; clear sz) | fail)
 refine bodyPost_ret (v := .tuple #[.agg #[.int .u8 0, .int .i64 0, .int .i64 0, .int .i64 0, .int .i64 0, .int .i64 0, .slice none 0 0, .slice none 0 0, .int .i64 0], .int .i64 4]) (by simp [results, Try.results20, go_sem, hcz]) rfl ?_
 exact ⟨rfl, SZ.out.drop.drop⟩
set_option maxRecDepth 100000 in
set_option maxHeartbeats 1000000 in
theorem cdec_ic {w0 w : World} {L : List HP} (l : List UInt8) (r1 r2 r3 : List UInt8) (k e x : Int) (E : Int) (h : St w0 w L)
  (hl : l.length ≤ 1024)
  (hk : 0 ≤ k ∧ k ≤ 3) (hne : k ≠ 1)
  (H1 : Go.RowKit.Hid (∀ (W : World) (M : List HP), St w0 W M → Calls Try.prog 43 #[.string (YtkhcdichdnbcmaaR.Ext.mkB l), .int .i64 3] W fun ee w' => ee = .returned (.tuple #[.int .i64 k, .string (YtkhcdichdnbcmaaR.Ext.mkB r1), .bool true]) ∧ St w0 w' M))
  (H2 : Go.RowKit.Hid (∀ (W : World) (M : List HP), St w0 W M → Calls Try.prog 43 #[.string (YtkhcdichdnbcmaaR.Ext.mkB r1), .int .i64 1099511627776] W fun ee w' => ee = .returned (.tuple #[.int .i64 e, .string (YtkhcdichdnbcmaaR.Ext.mkB r2), .bool true]) ∧ St w0 w' M))
  (H3 : Go.RowKit.Hid (∀ (W : World) (M : List HP), St w0 W M → Calls Try.prog 43 #[.string (YtkhcdichdnbcmaaR.Ext.mkB r2), .int .i64 2147483648] W fun ee w' => ee = .returned (.tuple #[.int .i64 x, .string (YtkhcdichdnbcmaaR.Ext.mkB r3), .bool true]) ∧ St w0 w' M))
  (hr : r3 = []) (hE : E ≠ 0)
  (HC : Go.RowKit.Hid (∀ (W : World) (M : List HP), St w0 W M → Calls Try.prog 17 #[.agg #[.int .u8 k, .int .i64 e, .int .i64 0, .int .i64 0, .int .i64 0, .int .i64 0, .slice none 0 0, .slice none 0 0, .int .i64 x]] W fun ee w' => ee = .returned (.int .i64 E) ∧ St w0 w' M)) :
  Calls Try.prog 20 #[.string (YtkhcdichdnbcmaaR.Ext.mkB l)] w fun ee w' => ee = .returned (.tuple #[.agg #[.int .u8 0, .int .i64 0, .int .i64 0, .int .i64 0, .int .i64 0, .int .i64 0, .slice none 0 0, .slice none 0 0, .int .i64 0], .int .i64 4]) ∧ St w0 w' L := by
 have hcv : IntKind.u8.wrap k = k := by unfold IntKind.wrap; simp [IntKind.bits, IntKind.signed]; omega
 clear hk
 have hk1 : (k == 1) = false := beq_eq_false_iff_ne.mpr hne
 have hk2 : decide (k = 1) = false := decide_eq_false hne
 have hk3 : (k = 1) = False := eq_false hne
 clear hne
 have g1 : ((YtkhcdichdnbcmaaR.Ext.mkB r3).toList == ([] : List UInt8)) = true := by rw [toList_mkB]; subst hr; rfl
 have g2 : ((YtkhcdichdnbcmaaR.Ext.mkB r3).toList != ([] : List UInt8)) = false := by rw [toList_mkB]; subst hr; rfl
 clear hr
 have g3 : (E != 0) = true := bne_iff_ne.mpr hE
 clear hE
 have hsz := mkB_size l
 have f1 : decide (1024 < ((YtkhcdichdnbcmaaR.Ext.mkB l).size : Int)) = false := decide_eq_false (by rw [hsz]; omega)
 have f2 : decide (1024 < (YtkhcdichdnbcmaaR.Ext.mkB l).size) = false := decide_eq_false (by rw [hsz]; omega)
 have f3 : (1024 < (YtkhcdichdnbcmaaR.Ext.mkB l).size) = False := eq_false (by rw [hsz]; omega)
 clear hsz hl
 have s0 := h.alloc #[.int .u8 0, .int .i64 0, .int .i64 0, .int .i64 0, .int .i64 0, .int .i64 0, .slice none 0 0, .slice none 0 0, .int .i64 0] tCm
 clear h
 have S0 := Lib.hid s0
 clear s0
 go_enter Try.func20, Try.ntmps20
 go_wp2_with fail
 generalize w.heap.size = b2 at *
 refine (H1.out _ _ S0.out).mono ?_
 rintro ee w1 ⟨rfl, s1⟩
 clear S0 H1 f1 f2 f3
 have s2 := s1.alloc #[.int .u8 k, .int .i64 0, .int .i64 0, .int .i64 0, .int .i64 0, .int .i64 0, .slice none 0 0, .slice none 0 0, .int .i64 0] tCm
 clear s1
 have S2 := Lib.hid s2
 clear s2
 go_wp2_with fail
 generalize w1.heap.size = b7 at *
 refine (H2.out _ _ S2.out).mono ?_
 rintro ee w2 ⟨rfl, s3⟩
 clear S2 H2
 have hcb7 := s3.cells
 have hfb7 := s3.free
 have s4 := s3.setb 1 (.int .i64 e) rfl
 clear s3
 have S4 := Lib.hid s4
 clear s4
 go_wp2_with fail
 refine (H3.out _ _ S4.out).mono ?_
 rintro ee w3 ⟨rfl, s5⟩
 clear S4 H3 hcb7 hfb7
 have hc5 := s5.cells
 have hf5 := s5.free
 have s6 := s5.setb 8 (.int .i64 x) rfl
 clear s5
 have S6 := Lib.hid s6
 clear s6
 go_wp2_with fail
 refine (HC.out _ _ S6.out).mono ?_
 rintro ee w5 ⟨rfl, s7⟩
 clear S6 hc5 hf5 HC
 have hc7 := s7.cells
 have s8 := s7.pick 1
 simp only [List.getElem_cons_succ, List.getElem_cons_zero, List.eraseIdx_cons_succ, List.eraseIdx_cons_zero] at s8
 have S8 := Lib.hid s8
 clear s7 s8
 go_wp2_with (first | ((with_reducible refine wpList_storeSt S8.out rfl _ _ 29 rfl 0 #[.int .u8 0, .int .i64 0, .int .i64 0, .int .i64 0, .int .i64 0, .int .i64 0, .slice none 0 0, .slice none 0 0, .int .i64 0] #[.int .u8 0, .int .i64 0, .int .i64 0, .int .i64 0, .int .i64 0, .int .i64 0, .slice none 0 0, .slice none 0 0, .int .i64 0] size_cmd ?hn ?hx ?hv ?hf ?h1 ?he ?_); (case hn => rfl); (case hx => rfl); (case hv => rfl); (case hf => simp); (case h1 => simp [Value.oneCell']); (case he => rfl); intro wz sz; have hcz := sz.cells; have hfz := sz.free; have SZ := Lib.hid sz; clear sz) | fail)
 refine bodyPost_ret (v := .tuple #[.agg #[.int .u8 0, .int .i64 0, .int .i64 0, .int .i64 0, .int .i64 0, .int .i64 0, .slice none 0 0, .slice none 0 0, .int .i64 0], .int .i64 4]) (by simp [results, Try.results20, go_sem, hcz]) rfl ?_
 exact ⟨rfl, SZ.out.drop.drop⟩
set_option maxRecDepth 100000 in
set_option maxHeartbeats 1000000 in
theorem cdec_iok {w0 w : World} {L : List HP} (l : List UInt8) (r1 r2 r3 : List UInt8) (k e x : Int) (E : Int) (h : St w0 w L)
  (hl : l.length ≤ 1024)
  (hk : 0 ≤ k ∧ k ≤ 3) (hne : k ≠ 1)
  (H1 : Go.RowKit.Hid (∀ (W : World) (M : List HP), St w0 W M → Calls Try.prog 43 #[.string (YtkhcdichdnbcmaaR.Ext.mkB l), .int .i64 3] W fun ee w' => ee = .returned (.tuple #[.int .i64 k, .string (YtkhcdichdnbcmaaR.Ext.mkB r1), .bool true]) ∧ St w0 w' M))
  (H2 : Go.RowKit.Hid (∀ (W : World) (M : List HP), St w0 W M → Calls Try.prog 43 #[.string (YtkhcdichdnbcmaaR.Ext.mkB r1), .int .i64 1099511627776] W fun ee w' => ee = .returned (.tuple #[.int .i64 e, .string (YtkhcdichdnbcmaaR.Ext.mkB r2), .bool true]) ∧ St w0 w' M))
  (H3 : Go.RowKit.Hid (∀ (W : World) (M : List HP), St w0 W M → Calls Try.prog 43 #[.string (YtkhcdichdnbcmaaR.Ext.mkB r2), .int .i64 2147483648] W fun ee w' => ee = .returned (.tuple #[.int .i64 x, .string (YtkhcdichdnbcmaaR.Ext.mkB r3), .bool true]) ∧ St w0 w' M))
  (hr : r3 = []) (hE : E = 0)
  (HC : Go.RowKit.Hid (∀ (W : World) (M : List HP), St w0 W M → Calls Try.prog 17 #[.agg #[.int .u8 k, .int .i64 e, .int .i64 0, .int .i64 0, .int .i64 0, .int .i64 0, .slice none 0 0, .slice none 0 0, .int .i64 x]] W fun ee w' => ee = .returned (.int .i64 E) ∧ St w0 w' M)) :
  Calls Try.prog 20 #[.string (YtkhcdichdnbcmaaR.Ext.mkB l)] w fun ee w' => ee = .returned (.tuple #[.agg #[.int .u8 k, .int .i64 e, .int .i64 0, .int .i64 0, .int .i64 0, .int .i64 0, .slice none 0 0, .slice none 0 0, .int .i64 x], .int .i64 0]) ∧ St w0 w' L := by
 have hcv : IntKind.u8.wrap k = k := by unfold IntKind.wrap; simp [IntKind.bits, IntKind.signed]; omega
 clear hk
 have hk1 : (k == 1) = false := beq_eq_false_iff_ne.mpr hne
 have hk2 : decide (k = 1) = false := decide_eq_false hne
 have hk3 : (k = 1) = False := eq_false hne
 clear hne
 have g1 : ((YtkhcdichdnbcmaaR.Ext.mkB r3).toList == ([] : List UInt8)) = true := by rw [toList_mkB]; subst hr; rfl
 have g2 : ((YtkhcdichdnbcmaaR.Ext.mkB r3).toList != ([] : List UInt8)) = false := by rw [toList_mkB]; subst hr; rfl
 clear hr
 have g3 : (E != 0) = false := by subst hE; rfl
 clear hE
 have hsz := mkB_size l
 have f1 : decide (1024 < ((YtkhcdichdnbcmaaR.Ext.mkB l).size : Int)) = false := decide_eq_false (by rw [hsz]; omega)
 have f2 : decide (1024 < (YtkhcdichdnbcmaaR.Ext.mkB l).size) = false := decide_eq_false (by rw [hsz]; omega)
 have f3 : (1024 < (YtkhcdichdnbcmaaR.Ext.mkB l).size) = False := eq_false (by rw [hsz]; omega)
 clear hsz hl
 have s0 := h.alloc #[.int .u8 0, .int .i64 0, .int .i64 0, .int .i64 0, .int .i64 0, .int .i64 0, .slice none 0 0, .slice none 0 0, .int .i64 0] tCm
 clear h
 have S0 := Lib.hid s0
 clear s0
 go_enter Try.func20, Try.ntmps20
 go_wp2_with fail
 generalize w.heap.size = b2 at *
 refine (H1.out _ _ S0.out).mono ?_
 rintro ee w1 ⟨rfl, s1⟩
 clear S0 H1 f1 f2 f3
 have s2 := s1.alloc #[.int .u8 k, .int .i64 0, .int .i64 0, .int .i64 0, .int .i64 0, .int .i64 0, .slice none 0 0, .slice none 0 0, .int .i64 0] tCm
 clear s1
 have S2 := Lib.hid s2
 clear s2
 go_wp2_with fail
 generalize w1.heap.size = b7 at *
 refine (H2.out _ _ S2.out).mono ?_
 rintro ee w2 ⟨rfl, s3⟩
 clear S2 H2
 have hcb7 := s3.cells
 have hfb7 := s3.free
 have s4 := s3.setb 1 (.int .i64 e) rfl
 clear s3
 have S4 := Lib.hid s4
 clear s4
 go_wp2_with fail
 refine (H3.out _ _ S4.out).mono ?_
 rintro ee w3 ⟨rfl, s5⟩
 clear S4 H3 hcb7 hfb7
 have hc5 := s5.cells
 have hf5 := s5.free
 have s6 := s5.setb 8 (.int .i64 x) rfl
 clear s5
 have S6 := Lib.hid s6
 clear s6
 go_wp2_with fail
 refine (HC.out _ _ S6.out).mono ?_
 rintro ee w5 ⟨rfl, s7⟩
 clear S6 hc5 hf5 HC
 have hc7 := s7.cells
 have s8 := s7.pick 1
 simp only [List.getElem_cons_succ, List.getElem_cons_zero, List.eraseIdx_cons_succ, List.eraseIdx_cons_zero] at s8
 have S8 := Lib.hid s8
 clear s7 s8
 go_wp2_with (first | ((with_reducible refine wpList_storeSt S8.out rfl _ _ 29 rfl 0 #[.int .u8 k, .int .i64 e, .int .i64 0, .int .i64 0, .int .i64 0, .int .i64 0, .slice none 0 0, .slice none 0 0, .int .i64 x] #[.int .u8 k, .int .i64 e, .int .i64 0, .int .i64 0, .int .i64 0, .int .i64 0, .slice none 0 0, .slice none 0 0, .int .i64 x] size_cmd ?hn ?hx ?hv ?hf ?h1 ?he ?_); (case hn => rfl); (case hx => rfl); (case hv => rfl); (case hf => simp); (case h1 => simp [Value.oneCell']); (case he => rfl); intro wz sz; have hcz := sz.cells; have hfz := sz.free; have SZ := Lib.hid sz; clear sz) | fail)
 refine bodyPost_ret (v := .tuple #[.agg #[.int .u8 k, .int .i64 e, .int .i64 0, .int .i64 0, .int .i64 0, .int .i64 0, .slice none 0 0, .slice none 0 0, .int .i64 x], .int .i64 0]) (by simp [results, Try.results20, go_sem, hcz]) rfl ?_
 exact ⟨rfl, SZ.out.drop.drop⟩
theorem chk9_nil {w0 w : World} {L : List HP} (k e id : Int) (h : St w0 w L) (r : Int) (hr : Sp.cmdE ⟨k, e, zSP, id⟩ = r) :
  Calls Try.prog 17 #[.agg #[.int .u8 k, .int .i64 e, .int .i64 0, .int .i64 0, .int .i64 0, .int .i64 0, .slice none 0 0, .slice none 0 0, .int .i64 id]] w fun e w' => e = .returned (.int .i64 r) ∧ St w0 w' L := by
 refine (cmd_Check.calls k e 0 0 0 0 none 0 [] none 0 [] id r w (Kd.C_nil _ _) (Nat.le_refl _) (Kd.C_nil _ _) (Nat.le_refl _) (by unfold cmd_Check.f; rw [← hr]; rfl)).mono ?_
 rintro e w' ⟨rfl, hb⟩
 exact ⟨rfl, h.more hb⟩
theorem back_map (l : List TS) : (l.map ofTS).map toTS = l := by
 rw [List.map_map]
 have : (toTS ∘ ofTS) = id := by funext x; rfl
 rw [this, List.map_id]
theorem spOf_of (s : SP) : spOf s.id s.cpu s.mem s.disk s.ports (s.tasks.map ofTS) = s := by unfold spOf; rw [back_map]
def Dec9 (w0 : World) (L : List HP) (x : CM) (er : Int) (ee : Ending) (w' : World) : Prop := ∃ A B n m p q, ee = .returned (.tuple #[.agg #[.int .u8 x.kind, .int .i64 x.epoch, .int .i64 x.spec.id, .int .i64 x.spec.cpu, .int .i64 x.spec.mem, .int .i64 x.spec.disk, .slice A n p, .slice B m q, .int .i64 x.id], .int .i64 er]) ∧ St w0 w' (RI (.slice A n p) x.spec.ports :: RT (.slice B m q) (x.spec.tasks.map ofTS) :: L)
theorem Dec9.zero {w0 w' : World} {L : List HP} {er : Int} {ee : Ending} (h : ee = .returned (.tuple #[.agg #[.int .u8 0, .int .i64 0, .int .i64 0, .int .i64 0, .int .i64 0, .int .i64 0, .slice none 0 0, .slice none 0 0, .int .i64 0], .int .i64 er]) ∧ St w0 w' L) : Dec9 w0 L zCM er ee w' := by
 obtain ⟨rfl, s⟩ := h
 exact ⟨none, none, 0, 0, 0, 0, rfl, St.rowKNil (flat_int _) (St.rowKNil kX_flat s)⟩
theorem tailP_1 (l : List UInt8) : tailP 1 l = (decS l).map fun x => ((x.1, 0), x.2) := rfl
theorem dec9 {w0 w : World} {L : List HP} (l : List UInt8) (x : CM) (er : Int) (hx : decCR l = (x, er)) (h : St w0 w L) : Calls Try.prog 20 #[.string (YtkhcdichdnbcmaaR.Ext.mkB l)] w (Dec9 w0 L x er) := by
 by_cases hl : 1024 < l.length
 ·unfold decCR at hx
  rw [if_pos hl] at hx
  obtain ⟨rfl, rfl⟩ := Prod.mk.inj hx
  exact (cdec_long l h hl).mono fun _ _ => Dec9.zero
 have hl : l.length ≤ 1024 := by omega
 have hx2 : (match decC l with | some (c, []) => (c, 0) | _ => (zCM, 4)) = (x, er) := by unfold decCR at hx; rw [if_neg (by omega)] at hx; exact hx
 clear hx
 unfold decC rdC wholeP headP seqP at hx2
 have ht : ∀ most : Int, ∀ l, numT most l = match numL most l with | some (n, r) => (n, r, true) | none => (0, [], false) := fun _ _ => rfl
 have N3 := fun (n : Int) (r : List UInt8) (o : Bool) (hq : numT 3 l = (n, r, o)) => Lib.hid (fun (W : World) (M : List HP) (hs : St w0 W M) => number_s 3 (by omega) (by omega) l n r o hq hs)
 cases h1 : numL 3 l with
 | none =>
  rw [h1] at hx2
  simp only [Option.bind_none, Option.map_none] at hx2
  obtain ⟨rfl, rfl⟩ := Prod.mk.inj hx2
  exact (cdec_k l h hl (N3 _ _ _ (by rw [ht, h1]))).mono fun _ _ => Dec9.zero
 | some y =>
  obtain ⟨k, r1⟩ := y
  rw [h1] at hx2
  have hk := ((num_codec (most := 3) (by omega) _ _ _).1 h1).1
  have N4 := fun (n : Int) (r : List UInt8) (o : Bool) (hq : numT 1099511627776 r1 = (n, r, o)) => Lib.hid (fun (W : World) (M : List HP) (hs : St w0 W M) => number_s 1099511627776 (by omega) (by omega) r1 n r o hq hs)
  have N3 := N3 k r1 true (by rw [ht, h1])
  simp only [Option.bind_some] at hx2
  cases h2 : numL 1099511627776 r1 with
  | none =>
   rw [h2] at hx2
   simp only [Option.map_none, Option.bind_none] at hx2
   obtain ⟨rfl, rfl⟩ := Prod.mk.inj hx2
   exact (cdec_e l k r1 h hl hk N3 (N4 _ _ _ (by rw [ht, h2]))).mono fun _ _ => Dec9.zero
  | some y =>
   obtain ⟨e, r2⟩ := y
   rw [h2] at hx2
   have N4 := N4 e r2 true (by rw [ht, h2])
   simp only [Option.map_some, Option.bind_some] at hx2
   by_cases hk1 : k = 1
   ·subst hk1
    rw [tailP_1] at hx2
    cases h3 : decS r2 with
    | none =>
     rw [h3] at hx2
     simp only [Option.map_none, Option.bind_none] at hx2
     obtain ⟨rfl, rfl⟩ := Prod.mk.inj hx2
     have hd : decR r2 = (⟨0, 0, 0, 0, [], []⟩, [], 4) := by unfold decR; rw [h3]; rfl
     exact (cdec_ps l r1 r2 [] e 0 0 0 0 4 [] [] h hl N3 N4 (by omega) (Lib.hid (fun W M hs => dec_s r2 0 0 0 0 [] [] [] 4 hd hs))).mono fun _ _ => Dec9.zero
    | some y =>
     obtain ⟨⟨a, b, c, d, ps, ts⟩, r3⟩ := y
     rw [h3] at hx2
     simp only [Option.map_some, Option.bind_some, toCM] at hx2
     have hd : decR r2 = (⟨a, b, c, d, ps, ts⟩, r3, 0) := by unfold decR; rw [h3]
     have HD := Lib.hid (fun (W : World) (M : List HP) (hs : St w0 W M) => dec_s r2 a b c d ps ts r3 0 hd hs)
     by_cases hr : r3 = []
     ·subst hr
      have hc : ∀ (W : World) (M : List HP) (A B : Option Addr) (n m p q : Nat), St w0 W (RI (.slice A n p) ps :: RT (.slice B m q) (ts.map ofTS) :: M) → _ := fun W M A B n m p q hs => chk9_s 1 e a b c d 0 ps (ts.map ofTS) hs (cmdE ⟨1, e, ⟨a, b, c, d, ps, ts⟩, 0⟩) (by have := spOf_of ⟨a, b, c, d, ps, ts⟩; rw [show spOf a b c d ps (ts.map ofTS) = ⟨a, b, c, d, ps, ts⟩ from this])
      by_cases hE : cmdE ⟨1, e, ⟨a, b, c, d, ps, ts⟩, 0⟩ = 0
      ·rw [if_pos ((okC_iff _).2 hE)] at hx2
       obtain ⟨rfl, rfl⟩ := Prod.mk.inj hx2
       exact cdec_pok l r1 r2 [] e a b c d 0 ps (ts.map ofTS) _ h hl N3 N4 rfl rfl hE HD (Lib.hid hc)
      ·rw [if_neg (fun q => hE ((okC_iff _).1 q))] at hx2
       obtain ⟨rfl, rfl⟩ := Prod.mk.inj hx2
       exact (cdec_pc l r1 r2 [] e a b c d 0 ps (ts.map ofTS) _ h hl N3 N4 rfl rfl hE HD (Lib.hid hc)).mono fun _ _ => Dec9.zero
     ·have hx3 : (zCM, (4 : Int)) = (x, er) := by
       rw [← hx2]
       split
       ·rename_i heq
        split at heq
        ·injection heq with heq
         injection heq with _ heq
         exact absurd heq hr
        ·cases heq
       ·rfl
      obtain ⟨rfl, rfl⟩ := Prod.mk.inj hx3
      exact (cdec_pr l r1 r2 r3 e a b c d 0 ps (ts.map ofTS) h hl N3 N4 rfl hr HD).mono fun _ _ => Dec9.zero
   ·have htp : tailP k r2 = (numL 2147483648 r2).map fun x => ((zSP, x.1), x.2) := by unfold tailP; rw [if_neg hk1]
    rw [htp] at hx2
    have N5 := fun (n : Int) (r : List UInt8) (o : Bool) (hq : numT 2147483648 r2 = (n, r, o)) => Lib.hid (fun (W : World) (M : List HP) (hs : St w0 W M) => number_s 2147483648 (by omega) (by omega) r2 n r o hq hs)
    cases h3 : numL 2147483648 r2 with
    | none =>
     rw [h3] at hx2
     simp only [Option.map_none, Option.bind_none] at hx2
     obtain ⟨rfl, rfl⟩ := Prod.mk.inj hx2
     exact (cdec_in l r1 r2 [] k e 0 h hl hk hk1 N3 N4 (N5 _ _ _ (by rw [ht, h3]))).mono fun _ _ => Dec9.zero
    | some y =>
     obtain ⟨i, r3⟩ := y
     rw [h3] at hx2
     simp only [Option.map_some, Option.bind_some, toCM] at hx2
     have N5 := N5 i r3 true (by rw [ht, h3])
     by_cases hr : r3 = []
     ·subst hr
      have hc := fun (W : World) (M : List HP) (hs : St w0 W M) => chk9_nil k e i hs (cmdE ⟨k, e, zSP, i⟩) rfl
      by_cases hE : cmdE ⟨k, e, zSP, i⟩ = 0
      ·rw [if_pos ((okC_iff _).2 hE)] at hx2
       obtain ⟨rfl, rfl⟩ := Prod.mk.inj hx2
       refine (cdec_iok l r1 r2 [] k e i _ h hl hk hk1 N3 N4 N5 rfl hE (Lib.hid hc)).mono ?_
       rintro ee w' ⟨rfl, s⟩
       exact ⟨none, none, 0, 0, 0, 0, rfl, St.rowKNil (flat_int _) (St.rowKNil kX_flat s)⟩
      ·rw [if_neg (fun q => hE ((okC_iff _).1 q))] at hx2
       obtain ⟨rfl, rfl⟩ := Prod.mk.inj hx2
       exact (cdec_ic l r1 r2 [] k e i _ h hl hk hk1 N3 N4 N5 rfl hE (Lib.hid hc)).mono fun _ _ => Dec9.zero
     ·have hx3 : (zCM, (4 : Int)) = (x, er) := by
       rw [← hx2]
       split
       ·rename_i heq
        split at heq
        ·injection heq with heq
         injection heq with _ heq
         exact absurd heq hr
        ·cases heq
       ·rfl
      obtain ⟨rfl, rfl⟩ := Prod.mk.inj hx3
      exact (cdec_ir l r1 r2 r3 k e i h hl hk hk1 N3 N4 N5 hr).mono fun _ _ => Dec9.zero
end Go.Proofs.YtkhcdichdnbcmaaR
end
section
namespace Go.Proofs.YtkhcdichdnbcmaaR.PureC
open Go.RowKit Go.Proofs.YtkhcdichdnbcmaaR Go.Proofs.YtkhcdichdnbcmaaR.Ext Go.Proofs.YtkhcdichdnbcmaaR.C Go.Proofs.YtkhcdichdnbcmaaRW.PrintWords Go.Proofs.YtkhcdichdnbcmaaRW.PrintLast Go.Proofs.YtkhcdichdnbcmaaRW.PrintMore
open Go.Proofs.YtkhcdichdnbcmaaR.Sp
set_option linter.unusedVariables false
set_option linter.unusedSimpArgs false
theorem w1 {i : Nat} (h : i ≤ 1000) : wrap64 ((i : Int) + 1) = ((i + 1 : Nat) : Int) := by unfold wrap64; omega
theorem rd_at (l : List Int) (i : Nat) (h : i < l.length) : rd l (i : Int) = l[i] := by simp [rd, h]
theorem rdT_at (l : List (S90)) (i : Nat) (h : i < l.length) : rd_T90 l (i : Int) = l[i] := by simp [rd_T90, h]
theorem drop_y {α : Type} (xs ys : List α) (i : Nat) (hx : i < xs.length) (hy : i < ys.length) (h : xs[i] = ys[i]) : (xs.drop i = ys.drop i) ↔ (xs.drop (i + 1) = ys.drop (i + 1)) := by
 rw [List.drop_eq_getElem_cons hx, List.drop_eq_getElem_cons hy, List.cons.injEq]; exact ⟨fun q => q.2, fun q => ⟨h, q⟩⟩
theorem drop_n {α : Type} (xs ys : List α) (i : Nat) (hx : i < xs.length) (hy : i < ys.length) (h : ¬ xs[i] = ys[i]) : ¬ (xs.drop i = ys.drop i) := by
 rw [List.drop_eq_getElem_cons hx, List.drop_eq_getElem_cons hy, List.cons.injEq]; exact fun q => h q.1
theorem eqInts_l0 (xs ys : List Int) (hl : xs.length = ys.length) (hm : xs.length ≤ 1000) (d : Nat) : ∀ k i : Nat, i + d = xs.length → d < k → sacristankit_EqualInts.l0 k xs ys i = some (decide (xs.drop i = ys.drop i)) := by
 induction d with
 | zero =>
  intro k i hi hk
  obtain ⟨k, rfl⟩ : ∃ m, k = m + 1 := ⟨k - 1, by omega⟩
  simp only [sacristankit_EqualInts.l0]
  rw [if_neg (by omega), List.drop_eq_nil_of_le (by omega), List.drop_eq_nil_of_le (by omega)]
  simp
 | succ d ih =>
  intro k i hi hk
  obtain ⟨k, rfl⟩ : ∃ m, k = m + 1 := ⟨k - 1, by omega⟩
  simp only [sacristankit_EqualInts.l0]
  rw [if_pos (by omega), if_pos (by omega), if_pos (by omega), rd_at xs i (by omega), rd_at ys i (by omega)]
  by_cases h : xs[i] = ys[i]
  ·rw [if_pos h, w1 (by omega), ih k (i + 1) (by omega) (by omega), decide_eq_decide.2 (drop_y xs ys i (by omega) (by omega) h)]
  ·rw [if_neg h, decide_eq_false (drop_n xs ys i (by omega) (by omega) h)]
theorem eqInts (k : Nat) (xs ys : List Int) (hm : xs.length ≤ 1000) (hk : xs.length < k) : sacristankit_EqualInts.f k xs ys = some (decide (xs = ys)) := by
 unfold sacristankit_EqualInts.f
 by_cases h : xs.length = ys.length
 ·rw [if_pos (by omega)]
  have := eqInts_l0 xs ys h hm xs.length k 0 (by omega) hk
  simpa using this
 ·rw [if_neg (by omega)]
  have : ¬ xs = ys := fun e => h (by rw [e])
  simp [this]
theorem cond_ne (x y : S90) : ((!(x.f0.f0 == y.f0.f0) || (!(x.f0.f1 == y.f0.f1) || (!(x.f0.f2 == y.f0.f2) || (!(x.f0.f3 == y.f0.f3) || (!(x.f0.f4 == y.f0.f4)))))) || (!(x.f1 == y.f1))) = !decide (toTS x = toTS y) := by
 rw [Bool.eq_iff_iff]
 simp [toTS, -Bool.not_eq_eq_eq_not]
 grind
theorem eqTs_l0 (xs ys : List (S90)) (hl : xs.length = ys.length) (hm : xs.length ≤ 1000) (d : Nat) : ∀ k i : Nat, i + d = xs.length → d < k → sacristankit_EqualTaskSpecs.l0 k xs ys i = some (decide ((xs.drop i).map toTS = (ys.drop i).map toTS)) := by
 induction d with
 | zero =>
  intro k i hi hk
  obtain ⟨k, rfl⟩ : ∃ m, k = m + 1 := ⟨k - 1, by omega⟩
  simp only [sacristankit_EqualTaskSpecs.l0]
  rw [if_neg (by omega), List.drop_eq_nil_of_le (by omega), List.drop_eq_nil_of_le (by omega)]
  simp
 | succ d ih =>
  intro k i hi hk
  obtain ⟨k, rfl⟩ : ∃ m, k = m + 1 := ⟨k - 1, by omega⟩
  simp only [sacristankit_EqualTaskSpecs.l0]
  rw [if_pos (by omega), if_pos (by omega), if_pos (by omega), cond_ne, rdT_at xs i (by omega), rdT_at ys i (by omega)]
  by_cases h : toTS xs[i] = toTS ys[i]
  ·rw [if_neg (by simp [h]), w1 (by omega), ih k (i + 1) (by omega) (by omega), List.map_drop, List.map_drop, List.map_drop, List.map_drop, decide_eq_decide.2 (drop_y (xs.map toTS) (ys.map toTS) i (by rw [List.length_map]; omega) (by rw [List.length_map]; omega) (by simpa using h))]
  ·rw [if_pos (by simp [h]), List.map_drop, List.map_drop, decide_eq_false (drop_n (xs.map toTS) (ys.map toTS) i (by rw [List.length_map]; omega) (by rw [List.length_map]; omega) (by simpa using h))]
theorem eqTs (k : Nat) (xs ys : List (S90)) (hm : xs.length ≤ 1000) (hk : xs.length < k) : sacristankit_EqualTaskSpecs.f k xs ys = some (decide (xs.map toTS = ys.map toTS)) := by
 unfold sacristankit_EqualTaskSpecs.f
 by_cases h : xs.length = ys.length
 ·rw [if_pos (by omega)]
  have := eqTs_l0 xs ys h hm xs.length k 0 (by omega) hk
  simpa using this
 ·rw [if_neg (by omega)]
  have : ¬ xs.map toTS = ys.map toTS := fun e => h (by have := congrArg List.length e; simpa using this)
  simp [this]
theorem spOf_eq (a b c d a' b' c' d' : Int) (l l' : List Int) (m m' : List (S90)) : (spOf a b c d l m = spOf a' b' c' d' l' m') ↔ a = a' ∧ (b = b' ∧ c = c' ∧ d = d') ∧ l = l' ∧ m.map toTS = m'.map toTS := by
 unfold spOf
 simp only [SP.mk.injEq]
 constructor
 ·rintro ⟨h1, h2, h3, h4, h5, h6⟩; exact ⟨h1, ⟨h2, h3, h4⟩, h5, h6⟩
 ·rintro ⟨h1, ⟨h2, h3, h4⟩, h5, h6⟩; exact ⟨h1, h2, h3, h4, h5, h6⟩
theorem eqSpec (k : Nat) (a b c d a' b' c' d' : Int) (l l' : List Int) (m m' : List (S90)) (h1 : l.length ≤ 1000) (h2 : m.length ≤ 1000) (k1 : l.length < k) (k2 : m.length < k) :
  sacristankit_EqualSpec.f k a b c d l m a' b' c' d' l' m' = some (decide (spOf a b c d l m = spOf a' b' c' d' l' m')) := by
 unfold sacristankit_EqualSpec.f
 rw [eqInts k l l' h1 k1, eqTs k m m' h2 k2]
 simp only [Option.bind_some]
 by_cases q1 : a = a'
 ·by_cases q2 : (b == b' && (c == c' && (d == d'))) = true
  ·rw [if_pos q1, if_pos q2]
   simp only [Bool.and_eq_true, beq_iff_eq] at q2
   by_cases q3 : l = l'
   ·simp [spOf_eq, q1, q2, q3]
   ·simp [spOf_eq, q1, q2, q3]
  ·rw [if_pos q1, if_neg q2]
   simp only [Bool.and_eq_true, beq_iff_eq] at q2
   have : ¬ spOf a b c d l m = spOf a' b' c' d' l' m' := fun e => q2 ((spOf_eq _ _ _ _ _ _ _ _ _ _ _ _).1 e).2.1
   simp [this]
 ·rw [if_neg q1]
  have : ¬ spOf a b c d l m = spOf a' b' c' d' l' m' := fun e => q1 ((spOf_eq _ _ _ _ _ _ _ _ _ _ _ _).1 e).1
  simp [this]
theorem mn_nat (n m : Nat) : mn (n : Int) (m : Int) = ((min n m : Nat) : Int) := by unfold mn; split <;> omega
theorem few (a b c d : Int) (l : List Int) (m : List (S90)) : sacristanlaw13_Few.f a b c d l m = some (a, b, c, d, l.take 20, m.take 10) := by
 unfold sacristanlaw13_Few.f
 have e1 := mn_nat l.length 20
 have e2 := mn_nat m.length 10
 have e1 : mn (l.length : Int) 20 = ((min l.length 20 : Nat) : Int) := e1
 have e2 : mn (m.length : Int) 10 = ((min m.length 10 : Nat) : Int) := e2
 rw [e1, e2, if_pos (by omega), if_pos (by omega), Int.toNat_natCast, Int.toNat_natCast]
 have t1 : l.take (min l.length 20) = l.take 20 := by rw [List.take_eq_take_iff]; omega
 have t2 : m.take (min m.length 10) = m.take 10 := by rw [List.take_eq_take_iff]; omega
 rw [t1, t2]
 unfold sacristankit_CopyInts.f sacristankit_CopyTaskSpecs.f
 rw [if_pos (by rw [List.length_take]; omega), Option.bind_some, if_pos (by omega), if_pos (by omega), if_pos (by simp; omega), Option.bind_some]
 simp
theorem eqCmd (k : Nat) (x0 x1 a b c d x8 y0 y1 a' b' c' d' y8 : Int) (l l' : List Int) (m m' : List (S90)) (h1 : l.length ≤ 1000) (h2 : m.length ≤ 1000) (k1 : l.length < k) (k2 : m.length < k) :
  sacristankit_EqualCommand.f k x0 x1 a b c d l m x8 y0 y1 a' b' c' d' l' m' y8 = some (decide ((⟨x0, x1, spOf a b c d l m, x8⟩ : CM) = ⟨y0, y1, spOf a' b' c' d' l' m', y8⟩)) := by
 unfold sacristankit_EqualCommand.f
 rw [eqSpec k a b c d a' b' c' d' l l' m m' h1 h2 k1 k2]
 simp only [Option.bind_some, CM.mk.injEq]
 grind
end Go.Proofs.YtkhcdichdnbcmaaR.PureC
namespace Go.Proofs.YtkhcdichdnbcmaaR
open Go.RowKit Go.Proofs.YtkhcdichdnbcmaaR Go.Proofs.YtkhcdichdnbcmaaR.Ext Go.Proofs.YtkhcdichdnbcmaaR.C Go.Proofs.YtkhcdichdnbcmaaR.Sp Go.Proofs.YtkhcdichdnbcmaaRW.PrintWords Go.Proofs.YtkhcdichdnbcmaaRW.PrintLast
set_option linter.unusedVariables false
set_option linter.unusedSimpArgs false
theorem few_a {w0 w : World} {L : List HP} (a b c d : Int) {A B : Option Addr} {n m p q : Nat} (ps : List Int) (ts : List TX) (c1 : Kd.C (Kd.int .i64) w0 A ps.length ps) (e1 : n = ps.length) (l1 : n ≤ p) (c2 : Kd.C k90 w0 B ts.length ts) (e2 : m = ts.length) (l2 : m ≤ q) : FewOf w0 L a b c d A B n m p q (ps.take 20) (ts.take 10) := by
 intro W P Q h
 subst e1; subst e2
 refine (sacristanlaw13_Few.calls a b c d A p ps B q ts _ _ _ _ _ _ W (Kd.C_below c1 h.bel) l1 (Kd.C_below c2 h.bel) l2 (PureC.few a b c d ps ts)).mono ?_
 rintro e w' ⟨v4, v5, rfl, h4, h5, hb⟩
 obtain ⟨A, n, c, rfl⟩ := R_slice3 h4
 obtain ⟨B, m, d, rfl⟩ := R_slice3 h5
 exact ⟨A, B, c, d, n, m, rfl, h.rows2 (flat_int _) kX_flat (by decide) hb h4 h5⟩
theorem few_s {w0 : World} {L : List HP} (a b c d : Int) {A B : Option Addr} {n m p q : Nat} (ps : List Int) (ts : List TX) (hp : ps.length ≤ 20) (ht : ts.length ≤ 10) : FewOf w0 (RI (.slice A n p) ps :: RT (.slice B m q) ts :: L) a b c d A B n m p q ps ts := by
 intro W P Q h
 obtain ⟨c1, e1, l1⟩ := (h.pick 2).rowKC
 obtain ⟨c2, e2, l2⟩ := (h.pick 3).rowKC
 subst e1; subst e2
 have hf := PureC.few a b c d ps ts
 rw [List.take_of_length_le hp, List.take_of_length_le ht] at hf
 refine (sacristanlaw13_Few.calls a b c d A p ps B q ts _ _ _ _ _ _ W c1 l1 c2 l2 hf).mono ?_
 rintro e w' ⟨v4, v5, rfl, h4, h5, hb⟩
 obtain ⟨A', n, c, rfl⟩ := R_slice3 h4
 obtain ⟨B', m, d, rfl⟩ := R_slice3 h5
 exact ⟨A', B', c, d, n, m, rfl, h.rows2 (flat_int _) kX_flat (by decide) hb h4 h5⟩
theorem equ9_s {w0 w : World} {L : List HP} (x0 x1 a b c d x8 y0 y1 a' b' c' d' y8 : Int) {A B A' B' : Option Addr} {n m p q n' m' p' q' : Nat} (ps ps' : List Int) (ts ts' : List TX) (hp : ps.length ≤ 1000) (ht : ts.length ≤ 1000) (r : Bool) (hr : decide ((⟨x0, x1, spOf a b c d ps ts, x8⟩ : CM) = ⟨y0, y1, spOf a' b' c' d' ps' ts', y8⟩) = r)
  (h : St w0 w (RI (.slice A n p) ps :: RT (.slice B m q) ts :: RI (.slice A' n' p') ps' :: RT (.slice B' m' q') ts' :: L)) :
  Calls Try.prog 19 #[.agg #[.int .u8 x0, .int .i64 x1, .int .i64 a, .int .i64 b, .int .i64 c, .int .i64 d, .slice A n p, .slice B m q, .int .i64 x8], .agg #[.int .u8 y0, .int .i64 y1, .int .i64 a', .int .i64 b', .int .i64 c', .int .i64 d', .slice A' n' p', .slice B' m' q', .int .i64 y8]] w fun e w' => e = .returned (.bool r) ∧ St w0 w' (RI (.slice A n p) ps :: RT (.slice B m q) ts :: RI (.slice A' n' p') ps' :: RT (.slice B' m' q') ts' :: L) := by
 obtain ⟨c1, e1, l1⟩ := h.rowKC
 obtain ⟨c2, e2, l2⟩ := (h.pick 1).rowKC
 obtain ⟨c3, e3, l3⟩ := (h.pick 2).rowKC
 obtain ⟨c4, e4, l4⟩ := (h.pick 3).rowKC
 subst e1; subst e2; subst e3; subst e4; subst hr
 refine (sacristankit_EqualCommand.calls 1001 x0 x1 a b c d A p ps B q ts x8 y0 y1 a' b' c' d' A' p' ps' B' q' ts' y8 _ w c1 l1 c2 l2 c3 l3 c4 l4 (PureC.eqCmd 1001 _ _ _ _ _ _ _ _ _ _ _ _ _ _ _ _ _ _ hp ht (by omega) (by omega))).mono ?_
 rintro e w' ⟨rfl, hb⟩
 exact ⟨rfl, h.more hb⟩
theorem equ9_n {w0 w : World} {L : List HP} (x0 x1 a b c d x8 y0 y1 y8 : Int) {A B : Option Addr} {n m p q : Nat} (ps : List Int) (ts : List TX) (hp : ps.length ≤ 1000) (ht : ts.length ≤ 1000) (r : Bool) (hr : decide ((⟨x0, x1, spOf a b c d ps ts, x8⟩ : CM) = ⟨y0, y1, zSP, y8⟩) = r)
  (h : St w0 w (RI (.slice A n p) ps :: RT (.slice B m q) ts :: L)) :
  Calls Try.prog 19 #[.agg #[.int .u8 x0, .int .i64 x1, .int .i64 a, .int .i64 b, .int .i64 c, .int .i64 d, .slice A n p, .slice B m q, .int .i64 x8], .agg #[.int .u8 y0, .int .i64 y1, .int .i64 0, .int .i64 0, .int .i64 0, .int .i64 0, .slice none 0 0, .slice none 0 0, .int .i64 y8]] w fun e w' => e = .returned (.bool r) ∧ St w0 w' (RI (.slice A n p) ps :: RT (.slice B m q) ts :: L) := by
 obtain ⟨c1, e1, l1⟩ := h.rowKC
 obtain ⟨c2, e2, l2⟩ := (h.pick 1).rowKC
 subst e1; subst e2; subst hr
 refine (sacristankit_EqualCommand.calls 1001 x0 x1 a b c d A p ps B q ts x8 y0 y1 0 0 0 0 none 0 [] none 0 [] y8 _ w c1 l1 c2 l2 (Kd.C_nil _ _) (Nat.le_refl _) (Kd.C_nil _ _) (Nat.le_refl _) (PureC.eqCmd 1001 _ _ _ _ _ _ _ _ _ _ _ _ _ _ _ _ _ _ hp ht (by omega) (by omega))).mono ?_
 rintro e w' ⟨rfl, hb⟩
 exact ⟨rfl, h.more hb⟩
def zeros (n : Nat) : List UInt8 := List.replicate n 0
theorem conv_zeros (n : Nat) (w : World) (t : Nat) (hn : n ≤ 100000) : (convert 46 9 (.slice (some ⟨w.heap.size, 0, none⟩) n n)).run Try.prog (w.alloc (.cells (Array.replicate n (.int .u8 0)) t)) = .ok (.string (YtkhcdichdnbcmaaR.Ext.mkB (zeros n))) (w.alloc (.cells (Array.replicate n (.int .u8 0)) t)) := by
 have q : strOfNums (List.replicate n 0) = YtkhcdichdnbcmaaR.Ext.mkB (zeros n) := by
  unfold strOfNums zeros
  simp
  rfl
 rw [← q]
 refine string_of_reads (e := 5) Try.underlying46 Try.underlying5 Try.underlying9 ⟨by simp, by omega, fun _ => ⟨_, rfl, fun j hj => ?_⟩⟩
 rw [add_plain, World.cell?_alloc_new]
 simp [hj]
theorem info_u8 : (Try.prog.info? 5).map (fun i => (i.zero, i.size, i.bytes)) = some (some (.int .u8 0), 1, 1) := by kernel_rfl
theorem make_zeros (n : Nat) (hn : n ≤ 100000) (w : World) : (Instr.makeSlice 46 (.int .i64 n) (.int .i64 n)).run Try.prog w = .ok (.slice (some ⟨w.heap.size, 0, none⟩) n n) (w.alloc (.cells (Array.replicate n (.int .u8 0)) 5)) := by
 have hi := info_u8
 cases hj : Try.prog.info? 5 with
 | none => rw [hj] at hi; cases hi
 | some i =>
  rw [hj] at hi
  simp only [Option.map_some, Option.some.injEq, Prod.mk.injEq] at hi
  have q := run_make (P := Try.prog) w 46 5 i (.int .u8 0) Try.underlying46 hj hi.1 .i64 .i64 n n (by omega) (by omega) (by rw [hi.2.2]; omega) (by omega)
  rw [q, hi.2.1, Int.toNat_natCast]
  have e : madeCells (Value.int .u8 0).cells (n * 1) = Array.replicate n (.int .u8 0) := by
   apply Array.toList_inj.1
   rw [Nat.mul_one]
   exact (toList_madeCells_one _ _).trans (by simp)
  rw [e]
end Go.Proofs.YtkhcdichdnbcmaaR
end
section
namespace Go.Proofs.YtkhcdichdnbcmaaR
open Go.RowKit Go.Proofs.YtkhcdichdnbcmaaR Go.Proofs.YtkhcdichdnbcmaaR.Ext Go.Proofs.YtkhcdichdnbcmaaR.C Go.Proofs.YtkhcdichdnbcmaaR.Sp Go.Proofs.YtkhcdichdnbcmaaRW.PrintWords Go.Proofs.YtkhcdichdnbcmaaRW.PrintLast
set_option linter.unusedVariables false
set_option linter.unusedSimpArgs false
theorem enc9_nil {w0 w : World} {L : List HP} (k e id : Int) (h : St w0 w L) (x : List UInt8) (r : Int) (hx : Sp.encCR ⟨k, e, zSP, id⟩ = x) (hr : Sp.cmdE ⟨k, e, zSP, id⟩ = r) :
  Calls Try.prog 13 #[.agg #[.int .u8 k, .int .i64 e, .int .i64 0, .int .i64 0, .int .i64 0, .int .i64 0, .slice none 0 0, .slice none 0 0, .int .i64 id]] w fun e w' => e = .returned (.tuple #[.string (YtkhcdichdnbcmaaR.Ext.mkB x), .int .i64 r]) ∧ St w0 w' L := by
 subst hx; subst hr
 refine (cmd_Encode.calls k e 0 0 0 0 none 0 [] none 0 [] id _ _ w (Kd.C_nil _ _) (Nat.le_refl _) (Kd.C_nil _ _) (Nat.le_refl _) rfl).mono ?_
 rintro e w' ⟨rfl, hb⟩
 exact ⟨rfl, h.more hb⟩
theorem dec9c {w0 w : World} {L : List HP} (l : List UInt8) (k e a b c d : Int) (ps : List Int) (ts : List TS) (id er : Int) (hx : decCR l = (⟨k, e, ⟨a, b, c, d, ps, ts⟩, id⟩, er)) (h : St w0 w L) : Calls Try.prog 20 #[.string (YtkhcdichdnbcmaaR.Ext.mkB l)] w fun ee w' => ∃ A B n m p q, ee = .returned (.tuple #[.agg #[.int .u8 k, .int .i64 e, .int .i64 a, .int .i64 b, .int .i64 c, .int .i64 d, .slice A n p, .slice B m q, .int .i64 id], .int .i64 er]) ∧ St w0 w' (RI (.slice A n p) ps :: RT (.slice B m q) (ts.map ofTS) :: L) := dec9 l _ er hx h
theorem aw_enc : Sp.encCR ⟨2, 3, zSP, 7⟩ = [2, 3, 7] := by decide +kernel
theorem aw_dec : decCR [2, 3, 7] = (⟨2, 3, ⟨0, 0, 0, 0, [], []⟩, 7⟩, 0) := by decide +kernel
theorem aw_bad : decCR [2, 3, 7, 120] = (⟨0, 0, ⟨0, 0, 0, 0, [], []⟩, 0⟩, 4) := by decide +kernel
theorem aw_long (n : Nat) (hn : 1024 < n) : decCR (zeros n) = (⟨0, 0, ⟨0, 0, 0, 0, [], []⟩, 0⟩, 5) := by
 unfold decCR zeros
 rw [if_pos (by simp; omega)]
 rfl
set_option maxRecDepth 100000 in
set_option maxHeartbeats 4000000 in
theorem awake18 {w0 w : World} {L : List HP} (h : St w0 w L) : Calls Try.prog 15 #[] w fun e w' => e = .returned (.bool true) ∧ St w0 w' L := by
 have hx1 : YtkhcdichdnbcmaaR.Ext.mkB [2, 3, 7] ++ (⟨#[120]⟩ : ByteArray) = YtkhcdichdnbcmaaR.Ext.mkB [2, 3, 7, 120] := rfl
 have hx2 : (YtkhcdichdnbcmaaR.Ext.mkB [2, 3, 7]).size = 3 := rfl
 have hx3 : (⟨#[120]⟩ : ByteArray).size = 1 := rfl
 have hv2 := var_c 2 (by omega)
 have hv3 := var_c 3 (by omega)
 have hv7 := var_c 7 (by omega)
 rw [show Pk.varL 2 = [2] by decide +kernel] at hv2
 rw [show Pk.varL 3 = [3] by decide +kernel] at hv3
 rw [show Pk.varL 7 = [7] by decide +kernel] at hv7
 have HV := Lib.hid (And.intro hv2 (And.intro hv3 hv7))
 clear hv2 hv3 hv7
 have hy1 : YtkhcdichdnbcmaaR.Ext.mkB [2] ++ YtkhcdichdnbcmaaR.Ext.mkB [3] = YtkhcdichdnbcmaaR.Ext.mkB [2, 3] := rfl
 have hy2 : YtkhcdichdnbcmaaR.Ext.mkB [2, 3] ++ YtkhcdichdnbcmaaR.Ext.mkB [7] = YtkhcdichdnbcmaaR.Ext.mkB [2, 3, 7] := rfl
 have hy3 : (YtkhcdichdnbcmaaR.Ext.mkB [2]).size = 1 := rfl
 have hy4 : (YtkhcdichdnbcmaaR.Ext.mkB [3]).size = 1 := rfl
 have hy5 : (YtkhcdichdnbcmaaR.Ext.mkB [7]).size = 1 := rfl
 have hy6 : (YtkhcdichdnbcmaaR.Ext.mkB [2, 3]).size = 2 := rfl
 have H := Lib.hid h
 clear h
 go_enter Try.func15, Try.ntmps15
 go_wp2_with fail
 refine (enc9_nil 2 3 7 H.out _ 0 aw_enc (by decide +kernel)).mono ?_
 rintro ee w1 ⟨rfl, s1⟩
 clear H
 have S1 := Lib.hid s1
 clear s1
 go_wp2_with fail
 refine (dec9c [2, 3, 7] _ _ _ _ _ _ _ _ _ _ aw_dec S1.out).mono ?_
 rintro ee w2 ⟨A, B, n, m, p, q, rfl, s2⟩
 clear S1
 have s3 := s2.alloc #[.int .u8 2, .int .i64 3, .int .i64 0, .int .i64 0, .int .i64 0, .int .i64 0, .slice A n p, .slice B m q, .int .i64 7] tCm
 clear s2
 have S3 := Lib.hid s3
 clear s3
 go_wp2_with fail
 generalize w2.heap.size = b3 at *
 refine (dec9c [2, 3, 7, 120] _ _ _ _ _ _ _ _ _ _ aw_bad S3.out).mono ?_
 rintro ee w3 ⟨A1, B1, n1, m1, p1, q1, rfl, s4⟩
 clear S3 hx1 hx2 hx3
 have s5 := (s4.drop.drop.alloc #[.int .u8 0, .int .i64 0, .int .i64 0, .int .i64 0, .int .i64 0, .int .i64 0, .slice A1 n1 p1, .slice B1 m1 q1, .int .i64 0] tCm).drop
 clear s4
 go_upto_region 4 with fail
 obtain ⟨wa, ha⟩ : ∃ wa, wa = w3.alloc (Obj.cells #[.int .u8 0, .int .i64 0, .int .i64 0, .int .i64 0, .int .i64 0, .int .i64 0, .slice A1 n1 p1, .slice B1 m1 q1, .int .i64 0] tCm) := ⟨_, rfl⟩
 rw [← ha] at s5 ⊢
 clear ha
 have hcv := conv_zeros 1025 wa 5 (by omega)
 have hmk : ∀ W, (Instr.makeSlice 46 (.int .i64 1025) (.int .i64 1025)).run Try.prog W = .ok (.slice (some ⟨W.heap.size, 0, none⟩) 1025 1025) (W.alloc (.cells (Array.replicate 1025 (.int .u8 0)) 5)) := fun W => make_zeros 1025 (by omega) W
 have s6 := (s5.alloc (Array.replicate 1025 (.int .u8 0)) 5).drop
 clear s5
 have S6 := Lib.hid s6
 clear s6
 go_wp2_with fail
 clear hcv hmk
 refine (dec9c (zeros 1025) _ _ _ _ _ _ _ _ _ _ (aw_long 1025 (by omega)) S6.out).mono ?_
 rintro ee w4 ⟨A2, B2, n2, m2, p2, q2, rfl, s7⟩
 clear S6
 have s8 := (s7.drop.drop.alloc #[.int .u8 0, .int .i64 0, .int .i64 0, .int .i64 0, .int .i64 0, .int .i64 0, .slice A2 n2 p2, .slice B2 m2 q2, .int .i64 0] tCm).drop
 clear s7
 have S8 := Lib.hid s8
 clear s8
 go_wp2_with fail
 refine (HV.out.1 _).mono ?_
 rintro ee w5 ⟨rfl, hb⟩
 have S9 := Lib.hid (S8.out.more hb)
 clear hb S8
 go_wp2_with fail
 refine (HV.out.2.1 _).mono ?_
 rintro ee w6 ⟨rfl, hb⟩
 have S10 := Lib.hid (S9.out.more hb)
 clear hb S9
 go_wp2_with fail
 refine (HV.out.2.2 _).mono ?_
 rintro ee w7 ⟨rfl, hb⟩
 have S11 := Lib.hid (S10.out.more hb)
 clear hb S10 HV
 have hc := S11.out.cells
 go_wp2_with fail
 have s12 := S11.out.pick 2
 simp only [List.getElem_cons_succ, List.getElem_cons_zero, List.eraseIdx_cons_succ, List.eraseIdx_cons_zero] at s12
 have s13 := s12.pick 2
 simp only [List.getElem_cons_succ, List.getElem_cons_zero, List.eraseIdx_cons_succ, List.eraseIdx_cons_zero] at s13
 refine (equ9_n 2 3 0 0 0 0 7 2 3 7 [] [] (by simp) (by simp) true (by decide +kernel) s13).mono ?_
 rintro ee w8 ⟨rfl, s14⟩
 clear s12 s13 S11 hc
 have S14 := Lib.hid s14.drop.drop.drop
 clear s14
 go_wp2_with fail
 refine (chk9_nil 0 0 0 S14.out 2 (by decide +kernel)).mono ?_
 rintro ee x0 ⟨rfl, s⟩
 clear S14
 have S15 := Lib.hid s
 clear s
 go_wp2_with fail
 refine (chk9_nil 2 (-1) 0 S15.out 3 (by decide +kernel)).mono ?_
 rintro ee x1 ⟨rfl, s⟩
 clear S15
 have S16 := Lib.hid s
 clear s
 go_wp2_with fail
 refine (chk9_nil 1 0 1 S16.out 2 (by decide +kernel)).mono ?_
 rintro ee x2 ⟨rfl, s⟩
 clear S16
 have S17 := Lib.hid s
 clear s
 go_wp2_with fail
 refine (chk9_nil 1 0 0 S17.out 2 (by decide +kernel)).mono ?_
 rintro ee x3 ⟨rfl, s⟩
 clear S17
 have S18 := Lib.hid s
 clear s
 go_wp2
 go_returns
 exact ⟨rfl, S18.out⟩
end Go.Proofs.YtkhcdichdnbcmaaR
end
