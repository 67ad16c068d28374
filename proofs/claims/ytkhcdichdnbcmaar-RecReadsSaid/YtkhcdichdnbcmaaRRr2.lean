/- Texts of this session, merged (wip/gen/shake.py). -/
import Derived.Handy
import Derived.KernelRfl
import Derived.BigQuiet
import Derived.Below
import Derived.Lib.Hide
import Derived.Deep.RegionHeld3
import Derived.Deep.DeepCutAuto
import Derived.Deep.CutBlock
import Derived.Test.YtkhcdichdnbcmaaRProg
import Derived.ScopeJumps
import Derived.WalkMore
import Derived.RangeFuncNested
import Derived.RangeFuncBound
import Derived.RangeFuncCalls
import Derived.RangeFuncLeaves
import Derived.Shelf.Abstract
import Derived.Shelf.RegionOpen
import Derived.WalkKit
import Derived.OwnWalkIn
import Derived.TacticsInMore
import Derived.LoopNIn
import Derived.LoopIn
import Init.Data.List.Lemmas
import Derived.Laws.BitsAllLaws
import Derived.WalkLawsBesides
import Derived.Deep.RegionLaw
import Derived.Defers
import Derived.Recover
import Derived.Test.YtkhcdichdnbcmaaRRr1
section
namespace Go.Proofs.YtkhcdichdnbcmaaR
open Go.RowKit
theorem below_then {w W w2 : World} (h : Below w.heap.size w W) (k : Below W.heap.size W w2) : Below w.heap.size w w2 :=
 h.trans ⟨k.os, k.tape, k.output, k.size, fun i hi => k.block i (Nat.lt_of_lt_of_le hi h.size)⟩
theorem below_alloc {w W : World} (h : Below w.heap.size w W) (o : Obj) : Below w.heap.size w (W.alloc o) := h.alloc h.size o
theorem bcell {W w1 : World} (hb : Below W.heap.size W w1) : (∀ b o, b < W.heap.size → w1.cell? ⟨b, o, none⟩ = W.cell? ⟨b, o, none⟩) ∧ (∀ b o, b < W.heap.size → w1.frozen? ⟨b, o, none⟩ = W.frozen? ⟨b, o, none⟩) :=
 ⟨fun b o h => hb.cell (p := ⟨b, o, none⟩) h, fun b o h => hb.frozen (p := ⟨b, o, none⟩) h⟩
noncomputable def _root_.Go.World.up (w x : World) : World := by
 classical exact if Below w.heap.size w x then x else w
theorem up_below (w x : World) : Below w.heap.size w (w.up x) := by
 unfold World.up
 split
 ·assumption
 ·exact Below.refl _ _
theorem up_of {w x : World} (h : Below w.heap.size w x) : ∃ y, x = w.up y := ⟨x, by unfold World.up; rw [if_pos h]⟩
theorem up_ex {w x : World} (h : ∃ y, x = w.up y) : Below w.heap.size w x := by obtain ⟨y, rfl⟩ := h; exact up_below _ _
theorem up_cell (w x : World) (a : Addr) (h : a.block < w.heap.size) : (w.up x).cell? a = w.cell? a := (up_below w x).cell h
theorem wp_region_up_lit {P : Program} {id : Nat} {Q : Exit → Act → World → Prop} {a : Act} {w : World} {l : List Oper} (hm : P.follows .mixedOrders = true) (hB : Region.lexB .any l.toArray = true)
  (h : wpQuiet P l.toArray (fun w' => ∃ x, w' = w.up x) (fun a' => ∀ w', (∃ x, w' = w.up x) → Q .normal a' w') l a) : (Code.region id l.toArray true).wp P Q a w :=
 wp_region_quiet (C := fun w' => ∃ x, w' = w.up x) hm hB (up_of (Below.refl _ w).drew) (by simpa using h)
theorem calls_up {P : Program} {f : FuncId} {args : Array Value} {w x : World} {v : Value}
  (h : Calls P f args (w.up x) fun e w' => e = .returned v ∧ Below (w.up x).heap.size (w.up x) w') : Calls P f args (w.up x) fun e w'' => e = .returned v ∧ ∃ y, w'' = w.up y :=
 h.mono fun _ _ ⟨he, hb⟩ => ⟨he, up_of (below_then (up_below w x) hb)⟩
theorem ret_int {k : IntKind} {a b : Int} (h : a = b) : Ending.returned (.int k a) = .returned (.int k b) := by rw [h]
section
variable {W W1 : World} {B : Nat} {t : TypeId} {C C' : Array Value}
theorem vlt {o : Obj} (h : W.heap[B]? = some o) : B < W.heap.size := (Array.getElem?_eq_some_iff.1 h).1
theorem vcell (h : W.heap[B]? = some (.cells C t (0, 0))) : ∀ j, W.cell? ⟨B, j, none⟩ = C[j]? := fun j => by simp [World.cell?, h]
theorem vfree (h : W.heap[B]? = some (.cells C t (0, 0))) : ∀ j, W.frozen? ⟨B, j, none⟩ = false := fun j => by simp [World.frozen?, h]
theorem vput {j : Nat} {u : Value} (h : W.heap[B]? = some (.cells C t (0, 0))) (e : C.setIfInBounds j u = C') : (W.setCell ⟨B, j, none⟩ u).heap[B]? = some (.cells C' t (0, 0)) := by
 subst e
 simp [World.setCell, Array.getElem?_modify, h]
theorem vfar {p : Addr} {o : Obj} {u : Value} (h : W.heap[B]? = some o) (hp : B ≠ p.block) : (W.setCell p u).heap[B]? = some o := (Below.heap_setCell W p u B hp).trans h
theorem valloc {o o' : Obj} (h : W.heap[B]? = some o) : (W.alloc o').heap[B]? = some o := (Below.heap_alloc W o' B (vlt h)).trans h
theorem vnew {o : Obj} : (W.alloc o).heap[W.heap.size]? = some o := by simp only [World.alloc]; exact Array.getElem?_push_size
theorem vnewAt (h : B = W.heap.size) : (W.alloc (.cells C t)).heap[B]? = some (.cells C t (0, 0)) := by subst h; exact vnew
theorem vbelow {o : Obj} (h : W.heap[B]? = some o) (hb : Below W.heap.size W W1) : W1.heap[B]? = some o := (hb.block B (vlt h)).trans h
theorem vdrew {o : Obj} (h : W.heap[B]? = some o) : W.drew.heap[B]? = some o := h
end
end Go.Proofs.YtkhcdichdnbcmaaR
end
section
namespace Go.Proofs.YtkhcdichdnbcmaaR
open Go.RowKit
set_option linter.unusedSimpArgs false
set_option linter.unusedVariables false
def okI (a : Int) : Bool := decide (0 ≤ a) && decide (a ≤ 1099511627776)
def okR (a b c : Int) : Bool := okI a && okI b && okI c
def errI (b : Bool) : Int := if b then 0 else 3
theorem okR_iff (a b c : Int) : okR a b c = true ↔ (0 ≤ a ∧ a ≤ 1099511627776) ∧ (0 ≤ b ∧ b ≤ 1099511627776) ∧ (0 ≤ c ∧ c ≤ 1099511627776) := by
 simp [okR, okI, and_assoc]
theorem errI_ok {a b c : Int} (h : (0 ≤ a ∧ a ≤ 1099511627776) ∧ (0 ≤ b ∧ b ≤ 1099511627776) ∧ (0 ≤ c ∧ c ≤ 1099511627776)) : errI (okR a b c) = 0 := by
 rw [(okR_iff a b c).2 h]; rfl
theorem errI_no {a b c : Int} (h : ¬ ((0 ≤ a ∧ a ≤ 1099511627776) ∧ (0 ≤ b ∧ b ≤ 1099511627776) ∧ (0 ≤ c ∧ c ≤ 1099511627776))) : errI (okR a b c) = 3 := by
 have : okR a b c = false := by rw [← Bool.not_eq_true, okR_iff]; exact h
 rw [this]; rfl
set_option maxHeartbeats 400000 in
theorem amounts_c (a b c : Int) (w : World) : Calls Try.prog 92 #[.agg #[.int .i64 a, .int .i64 b, .int .i64 c]] w fun e w' =>
  e = .returned (.agg #[.int .i64 a, .int .i64 b, .int .i64 c]) ∧ Below w.heap.size w w' := by
 go_enter Try.func92, Try.ntmps92
 go_wp2
 go_returns
 exact ⟨rfl, by go_grown⟩
theorem index_a3 (a b c : Int) : (∀ w, (Instr.index 125 (.agg #[.int .i64 a, .int .i64 b, .int .i64 c]) (.int .i64 0)).run Try.prog w = .ok (.int .i64 a) w) ∧
 (∀ w, (Instr.index 125 (.agg #[.int .i64 a, .int .i64 b, .int .i64 c]) (.int .i64 1)).run Try.prog w = .ok (.int .i64 b) w) ∧
 (∀ w, (Instr.index 125 (.agg #[.int .i64 a, .int .i64 b, .int .i64 c]) (.int .i64 2)).run Try.prog w = .ok (.int .i64 c) w) :=
 ⟨fun _ => by kernel_rfl, fun _ => by kernel_rfl, fun _ => by kernel_rfl⟩
set_option maxHeartbeats 400000 in
theorem check_c (a b c : Int) (w : World) : Calls Try.prog 81 #[.agg #[.int .i64 a, .int .i64 b, .int .i64 c]] w fun e w' =>
  e = .returned (.int .i64 (errI (okR a b c))) ∧ Below w.heap.size w w' := by
 obtain ⟨i0, i1, i2⟩ := index_a3 a b c
 go_enter Try.func81, Try.ntmps81
 go_wp2_with (go_at_call 92; refine (amounts_c _ _ _ _).mono ?_; rintro e w1 ⟨rfl, hb⟩)
 go_rounds 4
 all_goals go_returns
 all_goals refine ⟨ret_int ?_, below_then (below_alloc (Below.refl _ _) _) hb⟩
 all_goals first | (rw [errI_ok (by omega)]; done) | (rw [errI_no (by omega)]; done)
end Go.Proofs.YtkhcdichdnbcmaaR
end
section
namespace Go.Proofs.YtkhcdichdnbcmaaR
open Go.RowKit Go.Shelf
attribute [local go_sem] Oper.semAt_some
set_option linter.unusedSimpArgs false
set_option linter.unusedVariables false
theorem wp_scope_fwd {P : Program} {a : Act} {w : World} {Q : Exit → Act → World → Prop} {c rest : Code} (l : Nat) (hf : findLabel c l = some rest)
  (first : c.wp P (Exit.jump l (fun a w => rest.wp P (Exit.jump l (fun _ _ => False) Q) a w) Q) a w) : (Code.scope c).wp P Q a w := by
 refine wp_scope_jumps l (fun a w => rest.wp P (Exit.jump l (fun _ _ => False) Q) a w) (fun _ _ => 0) hf first (fun a w h => wp_mono h ?_)
 intro e a' w' hq
 cases e <;> first | exact hq | exact hq.2.elim
def okP (l wd b m : Int) : Bool := (decide (1 ≤ l) && decide (l ≤ 8)) && (decide (1 ≤ wd) && decide (wd ≤ 1099511627776)) && (decide (1 ≤ m) && decide (m ≤ 1099511627776) && decide (1 ≤ b) && decide (b ≤ m))
def errP (b : Bool) : Int := if b then 0 else 3
theorem okP_iff (l wd b m : Int) : okP l wd b m = true ↔ (1 ≤ l ∧ l ≤ 8) ∧ (1 ≤ wd ∧ wd ≤ 1099511627776) ∧ (1 ≤ m ∧ m ≤ 1099511627776 ∧ 1 ≤ b ∧ b ≤ m) := by
 simp [okP, and_assoc]
theorem errP_ok {l wd b m : Int} (h : (1 ≤ l ∧ l ≤ 8) ∧ (1 ≤ wd ∧ wd ≤ 1099511627776) ∧ (1 ≤ m ∧ m ≤ 1099511627776 ∧ 1 ≤ b ∧ b ≤ m)) : errP (okP l wd b m) = 0 := by
 rw [(okP_iff l wd b m).2 h]; rfl
theorem errP_no {l wd b m : Int} (h : ¬ ((1 ≤ l ∧ l ≤ 8) ∧ (1 ≤ wd ∧ wd ≤ 1099511627776) ∧ (1 ≤ m ∧ m ≤ 1099511627776 ∧ 1 ≤ b ∧ b ≤ m))) : errP (okP l wd b m) = 3 := by
 have : okP l wd b m = false := by rw [← Bool.not_eq_true, okP_iff]; exact h
 rw [this]; rfl
set_option maxHeartbeats 1000000 in
theorem dcheck_c (al : Bool) (l wd b m : Int) (w : World) : Calls Try.prog 86 #[.agg #[.bool al, .int .i64 l, .int .i64 wd, .int .i64 b, .int .i64 m]] w fun e w' =>
  e = .returned (.int .i64 (errP (okP l wd b m))) ∧ Below w.heap.size w w' := by
 go_enter Try.func86, Try.ntmps86
 go_wp2
 refine wp_scope_fwd 0 rfl ?_
 go_wp2
 all_goals (try (go_step3; refine ⟨rfl, ?_⟩; go_wp2; try go_step3; go_wp2))
 all_goals simp only [Exit.jump]
 all_goals go_returns
 all_goals refine ⟨ret_int ?_, by go_grown⟩
 all_goals first | (rw [errP_ok (by omega)]; done) | (rw [errP_no (by omega)]; done)
end Go.Proofs.YtkhcdichdnbcmaaR
end
section
namespace Go.Proofs.YtkhcdichdnbcmaaR.Pk
set_option linter.unusedVariables false
theorem snoc_induct {α : Type} {P : List α → Prop} (h0 : P []) (h1 : ∀ l a, P l → P (l ++ [a])) (l : List α) : P l := by
 have : ∀ l : List α, P l.reverse := by
  intro l
  induction l with
  | nil => exact h0
  | cons a l ih => rw [List.reverse_cons]; exact h1 _ _ ih
 have := this l.reverse
 rwa [List.reverse_reverse] at this
def be : Nat → Nat → List UInt8
 | 0, _ => []
 | w + 1, n => be w (n / 256) ++ [UInt8.ofNat (n % 256)]
def vl (l : List UInt8) : Nat := l.foldl (fun v b => v * 256 + b.toNat) 0
def lw (n : Nat) : Nat := if h : n = 0 then 0 else lw (n / 256) + 1
decreasing_by omega
theorem be_length (w n : Nat) : (be w n).length = w := by
 induction w generalizing n with
 | zero => rfl
 | succ w ih => simp [be, ih]
theorem vl_snoc (l : List UInt8) (b : UInt8) : vl (l ++ [b]) = vl l * 256 + b.toNat := by simp [vl]
theorem vl_lt (l : List UInt8) : vl l < 256 ^ l.length := by
 induction l using snoc_induct with
 | h0 => simp [vl]
 | h1 l b ih =>
  rw [vl_snoc, List.length_append, List.length_singleton, Nat.pow_succ]
  have := b.toNat_lt
  omega
theorem vl_be (w n : Nat) : vl (be w n) = n % 256 ^ w := by
 induction w generalizing n with
 | zero => simp [be, vl, Nat.mod_one]
 | succ w ih =>
  rw [be, vl_snoc, ih, Nat.pow_succ, UInt8.toNat_ofNat_of_lt' (by have : n % 256 < 256 := Nat.mod_lt _ (by omega); simpa using this)]
  rw [Nat.mul_comm (256 ^ w) 256, Nat.mod_mul]
  omega
theorem be_vl (l : List UInt8) : be l.length (vl l) = l := by
 induction l using snoc_induct with
 | h0 => rfl
 | h1 l b ih =>
  have hb := b.toNat_lt
  rw [List.length_append, List.length_singleton, be, vl_snoc]
  rw [show (vl l * 256 + b.toNat) / 256 = vl l by omega, show (vl l * 256 + b.toNat) % 256 = b.toNat by omega, ih]
  simp
theorem vl_be_lt {w n : Nat} (h : n < 256 ^ w) : vl (be w n) = n := by rw [vl_be, Nat.mod_eq_of_lt h]
theorem lw_zero : lw 0 = 0 := by rw [lw]; simp
theorem lw_pos {n : Nat} (h : n ≠ 0) : lw n = lw (n / 256) + 1 := by rw [lw]; simp [h]
theorem lt_pow_lw (n : Nat) : n < 256 ^ lw n := by
 induction n using Nat.strongRecOn with
 | _ n ih =>
  by_cases h : n = 0
  ·subst h; simp [lw_zero]
  ·rw [lw_pos h, Nat.pow_succ]
   have := ih (n / 256) (by omega)
   omega
theorem lw_le_iff (n w : Nat) : lw n ≤ w ↔ n < 256 ^ w := by
 induction w generalizing n with
 | zero =>
  constructor
  ·intro h
   have := lt_pow_lw n
   rw [Nat.le_zero.1 h] at this
   exact this
  ·intro h
   have : n = 0 := by simpa using h
   subst this; simp [lw_zero]
 | succ w ih =>
  by_cases h : n = 0
  ·subst h; simp [lw_zero, Nat.pow_pos]
  ·rw [lw_pos h, Nat.pow_succ, Nat.add_le_add_iff_right, ih]
   omega
theorem lw_le_8 {n : Nat} (h : n < 18446744073709551616) : lw n ≤ 8 := (lw_le_iff n 8).2 (by simpa using h)
def varL (n : Nat) : List UInt8 := if n < 248 then [UInt8.ofNat n] else UInt8.ofNat (247 + lw n) :: be (lw n) n
def unvarL : List UInt8 → Option (Nat × List UInt8)
 | [] => none
 | c :: t => if c.toNat < 248 then some (c.toNat, t) else
   if t.length < c.toNat - 247 then none else
   if vl (t.take (c.toNat - 247)) < 248 ∨ lw (vl (t.take (c.toNat - 247))) ≠ c.toNat - 247 then none else
   some (vl (t.take (c.toNat - 247)), t.drop (c.toNat - 247))
theorem toNat_ofNat {n : Nat} (h : n < 256) : (UInt8.ofNat n).toNat = n := UInt8.toNat_ofNat_of_lt' (by simpa using h)
theorem unvar_var {n : Nat} (hn : n < 18446744073709551616) (t : List UInt8) : unvarL (varL n ++ t) = some (n, t) := by
 unfold varL
 split
 case isTrue h =>
  simp only [List.singleton_append, unvarL, toNat_ofNat (show n < 256 by omega), if_pos h]
 case isFalse h =>
  have h8 := lw_le_8 hn
  have h1 : 1 ≤ lw n := by
   by_cases h0 : n = 0
   ·omega
   ·rw [lw_pos h0]; omega
  simp only [List.cons_append, unvarL, toNat_ofNat (show 247 + lw n < 256 by omega)]
  rw [if_neg (by omega), show 247 + lw n - 247 = lw n by omega]
  have hl : (be (lw n) n).length = lw n := be_length _ _
  have ht : (be (lw n) n ++ t).take (lw n) = be (lw n) n := List.take_left' hl
  have hd : (be (lw n) n ++ t).drop (lw n) = t := List.drop_left' hl
  have hv : vl (be (lw n) n) = n := vl_be_lt (lt_pow_lw n)
  rw [if_neg (by rw [List.length_append, hl]; omega), ht, hd, hv, if_neg (by omega)]
theorem var_unvar {l r : List UInt8} {n : Nat} (h : unvarL l = some (n, r)) : varL n ++ r = l ∧ n < 18446744073709551616 := by
 cases l with
 | nil => simp [unvarL] at h
 | cons c t =>
  have hc := c.toNat_lt
  simp only [unvarL] at h
  split at h
  case isTrue h1 =>
   simp only [Option.some.injEq, Prod.mk.injEq] at h
   obtain ⟨rfl, rfl⟩ := h
   simp only [varL, if_pos h1, List.singleton_append, UInt8.ofNat_toNat, true_and]
   omega
  case isFalse h1 =>
   split at h
   ·cases h
   ·rename_i h2
    split at h
    ·cases h
    ·rename_i h3
     simp only [Option.some.injEq, Prod.mk.injEq] at h
     obtain ⟨rfl, rfl⟩ := h
     have h4 : ¬ vl (t.take (c.toNat - 247)) < 248 := fun h => h3 (.inl h)
     have h5 : lw (vl (t.take (c.toNat - 247))) = c.toNat - 247 := Decidable.of_not_not fun h => h3 (.inr h)
     have hlen : (t.take (c.toNat - 247)).length = c.toNat - 247 := by rw [List.length_take]; omega
     have hbe : be (c.toNat - 247) (vl (t.take (c.toNat - 247))) = t.take (c.toNat - 247) := by
      have := be_vl (t.take (c.toNat - 247))
      rwa [hlen] at this
     constructor
     ·simp only [varL, if_neg h4, h5, hbe, List.cons_append, List.take_append_drop]
      rw [show 247 + (c.toNat - 247) = c.toNat by omega, UInt8.ofNat_toNat]
     ·have h6 := vl_lt (t.take (c.toNat - 247))
      rw [hlen] at h6
      have h7 : 256 ^ (c.toNat - 247) ≤ 256 ^ 8 := Nat.pow_le_pow_right (by omega) (by omega)
      have h8 : (256 : Nat) ^ 8 = 18446744073709551616 := by decide
      omega
theorem varL_length (n : Nat) (hn : n < 18446744073709551616) : 1 ≤ (varL n).length ∧ (varL n).length ≤ 9 := by
 unfold varL
 split
 ·simp
 ·have := lw_le_8 hn
  simp [be_length]
  omega
theorem unvar_length {l r : List UInt8} {n : Nat} (h : unvarL l = some (n, r)) : r.length < l.length := by
 obtain ⟨h1, h2⟩ := var_unvar h
 have := varL_length n h2
 rw [← h1, List.length_append]
 omega
def zig (i : Int) : Nat := if i < 0 then 2 * (-(i + 1)).toNat + 1 else 2 * i.toNat
def unzig (v : Nat) : Int := if v % 2 = 1 then -((v / 2 : Nat) : Int) - 1 else ((v / 2 : Nat) : Int)
theorem unzig_zig (i : Int) : unzig (zig i) = i := by unfold unzig zig; split <;> split <;> omega
theorem zig_unzig (v : Nat) : zig (unzig v) = v := by unfold unzig zig; split <;> split <;> omega
theorem zig_lt {i : Int} (h1 : -9223372036854775808 ≤ i) (h2 : i ≤ 9223372036854775807) : zig i < 18446744073709551616 := by unfold zig; split <;> omega
theorem unzig_bd {v : Nat} (h : v < 18446744073709551616) : -9223372036854775808 ≤ unzig v ∧ unzig v ≤ 9223372036854775807 := by unfold unzig; split <;> omega
end Go.Proofs.YtkhcdichdnbcmaaR.Pk
end
section
namespace Go.Proofs.YtkhcdichdnbcmaaR.Ext
open Go.RowKit Go.Proofs.YtkhcdichdnbcmaaRW.PrintWords
set_option linter.unusedVariables false
set_option linter.unusedSimpArgs false
def beB : Nat → Int → List Int
 | 0, _ => []
 | w + 1, n => beB w (n / 256) ++ [n % 256]
def pack_bytes_uint64.f (a0 a1 : Int) : Option ByteArray := if 0 ≤ a1 ∧ a1 ≤ 8 ∧ 0 ≤ a0 ∧ a0 < 18446744073709551616 then some (strOfNums (beB a1.toNat a0)) else none
theorem bytes_str (a : List Int) (n : Nat) (hn : n ≤ a.length) (ha : a.length = 8) (w : World) :
  (convert 46 9 (.slice (some ⟨w.heap.size, 0, none⟩) n 8)).run Try.prog (w.alloc (.cells (a.map (Value.int .u8)).toArray 121)) = .ok (.string (strOfNums (a.take n))) (w.alloc (.cells (a.map (Value.int .u8)).toArray 121)) := by
 refine string_of_reads (e := 5) Try.underlying46 Try.underlying5 Try.underlying9 ⟨by simp; omega, by omega, fun _ => ⟨_, rfl, fun j hj => ?_⟩⟩
 rw [add_plain, World.cell?_alloc_new]
 have hj' : j < a.length := by omega
 simp [hj, hj', List.getElem?_eq_getElem]
set_option maxHeartbeats 4000000 in
theorem bytes_0 (a0 : Int) (w : World) (h0 : 0 ≤ a0) (h1 : a0 < 18446744073709551616) :
  Calls Try.prog 62 #[.int .u64 a0, .int .i64 0] w fun e w' => e = .returned (.string (strOfNums (beB 0 a0))) ∧ Below w.heap.size w w' := by
 have hc : (convert 46 9 (.slice (some ⟨w.heap.size, 0, none⟩) 0 8)).run Try.prog (w.alloc (.cells #[.int .u8 0, .int .u8 0, .int .u8 0, .int .u8 0, .int .u8 0, .int .u8 0, .int .u8 0, .int .u8 0] 121)) = .ok (.string (strOfNums (beB 0 a0))) (w.alloc (.cells #[.int .u8 0, .int .u8 0, .int .u8 0, .int .u8 0, .int .u8 0, .int .u8 0, .int .u8 0, .int .u8 0] 121)) := bytes_str [0, 0, 0, 0, 0, 0, 0, 0] 0 (by simp) rfl w
 go_enter Try.func62, Try.ntmps62
 go_wp2
 refine wp_loop_rounds 9 ?_
 repeat any_goals (rw [rounds_succ]; go_wp2_with fail)
 go_wp2
 go_returns
 exact ⟨rfl, by go_grown⟩
set_option maxHeartbeats 4000000 in
theorem bytes_1 (a0 : Int) (w : World) (h0 : 0 ≤ a0) (h1 : a0 < 18446744073709551616) :
  Calls Try.prog 62 #[.int .u64 a0, .int .i64 1] w fun e w' => e = .returned (.string (strOfNums (beB 1 a0))) ∧ Below w.heap.size w w' := by
 have hc : (convert 46 9 (.slice (some ⟨w.heap.size, 0, none⟩) 1 8)).run Try.prog (w.alloc (.cells #[.int .u8 (a0 % 256), .int .u8 0, .int .u8 0, .int .u8 0, .int .u8 0, .int .u8 0, .int .u8 0, .int .u8 0] 121)) = .ok (.string (strOfNums (beB 1 a0))) (w.alloc (.cells #[.int .u8 (a0 % 256), .int .u8 0, .int .u8 0, .int .u8 0, .int .u8 0, .int .u8 0, .int .u8 0, .int .u8 0] 121)) := bytes_str [a0 % 256, 0, 0, 0, 0, 0, 0, 0] 1 (by simp) rfl w
 go_enter Try.func62, Try.ntmps62
 go_wp2
 refine wp_loop_rounds 9 ?_
 repeat any_goals (rw [rounds_succ]; go_wp2_with fail)
 go_wp2
 go_returns
 exact ⟨rfl, by go_grown⟩
set_option maxHeartbeats 4000000 in
theorem bytes_2 (a0 : Int) (w : World) (h0 : 0 ≤ a0) (h1 : a0 < 18446744073709551616) :
  Calls Try.prog 62 #[.int .u64 a0, .int .i64 2] w fun e w' => e = .returned (.string (strOfNums (beB 2 a0))) ∧ Below w.heap.size w w' := by
 have hc : (convert 46 9 (.slice (some ⟨w.heap.size, 0, none⟩) 2 8)).run Try.prog (w.alloc (.cells #[.int .u8 (a0 / 256 % 256), .int .u8 (a0 % 256), .int .u8 0, .int .u8 0, .int .u8 0, .int .u8 0, .int .u8 0, .int .u8 0] 121)) = .ok (.string (strOfNums (beB 2 a0))) (w.alloc (.cells #[.int .u8 (a0 / 256 % 256), .int .u8 (a0 % 256), .int .u8 0, .int .u8 0, .int .u8 0, .int .u8 0, .int .u8 0, .int .u8 0] 121)) := bytes_str [a0 / 256 % 256, a0 % 256, 0, 0, 0, 0, 0, 0] 2 (by simp) rfl w
 go_enter Try.func62, Try.ntmps62
 go_wp2
 refine wp_loop_rounds 9 ?_
 repeat any_goals (rw [rounds_succ]; go_wp2_with fail)
 go_wp2
 go_returns
 exact ⟨rfl, by go_grown⟩
set_option maxHeartbeats 4000000 in
theorem bytes_3 (a0 : Int) (w : World) (h0 : 0 ≤ a0) (h1 : a0 < 18446744073709551616) :
  Calls Try.prog 62 #[.int .u64 a0, .int .i64 3] w fun e w' => e = .returned (.string (strOfNums (beB 3 a0))) ∧ Below w.heap.size w w' := by
 have hc : (convert 46 9 (.slice (some ⟨w.heap.size, 0, none⟩) 3 8)).run Try.prog (w.alloc (.cells #[.int .u8 (a0 / 256 / 256 % 256), .int .u8 (a0 / 256 % 256), .int .u8 (a0 % 256), .int .u8 0, .int .u8 0, .int .u8 0, .int .u8 0, .int .u8 0] 121)) = .ok (.string (strOfNums (beB 3 a0))) (w.alloc (.cells #[.int .u8 (a0 / 256 / 256 % 256), .int .u8 (a0 / 256 % 256), .int .u8 (a0 % 256), .int .u8 0, .int .u8 0, .int .u8 0, .int .u8 0, .int .u8 0] 121)) := bytes_str [a0 / 256 / 256 % 256, a0 / 256 % 256, a0 % 256, 0, 0, 0, 0, 0] 3 (by simp) rfl w
 go_enter Try.func62, Try.ntmps62
 go_wp2
 refine wp_loop_rounds 9 ?_
 repeat any_goals (rw [rounds_succ]; go_wp2_with fail)
 go_wp2
 go_returns
 exact ⟨rfl, by go_grown⟩
set_option maxHeartbeats 4000000 in
theorem bytes_4 (a0 : Int) (w : World) (h0 : 0 ≤ a0) (h1 : a0 < 18446744073709551616) :
  Calls Try.prog 62 #[.int .u64 a0, .int .i64 4] w fun e w' => e = .returned (.string (strOfNums (beB 4 a0))) ∧ Below w.heap.size w w' := by
 have hc : (convert 46 9 (.slice (some ⟨w.heap.size, 0, none⟩) 4 8)).run Try.prog (w.alloc (.cells #[.int .u8 (a0 / 256 / 256 / 256 % 256), .int .u8 (a0 / 256 / 256 % 256), .int .u8 (a0 / 256 % 256), .int .u8 (a0 % 256), .int .u8 0, .int .u8 0, .int .u8 0, .int .u8 0] 121)) = .ok (.string (strOfNums (beB 4 a0))) (w.alloc (.cells #[.int .u8 (a0 / 256 / 256 / 256 % 256), .int .u8 (a0 / 256 / 256 % 256), .int .u8 (a0 / 256 % 256), .int .u8 (a0 % 256), .int .u8 0, .int .u8 0, .int .u8 0, .int .u8 0] 121)) := bytes_str [a0 / 256 / 256 / 256 % 256, a0 / 256 / 256 % 256, a0 / 256 % 256, a0 % 256, 0, 0, 0, 0] 4 (by simp) rfl w
 go_enter Try.func62, Try.ntmps62
 go_wp2
 refine wp_loop_rounds 9 ?_
 repeat any_goals (rw [rounds_succ]; go_wp2_with fail)
 go_wp2
 go_returns
 exact ⟨rfl, by go_grown⟩
set_option maxHeartbeats 4000000 in
theorem bytes_5 (a0 : Int) (w : World) (h0 : 0 ≤ a0) (h1 : a0 < 18446744073709551616) :
  Calls Try.prog 62 #[.int .u64 a0, .int .i64 5] w fun e w' => e = .returned (.string (strOfNums (beB 5 a0))) ∧ Below w.heap.size w w' := by
 have hc : (convert 46 9 (.slice (some ⟨w.heap.size, 0, none⟩) 5 8)).run Try.prog (w.alloc (.cells #[.int .u8 (a0 / 256 / 256 / 256 / 256 % 256), .int .u8 (a0 / 256 / 256 / 256 % 256), .int .u8 (a0 / 256 / 256 % 256), .int .u8 (a0 / 256 % 256), .int .u8 (a0 % 256), .int .u8 0, .int .u8 0, .int .u8 0] 121)) = .ok (.string (strOfNums (beB 5 a0))) (w.alloc (.cells #[.int .u8 (a0 / 256 / 256 / 256 / 256 % 256), .int .u8 (a0 / 256 / 256 / 256 % 256), .int .u8 (a0 / 256 / 256 % 256), .int .u8 (a0 / 256 % 256), .int .u8 (a0 % 256), .int .u8 0, .int .u8 0, .int .u8 0] 121)) := bytes_str [a0 / 256 / 256 / 256 / 256 % 256, a0 / 256 / 256 / 256 % 256, a0 / 256 / 256 % 256, a0 / 256 % 256, a0 % 256, 0, 0, 0] 5 (by simp) rfl w
 go_enter Try.func62, Try.ntmps62
 go_wp2
 refine wp_loop_rounds 9 ?_
 repeat any_goals (rw [rounds_succ]; go_wp2_with fail)
 go_wp2
 go_returns
 exact ⟨rfl, by go_grown⟩
set_option maxHeartbeats 4000000 in
theorem bytes_6 (a0 : Int) (w : World) (h0 : 0 ≤ a0) (h1 : a0 < 18446744073709551616) :
  Calls Try.prog 62 #[.int .u64 a0, .int .i64 6] w fun e w' => e = .returned (.string (strOfNums (beB 6 a0))) ∧ Below w.heap.size w w' := by
 have hc : (convert 46 9 (.slice (some ⟨w.heap.size, 0, none⟩) 6 8)).run Try.prog (w.alloc (.cells #[.int .u8 (a0 / 256 / 256 / 256 / 256 / 256 % 256), .int .u8 (a0 / 256 / 256 / 256 / 256 % 256), .int .u8 (a0 / 256 / 256 / 256 % 256), .int .u8 (a0 / 256 / 256 % 256), .int .u8 (a0 / 256 % 256), .int .u8 (a0 % 256), .int .u8 0, .int .u8 0] 121)) = .ok (.string (strOfNums (beB 6 a0))) (w.alloc (.cells #[.int .u8 (a0 / 256 / 256 / 256 / 256 / 256 % 256), .int .u8 (a0 / 256 / 256 / 256 / 256 % 256), .int .u8 (a0 / 256 / 256 / 256 % 256), .int .u8 (a0 / 256 / 256 % 256), .int .u8 (a0 / 256 % 256), .int .u8 (a0 % 256), .int .u8 0, .int .u8 0] 121)) := bytes_str [a0 / 256 / 256 / 256 / 256 / 256 % 256, a0 / 256 / 256 / 256 / 256 % 256, a0 / 256 / 256 / 256 % 256, a0 / 256 / 256 % 256, a0 / 256 % 256, a0 % 256, 0, 0] 6 (by simp) rfl w
 go_enter Try.func62, Try.ntmps62
 go_wp2
 refine wp_loop_rounds 9 ?_
 repeat any_goals (rw [rounds_succ]; go_wp2_with fail)
 go_wp2
 go_returns
 exact ⟨rfl, by go_grown⟩
set_option maxHeartbeats 4000000 in
theorem bytes_7 (a0 : Int) (w : World) (h0 : 0 ≤ a0) (h1 : a0 < 18446744073709551616) :
  Calls Try.prog 62 #[.int .u64 a0, .int .i64 7] w fun e w' => e = .returned (.string (strOfNums (beB 7 a0))) ∧ Below w.heap.size w w' := by
 have hc : (convert 46 9 (.slice (some ⟨w.heap.size, 0, none⟩) 7 8)).run Try.prog (w.alloc (.cells #[.int .u8 (a0 / 256 / 256 / 256 / 256 / 256 / 256 % 256), .int .u8 (a0 / 256 / 256 / 256 / 256 / 256 % 256), .int .u8 (a0 / 256 / 256 / 256 / 256 % 256), .int .u8 (a0 / 256 / 256 / 256 % 256), .int .u8 (a0 / 256 / 256 % 256), .int .u8 (a0 / 256 % 256), .int .u8 (a0 % 256), .int .u8 0] 121)) = .ok (.string (strOfNums (beB 7 a0))) (w.alloc (.cells #[.int .u8 (a0 / 256 / 256 / 256 / 256 / 256 / 256 % 256), .int .u8 (a0 / 256 / 256 / 256 / 256 / 256 % 256), .int .u8 (a0 / 256 / 256 / 256 / 256 % 256), .int .u8 (a0 / 256 / 256 / 256 % 256), .int .u8 (a0 / 256 / 256 % 256), .int .u8 (a0 / 256 % 256), .int .u8 (a0 % 256), .int .u8 0] 121)) := bytes_str [a0 / 256 / 256 / 256 / 256 / 256 / 256 % 256, a0 / 256 / 256 / 256 / 256 / 256 % 256, a0 / 256 / 256 / 256 / 256 % 256, a0 / 256 / 256 / 256 % 256, a0 / 256 / 256 % 256, a0 / 256 % 256, a0 % 256, 0] 7 (by simp) rfl w
 go_enter Try.func62, Try.ntmps62
 go_wp2
 refine wp_loop_rounds 9 ?_
 repeat any_goals (rw [rounds_succ]; go_wp2_with fail)
 go_wp2
 go_returns
 exact ⟨rfl, by go_grown⟩
set_option maxHeartbeats 4000000 in
theorem bytes_8 (a0 : Int) (w : World) (h0 : 0 ≤ a0) (h1 : a0 < 18446744073709551616) :
  Calls Try.prog 62 #[.int .u64 a0, .int .i64 8] w fun e w' => e = .returned (.string (strOfNums (beB 8 a0))) ∧ Below w.heap.size w w' := by
 have he : a0 / 256 / 256 / 256 / 256 / 256 / 256 / 256 % 256 = a0 / 256 / 256 / 256 / 256 / 256 / 256 / 256 := by omega
 have hb : beB 8 a0 = [a0 / 256 / 256 / 256 / 256 / 256 / 256 / 256, a0 / 256 / 256 / 256 / 256 / 256 / 256 % 256, a0 / 256 / 256 / 256 / 256 / 256 % 256, a0 / 256 / 256 / 256 / 256 % 256, a0 / 256 / 256 / 256 % 256, a0 / 256 / 256 % 256, a0 / 256 % 256, a0 % 256] := by
  have : beB 8 a0 = [a0 / 256 / 256 / 256 / 256 / 256 / 256 / 256 % 256, a0 / 256 / 256 / 256 / 256 / 256 / 256 % 256, a0 / 256 / 256 / 256 / 256 / 256 % 256, a0 / 256 / 256 / 256 / 256 % 256, a0 / 256 / 256 / 256 % 256, a0 / 256 / 256 % 256, a0 / 256 % 256, a0 % 256] := rfl
  rw [this, he]
 have hc : (convert 46 9 (.slice (some ⟨w.heap.size, 0, none⟩) 8 8)).run Try.prog (w.alloc (.cells #[.int .u8 (a0 / 256 / 256 / 256 / 256 / 256 / 256 / 256), .int .u8 (a0 / 256 / 256 / 256 / 256 / 256 / 256 % 256), .int .u8 (a0 / 256 / 256 / 256 / 256 / 256 % 256), .int .u8 (a0 / 256 / 256 / 256 / 256 % 256), .int .u8 (a0 / 256 / 256 / 256 % 256), .int .u8 (a0 / 256 / 256 % 256), .int .u8 (a0 / 256 % 256), .int .u8 (a0 % 256)] 121)) = .ok (.string (strOfNums (beB 8 a0))) (w.alloc (.cells #[.int .u8 (a0 / 256 / 256 / 256 / 256 / 256 / 256 / 256), .int .u8 (a0 / 256 / 256 / 256 / 256 / 256 / 256 % 256), .int .u8 (a0 / 256 / 256 / 256 / 256 / 256 % 256), .int .u8 (a0 / 256 / 256 / 256 / 256 % 256), .int .u8 (a0 / 256 / 256 / 256 % 256), .int .u8 (a0 / 256 / 256 % 256), .int .u8 (a0 / 256 % 256), .int .u8 (a0 % 256)] 121)) := by
  rw [hb]; exact bytes_str [a0 / 256 / 256 / 256 / 256 / 256 / 256 / 256, a0 / 256 / 256 / 256 / 256 / 256 / 256 % 256, a0 / 256 / 256 / 256 / 256 / 256 % 256, a0 / 256 / 256 / 256 / 256 % 256, a0 / 256 / 256 / 256 % 256, a0 / 256 / 256 % 256, a0 / 256 % 256, a0 % 256] 8 (by simp) rfl w
 clear hb he
 go_enter Try.func62, Try.ntmps62
 go_wp2
 refine wp_loop_rounds 9 ?_
 repeat any_goals (rw [rounds_succ]; go_wp2_with fail)
 go_wp2
 go_returns
 exact ⟨rfl, by go_grown⟩
theorem pack_bytes_uint64.calls (a0 : Int) (a1 : Int) (r : ByteArray) (w : World) (h : pack_bytes_uint64.f a0 a1 = some r) :
  Calls Try.prog 62 #[.int .u64 a0, .int .i64 a1] w fun e w' => e = .returned (.string r) ∧ Below w.heap.size w w' := by
 unfold pack_bytes_uint64.f at h
 split at h
 case isFalse => cases h
 case isTrue hh =>
 injection h with h
 subst h
 obtain ⟨h0, h8, hn, hm⟩ := hh
 obtain ⟨k, rfl⟩ := Int.eq_ofNat_of_zero_le h0
 have hk : k = 0 ∨ k = 1 ∨ k = 2 ∨ k = 3 ∨ k = 4 ∨ k = 5 ∨ k = 6 ∨ k = 7 ∨ k = 8 := by omega
 rcases hk with rfl | rfl | rfl | rfl | rfl | rfl | rfl | rfl | rfl
 ·exact bytes_0 a0 w hn hm
 ·exact bytes_1 a0 w hn hm
 ·exact bytes_2 a0 w hn hm
 ·exact bytes_3 a0 w hn hm
 ·exact bytes_4 a0 w hn hm
 ·exact bytes_5 a0 w hn hm
 ·exact bytes_6 a0 w hn hm
 ·exact bytes_7 a0 w hn hm
 ·exact bytes_8 a0 w hn hm
set_option maxHeartbeats 1000000 in
theorem least_c (n : Nat) (hn : n < 18446744073709551616) (w : World) : Calls Try.prog 61 #[.int .u64 n] w fun e w' => e = .returned (.int .i64 (Pk.lw n)) ∧ w = w' := by
 have h8 := Pk.lw_le_8 hn
 go_enter Try.func61, Try.ntmps61
 go_wp2
 go_loop [0, 3] (fun v c => ∃ (m j : Nat), v = .int .u64 m ∧ c = .int .i64 j ∧ m < 18446744073709551616 ∧ Hid (Pk.lw n = j + Pk.lw m)) (fun v _ => (intOf v).toNat)
 case atStart => exact ⟨n, 0, rfl, rfl, hn, Lib.hid (by omega)⟩
 case round =>
  obtain ⟨m, j, rfl, rfl, hm, hu⟩ := hrel
  by_cases h0 : m = 0
  ·subst h0
   go_wp2
   go_returns
   refine ⟨ret_int ?_, rfl⟩
   have := hu.out
   rw [Pk.lw_zero] at this
   omega
  ·have hj : j ≤ 8 := by have := hu.out; omega
   have h1 : 0 < m := by omega
   clear h0
   go_wp2
   refine ⟨⟨m / 256, j + 1, by simp, by go_num, by omega, Lib.hid ?_⟩, by show ((m : Int) / 256).toNat < (m : Int).toNat; omega⟩
   have := hu.out
   rw [Pk.lw_pos (n := m) (by omega)] at this
   omega
def mkB (l : List UInt8) : ByteArray := ⟨l.toArray⟩
theorem beB_eq (w n : Nat) : strOfNums (beB w n) = mkB (Pk.be w n) := by
 have : ∀ n : Nat, (beB w n).map (fun x => UInt8.ofNat x.toNat) = Pk.be w n := by
  induction w with
  | zero => intro n; rfl
  | succ w ih =>
   intro n
   rw [beB, List.map_append, Pk.be]
   have := ih (n / 256)
   rw [show ((n : Int) / 256) = ((n / 256 : Nat) : Int) by omega, this]
   congr 1
 simp only [strOfNums, mkB, this]
def pack_Var.f (a0 : Int) : Option ByteArray := if 0 ≤ a0 ∧ a0 < 18446744073709551616 then some (mkB (Pk.varL a0.toNat)) else none
theorem conv_one (x : Int) (W : World) (B : Nat) (hc : W.cell? ⟨B, 0, none⟩ = some (.int .u8 x)) :
  (convert 46 9 (.slice (some ⟨B, 0, none⟩) 1 1)).run Try.prog W = .ok (.string (strOfNums [x])) W := by
 refine string_of_reads (e := 5) Try.underlying46 Try.underlying5 Try.underlying9 ⟨rfl, by omega, fun _ => ⟨_, rfl, fun j hj => ?_⟩⟩
 obtain rfl : j = 0 := by omega
 rw [add_plain]
 exact hc
set_option maxHeartbeats 2000000 in
theorem var_c (n : Nat) (hn : n < 18446744073709551616) (w : World) : Calls Try.prog 33 #[.int .u64 n] w fun e w' => e = .returned (.string (mkB (Pk.varL n))) ∧ Below w.heap.size w w' := by
 have h8 := Pk.lw_le_8 hn
 by_cases hs : n < 248
 ·have hconv := conv_one (n : Int)
  have hv : mkB (Pk.varL n) = strOfNums [(n : Int)] := by simp [Pk.varL, hs, mkB, strOfNums]
  rw [hv]
  clear hv hn h8
  have hsI : (n : Int) < 248 := by omega
  clear hs
  go_enter Try.func33, Try.ntmps33
  go_wp2
  go_returns
  exact ⟨rfl, by go_grown⟩
 ·have hconv := conv_one (IntKind.u8.wrap (IntKind.i64.wrap (247 + (Pk.lw n : Int))))
  have hbytes : ∀ W : World, Calls Try.prog 62 #[.int .u64 n, .int .i64 (Pk.lw n)] W fun e w' => e = .returned (.string (strOfNums (beB (Pk.lw n) n))) ∧ Below W.heap.size W w' := fun W =>
   pack_bytes_uint64.calls (n : Int) (Pk.lw n : Int) (strOfNums (beB (Pk.lw n) n)) W (by unfold pack_bytes_uint64.f; rw [if_pos ⟨by omega, by omega, by omega, by omega⟩]; simp)
  have hsz : (strOfNums [IntKind.u8.wrap (IntKind.i64.wrap (247 + (Pk.lw n : Int)))]).size + (strOfNums (beB (Pk.lw n) n)).size ≤ 9223372036854775807 := by
   rw [beB_eq, strOfNums_size]
   have : (mkB (Pk.be (Pk.lw n) n)).size = Pk.lw n := by simp [mkB, ByteArray.size, Pk.be_length]
   rw [this]
   simp
   omega
  have hfin : strOfNums [IntKind.u8.wrap (IntKind.i64.wrap (247 + (Pk.lw n : Int)))] ++ strOfNums (beB (Pk.lw n) n) = mkB (Pk.varL n) := by
   have e : IntKind.u8.wrap (IntKind.i64.wrap (247 + (Pk.lw n : Int))) = 247 + (Pk.lw n : Int) := by
    rw [IntWalk.i64_in _ (by omega), IntKind.wrap_u8]
    omega
   have e2 : UInt8.ofNat (247 + (Pk.lw n : Int)).toNat = UInt8.ofNat (247 + Pk.lw n) := by congr 1
   rw [beB_eq, e, Pk.varL, if_neg hs]
   apply ByteArray.ext
   simp [strOfNums, mkB, ByteArray.data_append, e2]
  have HF := Lib.hid hfin
  clear hfin
  have hz1 := eq_true hsz
  have hz2 := eq_false (Nat.not_lt.2 hsz)
  have hz3 := decide_eq_true hsz
  clear hsz
  have HN := Lib.hid hn
  have HB := Lib.hid hbytes
  clear hn hbytes
  have hsI : ¬ (n : Int) < 248 := by omega
  have h8I : (Pk.lw n : Int) ≤ 8 := by omega
  clear hs h8
  go_enter Try.func33, Try.ntmps33
  go_wp2_with fail
  refine (least_c n HN.out _).mono ?_
  rintro e w1 ⟨rfl, rfl⟩
  go_wp2_with fail
  go_region_with (first | (go_at_call 62; refine (HB.out _).mono ?_; rintro e w2 ⟨rfl, hb⟩; have hB := below_then (w := w) (by go_grown) hb; obtain ⟨hc2, hf2⟩ := bcell hb; have hs2 := hB.size))
  all_goals go_wp2
  all_goals go_returns
  all_goals exact ⟨congrArg (fun s => Ending.returned (Value.string s)) HF.out, by go_grown⟩
theorem pack_Var.calls (a0 : Int) (r : ByteArray) (w : World) (h : pack_Var.f a0 = some r) :
  Calls Try.prog 33 #[.int .u64 a0] w fun e w' => e = .returned (.string r) ∧ Below w.heap.size w w' := by
 unfold pack_Var.f at h
 split at h
 case isFalse => cases h
 case isTrue hh =>
 injection h with h
 subst h
 obtain ⟨n, rfl⟩ := Int.eq_ofNat_of_zero_le hh.1
 exact var_c n (by omega) w
end Go.Proofs.YtkhcdichdnbcmaaR.Ext
end
section
namespace Go.Proofs.YtkhcdichdnbcmaaR.Ext
open Go.RowKit Go.Proofs.YtkhcdichdnbcmaaRW.PrintWords
set_option linter.unusedVariables false
set_option linter.unusedSimpArgs false
open Pk in
theorem vl_take_succ (l : List UInt8) (i : Nat) (h : i < l.length) : vl (l.take (i + 1)) = vl (l.take i) * 256 + l[i].toNat := by
 rw [List.take_succ_eq_append_getElem h, vl_snoc]
theorem or_add (a b : Nat) (ha : a < 72057594037927936) (hb : b < 256) : Go.bits .or .u64 ((a : Int) * 256) b = ((a * 256 + b : Nat) : Int) := by
 have h := u64_or_nat (a * 256) b (by omega) (by omega)
 rw [show ((a * 256 : Nat) : Int) = (a : Int) * 256 by omega] at h
 rw [h]
 congr 1
 rw [Nat.mul_comm a 256]
 exact (Nat.two_pow_add_eq_or_of_lt (i := 8) (by omega) a).symm
open Pk in
theorem vl_take_lt (l : List UInt8) (i : Nat) (hl : l.length ≤ 8) (hi : i < l.length) : vl (l.take i) < 72057594037927936 := by
 have h := vl_lt (l.take i)
 rw [List.length_take, Nat.min_eq_left (by omega)] at h
 have h2 : 256 ^ i ≤ 256 ^ 7 := Nat.pow_le_pow_right (by omega) (by omega)
 have h3 : (256 : Nat) ^ 7 = 72057594037927936 := by decide
 omega
set_option maxHeartbeats 1000000 in
theorem number_c (s : ByteArray) (hl : s.size ≤ 8) (w : World) : Calls Try.prog 75 #[.string s] w fun e w' => e = .returned (.int .u64 (Pk.vl s.data.toList)) ∧ w' = w := by
 go_enter Try.func75, Try.ntmps75
 go_wp2
 go_loop [3, 4, 7] (fun v _ i => ∃ k : Nat, k ≤ s.size ∧ i = .int .i64 k ∧ v = .int .u64 (Pk.vl (s.data.toList.take k))) (fun _ _ i => s.size - (intOf i).toNat)
 case atStart => exact ⟨0, Nat.zero_le _, rfl, rfl⟩
 case round =>
  obtain ⟨k, hk, rfl, rfl⟩ := hrel
  by_cases hlt : k < s.size
  ·have h1 := vl_take_lt s.data.toList k (by simpa using hl) (by simpa using hlt)
   have h2 := vl_take_succ s.data.toList k (by simpa using hlt)
   have hgk : s.data.toList[k]'(by simpa using hlt) = s[k] := by simp [ByteArray.getElem_eq_getElem_data]
   rw [hgk] at h2
   have h3 := s[k].toNat_lt
   have h4 := or_add _ _ h1 (by omega : s[k].toNat < 256)
   rw [← h2] at h4
   have h5 : IntKind.u64.wrap ((Pk.vl (s.data.toList.take k) : Int) * 256) = (Pk.vl (s.data.toList.take k) : Int) * 256 := IntWalk.u64_in _ (by omega)
   have h6 : IntKind.u64.wrap (s[k].toNat : Int) = (s[k].toNat : Int) := IntWalk.u64_in _ (by omega)
   have H4 := Lib.hid h4
   have H5 := Lib.hid h5
   have H6 := Lib.hid h6
   clear h1 h2 h3 h4 h5 h6 hgk
   go_wp2
   go_round
   case rel => exact ⟨k + 1, by omega, by go_num, by rw [H5.out, H6.out, H4.out]⟩
   case measure => simp [intOf]; omega
  ·go_wp2
   go_returns
   exact ⟨by rw [List.take_of_length_le (by simp; omega)]; rfl, rfl⟩
def unvarR (l : List UInt8) : Int × ByteArray × Int := match Pk.unvarL l with | none => (0, mkB [], 4) | some (n, r) => ((n : Int), mkB r, 0)
theorem unvarL_cons (c : UInt8) (t : List UInt8) : Pk.unvarL (c :: t) = if c.toNat < 248 then some (c.toNat, t) else
   if t.length < c.toNat - 247 then none else
   if Pk.vl (t.take (c.toNat - 247)) < 248 ∨ Pk.lw (Pk.vl (t.take (c.toNat - 247))) ≠ c.toNat - 247 then none else
   some (Pk.vl (t.take (c.toNat - 247)), t.drop (c.toNat - 247)) := rfl
def retU (x : Int × ByteArray × Int) : Ending := .returned (.tuple #[.int .u64 x.1, .string x.2.1, .int .i64 x.2.2])
theorem unvar_0 (w : World) : Calls Try.prog 47 #[.string (mkB [])] w fun e w' => e = retU (unvarR []) ∧ Drawn0 w w' := by
 have h1 : (mkB []).toList.isEmpty = true := by decide +kernel
 go_enter Try.func47, Try.ntmps47
 go_wp2
 go_returns
 exact ⟨rfl, Drawn0.refl _⟩
set_option maxHeartbeats 2000000 in
theorem unvar_1 (c : UInt8) (l : List UInt8) (hc : c.toNat < 248) (w : World) : Calls Try.prog 47 #[.string (mkB (c :: l))] w fun e w' => e = retU (unvarR (c :: l)) ∧ Drawn0 w w' := by
 have hs : (mkB (c :: l)).size = l.length + 1 := by simp [mkB, ByteArray.size]
 have hp : 0 < (mkB (c :: l)).size := by omega
 have hg : (mkB (c :: l))[0] = c := rfl
 have he : (mkB (c :: l)).toList.isEmpty = false := by rw [ByteArray.toList_eq]; rfl
 have hx : (mkB (c :: l)).extract 1 (l.length + 1) = mkB l := by
  apply ByteArray.ext
  simp [mkB, ByteArray.data_extract, List.extract_eq_take_drop]
 have hcI : (c.toNat : Int) < 248 := by omega
 have hcB : decide ((c.toNat : Int) < 248) = true := decide_eq_true hcI
 have HC := Lib.hid hc
 clear hc
 generalize mkB (c :: l) = s at *
 go_enter Try.func47, Try.ntmps47
 go_wp2_with fail
 go_quiet (fail)
 go_wp2
 go_returns
 refine ⟨?_, ⟨nq, rfl⟩⟩
 have hu : unvarR (c :: l) = ((c.toNat : Int), mkB l, 0) := by
  unfold unvarR
  rw [unvarL_cons, if_pos HC.out]
 rw [hu]; rfl
theorem slice_mid (s : ByteArray) (l : List UInt8) (m : Nat) (hs : s.size = l.length + 1) (hl : m ≤ l.length) (hx : s.extract 1 (1 + m) = mkB (l.take m)) (W : World) : (Instr.slice 9 (.string s) (some (.int .i64 1)) (some (.int .i64 (1 + (m : Int)))) none).run Try.prog W = .ok (.string (mkB (l.take m))) W := by
 have h1 : (1 + (m : Int)).toNat = 1 + m := by omega
 simp [go_sem, hs, Instr.slice]
 rw [if_pos ⟨by omega, by omega⟩, if_pos (by omega), h1, hx]
theorem slice_end (s : ByteArray) (l : List UInt8) (m : Nat) (hs : s.size = l.length + 1) (hl : m ≤ l.length) (hx : s.extract (1 + m) (l.length + 1) = mkB (l.drop m)) (W : World) : (Instr.slice 9 (.string s) (some (.int .i64 (1 + (m : Int)))) none none).run Try.prog W = .ok (.string (mkB (l.drop m))) W := by
 have h1 : (1 + (m : Int)).toNat = 1 + m := by omega
 simp [go_sem, hs, Instr.slice]
 rw [if_pos ⟨by omega, by omega⟩, h1, hx]
set_option maxHeartbeats 2000000 in
set_option maxRecDepth 100000 in
theorem unvar_2 (c : UInt8) (l : List UInt8) (m : Nat) (hc : c.toNat = 247 + m) (hm : 1 ≤ m) (w : World) : Calls Try.prog 47 #[.string (mkB (c :: l))] w fun e w' => e = retU (unvarR (c :: l)) ∧ Drawn0 w w' := by
 have hm8 : m ≤ 8 := by have := c.toNat_lt; omega
 have hs : (mkB (c :: l)).size = l.length + 1 := by simp [mkB, ByteArray.size]
 have hp : 0 < (mkB (c :: l)).size := by omega
 have hg : (mkB (c :: l))[0] = c := rfl
 have he : (mkB (c :: l)).toList.isEmpty = false := by rw [ByteArray.toList_eq]; rfl
 have hx : (mkB (c :: l)).extract 1 (1 + m) = mkB (l.take m) := by
  apply ByteArray.ext
  simp [mkB, ByteArray.data_extract, List.extract_eq_take_drop]
 have hy : (mkB (c :: l)).extract (1 + m) (l.length + 1) = mkB (l.drop m) := by
  apply ByteArray.ext
  simp [mkB, ByteArray.data_extract, List.extract_eq_take_drop, Nat.add_comm 1 m]
  rw [List.take_of_length_le (by simp)]
 have hcI : (c.toNat : Int) = 247 + (m : Int) := by omega
 have hmI : (1 : Int) ≤ m := by omega
 have hmJ : (m : Int) ≤ 8 := by omega
 have HC := Lib.hid hc
 have e1 : wrap64 (c.toNat : Int) = 247 + (m : Int) := by unfold wrap64; omega
 have e2 : 247 + (m : Int) - 247 = (m : Int) := by omega
 have e2b : wrap64 (m : Int) = (m : Int) := by unfold wrap64; omega
 have e3 : wrap64 (1 + (m : Int)) = 1 + (m : Int) := by unfold wrap64; omega
 have hcb : decide ((c.toNat : Int) < 248) = false := decide_eq_false (by omega)
 clear hc hm hm8 hcI
 generalize hss : mkB (c :: l) = s at *
 clear hss
 by_cases hl : l.length < m
 ·have hlb : decide ((l.length : Int) + 1 < 1 + (m : Int)) = true := decide_eq_true (by omega)
  have HL := Lib.hid hl
  clear hl hx hy
  go_enter Try.func47, Try.ntmps47
  go_wp2_with fail
  go_returns
  refine ⟨?_, Drawn0.refl _⟩
  have hm : c.toNat - 247 = m := by have := HC.out; omega
  have hu : unvarR (c :: l) = (0, mkB [], 4) := by
   unfold unvarR
   rw [unvarL_cons, if_neg (by have := HC.out; omega), hm, if_pos HL.out]
  rw [hu]; rfl
 ·have hlb : decide ((l.length : Int) + 1 < 1 + (m : Int)) = false := decide_eq_false (by omega)
  have hl2 : (1 : Int) + (m : Int) ≤ (l.length : Int) + 1 := by omega
  have q1 := slice_mid s l m hs (by omega) hx
  have q2 := slice_end s l m hs (by omega) hy
  clear hx hy
  have HL := Lib.hid hl
  have htl : (l.take m).length = m := by rw [List.length_take]; omega
  have hts : (mkB (l.take m)).size ≤ 8 := by
   have : (mkB (l.take m)).size = m := by simp [mkB, ByteArray.size]; omega
   omega
  have HN := Lib.hid (fun W => number_c (mkB (l.take m)) hts W)
  have hd : (mkB (l.take m)).data.toList = l.take m := rfl
  have hvlt : Pk.vl (l.take m) < 18446744073709551616 := by
   have h6 := Pk.vl_lt (l.take m)
   rw [htl] at h6
   have h7 : 256 ^ m ≤ 256 ^ 8 := Nat.pow_le_pow_right (by omega) (by omega)
   have h8 : (256 : Nat) ^ 8 = 18446744073709551616 := by decide
   omega
  rw [hd] at HN
  generalize hV : Pk.vl (l.take m) = V at *
  have HLT := Lib.hid hvlt
  have HV := Lib.hid hV
  clear hl htl hts hd hvlt hV
  have hres : unvarR (c :: l) = if V < 248 ∨ Pk.lw V ≠ m then (0, mkB [], 4) else ((V : Int), mkB (l.drop m), 0) := by
   have hm : c.toNat - 247 = m := by have := HC.out; omega
   unfold unvarR
   rw [unvarL_cons, if_neg (by have := HC.out; omega), hm, if_neg HL.out, HV.out]
   by_cases hq : V < 248 ∨ Pk.lw V ≠ m
   ·rw [if_pos hq, if_pos hq]
   ·rw [if_neg hq, if_neg hq]
  have HR := Lib.hid hres
  clear hres
  by_cases h1 : V < 248
  ·have h1b : decide ((V : Int) < 248) = true := decide_eq_true (by omega)
   have H1 := Lib.hid h1
   clear h1
   go_enter Try.func47, Try.ntmps47
   go_wp2_with fail
   refine (HN.out _).mono ?_
   rintro e w1 ⟨rfl, hw1⟩
   have hw1 := hw1.symm
   subst hw1
   go_wp2_with fail
   go_returns
   refine ⟨?_, Drawn0.refl _⟩
   rw [HR.out, if_pos (.inl H1.out)]; rfl
  ·have h1b : decide ((V : Int) < 248) = false := decide_eq_false (by omega)
   have H1 := Lib.hid h1
   clear h1
   by_cases h2 : Pk.lw V = m
   ·have h2b : ((Pk.lw V : Int) != (m : Int)) = false := by simp; omega
    have H2 := Lib.hid h2
    clear h2
    go_enter Try.func47, Try.ntmps47
    go_wp2_with fail
    refine (HN.out _).mono ?_
    rintro e w1 ⟨rfl, hw1⟩
    have hw1 := hw1.symm
    subst hw1
    go_wp2_with fail
    refine (least_c V HLT.out _).mono ?_
    rintro e w2 ⟨rfl, hw2⟩
    subst hw2
    go_wp2_with fail
    have e5 : IntKind.i64.wrap (1 + (m : Int)) = 1 + (m : Int) := IntWalk.i64_in _ (by omega)
    go_quiet (fail)
    go_wp2
    go_returns
    refine ⟨?_, ⟨nq, rfl⟩⟩
    rw [HR.out, if_neg (by have := H1.out; have := H2.out; omega)]; rfl
   ·have h2b : ((Pk.lw V : Int) != (m : Int)) = true := by simp; omega
    have H2 := Lib.hid h2
    clear h2
    go_enter Try.func47, Try.ntmps47
    go_wp2_with fail
    refine (HN.out _).mono ?_
    rintro e w1 ⟨rfl, hw1⟩
    have hw1 := hw1.symm
    subst hw1
    go_wp2_with fail
    refine (least_c V HLT.out _).mono ?_
    rintro e w2 ⟨rfl, hw2⟩
    subst hw2
    go_wp2_with fail
    go_returns
    refine ⟨?_, Drawn0.refl _⟩
    rw [HR.out, if_pos (.inr H2.out)]; rfl
theorem mkB_data (s : ByteArray) : mkB s.data.toList = s := by
 show (⟨s.data.toList.toArray⟩ : ByteArray) = s
 rw [Array.toArray_toList]
theorem unvar_c (s : ByteArray) (w : World) : Calls Try.prog 47 #[.string s] w fun e w' => e = retU (unvarR s.data.toList) ∧ Drawn0 w w' := by
 have h : ∀ l : List UInt8, Calls Try.prog 47 #[.string (mkB l)] w fun e w' => e = retU (unvarR l) ∧ Drawn0 w w' := by
  intro l
  cases l with
  | nil => exact unvar_0 w
  | cons c l =>
   by_cases hc : c.toNat < 248
   ·exact unvar_1 c l hc w
   ·exact unvar_2 c l (c.toNat - 247) (by omega) (by omega) w
 have := h s.data.toList
 rwa [mkB_data] at this
def pack_Unvar.f (a0 : ByteArray) : Option (Int × ByteArray × Int) := some (unvarR a0.data.toList)
theorem pack_Unvar.calls (a0 : ByteArray) (r1 : Int) (r2 : ByteArray) (r3 : Int) (w : World) (h : pack_Unvar.f a0 = some (r1, r2, r3)) :
  Calls Try.prog 47 #[.string a0] w fun e w' => e = .returned (.tuple #[.int .u64 r1, .string r2, .int .i64 r3]) ∧ Drawn0 w w' := by
 have h := Option.some.inj h
 have := unvar_c a0 w
 unfold retU at this
 rw [h] at this
 exact this
end Go.Proofs.YtkhcdichdnbcmaaR.Ext
end
section
namespace Go.Proofs.YtkhcdichdnbcmaaR.Sp
open Go.Proofs.YtkhcdichdnbcmaaR.Pk
set_option linter.unusedVariables false
set_option linter.unusedSimpArgs false
def Codec {α : Type} (p : List UInt8 → Option (α × List UInt8)) (g : α → Prop) (e : α → List UInt8) : Prop := ∀ l a r, p l = some (a, r) ↔ g a ∧ e a ++ r = l
theorem Codec.back {α : Type} {p : List UInt8 → Option (α × List UInt8)} {g : α → Prop} {e : α → List UInt8} (h : Codec p g e) {a : α} (ha : g a) (r : List UInt8) : p (e a ++ r) = some (a, r) := (h _ _ _).2 ⟨ha, rfl⟩
theorem Codec.apart {α : Type} {p : List UInt8 → Option (α × List UInt8)} {g : α → Prop} {e : α → List UInt8} (h : Codec p g e) {a b : α} (ha : g a) (hb : g b) {r s : List UInt8} (he : e a ++ r = e b ++ s) : a = b ∧ r = s := by
 have h1 := h.back ha r
 rw [he, h.back hb s] at h1
 injection h1 with h1
 injection h1 with h1 h2
 exact ⟨h1.symm, h2.symm⟩
def seqP {α β : Type} (p : List UInt8 → Option (α × List UInt8)) (q : α → List UInt8 → Option (β × List UInt8)) (l : List UInt8) : Option ((α × β) × List UInt8) := (p l).bind fun x => (q x.1 x.2).map fun y => ((x.1, y.1), y.2)
theorem Codec.seq {α β : Type} {p : List UInt8 → Option (α × List UInt8)} {g : α → Prop} {e : α → List UInt8} {q : α → List UInt8 → Option (β × List UInt8)} {g' : α → β → Prop} {e' : α → β → List UInt8}
  (h : Codec p g e) (k : ∀ a, g a → Codec (q a) (g' a) (e' a)) : Codec (seqP p q) (fun x => g x.1 ∧ g' x.1 x.2) (fun x => e x.1 ++ e' x.1 x.2) := by
 rintro l ⟨a, b⟩ r
 simp only [seqP, Option.bind_eq_some_iff, Option.map_eq_some_iff, Prod.mk.injEq]
 constructor
 ·rintro ⟨⟨a', l'⟩, h1, ⟨⟨b', r'⟩, h2, ⟨rfl, rfl⟩, rfl⟩⟩
  obtain ⟨h3, h4⟩ := (h _ _ _).1 h1
  obtain ⟨h5, h6⟩ := (k _ h3 _ _ _).1 h2
  refine ⟨⟨h3, h5⟩, ?_⟩
  rw [List.append_assoc]
  exact (congrArg (e a' ++ ·) h6).trans h4
 ·rintro ⟨⟨h1, h2⟩, h3⟩
  refine ⟨(a, e' a b ++ r), (h _ _ _).2 ⟨h1, by rw [← h3, List.append_assoc]⟩, (b, r), (k a h1 _ _ _).2 ⟨h2, rfl⟩, ⟨rfl, rfl⟩, rfl⟩
theorem Codec.map {α β : Type} {p : List UInt8 → Option (α × List UInt8)} {g : α → Prop} {e : α → List UInt8} (h : Codec p g e) (f : α → β) (i : β → α) (hf : ∀ a, i (f a) = a) (hi : ∀ b, f (i b) = b) : Codec (fun l => (p l).map fun x => (f x.1, x.2)) (fun b => g (i b)) (fun b => e (i b)) := by
 intro l b r
 simp only [Option.map_eq_some_iff, Prod.mk.injEq]
 constructor
 ·rintro ⟨⟨a, r'⟩, h1, rfl, rfl⟩
  rw [hf]
  exact (h _ _ _).1 h1
 ·intro h1
  exact ⟨(i b, r), (h _ _ _).2 h1, hi b, rfl⟩
theorem Codec.guard {α : Type} {p : List UInt8 → Option (α × List UInt8)} {g : α → Prop} {e : α → List UInt8} (h : Codec p g e) (t : α → Bool) : Codec (fun l => (p l).bind fun x => if t x.1 = true then some x else none) (fun a => g a ∧ t a = true) e := by
 intro l a r
 simp only [Option.bind_eq_some_iff]
 constructor
 ·rintro ⟨⟨a', r'⟩, h1, h2⟩
  split at h2
  ·rename_i ht
   injection h2 with h2
   injection h2 with h2 h3
   subst h2; subst h3
   obtain ⟨h3, h4⟩ := (h _ _ _).1 h1
   exact ⟨⟨h3, ht⟩, h4⟩
  ·cases h2
 ·rintro ⟨⟨h1, h2⟩, h3⟩
  exact ⟨(a, r), (h _ _ _).2 ⟨h1, h3⟩, by rw [if_pos h2]⟩
def numL (most : Int) (l : List UInt8) : Option (Int × List UInt8) := (unvarL l).bind fun x => if (x.1 : Int) ≤ most then some ((x.1 : Int), x.2) else none
def encN (n : Int) : List UInt8 := varL n.toNat
theorem num_codec {most : Int} (hm : most < 18446744073709551616) : Codec (numL most) (fun n => 0 ≤ n ∧ n ≤ most) encN := by
 intro l a r
 simp only [numL, Option.bind_eq_some_iff, encN]
 constructor
 ·rintro ⟨⟨n, r'⟩, h1, h2⟩
  split at h2
  ·injection h2 with h2
   injection h2 with h2 h3
   simp only at h2 h3
   subst h2; subst h3
   exact ⟨⟨by omega, by assumption⟩, by rw [Int.toNat_natCast]; exact (var_unvar h1).1⟩
  ·cases h2
 ·rintro ⟨⟨h1, h2⟩, h3⟩
  obtain ⟨n, rfl⟩ := Int.eq_ofNat_of_zero_le h1
  rw [Int.toNat_natCast] at h3
  exact ⟨(n, r), by rw [← h3]; exact unvar_var (by omega) r, by rw [if_pos h2]⟩
def manyP {α : Type} (p : List UInt8 → Option (α × List UInt8)) : Nat → List UInt8 → Option (List α × List UInt8)
 | 0, l => some ([], l)
 | n + 1, l => (p l).bind fun x => (manyP p n x.2).map fun y => (x.1 :: y.1, y.2)
theorem Codec.many {α : Type} {p : List UInt8 → Option (α × List UInt8)} {g : α → Prop} {e : α → List UInt8} (h : Codec p g e) (n : Nat) : Codec (manyP p n) (fun xs => xs.length = n ∧ ∀ x ∈ xs, g x) (fun xs => xs.flatMap e) := by
 induction n with
 | zero =>
  intro l xs r
  simp only [manyP, Option.some.injEq, Prod.mk.injEq]
  constructor
  ·rintro ⟨rfl, rfl⟩; simp
  ·rintro ⟨⟨h1, h2⟩, h3⟩
   obtain rfl := List.eq_nil_of_length_eq_zero h1
   exact ⟨rfl, by simpa using h3.symm⟩
 | succ n ih =>
  intro l xs r
  simp only [manyP, Option.bind_eq_some_iff, Option.map_eq_some_iff, Prod.mk.injEq]
  constructor
  ·rintro ⟨⟨a, l'⟩, h1, ⟨⟨ys, r'⟩, h2, rfl, rfl⟩⟩
   obtain ⟨h3, h4⟩ := (h _ _ _).1 h1
   obtain ⟨⟨h5, h6⟩, h7⟩ := (ih _ _ _).1 h2
   refine ⟨⟨by simp [h5], fun x hx => ?_⟩, ?_⟩
   ·rcases List.mem_cons.1 hx with rfl | hx
    ·exact h3
    ·exact h6 x hx
   ·rw [List.flatMap_cons, List.append_assoc]
    exact (congrArg (e a ++ ·) h7).trans h4
  ·rintro ⟨⟨h1, h2⟩, h3⟩
   cases xs with
   | nil => simp at h1
   | cons a ys =>
    rw [List.flatMap_cons, List.append_assoc] at h3
    refine ⟨(a, ys.flatMap e ++ r), (h _ _ _).2 ⟨h2 a List.mem_cons_self, h3⟩, (ys, r), (ih _ _ _).2 ⟨⟨by simpa using h1, fun x hx => h2 x (List.mem_cons_of_mem _ hx)⟩, rfl⟩, rfl, rfl⟩
def listP {α : Type} (most : Int) (p : List UInt8 → Option (α × List UInt8)) (l : List UInt8) : Option (List α × List UInt8) := (numL most l).bind fun x => manyP p x.1.toNat x.2
theorem Codec.list {α : Type} {p : List UInt8 → Option (α × List UInt8)} {g : α → Prop} {e : α → List UInt8} (h : Codec p g e) {most : Int} (hm : most < 18446744073709551616) : Codec (listP most p) (fun xs => (xs.length : Int) ≤ most ∧ ∀ x ∈ xs, g x) (fun xs => encN xs.length ++ xs.flatMap e) := by
 intro l xs r
 simp only [listP, Option.bind_eq_some_iff]
 constructor
 ·rintro ⟨⟨n, l'⟩, h1, h2⟩
  obtain ⟨⟨h3, h4⟩, h5⟩ := (num_codec hm _ _ _).1 h1
  obtain ⟨⟨h6, h7⟩, h8⟩ := (h.many _ _ _ _).1 h2
  obtain ⟨n, rfl⟩ := Int.eq_ofNat_of_zero_le h3
  simp only [Int.toNat_natCast] at h6
  subst h6
  refine ⟨⟨h4, h7⟩, ?_⟩
  rw [List.append_assoc]
  exact (congrArg (encN _ ++ ·) h8).trans h5
 ·rintro ⟨⟨h1, h2⟩, h3⟩
  rw [List.append_assoc] at h3
  exact ⟨((xs.length : Int), xs.flatMap e ++ r), (num_codec hm _ _ _).2 ⟨⟨by omega, h1⟩, h3⟩, (h.many _ _ _ _).2 ⟨⟨by simp, h2⟩, rfl⟩⟩
structure TS where
 always : Bool
 limit : Int
 window : Int
 base : Int
 most : Int
 probes : Int
 deriving DecidableEq
structure SP where
 id : Int
 cpu : Int
 mem : Int
 disk : Int
 ports : List Int
 tasks : List TS
 deriving DecidableEq
def inI (n lo hi : Int) : Bool := decide (lo ≤ n) && decide (n ≤ hi)
theorem inI_iff (n lo hi : Int) : inI n lo hi = true ↔ lo ≤ n ∧ n ≤ hi := by simp [inI]
def fstE : List Int → Int
 | [] => 0
 | e :: l => if e = 0 then fstE l else e
theorem fstE_zero (l : List Int) : fstE l = 0 ↔ ∀ e ∈ l, e = 0 := by
 induction l with
 | nil => simp [fstE]
 | cons e l ih =>
  simp only [fstE]
  split
  ·rename_i h; subst h; simp [ih]
  ·rename_i h
   constructor
   ·intro k; exact absurd k h
   ·intro k; exact k e List.mem_cons_self
def rangeE (n lo hi : Int) : Int := if inI n lo hi = true then 0 else 3
def portsG (before : Int) : List Int → Int
 | [] => 0
 | p :: l => if p < 1 ∨ p > 65535 then 3 else if p ≤ before then 13 else portsG p l
def portsE (l : List Int) : Int := if l.length > 8 then 5 else portsG 0 l
def countE (n : Nat) : Int := if n = 0 then 2 else if n > 4 then 5 else 0
def resE (c m d : Int) : Int := if inI c 0 1099511627776 = true ∧ inI m 0 1099511627776 = true ∧ inI d 0 1099511627776 = true then 0 else 3
def polE (l w b m : Int) : Int := if inI l 1 8 = true ∧ inI w 1 1099511627776 = true ∧ inI m 1 1099511627776 = true ∧ inI b 1 m = true then 0 else 3
def taskE (t : TS) : List Int := [polE t.limit t.window t.base t.most, rangeE t.probes 0 1000]
def askE (s : SP) : List Int := [rangeE s.id 0 2147483648, resE s.cpu s.mem s.disk, portsE s.ports, countE s.tasks.length] ++ (s.tasks.take 4).flatMap taskE
def specE (s : SP) : Int := fstE (askE s)
def okS (s : SP) : Bool := decide (specE s = 0)
def gT (t : TS) : Prop := (0 ≤ t.limit ∧ t.limit ≤ 8) ∧ (0 ≤ t.window ∧ t.window ≤ 1099511627776) ∧ (0 ≤ t.base ∧ t.base ≤ 1099511627776) ∧ (0 ≤ t.most ∧ t.most ≤ 1099511627776) ∧ (0 ≤ t.probes ∧ t.probes ≤ 1000)
def b2i (b : Bool) : Int := if b = true then 1 else 0
def numsT (t : TS) : List Int := [b2i t.always, t.limit, t.window, t.base, t.most, t.probes]
def numsS (s : SP) : List Int := [s.id, s.cpu, s.mem, s.disk, (s.ports.length : Int)] ++ s.ports ++ [(s.tasks.length : Int)] ++ s.tasks.flatMap numsT
def encNs (l : List Int) : List UInt8 := l.flatMap encN
def encS (s : SP) : List UInt8 := encNs (numsS s)
theorem encNs_append (a b : List Int) : encNs (a ++ b) = encNs a ++ encNs b := by simp [encNs]
theorem encNs_cons (a : Int) (b : List Int) : encNs (a :: b) = encN a ++ encNs b := by simp [encNs]
theorem encNs_nil : encNs [] = [] := rfl
theorem encNs_flat (l : List TS) : encNs (l.flatMap numsT) = l.flatMap (fun t => encNs (numsT t)) := by
 induction l with
 | nil => rfl
 | cons a l ih => rw [List.flatMap_cons, encNs_append, ih, List.flatMap_cons]
def rdT (l : List UInt8) : Option (TS × List UInt8) :=
 (numL 1 l).bind fun a => (numL 8 a.2).bind fun b => (numL 1099511627776 b.2).bind fun c => (numL 1099511627776 c.2).bind fun d => (numL 1099511627776 d.2).bind fun e => (numL 1000 e.2).bind fun f =>
  some (⟨decide (a.1 = 1), b.1, c.1, d.1, e.1, f.1⟩, f.2)
def rdS (l : List UInt8) : Option (SP × List UInt8) :=
 (numL 2147483648 l).bind fun a => (numL 1099511627776 a.2).bind fun b => (numL 1099511627776 b.2).bind fun c => (numL 1099511627776 c.2).bind fun d => (listP 8 (numL 65535) d.2).bind fun e => (listP 4 rdT e.2).bind fun f =>
  some (⟨a.1, b.1, c.1, d.1, e.1, f.1⟩, f.2)
def gS (s : SP) : Prop := (0 ≤ s.id ∧ s.id ≤ 2147483648) ∧ (0 ≤ s.cpu ∧ s.cpu ≤ 1099511627776) ∧ (0 ≤ s.mem ∧ s.mem ≤ 1099511627776) ∧ (0 ≤ s.disk ∧ s.disk ≤ 1099511627776) ∧ ((s.ports.length : Int) ≤ 8 ∧ ∀ p ∈ s.ports, 0 ≤ p ∧ p ≤ 65535) ∧ ((s.tasks.length : Int) ≤ 4 ∧ ∀ t ∈ s.tasks, gT t)
def decS (l : List UInt8) : Option (SP × List UInt8) := (rdS l).bind fun x => if okS x.1 = true then some x else none
theorem rdT_codec : Codec rdT gT (fun t => encNs (numsT t)) := by
 have h1 := num_codec (most := 1) (by decide)
 have h8 := num_codec (most := 8) (by decide)
 have h40 := num_codec (most := 1099511627776) (by decide)
 have hp := num_codec (most := 1000) (by decide)
 intro l t r
 simp only [rdT, Option.bind_eq_some_iff]
 constructor
 ·rintro ⟨⟨a, l1⟩, k1, ⟨b, l2⟩, k2, ⟨c, l3⟩, k3, ⟨d, l4⟩, k4, ⟨e, l5⟩, k5, ⟨f, l6⟩, k6, k7⟩
  dsimp only at k1 k2 k3 k4 k5 k6
  obtain ⟨a1, a2⟩ := (h1 _ _ _).1 k1
  obtain ⟨b1, b2⟩ := (h8 _ _ _).1 k2
  obtain ⟨c1, c2⟩ := (h40 _ _ _).1 k3
  obtain ⟨d1, d2⟩ := (h40 _ _ _).1 k4
  obtain ⟨e1, e2⟩ := (h40 _ _ _).1 k5
  obtain ⟨f1, f2⟩ := (hp _ _ _).1 k6
  simp only [Option.some.injEq, Prod.mk.injEq] at k7
  obtain ⟨rfl, rfl⟩ := k7
  refine ⟨⟨b1, c1, d1, e1, f1⟩, ?_⟩
  have ha : b2i (decide (a = 1)) = a := by unfold b2i; split <;> rename_i hq <;> simp at hq <;> omega
  simp only [numsT, encNs_cons, encNs_nil, ha, List.append_assoc, List.nil_append]
  rw [← a2, ← b2, ← c2, ← d2, ← e2, ← f2]
 ·rintro ⟨⟨b1, c1, d1, e1, f1⟩, he⟩
  simp only [numsT, encNs_cons, encNs_nil, List.append_assoc, List.nil_append] at he
  have ha : 0 ≤ b2i t.always ∧ b2i t.always ≤ 1 := by unfold b2i; split <;> omega
  refine ⟨_, (h1 _ _ _).2 ⟨ha, he⟩, _, (h8 _ _ _).2 ⟨b1, rfl⟩, _, (h40 _ _ _).2 ⟨c1, rfl⟩, _, (h40 _ _ _).2 ⟨d1, rfl⟩, _, (h40 _ _ _).2 ⟨e1, rfl⟩, _, (hp _ _ _).2 ⟨f1, rfl⟩, ?_⟩
  have hb : decide (b2i t.always = 1) = t.always := by cases t.always <;> rfl
  simp [hb]
theorem rdS_codec : Codec rdS gS encS := by
 have h31 := num_codec (most := 2147483648) (by decide)
 have h40 := num_codec (most := 1099511627776) (by decide)
 have hp := (num_codec (most := 65535) (by decide)).list (most := 8) (by decide)
 have ht := rdT_codec.list (most := 4) (by decide)
 intro l s r
 simp only [rdS, Option.bind_eq_some_iff]
 constructor
 ·rintro ⟨⟨a, l1⟩, k1, ⟨b, l2⟩, k2, ⟨c, l3⟩, k3, ⟨d, l4⟩, k4, ⟨e, l5⟩, k5, ⟨f, l6⟩, k6, k7⟩
  dsimp only at k1 k2 k3 k4 k5 k6
  obtain ⟨a1, a2⟩ := (h31 _ _ _).1 k1
  obtain ⟨b1, b2⟩ := (h40 _ _ _).1 k2
  obtain ⟨c1, c2⟩ := (h40 _ _ _).1 k3
  obtain ⟨d1, d2⟩ := (h40 _ _ _).1 k4
  obtain ⟨e1, e2⟩ := (hp _ _ _).1 k5
  obtain ⟨f1, f2⟩ := (ht _ _ _).1 k6
  simp only [Option.some.injEq, Prod.mk.injEq] at k7
  obtain ⟨rfl, rfl⟩ := k7
  refine ⟨⟨a1, b1, c1, d1, e1, f1⟩, ?_⟩
  simp only [encS, numsS, encNs_append, encNs_cons, encNs_nil, encNs_flat, List.append_assoc, List.nil_append]
  simp only [List.append_assoc] at e2 f2
  rw [← a2, ← b2, ← c2, ← d2, ← e2, ← f2]
  rfl
 ·rintro ⟨⟨a1, b1, c1, d1, e1, f1⟩, he⟩
  simp only [encS, numsS, encNs_append, encNs_cons, encNs_nil, encNs_flat, List.append_assoc, List.nil_append] at he
  refine ⟨_, (h31 _ _ _).2 ⟨a1, he⟩, _, (h40 _ _ _).2 ⟨b1, rfl⟩, _, (h40 _ _ _).2 ⟨c1, rfl⟩, _, (h40 _ _ _).2 ⟨d1, rfl⟩, _, (hp _ _ _).2 ⟨e1, by simp only [List.append_assoc]; rfl⟩, _, (ht _ _ _).2 ⟨f1, by simp only [List.append_assoc]⟩, rfl⟩
theorem portsG_good {b : Int} {l : List Int} (h : portsG b l = 0) : ∀ p ∈ l, 0 ≤ p ∧ p ≤ 65535 := by
 induction l generalizing b with
 | nil => intro p hp; cases hp
 | cons a l ih =>
  simp only [portsG] at h
  split at h
  ·cases h
  ·split at h
   ·cases h
   ·intro p hp
    rcases List.mem_cons.1 hp with rfl | hp
    ·omega
    ·exact ih h p hp
theorem ite3 {c : Prop} [Decidable c] (h : (if c then (0 : Int) else 3) = 0) : c := by
 split at h
 ·assumption
 ·cases h
theorem okS_gS {s : SP} (h : okS s = true) : gS s := by
 have h := of_decide_eq_true h
 have h := (fstE_zero _).1 h
 simp only [askE, List.mem_append, List.mem_cons, List.not_mem_nil, or_false] at h
 have h1 := (inI_iff _ _ _).1 (ite3 (h _ (Or.inl (Or.inl rfl))))
 have h2 := ite3 (h (resE s.cpu s.mem s.disk) (Or.inl (Or.inr (Or.inl rfl))))
 have h3 : portsE s.ports = 0 := h _ (Or.inl (Or.inr (Or.inr (Or.inl rfl))))
 have h4 : countE s.tasks.length = 0 := h _ (Or.inl (Or.inr (Or.inr (Or.inr rfl))))
 have h5 : s.tasks.length ≤ 4 := by
  unfold countE at h4
  split at h4
  ·cases h4
  ·split at h4
   ·cases h4
   ·omega
 have h6 : s.ports.length ≤ 8 ∧ portsG 0 s.ports = 0 := by
  unfold portsE at h3
  split at h3
  ·cases h3
  ·exact ⟨by omega, h3⟩
 obtain ⟨r1, r2, r3⟩ := h2
 refine ⟨h1, (inI_iff _ _ _).1 r1, (inI_iff _ _ _).1 r2, (inI_iff _ _ _).1 r3, ⟨by omega, portsG_good h6.2⟩, ⟨by omega, fun t ht => ?_⟩⟩
 rw [List.take_of_length_le h5] at h
 have p1 := ite3 (h (polE t.limit t.window t.base t.most) (Or.inr (List.mem_flatMap.2 ⟨t, ht, by simp [taskE]⟩)))
 have p2 := (inI_iff _ _ _).1 (ite3 (h (rangeE t.probes 0 1000) (Or.inr (List.mem_flatMap.2 ⟨t, ht, by simp [taskE]⟩))))
 obtain ⟨q1, q2, q3, q4⟩ := p1
 have q1 := (inI_iff _ _ _).1 q1
 have q2 := (inI_iff _ _ _).1 q2
 have q3 := (inI_iff _ _ _).1 q3
 have q4 := (inI_iff _ _ _).1 q4
 exact ⟨⟨by omega, by omega⟩, ⟨by omega, by omega⟩, ⟨by omega, by omega⟩, ⟨by omega, by omega⟩, p2⟩
theorem decS_codec : Codec decS (fun s => okS s = true) encS := by
 have h := rdS_codec.guard okS
 intro l s r
 constructor
 ·intro k
  have := (h l s r).1 k
  exact ⟨this.1.2, this.2⟩
 ·rintro ⟨k1, k2⟩
  exact (h l s r).2 ⟨⟨okS_gS k1, k1⟩, k2⟩
theorem encN_length (n : Int) : 1 ≤ (encN n).length ∧ (n < 248 → (encN n).length = 1) ∧ (n ≤ 65535 → (encN n).length ≤ 3) ∧ (n ≤ 2147483648 → (encN n).length ≤ 5) ∧ (n ≤ 1099511627776 → (encN n).length ≤ 7) := by
 unfold encN varL
 by_cases h : n.toNat < 248
 ·rw [if_pos h]
  simp only [List.length_singleton]
  exact ⟨Nat.le_refl _, fun _ => by simp, fun _ => by omega, fun _ => by omega, fun _ => by omega⟩
 ·rw [if_neg h]
  simp only [List.length_cons, be_length]
  have hp : ∀ w, n.toNat < 256 ^ w → lw n.toNat ≤ w := fun w h => (lw_le_iff _ _).2 h
  have e2 : (256 : Nat) ^ 2 = 65536 := by decide
  have e4 : (256 : Nat) ^ 4 = 4294967296 := by decide
  have e6 : (256 : Nat) ^ 6 = 281474976710656 := by decide
  have h2 := hp 2
  have h4 := hp 4
  have h6 := hp 6
  rw [e2] at h2
  rw [e4] at h4
  rw [e6] at h6
  exact ⟨by omega, fun _ => by omega, fun _ => by omega, fun _ => by omega, fun _ => by omega⟩
theorem encN_3 {n : Int} (h : n ≤ 65535) : (encN n).length ≤ 3 := by
 obtain ⟨-, -, h3, -, -⟩ := encN_length n
 exact h3 h
theorem encN_7 {n : Int} (h : n ≤ 1099511627776) : (encN n).length ≤ 7 := by
 obtain ⟨-, -, -, -, h3⟩ := encN_length n
 exact h3 h
theorem encN_5 {n : Int} (h : n ≤ 2147483648) : (encN n).length ≤ 5 := by
 obtain ⟨-, -, -, h3, -⟩ := encN_length n
 exact h3 h
theorem encN_1 {n : Int} (h : n ≤ 247) : (encN n).length = 1 := by
 obtain ⟨-, h3, -, -, -⟩ := encN_length n
 exact h3 (by omega)
theorem flat_len {α : Type} (e : α → List UInt8) (m : Nat) (l : List α) (h : ∀ x ∈ l, (e x).length ≤ m) : (l.flatMap e).length ≤ m * l.length := by
 induction l with
 | nil => simp
 | cons a l ih =>
  rw [List.flatMap_cons, List.length_append, List.length_cons, Nat.mul_succ]
  have h1 := h a List.mem_cons_self
  have h2 := ih (fun x hx => h x (List.mem_cons_of_mem _ hx))
  omega
theorem encT_length {t : TS} (h : gT t) : (encNs (numsT t)).length ≤ 26 := by
 obtain ⟨q1, q2, q3, q4, q5⟩ := h
 have hb : b2i t.always ≤ 247 := by unfold b2i; split <;> omega
 have k1 := encN_1 hb
 have k2 := encN_1 (n := t.limit) (by omega)
 have k3 := encN_7 q2.2
 have k4 := encN_7 q3.2
 have k5 := encN_7 q4.2
 have k6 := encN_3 (n := t.probes) (by omega)
 simp only [numsT, encNs_cons, encNs_nil, List.length_append, List.length_nil]
 omega
theorem encS_length {s : SP} (h : gS s) : (encS s).length ≤ 156 := by
 obtain ⟨a1, b1, c1, d1, ⟨e1, e2⟩, ⟨f1, f2⟩⟩ := h
 have h1 := encN_5 a1.2
 have h2 := encN_7 b1.2
 have h3 := encN_7 c1.2
 have h4 := encN_7 d1.2
 have h5 := encN_1 (n := (s.ports.length : Int)) (by omega)
 have h6 := encN_1 (n := (s.tasks.length : Int)) (by omega)
 have h7 := flat_len encN 3 s.ports (fun p hp => encN_3 (e2 p hp).2)
 have h8 := flat_len (fun t => encNs (numsT t)) 26 s.tasks (fun t ht => encT_length (f2 t ht))
 simp only [encS, numsS, encNs_append, encNs_cons, encNs_nil, encNs_flat, List.length_append, List.length_nil]
 have h9 : (encNs s.ports).length ≤ 3 * s.ports.length := h7
 omega
end Go.Proofs.YtkhcdichdnbcmaaR.Sp
end
section
namespace Go.Proofs.YtkhcdichdnbcmaaR
open Go.RowKit Go.Shelf Go.Proofs.YtkhcdichdnbcmaaRW.PrintWords Go.Proofs.YtkhcdichdnbcmaaR.Sp
set_option linter.unusedSimpArgs false
set_option linter.unusedVariables false
def fnV (p : Nat × Nat) : Value := .func (.func p.1) #[] #[.pointer (some ⟨p.2, 0, none⟩)]
def fnAt (fs : List (Nat × Nat)) (k : Nat) : Nat × Nat := fs.getD k (0, 0)
def RestE (es : List Int) (k : Nat) : Prop := fstE es = fstE (es.drop k)
theorem RestE.zero (es : List Int) : RestE es 0 := rfl
theorem RestE.next {es : List Int} {k : Nat} (h : RestE es k) (hk : k < es.length) (he : es.getD k 0 = 0) : RestE es (k + 1) := by
 unfold RestE at *
 rw [h, List.drop_eq_getElem_cons hk]
 have : es[k] = 0 := by rw [← he]; simp [hk]
 rw [fstE, if_pos this]
theorem RestE.stop {es : List Int} {k : Nat} (h : RestE es k) (hk : k < es.length) {e : Int} (he : es.getD k 0 = e) (h0 : e ≠ 0) : fstE es = e := by
 unfold RestE at *
 rw [h, List.drop_eq_getElem_cons hk]
 have : es[k] = e := by rw [← he]; simp [hk]
 rw [fstE, this, if_neg h0]
theorem RestE.fin {es : List Int} {k : Nat} (h : RestE es k) (hk : es.length ≤ k) : fstE es = 0 := by
 unfold RestE at *
 rw [h, List.drop_eq_nil_of_le hk]; rfl
set_option maxHeartbeats 2000000 in
theorem ask_any (b n c : Nat) (fs : List (Nat × Nat)) (es : List Int) (w : World) (hn : n = fs.length) (hl : es.length = fs.length) (hm : fs.length ≤ 1000) (hb : b < w.heap.size)
  (hC : ∀ k, k < fs.length → w.cell? ⟨b, k, none⟩ = some (fnV (fnAt fs k)))
  (hE : ∀ k, k < fs.length → ∀ args W, (callFunc (fnAt fs k).1 args).run Try.prog W = .ok (.enter (fnAt fs k).1 args) W)
  (hF : ∀ k, k < fs.length → ∀ W, Below w.heap.size w W → Calls Try.prog (fnAt fs k).1 #[.pointer (some ⟨(fnAt fs k).2, 0, none⟩)] W fun e w' => e = .returned (.int .i64 (es.getD k 0)) ∧ Below W.heap.size W w') :
  Calls Try.prog 88 #[.slice (some ⟨b, 0, none⟩) n c] w fun e w' => e = .returned (.int .i64 (fstE es)) ∧ Below w.heap.size w w' := by
 subst hn
 have HC := Lib.hid hC
 have HE := Lib.hid hE
 have HF := Lib.hid hF
 have HL := Lib.hid hl
 clear hC hE hF hl
 go_enter Try.func88, Try.ntmps88
 go_wp2
 go_loopw [8] (fun v w' => ∃ k : Nat, k ≤ fs.length ∧ v = .int .i64 k ∧ RestE es k ∧ Below w.heap.size w w') (fun v _ => fs.length - (intOf v).toNat)
 case atStart => exact ⟨0, Nat.zero_le _, rfl, RestE.zero _, Below.refl _ _⟩
 case round =>
  obtain ⟨k, hk, rfl, hr, hbel⟩ := hrel
  by_cases hlt : k < fs.length
  ·have hc1 : wr.cell? ⟨b, k, none⟩ = some (fnV (fnAt fs k)) := (hbel.cell hb).trans (HC.out k hlt)
   have he := HE.out k hlt
   have hf := HF.out k hlt wr hbel
   unfold fnV at hc1
   generalize (fnAt fs k).1 = g at *
   generalize (fnAt fs k).2 = B at *
   have hF1 := Lib.hid hf
   clear hf
   generalize hev : es.getD k 0 = e0 at *
   have HEV := Lib.hid hev
   clear hev
   by_cases h0 : e0 = 0
   ·subst h0
    go_wp2_with fail
    refine hF1.out.mono ?_
    rintro e w1 ⟨rfl, hb1⟩
    have hB1 : Below w.heap.size w w1 := below_then hbel hb1
    clear hb1 he hc1
    go_wp2
    go_roundw
    case rel => exact ⟨k + 1, by omega, by go_num, hr.next (by rw [HL.out]; exact hlt) HEV.out, hB1⟩
    case measure => simp [intOf]; omega
   ·have h0b : (e0 != 0) = true := bne_iff_ne.mpr h0
    go_wp2_with fail
    refine hF1.out.mono ?_
    rintro e w1 ⟨rfl, hb1⟩
    have hB1 : Below w.heap.size w w1 := below_then hbel hb1
    clear hb1 he hc1
    go_wp2
    go_returns
    exact ⟨ret_int (hr.stop (by rw [HL.out]; exact hlt) HEV.out h0).symm, hB1⟩
  ·go_wp2
   go_returns
   exact ⟨ret_int (hr.fin (by rw [HL.out]; omega)).symm, hbel⟩
set_option maxHeartbeats 400000 in
theorem rng_c (n lo hi : Int) (w : World) : Calls Try.prog 79 #[.int .i64 n, .int .i64 lo, .int .i64 hi] w fun e w' => e = .returned (.int .i64 (rangeE n lo hi)) ∧ w' = w := by
 unfold rangeE
 by_cases h : inI n lo hi = true
 ·have h' := (inI_iff _ _ _).1 h
  have h1 : decide (n < lo) = false := by simp; omega
  have h2 : decide (hi < n) = false := by simp; omega
  rw [if_pos h]
  clear h' h
  go_enter Try.func79, Try.ntmps79
  go_wp2
  go_ret
  exact ⟨rfl, rfl⟩
 ·rw [if_neg h]
  have h' : n < lo ∨ hi < n := by
   have : ¬ (lo ≤ n ∧ n ≤ hi) := fun q => h ((inI_iff _ _ _).2 q)
   omega
  clear h
  by_cases h1 : n < lo
  ·clear h'
   have h2 : decide (n < lo) = true := by simpa using h1
   go_enter Try.func79, Try.ntmps79
   go_wp2
   go_ret
   exact ⟨rfl, rfl⟩
  ·have h1 : decide (n < lo) = false := by simpa using h1
   have h2 : decide (hi < n) = true := by simp; simp at h1; omega
   clear h'
   go_enter Try.func79, Try.ntmps79
   go_wp2
   go_ret
   exact ⟨rfl, rfl⟩
end Go.Proofs.YtkhcdichdnbcmaaR
end
section
namespace Go.Proofs.YtkhcdichdnbcmaaR
open Go.RowKit Go.Proofs.YtkhcdichdnbcmaaRW.PrintWords Go.Proofs.YtkhcdichdnbcmaaR.Sp
set_option linter.unusedSimpArgs false
set_option linter.unusedVariables false
def RowI (W : World) (A : Option Addr) (l : List Int) : Prop := l = [] ∨ ∃ b off, A = some ⟨b, off, none⟩ ∧ b < W.heap.size ∧ ∀ k, k < l.length → W.cell? ⟨b, off + k, none⟩ = some (.int .i64 (l.getD k 0))
theorem RowI.below {W W1 : World} {A : Option Addr} {l : List Int} (h : RowI W A l) (hb : Below W.heap.size W W1) : RowI W1 A l := by
 rcases h with h | ⟨b, off, h1, h2, h3⟩
 ·exact .inl h
 ·exact .inr ⟨b, off, h1, Nat.lt_of_lt_of_le h2 hb.size, fun k hk => (hb.cell h2).trans (h3 k hk)⟩
def t0 : TS := ⟨false, 0, 0, 0, 0, 0⟩
def tsAt (l : List TS) (k : Nat) : TS := l.getD k t0
def RowT (W : World) (A : Option Addr) (l : List TS) : Prop := l = [] ∨ ∃ b off, A = some ⟨b, off, none⟩ ∧ b < W.heap.size ∧ ∀ k, k < l.length →
 W.cell? ⟨b, off + k * 6, none⟩ = some (.bool (tsAt l k).always) ∧ W.cell? ⟨b, off + k * 6 + 1, none⟩ = some (.int .i64 (tsAt l k).limit) ∧ W.cell? ⟨b, off + k * 6 + 2, none⟩ = some (.int .i64 (tsAt l k).window) ∧
 W.cell? ⟨b, off + k * 6 + 3, none⟩ = some (.int .i64 (tsAt l k).base) ∧ W.cell? ⟨b, off + k * 6 + 4, none⟩ = some (.int .i64 (tsAt l k).most) ∧ W.cell? ⟨b, off + k * 6 + 5, none⟩ = some (.int .i64 (tsAt l k).probes)
theorem RowT.below {W W1 : World} {A : Option Addr} {l : List TS} (h : RowT W A l) (hb : Below W.heap.size W W1) : RowT W1 A l := by
 rcases h with h | ⟨b, off, h1, h2, h3⟩
 ·exact .inl h
 ·refine .inr ⟨b, off, h1, Nat.lt_of_lt_of_le h2 hb.size, fun k hk => ?_⟩
  obtain ⟨q0, q1, q2, q3, q4, q5⟩ := h3 k hk
  exact ⟨(hb.cell h2).trans q0, (hb.cell h2).trans q1, (hb.cell h2).trans q2, (hb.cell h2).trans q3, (hb.cell h2).trans q4, (hb.cell h2).trans q5⟩
def RestG (l : List Int) (k : Nat) (b : Int) : Prop := portsG 0 l = portsG b (l.drop k)
theorem RestG.zero (l : List Int) : RestG l 0 0 := rfl
theorem RestG.step {l : List Int} {k : Nat} {b : Int} (h : RestG l k b) (hk : k < l.length) : portsG 0 l = if l.getD k 0 < 1 ∨ l.getD k 0 > 65535 then 3 else if l.getD k 0 ≤ b then 13 else portsG (l.getD k 0) (l.drop (k + 1)) := by
 unfold RestG at h
 rw [h, List.drop_eq_getElem_cons hk]
 have : l.getD k 0 = l[k] := by simp [hk]
 rw [this, portsG]
theorem RestG.fin {l : List Int} {k : Nat} {b : Int} (h : RestG l k b) (hk : l.length ≤ k) : portsG 0 l = 0 := by
 unfold RestG at h
 rw [h, List.drop_eq_nil_of_le hk]; rfl
set_option maxHeartbeats 2000000 in
theorem ports_c (A : Option Addr) (n c : Nat) (l : List Int) (w : World) (hn : n = l.length) (hr : RowI w A l) (hm : l.length ≤ 9223372036854775807) :
  Calls Try.prog 83 #[.slice A n c] w fun e w' => e = .returned (.int .i64 (portsE l)) ∧ w' = w := by
 subst hn
 by_cases h8 : 8 < l.length
 ·have hE : portsE l = 5 := by unfold portsE; rw [if_pos h8]
  have HE := Lib.hid hE
  have HR := Lib.hid hr
  clear hE hr
  go_enter Try.func83, Try.ntmps83
  go_wp2
  go_returns
  exact ⟨ret_int HE.out.symm, rfl⟩
 ·have hE : portsE l = portsG 0 l := by unfold portsE; rw [if_neg h8]
  have HE := Lib.hid hE
  have HR := Lib.hid hr
  clear hE hr
  go_enter Try.func83, Try.ntmps83
  go_wp2
  go_loop [3, 11] (fun v i => ∃ (k : Nat) (b : Int), k ≤ l.length ∧ i = .int .i64 k ∧ v = .int .i64 b ∧ RestG l k b) (fun _ i => l.length - (intOf i).toNat)
  case atStart => exact ⟨0, 0, Nat.zero_le _, rfl, rfl, RestG.zero _⟩
  case round =>
   obtain ⟨k, b, hk, rfl, rfl, hG⟩ := hrel
   by_cases hlt : k < l.length
   ·obtain ⟨B, off, rfl, hb, hcells⟩ : ∃ b off, A = some ⟨b, off, none⟩ ∧ b < w.heap.size ∧ _ := HR.out.resolve_left (by rintro rfl; simp at hlt)
    have hc := hcells k hlt
    clear hcells
    have hs := hG.step hlt
    generalize hp : l.getD k 0 = p at *
    have HP := Lib.hid hp
    have HS := Lib.hid hs
    clear hp hs
    by_cases h1 : p < 1
    ·have h1b : decide (p < 1) = true := decide_eq_true h1
     go_wp2
     go_returns
     exact ⟨ret_int (by rw [HE.out, HS.out, if_pos (.inl h1)]), rfl⟩
    ·have h1b : decide (p < 1) = false := decide_eq_false h1
     by_cases h2 : p > 65535
     ·have h2b : decide (65535 < p) = true := decide_eq_true h2
      go_wp2
      go_returns
      exact ⟨ret_int (by rw [HE.out, HS.out, if_pos (.inr h2)]), rfl⟩
     ·have h2b : decide (65535 < p) = false := decide_eq_false h2
      by_cases h3 : p ≤ b
      ·have h3b : decide (p ≤ b) = true := decide_eq_true h3
       go_wp2
       go_returns
       exact ⟨ret_int (by rw [HE.out, HS.out, if_neg (by omega), if_pos h3]), rfl⟩
      ·have h3b : decide (p ≤ b) = false := decide_eq_false h3
       go_wp2
       go_round
       case rel => exact ⟨k + 1, p, by omega, by go_num, rfl, by unfold RestG; rw [HS.out, if_neg (by omega), if_neg h3]⟩
       case measure => simp [intOf]; omega
   ·go_wp2
    go_returns
    exact ⟨ret_int (by rw [HE.out, hG.fin (by omega)]), rfl⟩
theorem resE_okR (cpu mem disk : Int) : errI (okR cpu mem disk) = resE cpu mem disk := by
 unfold resE errI
 have : okR cpu mem disk = true ↔ inI cpu 0 1099511627776 = true ∧ inI mem 0 1099511627776 = true ∧ inI disk 0 1099511627776 = true := by
  rw [okR_iff, inI_iff, inI_iff, inI_iff]
 by_cases h : okR cpu mem disk = true
 ·rw [if_pos h, if_pos (this.1 h)]
 ·rw [if_neg h, if_neg (fun q => h (this.2 q))]
theorem polE_okP (l wd b m : Int) : errP (okP l wd b m) = polE l wd b m := by
 unfold polE errP
 have : okP l wd b m = true ↔ inI l 1 8 = true ∧ inI wd 1 1099511627776 = true ∧ inI m 1 1099511627776 = true ∧ inI b 1 m = true := by
  rw [okP_iff, inI_iff, inI_iff, inI_iff, inI_iff]
  constructor
  ·rintro ⟨a, b, c, d, e, f⟩; exact ⟨a, b, ⟨c, d⟩, e, f⟩
  ·rintro ⟨a, b, ⟨c, d⟩, e, f⟩; exact ⟨a, b, c, d, e, f⟩
 by_cases h : okP l wd b m = true
 ·rw [if_pos h, if_pos (this.1 h)]
 ·rw [if_neg h, if_neg (fun q => h (this.2 q))]
section
variable (B : Nat) (id cpu mem disk : Int) (P T : Value) (w : World) (hB : w.heap[B]? = some (.cells #[.int .i64 id, .int .i64 cpu, .int .i64 mem, .int .i64 disk, P, T] 27 (0, 0)))
include hB
set_option maxHeartbeats 400000 in
theorem chk1_c : Calls Try.prog 78 #[.pointer (some ⟨B, 0, none⟩)] w fun e w' => e = .returned (.int .i64 (rangeE id 0 2147483648)) ∧ Below w.heap.size w w' := by
 have hc := vcell hB
 go_enter Try.func78, Try.ntmps78
 go_wp2_with (go_at_call 79; (with_reducible refine (rng_c _ _ _ _).mono ?_); rintro e_ w1 ⟨rfl, rfl⟩)
 go_ret
 exact ⟨rfl, Below.refl _ _⟩
set_option maxHeartbeats 400000 in
theorem chk2_c : Calls Try.prog 80 #[.pointer (some ⟨B, 0, none⟩)] w fun e w' => e = .returned (.int .i64 (resE cpu mem disk)) ∧ Below w.heap.size w w' := by
 have hc := vcell hB
 rw [← resE_okR]
 go_enter Try.func80, Try.ntmps80
 go_wp2_with (go_at_call 81; (with_reducible refine (check_c _ _ _ _).mono ?_); rintro e_ w1 ⟨rfl, hb⟩)
 go_ret
 exact ⟨rfl, hb⟩
end
set_option maxHeartbeats 400000 in
theorem chk3_c (B : Nat) (id cpu mem disk : Int) (A : Option Addr) (n c : Nat) (T : Value) (l : List Int) (w : World) (hB : w.heap[B]? = some (.cells #[.int .i64 id, .int .i64 cpu, .int .i64 mem, .int .i64 disk, .slice A n c, T] 27 (0, 0)))
  (hn : n = l.length) (hr : RowI w A l) (hm : l.length ≤ 9223372036854775807) : Calls Try.prog 82 #[.pointer (some ⟨B, 0, none⟩)] w fun e w' => e = .returned (.int .i64 (portsE l)) ∧ Below w.heap.size w w' := by
 have hc := vcell hB
 have HN := Lib.hid hn
 have HR := Lib.hid hr
 clear hn hr
 go_enter Try.func82, Try.ntmps82
 go_wp2_with (go_at_call 83; (with_reducible refine (ports_c _ _ _ l _ HN.out HR.out hm).mono ?_); rintro e_ w1 ⟨rfl, rfl⟩)
 go_ret
 exact ⟨rfl, Below.refl _ _⟩
set_option maxHeartbeats 400000 in
theorem chk4_c (B : Nat) (id cpu mem disk : Int) (A : Option Addr) (n c : Nat) (P : Value) (w : World) (hB : w.heap[B]? = some (.cells #[.int .i64 id, .int .i64 cpu, .int .i64 mem, .int .i64 disk, P, .slice A n c] 27 (0, 0)))
  (hm : n ≤ 9223372036854775807) : Calls Try.prog 84 #[.pointer (some ⟨B, 0, none⟩)] w fun e w' => e = .returned (.int .i64 (countE n)) ∧ Below w.heap.size w w' := by
 have hc := vcell hB
 unfold countE
 by_cases h0 : n = 0
 ·subst h0
  rw [if_pos rfl]
  go_enter Try.func84, Try.ntmps84
  go_wp2
  go_returns
  exact ⟨rfl, Below.refl _ _⟩
 ·rw [if_neg h0]
  have h0b : ((n : Int) == 0) = false := by simp; omega
  have h0c : (n == 0) = false := by simp; omega
  by_cases h4 : n > 4
  ·rw [if_pos h4]
   go_enter Try.func84, Try.ntmps84
   go_wp2
   all_goals go_returns
   all_goals exact ⟨rfl, Below.refl _ _⟩
  ·rw [if_neg h4]
   go_enter Try.func84, Try.ntmps84
   go_wp2
   all_goals go_returns
   all_goals exact ⟨rfl, Below.refl _ _⟩
section
variable (B : Nat) (al : Bool) (l wd b m p : Int) (w : World) (hB : w.heap[B]? = some (.cells #[.bool al, .int .i64 l, .int .i64 wd, .int .i64 b, .int .i64 m, .int .i64 p] 90 (0, 0)))
include hB
set_option maxHeartbeats 400000 in
theorem chk5_c : Calls Try.prog 85 #[.pointer (some ⟨B, 0, none⟩)] w fun e w' => e = .returned (.int .i64 (polE l wd b m)) ∧ Below w.heap.size w w' := by
 have hc := vcell hB
 rw [← polE_okP]
 go_enter Try.func85, Try.ntmps85
 go_wp2_with (go_at_call 86; (with_reducible refine (dcheck_c _ _ _ _ _ _).mono ?_); rintro e_ w1 ⟨rfl, hb⟩)
 go_ret
 exact ⟨rfl, hb⟩
set_option maxHeartbeats 400000 in
theorem chk6_c : Calls Try.prog 87 #[.pointer (some ⟨B, 0, none⟩)] w fun e w' => e = .returned (.int .i64 (rangeE p 0 1000)) ∧ Below w.heap.size w w' := by
 have hc := vcell hB
 go_enter Try.func87, Try.ntmps87
 go_wp2_with (go_at_call 79; (with_reducible refine (rng_c _ _ _ _).mono ?_); rintro e_ w1 ⟨rfl, rfl⟩)
 go_ret
 exact ⟨rfl, Below.refl _ _⟩
end
end Go.Proofs.YtkhcdichdnbcmaaR
end
section
namespace Go.Proofs.YtkhcdichdnbcmaaR
open Go.RowKit Go.Shelf Go.Proofs.YtkhcdichdnbcmaaRW.PrintWords Go.Proofs.YtkhcdichdnbcmaaR.Sp
set_option linter.unusedSimpArgs false
set_option linter.unusedVariables false
theorem fnV_one (x : Nat × Nat) : (fnV x).oneCell' = true := rfl
def kF : Kd (Nat × Nat) := Kd.scalar fnV fnV_one
theorem info_fn : (Try.prog.info? 75).map (fun i => (i.zero, i.size, i.bytes)) = some (some .nilFunc, 1, 8) := by kernel_rfl
theorem ent1 : Enters Try.prog 78 := enters_of Try.func78 (by kernel_rfl) rfl
theorem ent2 : Enters Try.prog 80 := enters_of Try.func80 (by kernel_rfl) rfl
theorem ent3 : Enters Try.prog 82 := enters_of Try.func82 (by kernel_rfl) rfl
theorem ent4 : Enters Try.prog 84 := enters_of Try.func84 (by kernel_rfl) rfl
theorem ent5 : Enters Try.prog 85 := enters_of Try.func85 (by kernel_rfl) rfl
theorem ent6 : Enters Try.prog 87 := enters_of Try.func87 (by kernel_rfl) rfl
def cT (t : TS) : Array Value := #[.bool t.always, .int .i64 t.limit, .int .i64 t.window, .int .i64 t.base, .int .i64 t.most, .int .i64 t.probes]
def fs4 (B : Nat) : List (Nat × Nat) := [(78, B), (80, B), (82, B), (84, B)]
def fs2 (b : Nat) : List (Nat × Nat) := [(85, b), (87, b)]
structure CkI (w0 w : World) (cs : Array Value) (ts : List TS) (bs : List Nat) (k : Nat) (v : Value) : Prop where
 len : bs.length = k
 row : kF.R 75 w w0.heap.size (fun g => g ≠ w0.heap.size ∧ g ∉ bs) v (fs4 w0.heap.size ++ bs.flatMap fs2)
 box : w.heap[w0.heap.size]? = some (Obj.cells cs 27 (0, 0))
 tsk : ∀ i b, bs[i]? = some b → w.heap[b]? = some (Obj.cells (cT (tsAt ts i)) 90 (0, 0))
 bel : Below w0.heap.size w0 w
def CkE (w0 w : World) (cs : Array Value) (ts : List TS) (k : Nat) (v : Value) : Prop := ∃ bs, CkI w0 w cs ts bs k v
theorem C_lit2 {W : World} {B : Nat} {t : TypeId} (p q : Nat × Nat) (h : W.heap[B]? = some (Obj.cells #[fnV p, fnV q] t (0, 0))) : kF.C W (some ⟨B, 0, none⟩) 2 [p, q] := by
 refine Kd.C_of_reads (d := (0, 0)) ⟨rfl, by decide, fun _ => ⟨_, rfl, fun j hj => ?_⟩⟩
 have hc := vcell h j
 have ha : (Addr.mk B 0 none).add j = ⟨B, j, none⟩ := by unfold Addr.add; split <;> simp_all
 rw [ha, hc]
 match j, hj with
 | 0, _ => rfl
 | 1, _ => rfl
theorem CkI.next {w0 w w3 : World} {cs : Array Value} {ts : List TS} {bs : List Nat} {k : Nat} {v v1 : Value} {o : Obj} (h : CkI w0 w cs ts bs k v) (hg : ((w.alloc (Obj.cells (cT (tsAt ts k)) 90)).alloc o).grownBy w3 v.ownBlock)
  (hR : kF.R 75 w3 w0.heap.size (fun g => (g ≠ w0.heap.size ∧ g ∉ bs) ∧ g ≠ w.heap.size) v1 (fs4 w0.heap.size ++ bs.flatMap fs2 ++ fs2 w.heap.size)) (hB : Below w0.heap.size w0 w3) : CkI w0 w3 cs ts (bs ++ [w.heap.size]) (k + 1) v1 := by
 have hb1 : Below w.heap.size w ((w.alloc (Obj.cells (cT (tsAt ts k)) 90)).alloc o) := by go_grown
 refine ⟨by simp [h.len], ?_, ?_, ?_, hB⟩
 ·refine Kd.R_mono (v := v1) ?_ (fun g hg => ?_) (ok := fun g => (g ≠ w0.heap.size ∧ g ∉ bs) ∧ g ≠ w.heap.size)
  ·simpa using hR
  ·exact ⟨hg.1.1, by simp; exact ⟨hg.1.2, hg.2⟩⟩
 ·have h1 := (hb1.block _ (vlt h.box)).trans h.box
  exact (hg.block _ (vlt h1) (fun e => (h.row.1 _ e.symm).1 rfl)).trans h1
 ·intro i b hi
  rw [List.getElem?_append] at hi
  split at hi
  ·have h0 := h.tsk i b hi
   have h1 := (hb1.block _ (vlt h0)).trans h0
   exact (hg.block _ (vlt h1) (fun e => (h.row.1 _ e.symm).2 (List.mem_of_getElem? hi))).trans h1
  ·rename_i hlt
   have hik : i = k ∧ b = w.heap.size := by
    have := h.len
    cases e : i - bs.length with
    | zero => rw [e] at hi; simp at hi; exact ⟨by omega, hi.symm⟩
    | succ n => rw [e] at hi; simp at hi
   obtain ⟨rfl, rfl⟩ := hik
   have h1 : ((w.alloc (Obj.cells (cT (tsAt ts i)) 90)).alloc o).heap[w.heap.size]? = some (Obj.cells (cT (tsAt ts i)) 90 (0, 0)) := valloc vnew
   exact (hg.block _ (vlt h1) (fun e => by have := Kd.R_lt h.row _ e.symm; omega)).trans h1
theorem fs2_at (bs : List Nat) (i : Nat) (hi : i < bs.length) : fnAt (bs.flatMap fs2) (2 * i) = (85, bs.getD i 0) ∧ fnAt (bs.flatMap fs2) (2 * i + 1) = (87, bs.getD i 0) := by
 induction bs generalizing i with
 | nil => simp at hi
 | cons b bs ih =>
  cases i with
  | zero => simp [fnAt, fs2]
  | succ i =>
   have := ih i (by simpa using hi)
   simp only [fnAt] at *
   rw [List.flatMap_cons, show 2 * (i + 1) = 2 * i + 2 by omega]
   simpa [fs2, List.getD_eq_getElem?_getD] using this
theorem taskE_at (ts : List TS) (i : Nat) (hi : i < ts.length) : (ts.flatMap taskE).getD (2 * i) 0 = polE (tsAt ts i).limit (tsAt ts i).window (tsAt ts i).base (tsAt ts i).most ∧ (ts.flatMap taskE).getD (2 * i + 1) 0 = rangeE (tsAt ts i).probes 0 1000 := by
 induction ts generalizing i with
 | nil => simp at hi
 | cons b bs ih =>
  cases i with
  | zero => simp [tsAt, taskE]
  | succ i =>
   have := ih i (by simpa using hi)
   simp only [tsAt] at *
   rw [List.flatMap_cons, show 2 * (i + 1) = 2 * i + 2 by omega]
   simpa [taskE, List.getD_eq_getElem?_getD] using this
theorem flat2_len {α β : Type} (f : α → List β) (h : ∀ a, (f a).length = 2) (l : List α) : (l.flatMap f).length = 2 * l.length := by
 induction l with
 | nil => rfl
 | cons a l ih => rw [List.flatMap_cons, List.length_append, ih, h, List.length_cons]; omega
theorem CkI.lt {w0 w : World} {cs : Array Value} {ts : List TS} {bs : List Nat} {k : Nat} {v : Value} (h : CkI w0 w cs ts bs k v) {b : Nat} (hb : b ∈ bs) : b < w.heap.size := by
 obtain ⟨i, hi⟩ := List.mem_iff_getElem?.1 hb
 exact vlt (h.tsk i b hi)
theorem CkI.fresh {w0 w : World} {cs : Array Value} {ts : List TS} {bs : List Nat} {k : Nat} {v : Value} (h : CkI w0 w cs ts bs k v) {g : Nat} (hg : w.heap.size + 2 ≤ g) : (g ≠ w0.heap.size ∧ g ∉ bs) ∧ g ≠ w.heap.size := by
 have := vlt h.box
 exact ⟨⟨by omega, fun q => by have := h.lt q; omega⟩, by omega⟩
theorem CkI.flen {w0 w : World} {cs : Array Value} {ts : List TS} {bs : List Nat} {k : Nat} {v : Value} (h : CkI w0 w cs ts bs k v) : (fs4 w0.heap.size ++ bs.flatMap fs2).length = 4 + 2 * k := by
 rw [List.length_append, flat2_len fs2 (fun _ => rfl), h.len]; rfl
theorem CkI.ask {w0 w : World} {id cpu mem disk : Int} {PA TA : Option Addr} {pn pc tn tc : Nat} {ps : List Int} {ts : List TS} {bs : List Nat} {k : Nat} {v : Value}
  (h : CkI w0 w #[.int .i64 id, .int .i64 cpu, .int .i64 mem, .int .i64 disk, .slice PA pn pc, .slice TA tn tc] ts bs k v) (hpn : pn = ps.length) (hP : RowI w0 PA ps) (hpm : ps.length ≤ 9223372036854775807) (htn : tn = ts.length) (htm : tn ≤ 9223372036854775807) (hk : k = (ts.take 4).length) :
  Calls Try.prog 88 #[v] w fun e w' => e = .returned (.int .i64 (specE ⟨id, cpu, mem, disk, ps, ts⟩)) ∧ Below w.heap.size w w' := by
 have hne : 0 < (fs4 w0.heap.size ++ bs.flatMap fs2).length := by simp [fs4]
 have hlen : (fs4 w0.heap.size ++ bs.flatMap fs2).length = 4 + 2 * k := by rw [List.length_append, flat2_len fs2 (fun _ => rfl), h.len]; rfl
 have hk4 : k ≤ 4 := by rw [hk, List.length_take]; omega
 have hkt : k ≤ ts.length := by rw [hk, List.length_take]; omega
 obtain ⟨g, cap, rfl⟩ : ∃ g c, v = .slice (some ⟨g, 0, none⟩) (fs4 w0.heap.size ++ bs.flatMap fs2).length c := by
  have ho := Kd.own_of_R h.row
  obtain ⟨g, cap, e, _⟩ := ho.form hne
  exact ⟨g, cap, e⟩
 have hrl : ∀ j, j < (fs4 w0.heap.size ++ bs.flatMap fs2).length → w.cell? ⟨g, j, none⟩ = some (fnV (fnAt (fs4 w0.heap.size ++ bs.flatMap fs2) j)) := fun j hj => by
  have := (Kd.R_celln (0, 0) h.row (j : Int) (by omega) (by omega)).1
  rw [Int.toNat_natCast] at this
  simpa [rdOf, fnAt] using this
 have hg : g < w.heap.size := by
  have := World.block_lt_of_cell? _ _ (hrl 0 (by omega))
  simpa using this
 have hbs : ∀ i, i < k → ∃ b, bs[i]? = some b ∧ bs.getD i 0 = b := fun i hi => by
  have hi2 : i < bs.length := by rw [h.len]; exact hi
  exact ⟨bs[i], List.getElem?_eq_getElem hi2, by simp [hi2]⟩
 have hes : (askE ⟨id, cpu, mem, disk, ps, ts⟩).length = 4 + 2 * k := by unfold askE; rw [List.length_append, flat2_len taskE (fun _ => rfl), ← hk]; rfl
 have key : ∀ j, j < 4 + 2 * k → (j = 0 ∨ j = 1 ∨ j = 2 ∨ j = 3) ∨ ∃ i, i < k ∧ (j = 4 + 2 * i ∨ j = 4 + (2 * i + 1)) := fun j hj => by
  by_cases h4 : j < 4
  ·exact .inl (by omega)
  ·exact .inr ⟨(j - 4) / 2, by omega, by omega⟩
 have hA : ∀ j, fnAt (fs4 w0.heap.size ++ bs.flatMap fs2) (4 + j) = fnAt (bs.flatMap fs2) j := fun j => by simp [fnAt, fs4, List.getD_eq_getElem?_getD, Nat.add_comm 4 j]
 have hEE : ∀ j, (askE ⟨id, cpu, mem, disk, ps, ts⟩).getD (4 + j) 0 = ((ts.take 4).flatMap taskE).getD j 0 := fun j => by simp [askE, List.getD_eq_getElem?_getD, Nat.add_comm 4 j]
 refine ask_any g _ cap _ (askE ⟨id, cpu, mem, disk, ps, ts⟩) w rfl (by rw [hes, hlen]) (by rw [hlen]; omega) hg hrl ?_ ?_
 ·intro j hj
  rw [hlen] at hj
  rcases key j hj with (rfl | rfl | rfl | rfl) | ⟨i, hi, rfl | rfl⟩
  ·exact ent1
  ·exact ent2
  ·exact ent3
  ·exact ent4
  ·rw [hA, (fs2_at bs i (by rw [h.len]; exact hi)).1]; exact ent5
  ·rw [hA, (fs2_at bs i (by rw [h.len]; exact hi)).2]; exact ent6
 ·intro j hj W hW
  rw [hlen] at hj
  have hbox : W.heap[w0.heap.size]? = some (Obj.cells #[.int .i64 id, .int .i64 cpu, .int .i64 mem, .int .i64 disk, .slice PA pn pc, .slice TA tn tc] 27 (0, 0)) := (hW.block _ (vlt h.box)).trans h.box
  rcases key j hj with (rfl | rfl | rfl | rfl) | ⟨i, hi, rfl | rfl⟩
  ·exact chk1_c _ _ _ _ _ _ _ _ hbox
  ·exact chk2_c _ _ _ _ _ _ _ _ hbox
  ·exact chk3_c _ _ _ _ _ _ _ _ _ ps _ hbox hpn (hP.below (below_then h.bel hW)) hpm
  ·have hq := chk4_c _ _ _ _ _ _ _ _ _ _ hbox htm
   rw [htn] at hq
   exact hq
  ·obtain ⟨b, hb1, hb2⟩ := hbs i hi
   have ht := h.tsk i b hb1
   have ht := (hW.block _ (vlt ht)).trans ht
   rw [hA, hEE, (fs2_at bs i (by rw [h.len]; exact hi)).1, (taskE_at _ i (by rw [← hk]; exact hi)).1, hb2]
   have e4 : tsAt (ts.take 4) i = tsAt ts i := by simp [tsAt, List.getD_eq_getElem?_getD, List.getElem?_take, show i < 4 by omega]
   rw [e4]
   exact chk5_c _ _ _ _ _ _ _ _ ht
  ·obtain ⟨b, hb1, hb2⟩ := hbs i hi
   have ht := h.tsk i b hb1
   have ht := (hW.block _ (vlt ht)).trans ht
   rw [hA, hEE, (fs2_at bs i (by rw [h.len]; exact hi)).2, (taskE_at _ i (by rw [← hk]; exact hi)).2, hb2]
   have e4 : tsAt (ts.take 4) i = tsAt ts i := by simp [tsAt, List.getD_eq_getElem?_getD, List.getElem?_take, show i < 4 by omega]
   rw [e4]
   exact chk6_c _ _ _ _ _ _ _ _ ht
set_option maxHeartbeats 2000000 in
theorem scheck_few (id cpu mem disk : Int) (PA TA : Option Addr) (pn pc tn tc : Nat) (ps : List Int) (ts : List TS) (w : World) (hpn : pn = ps.length) (hP : RowI w PA ps) (hpm : ps.length ≤ 9223372036854775807) (htn : tn = ts.length) (hT : RowT w TA ts) (htm : tn ≤ 9223372036854775807) (htc : tn ≤ tc) (h4 : ¬ 4 < tn) :
  Calls Try.prog 54 #[.agg #[.int .i64 id, .int .i64 cpu, .int .i64 mem, .int .i64 disk, .slice PA pn pc, .slice TA tn tc]] w fun e w' => e = .returned (.int .i64 (specE ⟨id, cpu, mem, disk, ps, ts⟩)) ∧ Below w.heap.size w w' := by
 have HPN := Lib.hid hpn
 have HP := Lib.hid hP
 have HPM := Lib.hid hpm
 have HTN := Lib.hid htn
 have HT := Lib.hid hT
 clear hpn hP hpm htn hT
 go_enter Try.func54, Try.ntmps54
 go_wp2_with fail
 go_loopw [3, 5, 19] (fun v t i w' => ∃ k : Nat, k ≤ tn ∧ i = .int .i64 k ∧ CkE w w' #[.int .i64 id, .int .i64 cpu, .int .i64 mem, .int .i64 disk, .slice PA pn pc, .slice TA tn tc] ts k v) (fun _ _ i _ => tn - (intOf i).toNat)
 case atStart =>
  refine ⟨0, Nat.zero_le _, rfl, [], ⟨rfl, ?_, valloc vnew, fun i b hi => by simp at hi, by go_grown⟩⟩
  refine Kd.R_of_own ?_ (fun g hg => ⟨?_, by simp⟩)
  ·have hz : (w.alloc (Obj.cells #[.int .i64 id, .int .i64 cpu, .int .i64 mem, .int .i64 disk, .slice PA pn pc, .slice TA tn tc] 27)).heap.size = w.heap.size + 1 := by simp
   have := World.ownsRow_lit (base := w.heap.size) (e := 75) (size := 1) (w.alloc (Obj.cells #[.int .i64 id, .int .i64 cpu, .int .i64 mem, .int .i64 disk, .slice PA pn pc, .slice TA tn tc] 27)) #[fnV (78, w.heap.size), fnV (80, w.heap.size), fnV (82, w.heap.size), fnV (84, w.heap.size)] 4 (by simp) (by decide) rfl
   rw [hz] at this
   exact this
  ·simp [Value.ownBlock] at hg
   omega
 case round =>
  obtain ⟨k, hk, rfl, bs, hI⟩ := hrel
  by_cases hlt : k < tn
  ·have hkt : k < ts.length := by have := HTN.out; omega
   obtain ⟨b, off, rfl, hb, hcells⟩ : ∃ b off, TA = some ⟨b, off, none⟩ ∧ b < w.heap.size ∧ _ := HT.out.resolve_left (by rintro rfl; simp at hkt)
   obtain ⟨x0, x1, x2, x3, x4, x5⟩ := hcells k hkt
   clear hcells
   have y0 := (hI.bel.cell (p := ⟨b, off + k * 6, none⟩) hb).trans x0
   have y1 := (hI.bel.cell (p := ⟨b, off + k * 6 + 1, none⟩) hb).trans x1
   have y2 := (hI.bel.cell (p := ⟨b, off + k * 6 + 2, none⟩) hb).trans x2
   have y3 := (hI.bel.cell (p := ⟨b, off + k * 6 + 3, none⟩) hb).trans x3
   have y4 := (hI.bel.cell (p := ⟨b, off + k * 6 + 4, none⟩) hb).trans x4
   have y5 := (hI.bel.cell (p := ⟨b, off + k * 6 + 5, none⟩) hb).trans x5
   clear x0 x1 x2 x3 x4 x5
   have HI := Lib.hid hI
   clear hI
   go_wp2_with (at_builtin; (refine Kd.R_append_row (w0 := w) fnV (0, 0) (h1 := fnV_one) w.heap.size rfl _ _ 119 75 .nilFunc 8 rfl Try.underlying119 info_fn rfl (by decide) _ (fs4 w.heap.size ++ bs.flatMap fs2) (fs2 wr.heap.size) (some ⟨wr.heap.size + 1, 0, none⟩) 2 2 (fun g => (g ≠ w.heap.size ∧ g ∉ bs) ∧ g ≠ wr.heap.size) rfl rfl ?fresh ?row ?src ?bel ?base ?len ?_); (case fresh => intro g hg; exact HI.out.fresh (by simpa using hg)); (case row => exact Kd.R_below (Kd.R_elderB HI.out.row wr.heap.size (Nat.le_refl _)) (by go_grown)); (case src => exact C_lit2 _ _ (vnewAt (by simp))); (case bel => exact below_alloc (below_alloc HI.out.bel _) _); (case base => have := HI.out.bel.size; simp; omega); (case len => rw [HI.out.flen]; omega); intro v1 w3 hR hB hg hat)
   have hN := HI.out.next hg hR hB
   clear hg hat hR hB HI
   go_roundw
   case rel => exact ⟨k + 1, by omega, by go_num, _, hN⟩
   case measure => simp [intOf]; omega
  ·have hkm : k = (ts.take 4).length := by have := HTN.out; rw [List.length_take]; omega
   have HKM := Lib.hid hkm
   have HI := Lib.hid hI
   clear hI hkm
   go_wp2_with fail
   refine (HI.out.ask HPN.out HP.out HPM.out HTN.out htm HKM.out).mono ?_
   rintro e w1 ⟨rfl, hb1⟩
   have hB1 := below_then HI.out.bel hb1
   clear HI hb1
   go_wp2
   go_returns
   exact ⟨rfl, hB1⟩
set_option maxHeartbeats 2000000 in
theorem scheck_many (id cpu mem disk : Int) (PA TA : Option Addr) (pn pc tn tc : Nat) (ps : List Int) (ts : List TS) (w : World) (hpn : pn = ps.length) (hP : RowI w PA ps) (hpm : ps.length ≤ 9223372036854775807) (htn : tn = ts.length) (hT : RowT w TA ts) (htm : tn ≤ 9223372036854775807) (htc : tn ≤ tc) (h4 : 4 < tn) :
  Calls Try.prog 54 #[.agg #[.int .i64 id, .int .i64 cpu, .int .i64 mem, .int .i64 disk, .slice PA pn pc, .slice TA tn tc]] w fun e w' => e = .returned (.int .i64 (specE ⟨id, cpu, mem, disk, ps, ts⟩)) ∧ Below w.heap.size w w' := by
 have HPN := Lib.hid hpn
 have HP := Lib.hid hP
 have HPM := Lib.hid hpm
 have HTN := Lib.hid htn
 have HT := Lib.hid hT
 clear hpn hP hpm htn hT
 go_enter Try.func54, Try.ntmps54
 go_wp2_with fail
 go_loopw [3, 5, 19] (fun v t i w' => ∃ k : Nat, k ≤ 4 ∧ i = .int .i64 k ∧ CkE w w' #[.int .i64 id, .int .i64 cpu, .int .i64 mem, .int .i64 disk, .slice PA pn pc, .slice TA tn tc] ts k v) (fun _ _ i _ => 4 - (intOf i).toNat)
 case atStart =>
  refine ⟨0, Nat.zero_le _, rfl, [], ⟨rfl, ?_, valloc vnew, fun i b hi => by simp at hi, by go_grown⟩⟩
  refine Kd.R_of_own ?_ (fun g hg => ⟨?_, by simp⟩)
  ·have hz : (w.alloc (Obj.cells #[.int .i64 id, .int .i64 cpu, .int .i64 mem, .int .i64 disk, .slice PA pn pc, .slice TA tn tc] 27)).heap.size = w.heap.size + 1 := by simp
   have := World.ownsRow_lit (base := w.heap.size) (e := 75) (size := 1) (w.alloc (Obj.cells #[.int .i64 id, .int .i64 cpu, .int .i64 mem, .int .i64 disk, .slice PA pn pc, .slice TA tn tc] 27)) #[fnV (78, w.heap.size), fnV (80, w.heap.size), fnV (82, w.heap.size), fnV (84, w.heap.size)] 4 (by simp) (by decide) rfl
   rw [hz] at this
   exact this
  ·simp [Value.ownBlock] at hg
   omega
 case round =>
  obtain ⟨k, hk, rfl, bs, hI⟩ := hrel
  by_cases hlt : k < 4
  ·have hkt : k < ts.length := by have := HTN.out; omega
   obtain ⟨b, off, rfl, hb, hcells⟩ : ∃ b off, TA = some ⟨b, off, none⟩ ∧ b < w.heap.size ∧ _ := HT.out.resolve_left (by rintro rfl; simp at hkt)
   obtain ⟨x0, x1, x2, x3, x4, x5⟩ := hcells k hkt
   clear hcells
   have y0 := (hI.bel.cell (p := ⟨b, off + k * 6, none⟩) hb).trans x0
   have y1 := (hI.bel.cell (p := ⟨b, off + k * 6 + 1, none⟩) hb).trans x1
   have y2 := (hI.bel.cell (p := ⟨b, off + k * 6 + 2, none⟩) hb).trans x2
   have y3 := (hI.bel.cell (p := ⟨b, off + k * 6 + 3, none⟩) hb).trans x3
   have y4 := (hI.bel.cell (p := ⟨b, off + k * 6 + 4, none⟩) hb).trans x4
   have y5 := (hI.bel.cell (p := ⟨b, off + k * 6 + 5, none⟩) hb).trans x5
   clear x0 x1 x2 x3 x4 x5
   have HI := Lib.hid hI
   clear hI
   go_wp2_with (at_builtin; (refine Kd.R_append_row (w0 := w) fnV (0, 0) (h1 := fnV_one) w.heap.size rfl _ _ 119 75 .nilFunc 8 rfl Try.underlying119 info_fn rfl (by decide) _ (fs4 w.heap.size ++ bs.flatMap fs2) (fs2 wr.heap.size) (some ⟨wr.heap.size + 1, 0, none⟩) 2 2 (fun g => (g ≠ w.heap.size ∧ g ∉ bs) ∧ g ≠ wr.heap.size) rfl rfl ?fresh ?row ?src ?bel ?base ?len ?_); (case fresh => intro g hg; exact HI.out.fresh (by simpa using hg)); (case row => exact Kd.R_below (Kd.R_elderB HI.out.row wr.heap.size (Nat.le_refl _)) (by go_grown)); (case src => exact C_lit2 _ _ (vnewAt (by simp))); (case bel => exact below_alloc (below_alloc HI.out.bel _) _); (case base => have := HI.out.bel.size; simp; omega); (case len => rw [HI.out.flen]; omega); intro v1 w3 hR hB hg hat)
   have hN := HI.out.next hg hR hB
   clear hg hat hR hB HI
   go_roundw
   case rel => exact ⟨k + 1, by omega, by go_num, _, hN⟩
   case measure => simp [intOf]; omega
  ·have hkm : k = (ts.take 4).length := by have := HTN.out; rw [List.length_take]; omega
   have HKM := Lib.hid hkm
   have HI := Lib.hid hI
   clear hI hkm
   go_wp2_with fail
   refine (HI.out.ask HPN.out HP.out HPM.out HTN.out htm HKM.out).mono ?_
   rintro e w1 ⟨rfl, hb1⟩
   have hB1 := below_then HI.out.bel hb1
   clear HI hb1
   go_wp2
   go_returns
   exact ⟨rfl, hB1⟩
theorem scheck_c (id cpu mem disk : Int) (PA TA : Option Addr) (pn pc tn tc : Nat) (ps : List Int) (ts : List TS) (w : World) (hpn : pn = ps.length) (hP : RowI w PA ps) (hpm : ps.length ≤ 9223372036854775807) (htn : tn = ts.length) (hT : RowT w TA ts) (htm : tn ≤ 9223372036854775807) (htc : tn ≤ tc) :
  Calls Try.prog 54 #[.agg #[.int .i64 id, .int .i64 cpu, .int .i64 mem, .int .i64 disk, .slice PA pn pc, .slice TA tn tc]] w fun e w' => e = .returned (.int .i64 (specE ⟨id, cpu, mem, disk, ps, ts⟩)) ∧ Below w.heap.size w w' := by
 by_cases h4 : 4 < tn
 ·exact scheck_many id cpu mem disk PA TA pn pc tn tc ps ts w hpn hP hpm htn hT htm htc h4
 ·exact scheck_few id cpu mem disk PA TA pn pc tn tc ps ts w hpn hP hpm htn hT htm htc h4
end Go.Proofs.YtkhcdichdnbcmaaR
end
section
namespace Go.Proofs.YtkhcdichdnbcmaaR
open Go.RowKit
set_option linter.unusedVariables false
structure Chg (S : Nat → Prop) (w w' : World) : Prop where
 os : w'.os = w.os
 tape : w'.tape = w.tape
 output : w'.output = w.output
 size : w.heap.size ≤ w'.heap.size
 block : ∀ k, ¬ S k → k < w.heap.size → w'.heap[k]? = w.heap[k]?
theorem Chg.refl (S : Nat → Prop) (w : World) : Chg S w w := ⟨rfl, rfl, rfl, Nat.le_refl _, fun _ _ _ => rfl⟩
theorem Chg.trans {S : Nat → Prop} {a b c : World} (h : Chg S a b) (k : Chg S b c) : Chg S a c :=
 ⟨k.os.trans h.os, k.tape.trans h.tape, k.output.trans h.output, Nat.le_trans h.size k.size, fun i hi hs => (k.block i hi (Nat.lt_of_lt_of_le hs h.size)).trans (h.block i hi hs)⟩
theorem Chg.mono {S T : Nat → Prop} {a b : World} (h : Chg S a b) (k : ∀ i, i < a.heap.size → S i → T i) : Chg T a b := ⟨h.os, h.tape, h.output, h.size, fun i hi hs => h.block i (fun q => hi (k i hs q)) hs⟩
theorem Chg.of_below {S : Nat → Prop} {w w' : World} (h : Below w.heap.size w w') : Chg S w w' := ⟨h.os, h.tape, h.output, h.size, fun k _ hs => h.block k hs⟩
theorem Chg.of_grown {S : Nat → Prop} {w w' : World} {o : Option Nat} (h : w.grownBy w' o) (hS : ∀ k, o = some k → S k) : Chg S w w' := ⟨h.os, h.tape, h.output, h.size, fun k hk hs => h.block k hs (fun e => hk (hS k e.symm))⟩
theorem Chg.below {S : Nat → Prop} {n : Nat} {w w' : World} (h : Chg S w w') (hn : ∀ k, k < n → ¬ S k) (hs : n ≤ w.heap.size) : Below n w w' :=
 ⟨h.os, h.tape, h.output, h.size, fun k hk => h.block k (hn k hk) (by omega)⟩
theorem Chg.at {S : Nat → Prop} {C : Nat} {w w' : World} {o : Obj} (h : Chg S w w') (hne : ¬ S C) (hC : w.heap[C]? = some o) : w'.heap[C]? = some o := (h.block C hne (vlt hC)).trans hC
theorem Chg.drw {S : Nat → Prop} {w W : World} (h : Chg S w W) : Chg S w W.drew := ⟨h.os, h.tape, h.output, h.size, h.block⟩
theorem Chg.setc {S : Nat → Prop} {B j : Nat} {u : Value} {w W : World} (h : Chg S w W) (hS : S B) : Chg S w (W.setCell ⟨B, j, none⟩ u) :=
 h.trans ⟨rfl, rfl, rfl, by simp [World.setCell], fun k hk _ => Below.heap_setCell _ _ _ _ (by rintro rfl; exact hk hS)⟩
theorem below_chg {S : Nat → Prop} {n : Nat} {w a b : World} (h : Below n w a) (k : Chg S a b) (hn : ∀ k, k < n → ¬ S k) (hw : n ≤ w.heap.size) : Below n w b :=
 h.trans (k.below hn (Nat.le_trans hw h.size))
abbrev HP := World → (Nat → Prop) → Prop
structure Loc (P : HP) : Prop where
 keep : ∀ {w w' : World} {S : Nat → Prop}, P w S → (∀ k, S k → w'.heap[k]? = w.heap[k]?) → P w' S
 lt : ∀ {w : World} {S : Nat → Prop} {k : Nat}, P w S → S k → k < w.heap.size
def Sep (base : Nat) (w : World) : List HP → (Nat → Prop) → Prop
 | [], _ => True
 | P :: L, U => ∃ S, Loc P ∧ P w S ∧ (∀ k, S k → base ≤ k ∧ ¬ U k) ∧ Sep base w L (fun k => U k ∨ S k)
theorem Sep.frame {base : Nat} {w w' : World} : ∀ {L : List HP} {U U' : Nat → Prop}, Sep base w L U → (∀ k, k < w.heap.size → ¬ U k → w'.heap[k]? = w.heap[k]?) → (∀ k, k < w.heap.size → U' k → U k) → Sep base w' L U'
 | [], _, _, _, _, _ => trivial
 | P :: L, U, U', ⟨S, l, p, d, r⟩, hk, hu => ⟨S, l, l.keep p (fun k hs => hk k (l.lt p hs) (d k hs).2), fun k hs => ⟨(d k hs).1, fun q => (d k hs).2 (hu k (l.lt p hs) q)⟩,
   Sep.frame r (fun k h1 h2 => hk k h1 (fun q => h2 (Or.inl q))) (fun k h1 h2 => h2.elim (fun q => Or.inl (hu k h1 q)) Or.inr)⟩
theorem Sep.less {base : Nat} {w : World} {L : List HP} {U U' : Nat → Prop} (h : Sep base w L U) (hu : ∀ k, U' k → U k) : Sep base w L U' := h.frame (fun _ _ _ => rfl) (fun k _ => hu k)
theorem Sep.perm {base : Nat} {w : World} {L L' : List HP} (hp : L.Perm L') : ∀ {U : Nat → Prop}, Sep base w L U → Sep base w L' U := by
 induction hp with
 | nil => exact fun h => h
 | cons x _ ih => rintro U ⟨S, l, p, d, r⟩; exact ⟨S, l, p, d, ih r⟩
 | swap x y l =>
  rintro U ⟨S, l1, p1, d1, T, l2, p2, d2, r⟩
  exact ⟨T, l2, p2, fun k hk => ⟨(d2 k hk).1, fun q => (d2 k hk).2 (Or.inl q)⟩, S, l1, p1, fun k hk => ⟨(d1 k hk).1, fun q => q.elim (d1 k hk).2 (fun q => (d2 k q).2 (Or.inr hk))⟩, r.less (fun k q => by
   rcases q with (q | q) | q
   ·exact Or.inl (Or.inl q)
   ·exact Or.inr q
   ·exact Or.inl (Or.inr q))⟩
 | trans _ _ i1 i2 => exact fun h => i2 (i1 h)
structure St (w0 w : World) (L : List HP) : Prop where
 sep : Sep w0.heap.size w L (fun _ => False)
 bel : Below w0.heap.size w0 w
theorem pick_perm {α : Type _} : ∀ (L : List α) (i : Nat) (hi : i < L.length), L.Perm (L[i] :: L.eraseIdx i)
 | [], i, hi => absurd hi (by simp)
 | x :: L, 0, _ => List.Perm.refl _
 | x :: L, i + 1, hi => ((pick_perm L i (by simpa using hi)).cons x).trans (List.Perm.swap _ _ _)
theorem St.pick {w0 w : World} {L : List HP} (h : St w0 w L) (i : Nat) (hi : i < L.length := by first | (simp; done) | (simp; omega)) : St w0 w (L[i] :: L.eraseIdx i) := ⟨h.sep.perm (pick_perm L i hi), h.bel⟩
theorem St.start (w : World) : St w w [] := ⟨trivial, Below.refl _ _⟩
theorem St.more {w0 w w' : World} {L : List HP} (h : St w0 w L) (k : Below w.heap.size w w') : St w0 w' L :=
 ⟨h.sep.frame (fun i hi _ => k.block i hi) (fun _ _ q => q), h.bel.trans ⟨k.os, k.tape, k.output, k.size, fun i hi => k.block i (Nat.lt_of_lt_of_le hi h.bel.size)⟩⟩
theorem St.new {w0 w w' : World} {L : List HP} (h : St w0 w L) (k : Below w.heap.size w w') {P : HP} {S : Nat → Prop} (l : Loc P) (p : P w' S) (hS : ∀ i, S i → w.heap.size ≤ i) : St w0 w' (P :: L) := by
 refine ⟨⟨S, l, p, fun i hi => ⟨Nat.le_trans h.bel.size (hS i hi), fun q => q⟩, ?_⟩, (h.more k).bel⟩
 exact h.sep.frame (fun i hi _ => k.block i hi) (fun i hi q => q.elim (fun q => q) (fun q => by have := hS i q; omega))
theorem St.drop {w0 w : World} {P : HP} {L : List HP} (h : St w0 w (P :: L)) : St w0 w L := by
 obtain ⟨⟨S, l, p, d, r⟩, b⟩ := h
 exact ⟨r.less (fun _ q => Or.inl q), b⟩
theorem St.one {w0 w : World} {P : HP} {L : List HP} (h : St w0 w (P :: L)) : ∃ S, P w S ∧ ∀ {w' : World} {P' : HP} {S' : Nat → Prop}, Chg S w w' → Loc P' → P' w' S' → (∀ k, k < w.heap.size → S' k → S k) → St w0 w' (P' :: L) := by
 obtain ⟨⟨S, l, p, d, r⟩, b⟩ := h
 refine ⟨S, p, fun {w' P' S'} c l' p' hs => ⟨⟨S', l', p', fun k hk => ⟨?_, fun q => q⟩, ?_⟩, below_chg b c (fun k hk q => by have := (d k q).1; omega) (Nat.le_refl _)⟩⟩
 ·rcases Nat.lt_or_ge k w.heap.size with h1 | h1
  ·exact (d k (hs k h1 hk)).1
  ·exact Nat.le_trans b.size h1
 ·exact r.frame (fun k h1 h2 => c.block k (fun q => h2 (Or.inr q)) h1) (fun k h1 h2 => h2.elim Or.inl (fun q => Or.inr (hs k h1 q)))
theorem St.two {w0 w : World} {P Q : HP} {L : List HP} (h : St w0 w (P :: Q :: L)) : ∃ S T, P w S ∧ Q w T ∧ (∀ k, S k → ¬ T k) ∧ ∀ {w' : World} {P' Q' : HP} {S' T' : Nat → Prop}, Chg (fun k => S k ∨ T k) w w' → Loc P' → P' w' S' → Loc Q' → Q' w' T' → (∀ k, k < w.heap.size → S' k → S k ∨ T k) → (∀ k, k < w.heap.size → T' k → S k ∨ T k) → (∀ k, S' k → ¬ T' k) → St w0 w' (P' :: Q' :: L) := by
 obtain ⟨⟨S, l, p, d, T, l2, p2, d2, r⟩, b⟩ := h
 refine ⟨S, T, p, p2, fun k h1 h2 => (d2 k h2).2 (Or.inr h1), fun {w' P' Q' S' T'} c l' p' m' q' hs ht dis => ⟨⟨S', l', p', fun k hk => ⟨?_, fun q => q⟩, T', m', q', fun k hk => ⟨?_, fun q => q.elim (fun q => q) (fun q => dis k q hk)⟩, ?_⟩, below_chg b c (fun k hk q => ?_) (Nat.le_refl _)⟩⟩
 ·rcases Nat.lt_or_ge k w.heap.size with h1 | h1
  ·exact (hs k h1 hk).elim (fun q => (d k q).1) (fun q => (d2 k q).1)
  ·exact Nat.le_trans b.size h1
 ·rcases Nat.lt_or_ge k w.heap.size with h1 | h1
  ·exact (ht k h1 hk).elim (fun q => (d k q).1) (fun q => (d2 k q).1)
  ·exact Nat.le_trans b.size h1
 ·refine r.frame (fun k h1 h2 => c.block k (fun q => h2 (q.elim (fun q => Or.inl (Or.inr q)) Or.inr)) h1) (fun k h1 h2 => ?_)
  rcases h2 with (q | q) | q
  ·exact q.elim
  ·exact (hs k h1 q).elim (fun q => Or.inl (Or.inr q)) Or.inr
  ·exact (ht k h1 q).elim (fun q => Or.inl (Or.inr q)) Or.inr
 ·rcases q with q | q
  ·have := (d k q).1; omega
  ·have := (d2 k q).1; omega
theorem St.hd {w0 w : World} {P : HP} {L : List HP} (h : St w0 w (P :: L)) : ∃ S, P w S := by obtain ⟨⟨S, l, p, d, r⟩, b⟩ := h; exact ⟨S, p⟩
end Go.Proofs.YtkhcdichdnbcmaaR
end
section
namespace Go.Proofs.YtkhcdichdnbcmaaR
open Go.RowKit Go.Proofs.YtkhcdichdnbcmaaRW.PrintWords Go.Proofs.YtkhcdichdnbcmaaR.Sp Go.Proofs.YtkhcdichdnbcmaaR.Ext
set_option linter.unusedSimpArgs false
set_option linter.unusedVariables false
theorem mkB_size (l : List UInt8) : (mkB l).size = l.length := by
 show l.toArray.size = l.length
 simp
theorem mkB_append (a b : List UInt8) : mkB a ++ mkB b = mkB (a ++ b) := by
 apply ByteArray.ext
 rw [ByteArray.data_append]
 show a.toArray ++ b.toArray = (a ++ b).toArray
 simp
structure PutI (O : Nat) (w W : World) (out : List UInt8) : Prop where
 box : W.heap[O]? = some (Obj.cells #[.string (mkB out)] 9 (0, 0))
 chg : Chg (fun k => k = O) w W
theorem PutI.below {O : Nat} {w W W1 : World} {out : List UInt8} (h : PutI O w W out) (hb : Below W.heap.size W W1) : PutI O w W1 out := ⟨vbelow h.box hb, h.chg.trans (Chg.of_below hb)⟩
theorem PutI.drew {O : Nat} {w W : World} {out : List UInt8} (h : PutI O w W out) : PutI O w W.drew out := ⟨h.box, h.chg.drw⟩
theorem PutI.store {O : Nat} {w W : World} {out out' : List UInt8} (h : PutI O w W out) : PutI O w (W.setCell ⟨O, 0, none⟩ (.string (mkB out'))) out' := ⟨vput h.box rfl, h.chg.setc rfl⟩
def RowO (W : World) (A : Option Addr) (l : List Int) (O : Nat) : Prop := l = [] ∨ ∃ b off, A = some ⟨b, off, none⟩ ∧ b ≠ O ∧ b < W.heap.size ∧ ∀ k, k < l.length → W.cell? ⟨b, off + k, none⟩ = some (.int .i64 (l.getD k 0))
theorem RowO.chg {W W1 : World} {A : Option Addr} {l : List Int} {O : Nat} (h : RowO W A l O) (c : Chg (fun k => k = O) W W1) : RowO W1 A l O := by
 rcases h with h | ⟨b, off, h1, h2, h3, h4⟩
 ·exact .inl h
 ·refine .inr ⟨b, off, h1, h2, Nat.lt_of_lt_of_le h3 c.size, fun k hk => ?_⟩
  have e : W1.cell? ⟨b, off + k, none⟩ = W.cell? ⟨b, off + k, none⟩ := by
   have := c.block b (fun e => h2 e) h3
   simp only [World.cell?, this]
  exact e.trans (h4 k hk)
def GoodN (l : List Int) : Prop := ∀ x ∈ l, 0 ≤ x ∧ x ≤ 9223372036854775807
theorem GoodN.at {l : List Int} (h : GoodN l) {k : Nat} (hk : k < l.length) : 0 ≤ l.getD k 0 ∧ l.getD k 0 ≤ 9223372036854775807 := by
 have : l.getD k 0 = l[k] := by simp [hk]
 rw [this]
 exact h _ (List.getElem_mem _)
def OutK (out : List UInt8) (l : List Int) (k : Nat) : List UInt8 := out ++ encNs (l.take k)
theorem OutK.zero (out : List UInt8) (l : List Int) : OutK out l 0 = out := by simp [OutK, encNs]
theorem OutK.next {out : List UInt8} {l : List Int} {k : Nat} (hk : k < l.length) : OutK out l k ++ encN (l.getD k 0) = OutK out l (k + 1) := by
 have : l.getD k 0 = l[k] := by simp [hk]
 unfold OutK
 rw [List.take_succ_eq_append_getElem hk, encNs_append, ← List.append_assoc, this]
 simp [encNs]
theorem OutK.all {out : List UInt8} {l : List Int} {k : Nat} (hk : l.length ≤ k) : OutK out l k = out ++ encNs l := by unfold OutK; rw [List.take_of_length_le hk]
theorem encN_9 {n : Int} (h : n ≤ 9223372036854775807) : (encN n).length ≤ 9 := (Pk.varL_length _ (by omega)).2
theorem OutK.len {out : List UInt8} {l : List Int} {k : Nat} (h : GoodN l) : (OutK out l k).length ≤ out.length + 9 * l.length := by
 unfold OutK
 have := flat_len encN 9 (l.take k) (fun x hx => encN_9 (h x (List.mem_of_mem_take hx)).2)
 rw [List.length_append]
 rw [List.length_take] at this
 have e : (encNs (l.take k)).length = ((l.take k).flatMap encN).length := rfl
 omega
set_option maxHeartbeats 2000000 in
theorem put_c (O : Nat) (A : Option Addr) (n c : Nat) (l : List Int) (out : List UInt8) (w : World) (hO : w.heap[O]? = some (Obj.cells #[.string (mkB out)] 9 (0, 0))) (hn : n = l.length) (hr : RowO w A l O) (hg : GoodN l) (hz : out.length + 9 * l.length ≤ 1000000) :
  Calls Try.prog 63 #[.slice A n c, .pointer (some ⟨O, 0, none⟩)] w fun e w' => e = .returned (.tuple #[]) ∧ PutI O w w' (out ++ encNs l) := by
 subst hn
 have HR := Lib.hid hr
 have HG := Lib.hid hg
 have H0 : PutI O w w (OutK out l 0) := ⟨by rw [OutK.zero]; exact hO, Chg.refl _ _⟩
 clear hr hg hO
 go_enter Try.func63, Try.ntmps63
 go_wp2
 go_loopw [4, 7] (fun _ i W => ∃ k : Nat, k ≤ l.length ∧ i = .int .i64 k ∧ PutI O w W (OutK out l k)) (fun _ i _ => l.length - (intOf i).toNat)
 case atStart => exact ⟨0, Nat.zero_le _, rfl, H0⟩
 case round =>
  clear H0
  obtain ⟨k, hk, rfl, hI⟩ := hrel
  by_cases hlt : k < l.length
  ·obtain ⟨b, off, rfl, hne, hb, hcells⟩ : ∃ b off, A = some ⟨b, off, none⟩ ∧ b ≠ O ∧ b < wr.heap.size ∧ _ := (HR.out.chg hI.chg).resolve_left (by rintro rfl; simp at hlt)
   have hc := hcells k hlt
   clear hcells hb hne
   have hx := HG.out.at hlt
   have hnx := OutK.next (out := out) hlt
   have hln := OutK.len (out := out) (k := k) HG.out
   generalize l.getD k 0 = x at *
   obtain ⟨m, rfl⟩ := Int.eq_ofNat_of_zero_le hx.1
   rw [show encN (m : Int) = Pk.varL m by simp [encN]] at hnx
   have hv9 := (Pk.varL_length m (by omega)).2
   have hsz : (mkB (OutK out l k)).size + (mkB (Pk.varL m)).size ≤ 9223372036854775807 := by rw [mkB_size, mkB_size]; omega
   have hz1 := eq_true hsz
   have hz2 := eq_false (Nat.not_lt.2 hsz)
   have hz3 := decide_eq_true hsz
   have hcat : mkB (OutK out l k) ++ mkB (Pk.varL m) = mkB (OutK out l (k + 1)) := by rw [mkB_append, hnx]
   have hcv : IntKind.u64.wrap (m : Int) = (m : Int) := IntWalk.u64_in _ (by omega)
   have HNX := Lib.hid hcat
   clear hnx hln hv9 hsz hcat
   have hcO := vcell hI.box
   have hfO := vfree hI.box
   have hI1 := hI
   have HI := Lib.hid hI1
   clear hI hI1
   go_wp2_with fail
   have hv := fun W => var_c m (by omega) W
   have HV := Lib.hid hv
   clear hv
   go_region_with (go_at_call 33; refine (HV.out _).mono ?_; rintro e w2 ⟨rfl, hb⟩; have hI2 := HI.out.below (by first | exact hb | exact (Below.refl _ _).drew.trans hb); have hcO2 := vcell hI2.box; have hfO2 := vfree hI2.box; have HI2 := Lib.hid hI2; clear hI2)
   all_goals (
    rw [HNX.out]
    have hN := HI2.out.store (out' := OutK out l (k + 1))
    clear hcO2 hfO2 HI2 hb HI hcO hfO
    go_wp2
    go_roundw
    case rel => exact ⟨k + 1, by omega, by go_num, hN⟩
    case measure => simp [intOf]; omega)
  ·have hI2 := hI
   clear hI
   go_wp2
   go_returns
   exact ⟨rfl, by have := hI2; rw [OutK.all (by omega)] at this; exact this⟩
theorem rowO_lit {W : World} {B O : Nat} {t : TypeId} (l : List Int) (h : W.heap[B]? = some (Obj.cells (l.map (Value.int .i64)).toArray t (0, 0))) (hne : B ≠ O) : RowO W (some ⟨B, 0, none⟩) l O := by
 refine .inr ⟨B, 0, rfl, hne, vlt h, fun k hk => ?_⟩
 rw [Nat.zero_add, vcell h k]
 simp [hk]
theorem RowI.toO {w W : World} {A : Option Addr} {l : List Int} {O : Nat} (h : RowI w A l) (hb : Below w.heap.size w W) (hO : w.heap.size ≤ O) : RowO W A l O := by
 rcases h with h | ⟨b, off, h1, h2, h3⟩
 ·exact .inl h
 ·exact .inr ⟨b, off, h1, by omega, Nat.lt_of_lt_of_le h2 hb.size, fun k hk => (hb.cell h2).trans (h3 k hk)⟩
structure EncI (w W : World) (cs : Array Value) (O : Nat) (out : List UInt8) : Prop where
 bel : Below w.heap.size w W
 box : W.heap[w.heap.size]? = some (Obj.cells cs 27 (0, 0))
 ob : W.heap[O]? = some (Obj.cells #[.string (mkB out)] 9 (0, 0))
 ne : w.heap.size < O
theorem EncI.put {w W W1 W' : World} {cs : Array Value} {O : Nat} {out out' : List UInt8} (h : EncI w W cs O out) (hb : Below W.heap.size W W1) (p : PutI O W1 W' out') : EncI w W' cs O out' where
 bel := below_chg (below_then h.bel hb) p.chg (fun k hk e => by have := h.ne; omega) (Nat.le_refl _)
 box := p.chg.at (fun e => by have := h.ne; omega) (vbelow h.box hb)
 ob := p.box
 ne := h.ne
def OutT (out : List UInt8) (ts : List TS) (k : Nat) : List UInt8 := out ++ encNs ((ts.take k).flatMap numsT)
theorem OutT.next {out : List UInt8} {ts : List TS} {k : Nat} (hk : k < ts.length) : OutT out ts k ++ encNs (numsT (tsAt ts k)) = OutT out ts (k + 1) := by
 have : tsAt ts k = ts[k] := by simp [tsAt, hk]
 unfold OutT
 rw [List.take_succ_eq_append_getElem hk, List.flatMap_append, encNs_append, ← List.append_assoc, this]
 simp
theorem encNs_le (l : List Int) (h : GoodN l) : (encNs l).length ≤ 9 * l.length := flat_len encN 9 l (fun x hx => encN_9 (h x hx).2)
theorem good_T {t : TS} (h : gT t) : GoodN (numsT t) := by
 obtain ⟨q1, q2, q3, q4, q5⟩ := h
 have hb : 0 ≤ b2i t.always ∧ b2i t.always ≤ 1 := by unfold b2i; split <;> omega
 intro x hx
 simp only [numsT, List.mem_cons, List.not_mem_nil, or_false] at hx
 rcases hx with rfl | rfl | rfl | rfl | rfl | rfl <;> omega
theorem gT_at {ts : List TS} (h : ∀ t ∈ ts, gT t) {k : Nat} (hk : k < ts.length) : gT (tsAt ts k) := by
 have : tsAt ts k = ts[k] := by simp [tsAt, hk]
 rw [this]; exact h _ (List.getElem_mem _)
theorem OutT.len {out : List UInt8} {ts : List TS} {k : Nat} (h : ∀ t ∈ ts, gT t) : (OutT out ts k).length ≤ out.length + 26 * ts.length := by
 unfold OutT
 rw [List.length_append, encNs_flat]
 have := flat_len (fun t => encNs (numsT t)) 26 (ts.take k) (fun t ht => encT_length (h t (List.mem_of_mem_take ht)))
 rw [List.length_take] at this
 omega
set_option maxHeartbeats 2000000 in
set_option maxRecDepth 100000 in
theorem sencode_ok (id cpu mem disk : Int) (PA TA : Option Addr) (pn pc tn tc : Nat) (ps : List Int) (ts : List TS) (w : World) (hpn : pn = ps.length) (hP : RowI w PA ps) (hpm : ps.length ≤ 9223372036854775807) (htn : tn = ts.length) (hT : RowT w TA ts) (htm : tn ≤ 9223372036854775807) (htc : tn ≤ tc) (hok : specE ⟨id, cpu, mem, disk, ps, ts⟩ = 0) :
  Calls Try.prog 35 #[.agg #[.int .i64 id, .int .i64 cpu, .int .i64 mem, .int .i64 disk, .slice PA pn pc, .slice TA tn tc]] w fun e w' => e = .returned (.tuple #[.string (mkB (encS ⟨id, cpu, mem, disk, ps, ts⟩)), .int .i64 0]) ∧ Below w.heap.size w w' := by
 have hg := okS_gS (s := ⟨id, cpu, mem, disk, ps, ts⟩) (decide_eq_true hok)
 have HPN := Lib.hid hpn
 have HP := Lib.hid hP
 have HPM := Lib.hid hpm
 have HTN := Lib.hid htn
 have HT := Lib.hid hT
 have HOK := Lib.hid hok
 have HG := Lib.hid hg
 clear hpn hP hpm htn hT hok hg
 go_enter Try.func35, Try.ntmps35
 go_wp2_with fail
 refine (scheck_c id cpu mem disk PA TA pn pc tn tc ps ts _ HPN.out (HP.out.below (by go_grown)) HPM.out HTN.out (HT.out.below (by go_grown)) htm htc).mono ?_
 rintro e w1 ⟨rfl, hb1⟩
 rw [HOK.out]
 have hB1 : Below w.heap.size w w1 := below_then (by go_grown) hb1
 have hS1 : w1.heap[w.heap.size]? = some (Obj.cells #[.int .i64 id, .int .i64 cpu, .int .i64 mem, .int .i64 disk, .slice PA pn pc, .slice TA tn tc] 27 (0, 0)) := vbelow vnew hb1
 clear hb1
 have hcS := vcell hS1
 have hsz := vlt hS1
 go_wp2_with fail
 obtain ⟨g1, g2, g3, g4, ⟨g5, g6⟩, g7, g8⟩ := HG.out
 simp only at g1 g2 g3 g4 g5 g6 g7 g8
 have q1 : GoodN [id, cpu, mem, disk, (pn : Int)] := by
  have := HPN.out
  intro x hx
  simp only [List.mem_cons, List.not_mem_nil, or_false] at hx
  rcases hx with rfl | rfl | rfl | rfl | rfl <;> omega
 have E0 : EncI w (w1.alloc (Obj.cells #[.string (mkB [])] 9)) #[.int .i64 id, .int .i64 cpu, .int .i64 mem, .int .i64 disk, .slice PA pn pc, .slice TA tn tc] w1.heap.size [] := ⟨below_alloc hB1 _, valloc hS1, vnew, hsz⟩
 refine (put_c w1.heap.size _ _ _ [id, cpu, mem, disk, (pn : Int)] [] _ (valloc vnew) rfl (rowO_lit _ (vnewAt (by simp)) (by omega)) q1 (by simp)).mono ?_
 rintro e w2 ⟨rfl, p2⟩
 have E2 := E0.put (by go_grown) p2
 have l2 := encNs_le _ q1
 rw [List.nil_append] at E2
 generalize hO : w1.heap.size = O at *
 clear hS1 hcS hsz E0 p2 hB1 q1 HOK
 have hcS := vcell E2.box
 have hO2 := E2.ne
 generalize h2 : encNs [id, cpu, mem, disk, (pn : Int)] = out2 at *
 have H2 := Lib.hid h2
 clear h2 hO
 go_wp2_with fail
 have q3 : GoodN ps := fun x hx => by have := g6 x hx; omega
 refine (put_c O _ _ _ ps out2 _ E2.ob HPN.out (HP.out.toO E2.bel (by omega)) q3 (by simp at l2; omega)).mono ?_
 rintro e w3 ⟨rfl, p3⟩
 have E3 := E2.put (Below.refl _ _) p3
 have l3 := encNs_le _ q3
 clear E2 p3 hcS
 generalize h3 : out2 ++ encNs ps = out3 at *
 have l4 : out3.length ≤ 45 + 9 * 8 := by rw [← h3, List.length_append]; simp at l2; omega
 have H3 := Lib.hid h3
 clear h3 l2 l3
 have hcS := vcell E3.box
 go_wp2_with fail
 have q4 : GoodN [(tn : Int)] := by
  have := HTN.out
  intro x hx
  simp only [List.mem_cons, List.not_mem_nil, or_false] at hx
  subst hx; omega
 refine (put_c O _ _ _ [(tn : Int)] out3 _ (valloc E3.ob) rfl (rowO_lit _ (vnewAt rfl) (by have := vlt E3.ob; omega)) q4 (by simp; omega)).mono ?_
 rintro e w4 ⟨rfl, p4⟩
 have E4 := E3.put (by go_grown) p4
 have l5 := encNs_le _ q4
 clear E3 p4 hcS
 generalize h4 : out3 ++ encNs [(tn : Int)] = out4 at *
 have l6 : out4.length ≤ 126 := by rw [← h4, List.length_append]; simp at l5; omega
 have H4 := Lib.hid h4
 clear h4 l4 l5
 have hcS := vcell E4.box
 go_wp2_with fail
 have E5 : EncI w w4 #[.int .i64 id, .int .i64 cpu, .int .i64 mem, .int .i64 disk, .slice PA pn pc, .slice TA tn tc] O (OutT out4 ts 0) := by
  have : OutT out4 ts 0 = out4 := by simp [OutT, encNs]
  rw [this]; exact E4
 go_loopw [8, 9, 46] (fun _ _ i W => ∃ k : Nat, k ≤ tn ∧ i = .int .i64 k ∧ EncI w W #[.int .i64 id, .int .i64 cpu, .int .i64 mem, .int .i64 disk, .slice PA pn pc, .slice TA tn tc] O (OutT out4 ts k)) (fun _ _ i _ => tn - (intOf i).toNat)
 case atStart => exact ⟨0, Nat.zero_le _, rfl, E5⟩
 case round =>
  clear E4 E5 hcS
  obtain ⟨k, hk, rfl, hI⟩ := hrel
  by_cases hlt : k < tn
  ·have hkt : k < ts.length := by have := HTN.out; omega
   obtain ⟨b, off, rfl, hb, hcells⟩ : ∃ b off, TA = some ⟨b, off, none⟩ ∧ b < w.heap.size ∧ _ := HT.out.resolve_left (by rintro rfl; simp at hkt)
   obtain ⟨x0, x1, x2, x3, x4, x5⟩ := hcells k hkt
   clear hcells
   have y0 := (hI.bel.cell (p := ⟨b, off + k * 6, none⟩) hb).trans x0
   have y1 := (hI.bel.cell (p := ⟨b, off + k * 6 + 1, none⟩) hb).trans x1
   have y2 := (hI.bel.cell (p := ⟨b, off + k * 6 + 2, none⟩) hb).trans x2
   have y3 := (hI.bel.cell (p := ⟨b, off + k * 6 + 3, none⟩) hb).trans x3
   have y4 := (hI.bel.cell (p := ⟨b, off + k * 6 + 4, none⟩) hb).trans x4
   have y5 := (hI.bel.cell (p := ⟨b, off + k * 6 + 5, none⟩) hb).trans x5
   clear x0 x1 x2 x3 x4 x5
   have gt := gT_at g8 hkt
   have qt := good_T gt
   have nx := OutT.next (out := out4) hkt
   have ln := OutT.len (out := out4) (k := k) g8
   have lt26 : ts.length ≤ 4 := by omega
   have hOr := vlt hI.ob
   have hcO := vcell hI.ob
   generalize tsAt ts k = t at *
   obtain ⟨al, li, wi, ba, mo, pr⟩ := t
   simp only at y0 y1 y2 y3 y4 y5
   unfold numsT at qt nx
   simp only at qt nx
   have HI := Lib.hid hI
   have NX := Lib.hid nx
   have QT := Lib.hid qt
   clear hI nx qt gt g1 g2 g3 g4 g6 g8
   cases al
   all_goals (
    go_wp2_with fail
    refine (put_c O _ _ _ [_, li, wi, ba, mo, pr] (OutT out4 ts k) _ (valloc (valloc HI.out.ob)) rfl (rowO_lit _ (vnewAt (by simp)) (by omega)) QT.out (by simp; omega)).mono ?_
    rintro e w5 ⟨rfl, p5⟩
    have E5 := HI.out.put (by go_grown) p5
    rw [NX.out] at E5
    clear p5 HI hcO y0 y1 y2 y3 y4 y5 hOr
    go_wp2
    go_roundw
    case rel => exact ⟨k + 1, by omega, by go_num, E5⟩
    case measure => simp [intOf]; omega)
  ·have hcO := vcell hI.ob
   have hres : OutT out4 ts k = encS ⟨id, cpu, mem, disk, ps, ts⟩ := by
    have e1 : ts.take k = ts := List.take_of_length_le (by have := HTN.out; omega)
    unfold OutT
    rw [e1, ← H4.out, ← H3.out, ← H2.out, HPN.out, HTN.out, ← encNs_append, ← encNs_append, ← encNs_append]
    rfl
   have HRS := Lib.hid hres
   have HI := Lib.hid hI
   clear hI hres
   go_wp2
   go_returns
   exact ⟨by rw [HRS.out]; rfl, HI.out.bel⟩
set_option maxHeartbeats 1000000 in
theorem sencode_no (id cpu mem disk : Int) (PA TA : Option Addr) (pn pc tn tc : Nat) (ps : List Int) (ts : List TS) (w : World) (hpn : pn = ps.length) (hP : RowI w PA ps) (hpm : ps.length ≤ 9223372036854775807) (htn : tn = ts.length) (hT : RowT w TA ts) (htm : tn ≤ 9223372036854775807) (htc : tn ≤ tc) (E : Int) (hE : specE ⟨id, cpu, mem, disk, ps, ts⟩ = E) (h0 : E ≠ 0) :
  Calls Try.prog 35 #[.agg #[.int .i64 id, .int .i64 cpu, .int .i64 mem, .int .i64 disk, .slice PA pn pc, .slice TA tn tc]] w fun e w' => e = .returned (.tuple #[.string (mkB []), .int .i64 E]) ∧ Below w.heap.size w w' := by
 have HC := Lib.hid (fun W (hb : Below w.heap.size w W) => scheck_c id cpu mem disk PA TA pn pc tn tc ps ts W hpn (hP.below hb) hpm htn (hT.below hb) htm htc)
 rw [hE] at HC
 have h0b : (E != 0) = true := bne_iff_ne.mpr h0
 clear hpn hP hpm htn hT hE h0
 go_enter Try.func35, Try.ntmps35
 go_wp2_with fail
 refine (HC.out _ (by go_grown)).mono ?_
 rintro e w1 ⟨rfl, hb1⟩
 have hB1 : Below w.heap.size w w1 := below_then (by go_grown) hb1
 clear hb1
 go_wp2
 go_returns
 exact ⟨rfl, hB1⟩
def encR (s : SP) : List UInt8 := if specE s = 0 then encS s else []
theorem sencode_c (id cpu mem disk : Int) (PA TA : Option Addr) (pn pc tn tc : Nat) (ps : List Int) (ts : List TS) (w : World) (hpn : pn = ps.length) (hP : RowI w PA ps) (hpm : ps.length ≤ 9223372036854775807) (htn : tn = ts.length) (hT : RowT w TA ts) (htm : tn ≤ 9223372036854775807) (htc : tn ≤ tc) :
  Calls Try.prog 35 #[.agg #[.int .i64 id, .int .i64 cpu, .int .i64 mem, .int .i64 disk, .slice PA pn pc, .slice TA tn tc]] w fun e w' => e = .returned (.tuple #[.string (mkB (encR ⟨id, cpu, mem, disk, ps, ts⟩)), .int .i64 (specE ⟨id, cpu, mem, disk, ps, ts⟩)]) ∧ Below w.heap.size w w' := by
 unfold encR
 by_cases h : specE ⟨id, cpu, mem, disk, ps, ts⟩ = 0
 ·rw [if_pos h, h]
  exact sencode_ok id cpu mem disk PA TA pn pc tn tc ps ts w hpn hP hpm htn hT htm htc h
 ·rw [if_neg h]
  exact sencode_no id cpu mem disk PA TA pn pc tn tc ps ts w hpn hP hpm htn hT htm htc _ rfl h
end Go.Proofs.YtkhcdichdnbcmaaR
end
section
namespace Go.Proofs.YtkhcdichdnbcmaaR
open Go.RowKit
set_option linter.unusedVariables false
def blk (b : Nat) (cs : Array Value) (t : Nat) : HP := fun w S => w.heap[b]? = some (.cells cs t (0, 0)) ∧ S = fun k => k = b
theorem blk_loc (b : Nat) (cs : Array Value) (t : Nat) : Loc (blk b cs t) where
 keep := fun ⟨h, e⟩ k => ⟨(k b (by rw [e])).trans h, e⟩
 lt := fun ⟨h, e⟩ k => by subst e; subst k; exact vlt h
theorem St.drew {w0 w : World} {L : List HP} (h : St w0 w L) : St w0 w.drew L := h.more (Below.refl _ _).drew
theorem St.alloc {w0 w : World} {L : List HP} (h : St w0 w L) (cs : Array Value) (t : Nat) : St w0 (w.alloc (.cells cs t)) (blk w.heap.size cs t :: L) :=
 h.new (below_alloc (Below.refl _ _) _) (blk_loc _ _ _) ⟨vnew, rfl⟩ (fun i hi => by subst hi; exact Nat.le_refl _)
theorem St.setb {w0 w : World} {L : List HP} {b : Nat} {cs cs' : Array Value} {t : Nat} (h : St w0 w (Go.Proofs.YtkhcdichdnbcmaaR.blk b cs t :: L)) (j : Nat) (v : Value) (e : cs.setIfInBounds j v = cs') : St w0 (w.setCell ⟨b, j, none⟩ v) (Go.Proofs.YtkhcdichdnbcmaaR.blk b cs' t :: L) := by
 obtain ⟨S, ⟨z, rfl⟩, hh⟩ := h.one
 exact hh (Chg.setc (Chg.refl _ _) rfl) (blk_loc _ _ _) ⟨vput z e, rfl⟩ (fun k _ hk => hk)
theorem St.at0 {w0 w : World} {L : List HP} {b : Nat} {cs : Array Value} {t : Nat} (h : St w0 w (Go.Proofs.YtkhcdichdnbcmaaR.blk b cs t :: L)) : w.heap[b]? = some (.cells cs t (0, 0)) := by
 obtain ⟨S, ⟨z, -⟩⟩ := h.hd; exact z
theorem St.cells {w0 w : World} {L : List HP} {b : Nat} {cs : Array Value} {t : Nat} (h : St w0 w (Go.Proofs.YtkhcdichdnbcmaaR.blk b cs t :: L)) : ∀ j, w.cell? ⟨b, j, none⟩ = cs[j]? := vcell h.at0
theorem St.free {w0 w : World} {L : List HP} {b : Nat} {cs : Array Value} {t : Nat} (h : St w0 w (Go.Proofs.YtkhcdichdnbcmaaR.blk b cs t :: L)) : ∀ j, w.frozen? ⟨b, j, none⟩ = false := vfree h.at0
end Go.Proofs.YtkhcdichdnbcmaaR
end
section
namespace Go.Proofs.YtkhcdichdnbcmaaR
open Go.RowKit Go.Proofs.YtkhcdichdnbcmaaRW.PrintWords Go.Proofs.YtkhcdichdnbcmaaRW.PrintLast Go.Proofs.YtkhcdichdnbcmaaRW.PrintMore
set_option linter.unusedSimpArgs false
set_option linter.unusedVariables false
def Flat {α : Type} (d : Kd α) : Prop := ∀ (w w' : World) (base base' : Nat) (ok ok' : Nat → Prop) (x : α) (cs : List Value), d.M w base ok x cs → d.M w' base' ok' x cs
theorem flat_scalar {α : Type} (enc : α → Value) (h1 : ∀ x, (enc x).oneCell' = true) : Flat (Kd.scalar enc h1) := fun _ _ _ _ _ _ _ _ h => h
theorem flat_int (k : IntKind) : Flat (Kd.int k) := flat_scalar _ _
theorem flat_bool : Flat Kd.bool := flat_scalar _ _
theorem flat_pair {α β : Type} {a : Kd α} {b : Kd β} (ha : Flat a) (hb : Flat b) : Flat (Kd.pair a b) := by
 rintro w w' base base' ok ok' x cs ⟨c0, c1, rfl, h0, h1⟩
 exact ⟨c0, c1, rfl, ha _ _ _ _ _ _ _ _ h0, hb _ _ _ _ _ _ _ _ h1⟩
theorem flat_iso {α β : Type} {d : Kd α} (hd : Flat d) (f : β → α) : Flat (Kd.iso d f) := fun _ _ _ _ _ _ _ _ h => hd _ _ _ _ _ _ _ _ h
section
variable {α : Type} {d : Kd α} {e : Nat}
def rowK (d : Kd α) (e : Nat) (v : Value) (xs : List α) : HP := fun w S => d.R e w 0 (fun _ => True) v xs ∧ S = fun k => v.ownBlock = some k
theorem rowK_keep (hd : Flat d) {w w' : World} {v : Value} {xs : List α} (h : d.R e w 0 (fun _ => True) v xs) (k : ∀ g, v.ownBlock = some g → w'.heap[g]? = w.heap[g]?) : d.R e w' 0 (fun _ => True) v xs := by
 obtain ⟨h0, inner, ho, hr⟩ := h
 exact ⟨h0, inner, own_move ho k, hr.imp_ (fun _ _ hp => hd _ _ _ _ _ _ _ _ hp)⟩
theorem rowK_lt {w : World} {v : Value} {xs : List α} (h : d.R e w 0 (fun _ => True) v xs) {g : Nat} (hg : v.ownBlock = some g) : g < w.heap.size := ((Kd.R_bound h).1 g hg).2.2.1
theorem rowK_loc (hd : Flat d) (v : Value) (xs : List α) : Loc (rowK d e v xs) where
 keep := fun ⟨h, e⟩ k => ⟨rowK_keep hd h (fun g hg => k g (by rw [e]; exact hg)), e⟩
 lt := fun ⟨h, e⟩ k => by subst e; exact rowK_lt h k
theorem St.rowKNew (hd : Flat d) {w0 w w' : World} {L : List HP} {v : Value} {xs : List α} (h : St w0 w L) (k : Below w.heap.size w w') (r : d.R e w' w.heap.size (fun _ => True) v xs) : St w0 w' (rowK d e v xs :: L) :=
 h.new k (rowK_loc hd v xs) ⟨Kd.R_lower r (Nat.zero_le _), rfl⟩ (fun i hi => ((Kd.R_bound r).1 i hi).2.1)
theorem St.rowKNil (hd : Flat d) {w0 w : World} {L : List HP} (h : St w0 w L) : St w0 w (rowK d e (.slice none 0 0) [] :: L) :=
 h.new (Below.refl _ _) (rowK_loc hd _ _) ⟨Kd.R_nil _ _ _ _ _, rfl⟩ (fun i hi => by simp [Value.ownBlock] at hi)
theorem St.rowKR {w0 w : World} {L : List HP} {v : Value} {xs : List α} (h : St w0 w (rowK d e v xs :: L)) : d.R e w 0 (fun _ => True) v xs := by
 obtain ⟨S, hR, -⟩ := h.hd; exact hR
theorem own_up {w : World} {base s n : Nat} {v : Value} {inner : List Value} (ho : w.ownsRow 0 e s v n inner) (hb : ∀ g, v.ownBlock = some g → base ≤ g) : w.ownsRow base e s v n inner := by
 obtain ⟨h1, h2⟩ := ho
 refine ⟨h1, ?_⟩
 rcases h2 with h2 | ⟨g, cap, cur, rfl, hg, r⟩
 ·exact .inl h2
 ·exact .inr ⟨g, cap, cur, rfl, hb g (by simp [Value.ownBlock]), r⟩
theorem St.rowKA (hd : Flat d) {w0 w : World} {L : List HP} {v : Value} {xs : List α} (h : St w0 w (rowK d e v xs :: L)) : d.R e w w0.heap.size (fun _ => True) v xs := by
 obtain ⟨⟨S, l, ⟨hR, hS⟩, dd, r⟩, b⟩ := h
 obtain ⟨h0, inner, ho, hr⟩ := hR
 subst hS
 exact ⟨h0, inner, own_up ho (fun g hg => (dd g hg).1), hr.imp_ (fun _ _ hp => hd _ _ _ _ _ _ _ _ hp)⟩
end
section
variable {α : Type} {d : Kd α} {e : Nat} {P : Program} {ops : Array Oper} {rest : List Oper} {o : Oper} {a : Act} {Q : Exit → Act → World → Prop}
theorem St.rowKapp (hd : Flat d) {w0 W w1 : World} {L : List HP} {v v1 : Value} {xs ys : List α} (h : St w0 W (rowK d e v xs :: L)) (hR : d.R e w1 0 (fun _ => True) v1 ys) (hg : W.grownBy w1 v.ownBlock) (hat : v1.ownBlock = v.ownBlock ∨ ∃ b, v1.ownBlock = some b ∧ W.heap.size ≤ b) : St w0 w1 (rowK d e v1 ys :: L) := by
 obtain ⟨S, ⟨-, rfl⟩, hh⟩ := h.one
 refine hh (Chg.of_grown hg (fun k hk => hk)) (rowK_loc hd _ _) ⟨hR, rfl⟩ (fun k hk he => ?_)
 rcases hat with q | ⟨b, q, hb⟩
 ·rw [← q]; exact he
 ·rw [q] at he; injection he with he; omega
theorem row_append (hd : Flat d) {w0 W : World} {L : List HP} (s x : Operand) (t : TypeId) (z : Value) (bytes : Nat) (v : Value) (xs ys : List α) (A : Option Addr) (m c : Nat) {Rr : α → List Value → Prop} (h : St w0 W (rowK d e v xs :: L)) (hgd : o.guard = none) (ho : o.op = .call { callee := .builtin .append, args := #[s, x], argTypes := #[t, t] })
  (ht : P.underlying t = some (.slice e)) (hinfo : (P.info? e).map (fun i => (i.zero, i.size, i.bytes)) = some (some z, d.sz, bytes)) (hz : z.cells.size = d.sz) (hs0 : 0 < d.sz) (hb0 : 0 < bytes) (hs : a.eval s = v) (hx : a.eval x = .slice A m c)
  (HR : ReadsRow Rr d.sz W A m ys) (hKM : ∀ x cs, Rr x cs → d.M W 0 (fun _ => False) x cs) (hl : (xs.length + m) * bytes ≤ 140737488355328)
  (k : ∀ v1 w1, St w0 w1 (rowK d e v1 (xs ++ ys) :: L) → wpList P ops Q rest (a.put o.dst v1) w1) : wpList P ops Q (o :: rest) a W :=
 Kd.R_append_rows d (w0 := W) 0 hgd s x t e z bytes ho ht hinfo hz hs0 hb0 v xs ys A m c (fun _ => True) (fun _ => False) hs hx h.rowKR HR hKM (fun _ hk => hk.elim) (fun _ _ => trivial) (Below.refl _ _) (Nat.zero_le _) hl (fun v1 w1 hR _ hg hat => k v1 w1 (h.rowKapp hd hR hg hat))
end
section
variable {α : Type} {d : Kd α} {e : Nat} {P : Program} {ops : Array Oper} {rest : List Oper} {o : Oper} {a : Act} {Q : Exit → Act → World → Prop} {K : Act → World → Prop} {E : Prop}
theorem row_append_step (hd : Flat d) {w0 W : World} {L : List HP} (s x : Operand) (t : TypeId) (z : Value) (bytes : Nat) (v : Value) (xs ys : List α) (A : Option Addr) (m c : Nat) {Rr : α → List Value → Prop} (h : St w0 W (rowK d e v xs :: L)) (hgd : o.guard = none) (ho : o.op = .call { callee := .builtin .append, args := #[s, x], argTypes := #[t, t] })
  (ht : P.underlying t = some (.slice e)) (hinfo : (P.info? e).map (fun i => (i.zero, i.size, i.bytes)) = some (some z, d.sz, bytes)) (hz : z.cells.size = d.sz) (hs0 : 0 < d.sz) (hb0 : 0 < bytes) (hs : a.eval s = v) (hx : a.eval x = .slice A m c)
  (HR : ReadsRow Rr d.sz W A m ys) (hKM : ∀ x cs, Rr x cs → d.M W 0 (fun _ => False) x cs) (hl : (xs.length + m) * bytes ≤ 140737488355328)
  (k : ∀ v1 w1, St w0 w1 (rowK d e v1 (xs ++ ys) :: L) → K (a.put o.dst v1) w1) : if Region.wanted o (yielded ops a.tmps) = true then Oper.wp P o a W K Q else E := by
 have hw : Region.wanted o (yielded ops a.tmps) = true := by simp [Region.wanted, hgd]
 have q := Kd.R_append_rows_step (Kc := K) (Q := Q) d (w0 := W) 0 hw s x t e z bytes ho ht hinfo hz hs0 hb0 v xs ys A m c (fun _ => True) (fun _ => False) hs hx h.rowKR HR hKM (fun _ hk => hk.elim) (fun _ _ => trivial) (Below.refl _ _) (Nat.zero_le _) hl (fun v1 w1 hR _ hg hat => k v1 w1 (h.rowKapp hd hR hg hat))
 rw [if_pos hw] at q ⊢
 exact q
theorem reads_lit1 {Rr : α → List Value → Prop} {W : World} {B sz : Nat} {t : TypeId} {x : α} {cs : List Value} (h : W.heap[B]? = some (Obj.cells cs.toArray t (0, 0))) (hl : cs.length = sz) (hr : Rr x cs) : ReadsRow Rr sz W (some ⟨B, 0, none⟩) 1 [x] := by
 refine ⟨rfl, by decide, fun _ => ⟨_, rfl, fun j p hj => ?_⟩⟩
 cases j with
 | succ j => simp at hj
 | zero =>
  simp only [List.getElem?_cons_zero, Option.some.injEq] at hj
  subst hj
  refine ⟨cs, hl, hr, fun i u hi => ?_⟩
  have ha : (Addr.mk B 0 none).add (0 * sz + i) = ⟨B, i, none⟩ := by unfold Addr.add; split <;> simp_all
  rw [ha, vcell h i]
  simpa using hi
end
section
variable {α β : Type} {d1 : Kd α} {d2 : Kd β} {e1 e2 : Nat}
theorem St.rows2 (f1 : Flat d1) (f2 : Flat d2) (hne : e1 ≠ e2) {w0 w w' : World} {L : List HP} {v1 v2 : Value} {xs : List α} {ys : List β} {ok1 ok2 : Nat → Prop} (h : St w0 w L) (k : Below w.heap.size w w') (r1 : d1.R e1 w' w.heap.size ok1 v1 xs) (r2 : d2.R e2 w' w.heap.size ok2 v2 ys) : St w0 w' (rowK d1 e1 v1 xs :: rowK d2 e2 v2 ys :: L) := by
 have a1 : ∀ g, v1.ownBlock = some g → w.heap.size ≤ g ∧ ∃ cells, w'.heap[g]? = some (.cells cells e1 (0, 0)) := fun g hg => by
  obtain ⟨inner, ho⟩ := Kd.R_own r1
  exact ⟨own_base ho g hg, own_typed ho g hg⟩
 have a2 : ∀ g, v2.ownBlock = some g → w.heap.size ≤ g ∧ ∃ cells, w'.heap[g]? = some (.cells cells e2 (0, 0)) := fun g hg => by
  obtain ⟨inner, ho⟩ := Kd.R_own r2
  exact ⟨own_base ho g hg, own_typed ho g hg⟩
 refine ⟨⟨_, rowK_loc f1 v1 xs, ⟨Kd.R_mono (Kd.R_lower r1 (Nat.zero_le _)) (fun _ _ => trivial), rfl⟩, fun g hg => ⟨Nat.le_trans h.bel.size (a1 g hg).1, fun q => q⟩, _, rowK_loc f2 v2 ys, ⟨Kd.R_mono (Kd.R_lower r2 (Nat.zero_le _)) (fun _ _ => trivial), rfl⟩, fun g hg => ⟨Nat.le_trans h.bel.size (a2 g hg).1, ?_⟩, ?_⟩, (h.more k).bel⟩
 ·rintro (q | q)
  ·exact q
  ·obtain ⟨_, c1, h1⟩ := a1 g q
   obtain ⟨_, c2, h2⟩ := a2 g hg
   rw [h1] at h2
   injection h2 with h2
   injection h2 with _ h2
   exact hne h2
 ·refine h.sep.frame (fun i hi _ => k.block i hi) (fun i hi q => ?_)
  rcases q with (q | q) | q
  ·exact q
  ·have := (a1 i q).1; omega
  ·have := (a2 i q).1; omega
end
theorem St.rowKC {α : Type} {d : Kd α} {e : Nat} {w0 w : World} {L : List HP} {A : Option Addr} {n c : Nat} {xs : List α} (h : St w0 w (rowK d e (.slice A n c) xs :: L)) : d.C w A xs.length xs ∧ n = xs.length ∧ n ≤ c := by
 obtain ⟨A', c', he, h1, h2⟩ := Kd.R_reads h.rowKR
 injection he with e1 e2 e3
 subst e1; subst e3
 exact ⟨h2, e2, by omega⟩
theorem St.drewN {w0 w : World} {L : List HP} (h : St w0 w L) (n : Nat) : St w0 (w.drewN n) L := h.more (pw_below_drewN (Below.refl _ _) n)
end Go.Proofs.YtkhcdichdnbcmaaR
end
section
namespace Go.Proofs.YtkhcdichdnbcmaaR
open Go.RowKit Go.Proofs.YtkhcdichdnbcmaaRW.PrintWords Go.Proofs.YtkhcdichdnbcmaaR.Sp Go.Proofs.YtkhcdichdnbcmaaR.Ext
set_option linter.unusedSimpArgs false
set_option linter.unusedVariables false
def formP : List PanicEntry := [{ v := .iface 31 (.int .i64 4), recovered := false }]
abbrev rdr (R : Nat) (l : List UInt8) : HP := blk R #[.string (mkB l)] 115
set_option maxHeartbeats 1000000 in
theorem num_s {w0 w : World} {L : List HP} (R : Nat) (l : List UInt8) (most : Int) (hm : 0 ≤ most) (hm2 : most ≤ 9223372036854775807) (h : St w0 w (rdr R l :: L)) :
  Calls Try.prog 90 #[.pointer (some ⟨R, 0, none⟩), .int .i64 most] w fun e w' => match numL most l with
   | none => e = .panicked formP ∧ St w0 w' (rdr R l :: L)
   | some x => e = .returned (.int .i64 x.1) ∧ St w0 w' (rdr R x.2 :: L) := by
 have hc := h.cells
 have hf := h.free
 have hU := unvar_c (mkB l)
 have hd : (mkB l).data.toList = l := rfl
 rw [hd] at hU
 have H := Lib.hid h
 have HU := Lib.hid hU
 clear h hU hd
 cases hu : Pk.unvarL l with
 | none =>
  have e1 : numL most l = none := by unfold numL; rw [hu]; rfl
  have e2 : unvarR l = (0, mkB [], 4) := by unfold unvarR; rw [hu]
  rw [e1]
  rw [e2] at HU
  unfold retU at HU
  clear hu e1 e2
  go_enter Try.func90, Try.ntmps90
  go_wp2_with fail
  refine (HU.out _).mono ?_
  rintro e w1 ⟨rfl, nd, rfl⟩
  go_wp2
  exact ⟨rfl, rfl, H.out.drewN nd⟩
 | some x =>
  obtain ⟨n, r⟩ := x
  have hn := (Pk.var_unvar hu).2
  have e2 : unvarR l = ((n : Int), mkB r, 0) := by unfold unvarR; rw [hu]
  rw [e2] at HU
  unfold retU at HU
  have hcv : IntKind.u64.wrap most = most := IntWalk.u64_in _ (by omega)
  by_cases hgt : most < (n : Int)
  ·have e1 : numL most l = none := by unfold numL; rw [hu]; simp; omega
   have hgb : decide (most < (n : Int)) = true := decide_eq_true hgt
   rw [e1]
   clear hu e1 e2 hn
   go_enter Try.func90, Try.ntmps90
   go_wp2_with fail
   refine (HU.out _).mono ?_
   rintro e w1 ⟨rfl, nd, rfl⟩
   go_wp2
   exact ⟨rfl, rfl, H.out.drewN nd⟩
  ·have e1 : numL most l = some ((n : Int), r) := by unfold numL; rw [hu]; simp; omega
   have hgb : decide (most < (n : Int)) = false := decide_eq_false hgt
   have hcv2 : IntKind.i64.wrap (n : Int) = (n : Int) := IntWalk.i64_in _ (by omega)
   rw [e1]
   have hgt2 : (n : Int) ≤ 9223372036854775807 := by omega
   clear hu e1 e2 hn hgt
   go_enter Try.func90, Try.ntmps90
   go_wp2_with fail
   refine (HU.out _).mono ?_
   rintro e w1 ⟨rfl, nd, rfl⟩
   go_wp2
   go_returns
   exact ⟨rfl, (H.out.drewN nd).setb 0 _ rfl⟩
theorem num_t {w0 w : World} {L : List HP} (R : Nat) (l : List UInt8) (most : Int) (hm : 0 ≤ most) (hm2 : most ≤ 9223372036854775807) (h : St w0 w (rdr R l :: L)) :
  Calls Try.prog 90 #[.pointer (some ⟨R, 0, none⟩), .int .i64 most] w fun e w' => (e = .panicked formP ∧ numL most l = none ∧ St w0 w' (rdr R l :: L)) ∨ ∃ (x : Int) (r : List UInt8), e = .returned (.int .i64 x) ∧ Hid (numL most l = some (x, r)) ∧ St w0 w' (rdr R r :: L) := by
 have C := num_s R l most hm hm2 h
 cases hn : numL most l with
 | none => rw [hn] at C; exact C.mono fun e w' q => .inl ⟨q.1, rfl, q.2⟩
 | some x => rw [hn] at C; exact C.mono fun e w' q => .inr ⟨x.1, x.2, q.1, Lib.hid rfl, q.2⟩
structure ManyI {α : Type} (p : List UInt8 → Option (α × List UInt8)) (n : Nat) (l0 : List UInt8) (k : Nat) (acc : List α) (lk : List UInt8) : Prop where
 le : k ≤ n
 len : acc.length = k
 eq : manyP p n l0 = (manyP p (n - k) lk).map fun y => (acc ++ y.1, y.2)
section
variable {α : Type} {p : List UInt8 → Option (α × List UInt8)} {n : Nat} {l0 : List UInt8} {k : Nat} {acc : List α} {lk : List UInt8}
theorem ManyI.start (p : List UInt8 → Option (α × List UInt8)) (n : Nat) (l0 : List UInt8) : ManyI p n l0 0 [] l0 := ⟨Nat.zero_le _, rfl, by simp⟩
theorem ManyI.next (h : ManyI p n l0 k acc lk) (hk : k < n) {x : α} {l' : List UInt8} (hp : p lk = some (x, l')) : ManyI p n l0 (k + 1) (acc ++ [x]) l' := by
 refine ⟨hk, by simp [h.len], ?_⟩
 rw [h.eq, show n - k = (n - (k + 1)) + 1 by omega, manyP, hp]
 simp only [Option.bind_some, Option.map_map]
 congr 1
 funext y
 simp
theorem ManyI.stop (h : ManyI p n l0 k acc lk) (hk : k < n) (hp : p lk = none) : manyP p n l0 = none := by
 rw [h.eq, show n - k = (n - (k + 1)) + 1 by omega, manyP, hp]; rfl
theorem ManyI.fin (h : ManyI p n l0 k acc lk) (hk : k = n) : manyP p n l0 = some (acc, lk) := by
 rw [h.eq, hk, Nat.sub_self, manyP]; simp
end
def dT : Kd ((Bool × Int × Int × Int × Int) × Int) := Kd.pair (Kd.pair Kd.bool (Kd.pair (Kd.int .i64) (Kd.pair (Kd.int .i64) (Kd.pair (Kd.int .i64) (Kd.int .i64))))) (Kd.int .i64)
def kT : Kd TS := Kd.iso dT (fun t => ((t.always, t.limit, t.window, t.base, t.most), t.probes))
theorem kT_flat : Flat kT := flat_iso (flat_pair (flat_pair flat_bool (flat_pair (flat_int _) (flat_pair (flat_int _) (flat_pair (flat_int _) (flat_int _))))) (flat_int _)) _
theorem R_slice3 {α : Type} {d : Kd α} {e base : Nat} {w : World} {ok : Nat → Prop} {v : Value} {xs : List α} (h : d.R e w base ok v xs) : ∃ A n c, v = .slice A n c := by
 obtain ⟨A, c, he⟩ := Kd.R_slice h
 exact ⟨A, _, c, he⟩
theorem R_len {α : Type} {d : Kd α} {e base : Nat} {w : World} {ok : Nat → Prop} {A : Option Addr} {n c : Nat} {xs : List α} (h : d.R e w base ok (.slice A n c) xs) : n = xs.length := by
 obtain ⟨A, c, he⟩ := Kd.R_slice h
 injection he
theorem info_T : (Try.prog.info? 90).map (fun i => (i.zero, i.size, i.bytes)) = some (some (.agg #[.bool false, .int .i64 0, .int .i64 0, .int .i64 0, .int .i64 0, .int .i64 0]), 6, 48) := by kernel_rfl
def cTl (t : TS) : List Value := [.bool t.always, .int .i64 t.limit, .int .i64 t.window, .int .i64 t.base, .int .i64 t.most, .int .i64 t.probes]
theorem kT_M {w : World} {base : Nat} {ok : Nat → Prop} {x : TS} {cs : List Value} (h : cs = cTl x) : kT.M w base ok x cs := by
 subst h
 exact ⟨[.bool x.always, .int .i64 x.limit, .int .i64 x.window, .int .i64 x.base, .int .i64 x.most], [.int .i64 x.probes], rfl, ⟨[.bool x.always], [.int .i64 x.limit, .int .i64 x.window, .int .i64 x.base, .int .i64 x.most], rfl, rfl, ⟨[.int .i64 x.limit], [.int .i64 x.window, .int .i64 x.base, .int .i64 x.most], rfl, rfl, ⟨[.int .i64 x.window], [.int .i64 x.base, .int .i64 x.most], rfl, rfl, ⟨[.int .i64 x.base], [.int .i64 x.most], rfl, rfl, rfl⟩⟩⟩⟩, rfl⟩
theorem info_int3 : (Try.prog.info? 3).map (fun i => (i.zero, i.size, i.bytes)) = some (some (.int .i64 0), 1, 8) := by kernel_rfl
abbrev rowI (v : Value) (xs : List Int) : HP := rowK (Kd.int .i64) 3 v xs
abbrev rowT (v : Value) (xs : List TS) : HP := rowK kT 90 v xs
theorem St.snd {w0 w : World} {P Q : HP} {L : List HP} (h : St w0 w (P :: Q :: L)) : St w0 w (Q :: P :: L) := h.pick 1
theorem St.drop2 {w0 w : World} {P Q : HP} {L : List HP} (h : St w0 w (P :: Q :: L)) : St w0 w (P :: L) := h.snd.drop
def RdPost (w0 : World) (R : Nat) (L : List HP) (o : Option (SP × List UInt8)) (e : Ending) (w' : World) : Prop := match o with
 | none => e = .panicked formP ∧ ∃ r, St w0 w' (rdr R r :: L)
 | some x => ∃ PA pc TA tc, e = .returned (.agg #[.int .i64 x.1.id, .int .i64 x.1.cpu, .int .i64 x.1.mem, .int .i64 x.1.disk, .slice PA x.1.ports.length pc, .slice TA x.1.tasks.length tc]) ∧
   St w0 w' (rowI (.slice PA x.1.ports.length pc) x.1.ports :: rowT (.slice TA x.1.tasks.length tc) x.1.tasks :: rdr R x.2 :: L)
set_option maxHeartbeats 8000000 in
set_option maxRecDepth 100000 in
theorem rspec_s {w0 w : World} {L : List HP} (R : Nat) (l : List UInt8) (h : St w0 w (rdr R l :: L)) :
  Calls Try.prog 73 #[.pointer (some ⟨R, 0, none⟩)] w (RdPost w0 R L (rdS l)) := by
 have s1 : St w0 (w.alloc (Obj.cells #[.int .i64 0, .int .i64 0, .int .i64 0, .int .i64 0, .slice none 0 0, .slice none 0 0] 27)) (rdr R l :: blk w.heap.size #[.int .i64 0, .int .i64 0, .int .i64 0, .int .i64 0, .slice none 0 0, .slice none 0 0] 27 :: L) := (h.alloc #[.int .i64 0, .int .i64 0, .int .i64 0, .int .i64 0, .slice none 0 0, .slice none 0 0] 27).pick 1
 go_enter Try.func73, Try.ntmps73
 go_wp2_with fail
 generalize (w.alloc (Obj.cells #[.int .i64 0, .int .i64 0, .int .i64 0, .int .i64 0, .slice none 0 0, .slice none 0 0] 27)) = wa at *
 generalize w.heap.size = c2 at *
 clear h
 have C := num_s R l 2147483648 (by decide) (by decide) s1
 cases h1 : numL 2147483648 l with
 | none =>
  have er : rdS l = none := by simp only [rdS, listP, h1, Option.bind_some, Option.bind_none]
  rw [h1] at C
  rw [er]
  have HC := Lib.hid C
  clear C h1 er
  refine HC.out.mono ?_
  rintro e_ w_ ⟨rfl, s_⟩
  go_wp2
  exact ⟨rfl, rfl, _, s_.drop2⟩
 | some x =>
 obtain ⟨x1, l1⟩ := x
 rw [h1] at C
 have H1 := Lib.hid h1
 have HC := Lib.hid C
 clear C h1
 refine HC.out.mono ?_
 rintro e_ w1 ⟨rfl, t1⟩
 clear HC s1
 have s2 : St w0 (w1.alloc (Obj.cells #[.int .i64 x1, .int .i64 0, .int .i64 0, .int .i64 0, .slice none 0 0, .slice none 0 0] 27)) (rdr R l1 :: blk w1.heap.size #[.int .i64 x1, .int .i64 0, .int .i64 0, .int .i64 0, .slice none 0 0, .slice none 0 0] 27 :: blk c2 #[.int .i64 0, .int .i64 0, .int .i64 0, .int .i64 0, .slice none 0 0, .slice none 0 0] 27 :: L) := (t1.alloc #[.int .i64 x1, .int .i64 0, .int .i64 0, .int .i64 0, .slice none 0 0, .slice none 0 0] 27).pick 1
 clear t1
 go_wp2_with fail
 generalize (w1.alloc (Obj.cells #[.int .i64 x1, .int .i64 0, .int .i64 0, .int .i64 0, .slice none 0 0, .slice none 0 0] 27)) = v2 at *
 generalize w1.heap.size = c3 at *
 have C := num_s R l1 1099511627776 (by decide) (by decide) s2
 cases h2 : numL 1099511627776 l1 with
 | none =>
  have er : rdS l = none := by simp only [rdS, listP, H1.out, h2, Option.bind_some, Option.bind_none]
  rw [h2] at C
  rw [er]
  have HC := Lib.hid C
  clear C h2 er
  refine HC.out.mono ?_
  rintro e_ w_ ⟨rfl, s_⟩
  go_wp2
  exact ⟨rfl, rfl, _, s_.drop2.drop2⟩
 | some x =>
 obtain ⟨x2, l2⟩ := x
 rw [h2] at C
 have H2 := Lib.hid h2
 have HC := Lib.hid C
 clear C h2
 refine HC.out.mono ?_
 rintro e_ w2 ⟨rfl, t2⟩
 clear HC s2
 have hcS := t2.snd.cells
 have hfS := t2.snd.free
 go_wp2_with fail
 have s3 : St w0 (w2.setCell ⟨c3, 1, none⟩ (.int .i64 x2)) (rdr R l2 :: blk c3 #[.int .i64 x1, .int .i64 x2, .int .i64 0, .int .i64 0, .slice none 0 0, .slice none 0 0] 27 :: blk c2 #[.int .i64 0, .int .i64 0, .int .i64 0, .int .i64 0, .slice none 0 0, .slice none 0 0] 27 :: L) := (t2.snd.setb 1 _ rfl).pick 1
 clear t2 hcS hfS
 generalize (w2.setCell ⟨c3, 1, none⟩ (.int .i64 x2)) = v3 at *
 have C := num_s R l2 1099511627776 (by decide) (by decide) s3
 cases h3 : numL 1099511627776 l2 with
 | none =>
  have er : rdS l = none := by simp only [rdS, listP, H1.out, H2.out, h3, Option.bind_some, Option.bind_none]
  rw [h3] at C
  rw [er]
  have HC := Lib.hid C
  clear C h3 er
  refine HC.out.mono ?_
  rintro e_ w_ ⟨rfl, s_⟩
  go_wp2
  exact ⟨rfl, rfl, _, s_.drop2.drop2⟩
 | some x =>
 obtain ⟨x3, l3⟩ := x
 rw [h3] at C
 have H3 := Lib.hid h3
 have HC := Lib.hid C
 clear C h3
 refine HC.out.mono ?_
 rintro e_ w3 ⟨rfl, t3⟩
 clear HC s3
 have hcS := t3.snd.cells
 have hfS := t3.snd.free
 go_wp2_with fail
 have s4 : St w0 (w3.setCell ⟨c3, 2, none⟩ (.int .i64 x3)) (rdr R l3 :: blk c3 #[.int .i64 x1, .int .i64 x2, .int .i64 x3, .int .i64 0, .slice none 0 0, .slice none 0 0] 27 :: blk c2 #[.int .i64 0, .int .i64 0, .int .i64 0, .int .i64 0, .slice none 0 0, .slice none 0 0] 27 :: L) := (t3.snd.setb 2 _ rfl).pick 1
 clear t3 hcS hfS
 generalize (w3.setCell ⟨c3, 2, none⟩ (.int .i64 x3)) = v4 at *
 have C := num_s R l3 1099511627776 (by decide) (by decide) s4
 cases h4 : numL 1099511627776 l3 with
 | none =>
  have er : rdS l = none := by simp only [rdS, listP, H1.out, H2.out, H3.out, h4, Option.bind_some, Option.bind_none]
  rw [h4] at C
  rw [er]
  have HC := Lib.hid C
  clear C h4 er
  refine HC.out.mono ?_
  rintro e_ w_ ⟨rfl, s_⟩
  go_wp2
  exact ⟨rfl, rfl, _, s_.drop2.drop2⟩
 | some x =>
 obtain ⟨x4, l4⟩ := x
 rw [h4] at C
 have H4 := Lib.hid h4
 have HC := Lib.hid C
 clear C h4
 refine HC.out.mono ?_
 rintro e_ w4 ⟨rfl, t4⟩
 clear HC s4
 have hcS := t4.snd.cells
 have hfS := t4.snd.free
 go_wp2_with fail
 have s5 : St w0 (w4.setCell ⟨c3, 3, none⟩ (.int .i64 x4)) (rdr R l4 :: blk c3 #[.int .i64 x1, .int .i64 x2, .int .i64 x3, .int .i64 x4, .slice none 0 0, .slice none 0 0] 27 :: blk c2 #[.int .i64 0, .int .i64 0, .int .i64 0, .int .i64 0, .slice none 0 0, .slice none 0 0] 27 :: L) := (t4.snd.setb 3 _ rfl).pick 1
 clear t4 hcS hfS
 generalize (w4.setCell ⟨c3, 3, none⟩ (.int .i64 x4)) = v5 at *
 have C := num_s R l4 8 (by decide) (by decide) s5
 cases h5 : numL 8 l4 with
 | none =>
  have er : rdS l = none := by simp only [rdS, listP, H1.out, H2.out, H3.out, H4.out, h5, Option.bind_some, Option.bind_none]
  rw [h5] at C
  rw [er]
  have HC := Lib.hid C
  clear C h5 er
  refine HC.out.mono ?_
  rintro e_ w_ ⟨rfl, s_⟩
  go_wp2
  exact ⟨rfl, rfl, _, s_.drop2.drop2⟩
 | some x =>
 obtain ⟨x5, l5⟩ := x
 rw [h5] at C
 have H5 := Lib.hid h5
 have HC := Lib.hid C
 clear C h5
 refine HC.out.mono ?_
 rintro e_ w5 ⟨rfl, t5⟩
 clear HC s5
 obtain ⟨⟨b5, b5'⟩, -⟩ := (num_codec (most := 8) (by decide) _ _ _).1 H5.out
 obtain ⟨n, rfl⟩ := Int.eq_ofNat_of_zero_le b5
 have s6 : St w0 w5 (rowI (.slice none 0 0) [] :: rdr R l5 :: blk c3 #[.int .i64 x1, .int .i64 x2, .int .i64 x3, .int .i64 x4, .slice none 0 0, .slice none 0 0] 27 :: blk c2 #[.int .i64 0, .int .i64 0, .int .i64 0, .int .i64 0, .slice none 0 0, .slice none 0 0] 27 :: L) := t5.rowKNil (flat_int _)
 clear t5
 go_wp2_with fail
 go_loopw [22] (fun i W => ∃ (k : Nat) (acc : List Int) (lk : List UInt8) (v : Value), i = .int .i64 k ∧ ManyI (numL 65535) n l5 k acc lk ∧ St w0 W (rowI v acc :: rdr R lk :: blk c3 #[.int .i64 x1, .int .i64 x2, .int .i64 x3, .int .i64 x4, v, .slice none 0 0] 27 :: blk c2 #[.int .i64 0, .int .i64 0, .int .i64 0, .int .i64 0, .slice none 0 0, .slice none 0 0] 27 :: L)) (fun i _ => n - (intOf i).toNat)
 case atStart => exact ⟨0, [], l5, _, rfl, ManyI.start _ _ _, s6⟩
 case round =>
  clear s6
  obtain ⟨k, acc, lk, v, rfl, hM, s⟩ := hrel
  have hkn := hM.le
  have hal := hM.len
  by_cases hlt : k < n
  ·have HM := Lib.hid hM
   have HAL := Lib.hid hal
   clear hM hal
   have hcS := (s.pick 2).cells
   have hfS := (s.pick 2).free
   have C := num_t R lk 65535 (by decide) (by decide) s.snd
   have C' := num_t R lk 65535 (by decide) (by decide) s.drew.snd
   have HC := Lib.hid C
   have HC' := Lib.hid C'
   clear C C' s
   go_wp2_with fail
   go_region_law (first | (refine row_append_step (flat_int .i64) (.tmp 25) (.tmp 28) 24 (.int .i64 0) 8 v acc [x6] (some ⟨w_.heap.size, 0, none⟩) 1 1 (S_.out.snd.more (by go_grown)) rfl rfl Try.underlying24 info_int3 rfl (by decide) (by decide) (by simp [Act.eval, Act.put]) (by simp [Act.eval, Act.put]) (reads_lit1 (Rr := fun x cs => cs = [Value.int .i64 x]) (vnewAt rfl) rfl rfl) (fun _ _ h => h) (by have := HAL.out; simp; omega) ?_; intro v7 w7 s7; obtain ⟨A7, n7, c7, rfl⟩ := R_slice3 s7.rowKR; have hcS3 := (s7.pick 2).cells; have hfS3 := (s7.pick 2).free; have S7 := Lib.hid s7; clear s7) | (go_simp; go_at_call 90; (first | (with_reducible refine HC.out.mono ?_) | (with_reducible refine HC'.out.mono ?_)); rintro e_ w_ (⟨rfl, hn, s_⟩ | ⟨x6, l6, rfl, hn, s_⟩); (focus (have er : rdS l = none := by simp only [rdS, listP, H1.out, H2.out, H3.out, H4.out, H5.out, Option.bind_some, Option.bind_none, Int.toNat_natCast, HM.out.stop hlt hn]) <;> (have hp : RdPost w0 R L (rdS l) (.panicked formP) w_ := er ▸ ⟨rfl, _, s_.drop2.drop2.drop2⟩) <;> exact ⟨rfl, hp⟩); have hcS2 := (s_.pick 2).cells; have hfS2 := (s_.pick 2).free; have hl2 := vlt (s_.pick 2).at0; have hl3 := Nat.le_of_lt hl2; have S_ := Lib.hid s_; clear s_))
   all_goals (
    have s9 : St w0 (w7.setCell ⟨c3, 4, none⟩ (.slice A7 n7 c7)) (rowI (.slice A7 n7 c7) (acc ++ [x6]) :: rdr R l6 :: blk c3 #[.int .i64 x1, .int .i64 x2, .int .i64 x3, .int .i64 x4, .slice A7 n7 c7, .slice none 0 0] 27 :: blk c2 #[.int .i64 0, .int .i64 0, .int .i64 0, .int .i64 0, .slice none 0 0, .slice none 0 0] 27 :: L) := ((((S7.out.pick 2).setb 4 _ rfl).pick 1).pick 2).pick 1
    clear S7 hcS3 hfS3 S_ HC HC'
    go_wp2
    go_roundw
    case rel => exact ⟨k + 1, acc ++ [x6], l6, _, by go_num, HM.out.next hlt hn.out, s9⟩
    case measure => simp [intOf]; omega)
  ·obtain ⟨PA, pn, pc, rfl⟩ := R_slice3 s.rowKR
   have hm := hM.fin (by omega)
   have HM := Lib.hid hm
   clear hM hal hm
   have C := num_t R lk 4 (by decide) (by decide) s.snd
   have HC := Lib.hid C
   clear C s
   go_wp2_with fail
   refine HC.out.mono ?_
   rintro e_ w6 (⟨rfl, hn, s_⟩ | ⟨x6, l6, rfl, hn, s_⟩)
   ·have er : rdS l = none := by simp only [rdS, listP, H1.out, H2.out, H3.out, H4.out, H5.out, Option.bind_some, Option.bind_none, Int.toNat_natCast, HM.out, hn]
    have HP := Lib.hid (show RdPost w0 R L (rdS l) (.panicked formP) w6 from er ▸ ⟨rfl, _, s_.drop2.drop2.drop2⟩)
    clear er hn s_ HC
    go_wp2
    exact ⟨rfl, HP.out⟩
   have H6 := hn
   obtain ⟨⟨b6, b6'⟩, -⟩ := (num_codec (most := 4) (by decide) _ _ _).1 H6.out
   obtain ⟨m, rfl⟩ := Int.eq_ofNat_of_zero_le b6
   clear HC hn
   have t6 : St w0 w6 (rowT (.slice none 0 0) [] :: rdr R l6 :: rowI (.slice PA pn pc) acc :: blk c3 #[.int .i64 x1, .int .i64 x2, .int .i64 x3, .int .i64 x4, .slice PA pn pc, .slice none 0 0] 27 :: blk c2 #[.int .i64 0, .int .i64 0, .int .i64 0, .int .i64 0, .slice none 0 0, .slice none 0 0] 27 :: L) := s_.rowKNil kT_flat
   clear s_
   go_wp2_with fail
   go_loopw [4, 34] (fun _ i W => ∃ (k : Nat) (ac : List TS) (lq : List UInt8) (v : Value), i = .int .i64 k ∧ ManyI rdT m l6 k ac lq ∧ St w0 W (rowT v ac :: rdr R lq :: rowI (.slice PA pn pc) acc :: blk c3 #[.int .i64 x1, .int .i64 x2, .int .i64 x3, .int .i64 x4, .slice PA pn pc, v] 27 :: blk c2 #[.int .i64 0, .int .i64 0, .int .i64 0, .int .i64 0, .slice none 0 0, .slice none 0 0] 27 :: L)) (fun _ i _ => m - (intOf i).toNat)
   case atStart => exact ⟨0, [], l6, _, rfl, ManyI.start _ _ _, t6⟩
   case round =>
    clear t6 hkn hlt
    obtain ⟨q, ac, lq, v, rfl, hM, s⟩ := hrel
    have hkn := hM.le
    have hal := hM.len
    obtain ⟨TA, tn, tc, rfl⟩ := R_slice3 s.rowKR
    by_cases hlt : q < m
    ·have HN := Lib.hid hM
     have HAL := Lib.hid hal
     clear hM hal
     have s0 : St w0 (wr.alloc (Obj.cells #[.bool false, .int .i64 0, .int .i64 0, .int .i64 0, .int .i64 0, .int .i64 0] 90)) (rdr R lq :: blk wr.heap.size #[.bool false, .int .i64 0, .int .i64 0, .int .i64 0, .int .i64 0, .int .i64 0] 90 :: rowT (.slice TA tn tc) ac :: rowI (.slice PA pn pc) acc :: blk c3 #[.int .i64 x1, .int .i64 x2, .int .i64 x3, .int .i64 x4, .slice PA pn pc, .slice TA tn tc] 27 :: blk c2 #[.int .i64 0, .int .i64 0, .int .i64 0, .int .i64 0, .slice none 0 0, .slice none 0 0] 27 :: L) := ((s.alloc #[.bool false, .int .i64 0, .int .i64 0, .int .i64 0, .int .i64 0, .int .i64 0] 90).pick 2).pick 0
     clear s
     go_wp2_with fail
     generalize (wr.alloc (Obj.cells #[.bool false, .int .i64 0, .int .i64 0, .int .i64 0, .int .i64 0, .int .i64 0] 90)) = q0 at *
     generalize wr.heap.size = B at *
     have C := num_t R lq 1 (by decide) (by decide) s0
     have HC := Lib.hid C
     clear C s0
     refine HC.out.mono ?_
     rintro e_ p0 (⟨rfl, hn, s_⟩ | ⟨y0, m0, rfl, G0, s_⟩)
     ·have e0 : rdT lq = none := by simp only [rdT, Option.bind_some, Option.bind_none, hn]
      have er : rdS l = none := by simp only [rdS, listP, H1.out, H2.out, H3.out, H4.out, H5.out, Option.bind_some, Option.bind_none, Int.toNat_natCast, HM.out, H6.out, HN.out.stop hlt e0]
      have HP := Lib.hid (show RdPost w0 R L (rdS l) (.panicked formP) p0 from er ▸ ⟨rfl, _, s_.drop2.drop2.drop2.drop2.drop2⟩)
      clear er e0 hn s_ HC
      go_wp2
      exact ⟨rfl, HP.out⟩
     clear HC
     have hcB := s_.snd.cells
     have hfB := s_.snd.free
     go_wp2_with fail
     have s1 : St w0 (p0.setCell ⟨B, 0, none⟩ (.bool (y0 == 1))) (rdr R m0 :: blk B #[.bool (y0 == 1), .int .i64 0, .int .i64 0, .int .i64 0, .int .i64 0, .int .i64 0] 90 :: rowT (.slice TA tn tc) ac :: rowI (.slice PA pn pc) acc :: blk c3 #[.int .i64 x1, .int .i64 x2, .int .i64 x3, .int .i64 x4, .slice PA pn pc, .slice TA tn tc] 27 :: blk c2 #[.int .i64 0, .int .i64 0, .int .i64 0, .int .i64 0, .slice none 0 0, .slice none 0 0] 27 :: L) := (s_.snd.setb 0 _ rfl).pick 1
     clear s_ hcB hfB
     generalize (p0.setCell ⟨B, 0, none⟩ (.bool (y0 == 1))) = q1 at *
     have C := num_t R m0 8 (by decide) (by decide) s1
     have HC := Lib.hid C
     clear C s1
     refine HC.out.mono ?_
     rintro e_ p1 (⟨rfl, hn, s_⟩ | ⟨y1, m1, rfl, G1, s_⟩)
     ·have e0 : rdT lq = none := by simp only [rdT, G0.out, Option.bind_some, Option.bind_none, hn]
      have er : rdS l = none := by simp only [rdS, listP, H1.out, H2.out, H3.out, H4.out, H5.out, Option.bind_some, Option.bind_none, Int.toNat_natCast, HM.out, H6.out, HN.out.stop hlt e0]
      have HP := Lib.hid (show RdPost w0 R L (rdS l) (.panicked formP) p1 from er ▸ ⟨rfl, _, s_.drop2.drop2.drop2.drop2.drop2⟩)
      clear er e0 hn s_ HC
      go_wp2
      exact ⟨rfl, HP.out⟩
     clear HC
     have hcB := s_.snd.cells
     have hfB := s_.snd.free
     go_wp2_with fail
     have s2 : St w0 (p1.setCell ⟨B, 1, none⟩ (.int .i64 y1)) (rdr R m1 :: blk B #[.bool (y0 == 1), .int .i64 y1, .int .i64 0, .int .i64 0, .int .i64 0, .int .i64 0] 90 :: rowT (.slice TA tn tc) ac :: rowI (.slice PA pn pc) acc :: blk c3 #[.int .i64 x1, .int .i64 x2, .int .i64 x3, .int .i64 x4, .slice PA pn pc, .slice TA tn tc] 27 :: blk c2 #[.int .i64 0, .int .i64 0, .int .i64 0, .int .i64 0, .slice none 0 0, .slice none 0 0] 27 :: L) := (s_.snd.setb 1 _ rfl).pick 1
     clear s_ hcB hfB
     generalize (p1.setCell ⟨B, 1, none⟩ (.int .i64 y1)) = q2 at *
     have C := num_t R m1 1099511627776 (by decide) (by decide) s2
     have HC := Lib.hid C
     clear C s2
     refine HC.out.mono ?_
     rintro e_ p2 (⟨rfl, hn, s_⟩ | ⟨y2, m2, rfl, G2, s_⟩)
     ·have e0 : rdT lq = none := by simp only [rdT, G0.out, G1.out, Option.bind_some, Option.bind_none, hn]
      have er : rdS l = none := by simp only [rdS, listP, H1.out, H2.out, H3.out, H4.out, H5.out, Option.bind_some, Option.bind_none, Int.toNat_natCast, HM.out, H6.out, HN.out.stop hlt e0]
      have HP := Lib.hid (show RdPost w0 R L (rdS l) (.panicked formP) p2 from er ▸ ⟨rfl, _, s_.drop2.drop2.drop2.drop2.drop2⟩)
      clear er e0 hn s_ HC
      go_wp2
      exact ⟨rfl, HP.out⟩
     clear HC
     have hcB := s_.snd.cells
     have hfB := s_.snd.free
     go_wp2_with fail
     have s3 : St w0 (p2.setCell ⟨B, 2, none⟩ (.int .i64 y2)) (rdr R m2 :: blk B #[.bool (y0 == 1), .int .i64 y1, .int .i64 y2, .int .i64 0, .int .i64 0, .int .i64 0] 90 :: rowT (.slice TA tn tc) ac :: rowI (.slice PA pn pc) acc :: blk c3 #[.int .i64 x1, .int .i64 x2, .int .i64 x3, .int .i64 x4, .slice PA pn pc, .slice TA tn tc] 27 :: blk c2 #[.int .i64 0, .int .i64 0, .int .i64 0, .int .i64 0, .slice none 0 0, .slice none 0 0] 27 :: L) := (s_.snd.setb 2 _ rfl).pick 1
     clear s_ hcB hfB
     generalize (p2.setCell ⟨B, 2, none⟩ (.int .i64 y2)) = q3 at *
     have C := num_t R m2 1099511627776 (by decide) (by decide) s3
     have HC := Lib.hid C
     clear C s3
     refine HC.out.mono ?_
     rintro e_ p3 (⟨rfl, hn, s_⟩ | ⟨y3, m3, rfl, G3, s_⟩)
     ·have e0 : rdT lq = none := by simp only [rdT, G0.out, G1.out, G2.out, Option.bind_some, Option.bind_none, hn]
      have er : rdS l = none := by simp only [rdS, listP, H1.out, H2.out, H3.out, H4.out, H5.out, Option.bind_some, Option.bind_none, Int.toNat_natCast, HM.out, H6.out, HN.out.stop hlt e0]
      have HP := Lib.hid (show RdPost w0 R L (rdS l) (.panicked formP) p3 from er ▸ ⟨rfl, _, s_.drop2.drop2.drop2.drop2.drop2⟩)
      clear er e0 hn s_ HC
      go_wp2
      exact ⟨rfl, HP.out⟩
     clear HC
     have hcB := s_.snd.cells
     have hfB := s_.snd.free
     go_wp2_with fail
     have s4 : St w0 (p3.setCell ⟨B, 3, none⟩ (.int .i64 y3)) (rdr R m3 :: blk B #[.bool (y0 == 1), .int .i64 y1, .int .i64 y2, .int .i64 y3, .int .i64 0, .int .i64 0] 90 :: rowT (.slice TA tn tc) ac :: rowI (.slice PA pn pc) acc :: blk c3 #[.int .i64 x1, .int .i64 x2, .int .i64 x3, .int .i64 x4, .slice PA pn pc, .slice TA tn tc] 27 :: blk c2 #[.int .i64 0, .int .i64 0, .int .i64 0, .int .i64 0, .slice none 0 0, .slice none 0 0] 27 :: L) := (s_.snd.setb 3 _ rfl).pick 1
     clear s_ hcB hfB
     generalize (p3.setCell ⟨B, 3, none⟩ (.int .i64 y3)) = q4 at *
     have C := num_t R m3 1099511627776 (by decide) (by decide) s4
     have HC := Lib.hid C
     clear C s4
     refine HC.out.mono ?_
     rintro e_ p4 (⟨rfl, hn, s_⟩ | ⟨y4, m4, rfl, G4, s_⟩)
     ·have e0 : rdT lq = none := by simp only [rdT, G0.out, G1.out, G2.out, G3.out, Option.bind_some, Option.bind_none, hn]
      have er : rdS l = none := by simp only [rdS, listP, H1.out, H2.out, H3.out, H4.out, H5.out, Option.bind_some, Option.bind_none, Int.toNat_natCast, HM.out, H6.out, HN.out.stop hlt e0]
      have HP := Lib.hid (show RdPost w0 R L (rdS l) (.panicked formP) p4 from er ▸ ⟨rfl, _, s_.drop2.drop2.drop2.drop2.drop2⟩)
      clear er e0 hn s_ HC
      go_wp2
      exact ⟨rfl, HP.out⟩
     clear HC
     have hcB := s_.snd.cells
     have hfB := s_.snd.free
     go_wp2_with fail
     have s5 : St w0 (p4.setCell ⟨B, 4, none⟩ (.int .i64 y4)) (rdr R m4 :: blk B #[.bool (y0 == 1), .int .i64 y1, .int .i64 y2, .int .i64 y3, .int .i64 y4, .int .i64 0] 90 :: rowT (.slice TA tn tc) ac :: rowI (.slice PA pn pc) acc :: blk c3 #[.int .i64 x1, .int .i64 x2, .int .i64 x3, .int .i64 x4, .slice PA pn pc, .slice TA tn tc] 27 :: blk c2 #[.int .i64 0, .int .i64 0, .int .i64 0, .int .i64 0, .slice none 0 0, .slice none 0 0] 27 :: L) := (s_.snd.setb 4 _ rfl).pick 1
     clear s_ hcB hfB
     generalize (p4.setCell ⟨B, 4, none⟩ (.int .i64 y4)) = q5 at *
     have C := num_t R m4 1000 (by decide) (by decide) s5
     have HC := Lib.hid C
     clear C s5
     refine HC.out.mono ?_
     rintro e_ p5 (⟨rfl, hn, s_⟩ | ⟨y5, m5, rfl, G5, s_⟩)
     ·have e0 : rdT lq = none := by simp only [rdT, G0.out, G1.out, G2.out, G3.out, G4.out, Option.bind_some, Option.bind_none, hn]
      have er : rdS l = none := by simp only [rdS, listP, H1.out, H2.out, H3.out, H4.out, H5.out, Option.bind_some, Option.bind_none, Int.toNat_natCast, HM.out, H6.out, HN.out.stop hlt e0]
      have HP := Lib.hid (show RdPost w0 R L (rdS l) (.panicked formP) p5 from er ▸ ⟨rfl, _, s_.drop2.drop2.drop2.drop2.drop2⟩)
      clear er e0 hn s_ HC
      go_wp2
      exact ⟨rfl, HP.out⟩
     clear HC
     have hcB := s_.snd.cells
     have hfB := s_.snd.free
     have s6 : St w0 (p5.setCell ⟨B, 5, none⟩ (.int .i64 y5)) (rdr R m5 :: blk B #[.bool (y0 == 1), .int .i64 y1, .int .i64 y2, .int .i64 y3, .int .i64 y4, .int .i64 y5] 90 :: rowT (.slice TA tn tc) ac :: rowI (.slice PA pn pc) acc :: blk c3 #[.int .i64 x1, .int .i64 x2, .int .i64 x3, .int .i64 x4, .slice PA pn pc, .slice TA tn tc] 27 :: blk c2 #[.int .i64 0, .int .i64 0, .int .i64 0, .int .i64 0, .slice none 0 0, .slice none 0 0] 27 :: L) := (s_.snd.setb 5 _ rfl).pick 1
     have hB3 : ¬ c3 = B := by
      rintro rfl
      obtain ⟨S, T, ⟨-, rfl⟩, ⟨-, rfl⟩, hd, -⟩ := ((s6.pick 1).pick 4).two
      exact hd _ rfl rfl
     have hc3 := (s_.pick 4).cells
     have hf3 := (s_.pick 4).free
     clear s_
     have S6 := Lib.hid s6
     clear s6
     go_wp2_with (at_builtin; (refine row_append kT_flat _ _ 25 (.agg #[.bool false, .int .i64 0, .int .i64 0, .int .i64 0, .int .i64 0, .int .i64 0]) 48 (.slice TA tn tc) ac [(⟨y0 == 1, y1, y2, y3, y4, y5⟩ : TS)] (some ⟨p5.heap.size, 0, none⟩) 1 1 ((S6.out.pick 2).more (by go_grown)) rfl rfl Try.underlying25 info_T rfl (by decide) (by decide) rfl rfl (reads_lit1 (Rr := fun x cs => cs = cTl x) (vnewAt (by simp)) rfl rfl) (fun x cs h => kT_M h) (by have := HAL.out; simp; omega) ?_); intro v8 w8 s8; obtain ⟨A8, n8, c8, rfl⟩ := R_slice3 s8.rowKR; have hc8 := (s8.pick 4).cells; have hf8 := (s8.pick 4).free; have S8 := Lib.hid s8; clear s8)
     have s9 := ((((((((S8.out.pick 4).setb 5 (.slice A8 n8 c8) rfl).pick 3).drop).pick 3).pick 3).pick 3))
     have hd : rdT lq = some ((⟨y0 == 1, y1, y2, y3, y4, y5⟩ : TS), m5) := by simp only [rdT, G0.out, G1.out, G2.out, G3.out, G4.out, G5.out, Option.bind_some]; rfl
     have HD := Lib.hid hd
     clear S8 hc8 hf8 S6 hc3 hf3 hcB hfB hd
     go_roundw
     case rel => exact ⟨q + 1, ac ++ [(⟨y0 == 1, y1, y2, y3, y4, y5⟩ : TS)], m5, _, by go_num, HN.out.next hlt HD.out, s9⟩
     case measure => simp [intOf]; omega
    ·have hm := hM.fin (by omega)
     have er : rdS l = some (⟨x1, x2, x3, x4, acc, ac⟩, lq) := by simp only [rdS, listP, H1.out, H2.out, H3.out, H4.out, H5.out, Option.bind_some, Option.bind_none, Int.toNat_natCast, HM.out, H6.out, hm]
     have hpn := R_len (s.pick 2).rowKR
     have htn := R_len s.rowKR
     have hcS := (s.pick 3).cells
     have hcR := (s.pick 4).cells
     have hfR := (s.pick 4).free
     have HER := Lib.hid er
     have HPN := Lib.hid hpn
     have HTN := Lib.hid htn
     have SS := Lib.hid s
     clear hM hal hm er hpn htn s
     go_wp2
     have s8 : St w0 ((((((wr.setCell ⟨c2, 0, none⟩ (.int .i64 x1)).setCell ⟨c2, 1, none⟩ (.int .i64 x2)).setCell ⟨c2, 2, none⟩ (.int .i64 x3)).setCell ⟨c2, 3, none⟩ (.int .i64 x4)).setCell ⟨c2, 4, none⟩ (.slice PA pn pc)).setCell ⟨c2, 5, none⟩ (.slice TA tn tc)) (blk c2 #[.int .i64 x1, .int .i64 x2, .int .i64 x3, .int .i64 x4, .slice PA pn pc, .slice TA tn tc] 27 :: rowT (.slice TA tn tc) ac :: rdr R lq :: rowI (.slice PA pn pc) acc :: blk c3 #[.int .i64 x1, .int .i64 x2, .int .i64 x3, .int .i64 x4, .slice PA pn pc, .slice TA tn tc] 27 :: L) := ((((((SS.out.pick 4).setb 0 (.int .i64 x1) rfl).setb 1 (.int .i64 x2) rfl).setb 2 (.int .i64 x3) rfl).setb 3 (.int .i64 x4) rfl).setb 4 (.slice PA pn pc) rfl).setb 5 (.slice TA tn tc) rfl
     clear SS hcR hfR hcS
     generalize ((((((wr.setCell ⟨c2, 0, none⟩ (.int .i64 x1)).setCell ⟨c2, 1, none⟩ (.int .i64 x2)).setCell ⟨c2, 2, none⟩ (.int .i64 x3)).setCell ⟨c2, 3, none⟩ (.int .i64 x4)).setCell ⟨c2, 4, none⟩ (.slice PA pn pc)).setCell ⟨c2, 5, none⟩ (.slice TA tn tc)) = W at *
     have hcR := s8.cells
     refine bodyPost_ret (v := .agg #[.int .i64 x1, .int .i64 x2, .int .i64 x3, .int .i64 x4, .slice PA pn pc, .slice TA tn tc]) (by simp [results, Try.results73, go_sem, hcR]) rfl ?_
     have s9 : St w0 W (rowI (.slice PA pn pc) acc :: rowT (.slice TA tn tc) ac :: rdr R lq :: L) := ((s8.drop.pick 3).drop).pick 2
     clear s8 hcR
     rw [HPN.out, HTN.out] at s9 ⊢
     rw [HER.out]
     exact ⟨PA, pc, TA, tc, rfl, s9⟩
end Go.Proofs.YtkhcdichdnbcmaaR
end
section
namespace Go.Proofs.YtkhcdichdnbcmaaR
open Go.RowKit Go.Proofs.YtkhcdichdnbcmaaRW.PrintWords Go.Proofs.YtkhcdichdnbcmaaR.Sp Go.Proofs.YtkhcdichdnbcmaaR.Ext
set_option linter.unusedSimpArgs false
set_option linter.unusedVariables false
theorem RowI_of_C {w : World} {A : Option Addr} {l : List Int} (h : (Kd.int .i64).C w A l.length l) : RowI w A l := by
 by_cases hl : l = []
 ·exact .inl hl
 ·have hp : 0 < l.length := List.length_pos_iff.mpr hl
  obtain ⟨ad, rfl, hc⟩ := (Kd.reads_of_C (d := (0 : Int)) h).2.2 hp
  have c0 := hc 0 hp
  have hs := World.cell?_spot c0
  have hb := World.block_lt_of_cell? _ _ c0
  obtain ⟨b, off, sp⟩ := ad
  simp [Addr.add] at hs hb
  subst hs
  refine .inr ⟨b, off, rfl, hb, fun k hk => ?_⟩
  have := hc k hk
  have ha : (Addr.mk b off none).add k = ⟨b, off + k, none⟩ := by unfold Addr.add; split <;> simp_all
  rwa [ha] at this
theorem kT_K {w : World} {x : TS} {cs : List Value} (h : kT.K w x cs) : cs = cTl x := by
 obtain ⟨c0, c1, rfl, ⟨a0, a1, rfl, h0, b0, b1, rfl, h1, d0, d1, rfl, h2, e0, e1, rfl, h3, h4⟩, h5⟩ := h
 have h0 : a0 = [_] := h0
 have h1 : b0 = [_] := h1
 have h2 : d0 = [_] := h2
 have h3 : e0 = [_] := h3
 have h4 : e1 = [_] := h4
 have h5 : c1 = [_] := h5
 subst h0 h1 h2 h3 h4 h5
 rfl
theorem RowT_of_C {w : World} {A : Option Addr} {l : List TS} (h : kT.C w A l.length l) : RowT w A l := by
 by_cases hl : l = []
 ·exact .inl hl
 ·have hp : 0 < l.length := List.length_pos_iff.mpr hl
  obtain ⟨ad, rfl, hc⟩ := h.2.2 hp
  have key : ∀ k, k < l.length → ∀ i u, (cTl (tsAt l k))[i]? = some u → w.cell? (ad.add (k * 6 + i)) = some u := fun k hk i u hi => by
   obtain ⟨c, _, hK, hcell⟩ := hc k l[k] (List.getElem?_eq_getElem hk)
   have hK := kT_K hK
   subst hK
   have : tsAt l k = l[k] := by simp [tsAt, hk]
   rw [this] at hi
   exact hcell i u hi
  have c0 := key 0 hp 0 _ rfl
  have hs := World.cell?_spot c0
  have hb := World.block_lt_of_cell? _ _ c0
  obtain ⟨b, off, sp⟩ := ad
  simp [Addr.add] at hs hb
  subst hs
  have ha : ∀ n, (Addr.mk b off none).add n = ⟨b, off + n, none⟩ := fun n => by unfold Addr.add; split <;> simp_all
  simp only [ha] at key
  exact .inr ⟨b, off, rfl, hb, fun k hk => ⟨key k hk 0 _ rfl, key k hk 1 _ rfl, key k hk 2 _ rfl, key k hk 3 _ rfl, key k hk 4 _ rfl, key k hk 5 _ rfl⟩⟩
set_option maxHeartbeats 2000000 in
theorem catch_idle (p q r : Addr) (w : World) :
  CallsD Try.prog 72 #[.pointer (some p), .pointer (some q), .pointer (some r)] .returning w fun e u' w' => e = .returned (.tuple #[]) ∧ u' = .returning ∧ w' = w := by
 refine callsD_of_wpS Try.func72 rfl fun c₀ cs hu => ?_
 apply wpS_seq
 apply wpS_region
 simp [wpOpsS, go_sem, recoverD, hu, Try.ntmps72, Exit.thenS]
 rw [show (#[.pointer (some p), .pointer (some q), .pointer (some r)] ++ ((Array.replicate 16 undef).setIfInBounds 3 Value.nilIface).setIfInBounds 0 Value.nilIface : Array Value) = #[.pointer (some p), .pointer (some q), .pointer (some r), .nilIface, undef, undef, .nilIface, undef, undef, undef, undef, undef, undef, undef, undef, undef, undef, undef, undef] from rfl]
 refine wpS_of_wp ?_
 go_wp2
 cases c₀
 simp_all [bodyPostS, results, Try.results72]
theorem St.ne {w0 w : World} {L : List HP} {p q : Nat} {xs ys : Array Value} {s t : Nat} (h : St w0 w (Go.Proofs.YtkhcdichdnbcmaaR.blk p xs s :: Go.Proofs.YtkhcdichdnbcmaaR.blk q ys t :: L)) : ¬ p = q := by
 rintro rfl
 obtain ⟨S, T, ⟨-, rfl⟩, ⟨-, rfl⟩, hd, -⟩ := h.two
 exact hd _ rfl rfl
def CatchPost (w0 : World) (L : List HP) (p q r : Nat) (older : List PanicEntry) (e : Ending) (u' : FrameMode) (w' : World) : Prop :=
 e = .returned (.tuple #[]) ∧ u' = .panicking ({ v := .iface 31 (.int .i64 4), recovered := true } :: older) ∧ St w0 w' (blk p #[.int .i64 0, .int .i64 0, .int .i64 0, .int .i64 0, .slice none 0 0, .slice none 0 0] 27 :: blk q #[.string (mkB [])] 9 :: blk r #[.int .i64 4] 31 :: L)
set_option maxHeartbeats 2000000 in
theorem catch_panicking {w0 w : World} {L : List HP} (p q r : Nat) (a b c d e f y z : Value) (older : List PanicEntry) (h : St w0 w (blk p #[a, b, c, d, e, f] 27 :: blk q #[y] 9 :: blk r #[z] 31 :: L)) :
  CallsD Try.prog 72 #[.pointer (some ⟨p, 0, none⟩), .pointer (some ⟨q, 0, none⟩), .pointer (some ⟨r, 0, none⟩)] (.panicking ({ v := .iface 31 (.int .i64 4), recovered := false } :: older)) w (CatchPost w0 L p q r older) := by
 have n1 := h.ne
 have n2 : ¬ p = r := ((h.pick 1).drop).ne
 have n3 : ¬ q = r := h.drop.ne
 have m1 : ¬ q = p := fun e => n1 e.symm
 have m2 : ¬ r = p := fun e => n2 e.symm
 have m3 : ¬ r = q := fun e => n3 e.symm
 have hcp := h.cells
 have hfp := h.free
 have hcq := (h.pick 1).cells
 have hfq := (h.pick 1).free
 have hcr := (h.pick 2).cells
 have hfr := (h.pick 2).free
 have hta : ∀ W, (Instr.typeAssert (.iface 31 (.int .i64 4)) 20 31 true).run Try.prog W = .ok (.tuple #[.int .i64 4, .bool true]) W := fun _ => by kernel_rfl
 have H := Lib.hid h
 clear h
 refine callsD_of_wpS Try.func72 rfl fun c₀ cs hu => ?_
 apply wpS_seq
 apply wpS_region
 simp [wpOpsS, go_sem, recoverD, hu, Try.ntmps72, Exit.thenS]
 rw [show (#[.pointer (some ⟨p, 0, none⟩), .pointer (some ⟨q, 0, none⟩), .pointer (some ⟨r, 0, none⟩)] ++ ((Array.replicate 16 undef).setIfInBounds 3 (.iface 31 (.int .i64 4))).setIfInBounds 0 (.iface 31 (.int .i64 4)) : Array Value) = #[.pointer (some ⟨p, 0, none⟩), .pointer (some ⟨q, 0, none⟩), .pointer (some ⟨r, 0, none⟩), .iface 31 (.int .i64 4), undef, undef, .iface 31 (.int .i64 4), undef, undef, undef, undef, undef, undef, undef, undef, undef, undef, undef, undef] from rfl]
 refine wpS_of_wp ?_
 go_wp2
 refine ⟨rfl, _, rfl, .tuple #[], by simp [results, Try.results72], rfl, rfl, ?_⟩
 exact (((((((((((((H.out.setb 0 (.int .i64 0) rfl).setb 1 (.int .i64 0) rfl).setb 2 (.int .i64 0) rfl).setb 3 (.int .i64 0) rfl).setb 4 (.slice none 0 0) rfl).setb 5 (.slice none 0 0) rfl).pick 1).setb 0 (.string (mkB [])) rfl).pick 2).setb 0 (.int .i64 4) rfl).pick 2).pick 2).pick 1)
def zeroS : SP := ⟨0, 0, 0, 0, [], []⟩
def decR (l : List UInt8) : SP × List UInt8 × Int := match decS l with | none => (zeroS, [], 4) | some (s, r) => (s, r, 0)
def DecPost (w : World) (x : SP × List UInt8 × Int) (e : Ending) (w' : World) : Prop := ∃ v4 v5 : Value, e = .returned (.tuple #[.agg #[.int .i64 x.1.id, .int .i64 x.1.cpu, .int .i64 x.1.mem, .int .i64 x.1.disk, v4, v5], .string (mkB x.2.1), .int .i64 x.2.2]) ∧
 (Kd.int .i64).R 3 w' w.heap.size (fun _ => True) v4 x.1.ports ∧ kT.R 90 w' w.heap.size (fun _ => True) v5 x.1.tasks ∧ Below w.heap.size w w'
abbrev ZS : Array Value := #[.int .i64 0, .int .i64 0, .int .i64 0, .int .i64 0, .slice none 0 0, .slice none 0 0]
set_option maxHeartbeats 2000000 in
theorem decode_c (l : List UInt8) (w : World) : Calls Try.prog 44 #[.string (mkB l)] w (DecPost w (decR l)) := by
 have hmf : ∀ (fn : Fn) (first cap : Array Value) (w : World), (Instr.makeFunc fn first cap).run Try.prog w = .ok (.func fn first cap) w := fun _ _ _ _ => rfl
 go_enter_defers Try.func44, Try.ntmps44
 go_wp2_with fail
 have s0 : St w ((((w.alloc (Obj.cells ZS 27)).alloc (Obj.cells #[.string { data := #[] }] 9)).alloc (Obj.cells #[.int .i64 0] 31)).alloc (Obj.cells #[.string (mkB l)] 115)) [rdr (w.heap.size + 1 + 1 + 1) l, blk (w.heap.size + 1 + 1) #[.int .i64 0] 31, blk (w.heap.size + 1) #[.string { data := #[] }] 9, blk w.heap.size ZS 27] := by
  have q := ((((St.start w).alloc ZS 27).alloc #[.string { data := #[] }] 9).alloc #[.int .i64 0] 31).alloc #[.string (mkB l)] 115
  simpa using q
 generalize ((((w.alloc (Obj.cells ZS 27)).alloc (Obj.cells #[.string { data := #[] }] 9)).alloc (Obj.cells #[.int .i64 0] 31)).alloc (Obj.cells #[.string (mkB l)] 115)) = wa at *
 generalize hW : w.heap.size = d2 at *
 have HW := Lib.hid hW
 clear hW
 generalize d2 + 1 = d3 at *
 generalize d3 + 1 = d4 at *
 generalize d4 + 1 = R at *
 have C := rspec_s R l s0
 cases h1 : rdS l with
 | none =>
  have er : decR l = (zeroS, [], 4) := by unfold decR decS; rw [h1]; rfl
  rw [h1] at C
  rw [er]
  have HC := Lib.hid C
  clear C h1 er s0
  refine HC.out.mono ?_
  rintro e w1 ⟨rfl, r, s1⟩
  clear HC
  have s2 : St w w1 [blk d2 ZS 27, blk d3 #[.string { data := #[] }] 9, blk d4 #[.int .i64 0] 31, rdr R r] := ((s1.pick 1).pick 2).pick 3
  have SP := Lib.hid s2
  clear s1 s2
  go_wp2
  refine leaves_cons (f := 72) (args := #[.pointer (some ⟨d2, 0, none⟩), .pointer (some ⟨d3, 0, none⟩), .pointer (some ⟨d4, 0, none⟩)]) (by simp) (by simp [go_sem]) ?_
  refine (catch_panicking d2 d3 d4 _ _ _ _ _ _ _ _ [] SP.out).mono ?_
  rintro e u' w3 ⟨rfl, rfl, s3⟩
  clear SP
  have hcA := s3.cells
  have hcB := (s3.pick 1).cells
  have hcC := (s3.pick 2).cells
  have hp : DecPost w (zeroS, [], 4) (.returned (.tuple #[.agg ZS, .string (mkB []), .int .i64 4])) w3 := ⟨_, _, rfl, Kd.R_nil _ _ _ _ _, Kd.R_nil _ _ _ _ _, s3.bel⟩
  have HP := Lib.hid hp
  clear hp s3
  simp [Leaves, settle, results, Try.results44, go_sem, hcA, hcB, hcC]
  exact HP.out
 | some x =>
  obtain ⟨⟨x1, x2, x3, x4, ps, ts⟩, r⟩ := x
  rw [h1] at C
  have H1 := Lib.hid h1
  have HC := Lib.hid C
  clear C h1 s0
  refine HC.out.mono ?_
  rintro e w1 ⟨PA, pc, TA, tc, rfl, s1⟩
  clear HC
  simp only at s1
  have hc2 := (s1.pick 5).cells
  have hf2 := (s1.pick 5).free
  have s2 : St w ((((((w1.setCell ⟨d2, 0, none⟩ (.int .i64 x1)).setCell ⟨d2, 1, none⟩ (.int .i64 x2)).setCell ⟨d2, 2, none⟩ (.int .i64 x3)).setCell ⟨d2, 3, none⟩ (.int .i64 x4)).setCell ⟨d2, 4, none⟩ (.slice PA ps.length pc)).setCell ⟨d2, 5, none⟩ (.slice TA ts.length tc)) [blk d2 #[.int .i64 x1, .int .i64 x2, .int .i64 x3, .int .i64 x4, .slice PA ps.length pc, .slice TA ts.length tc] 27, rowI (.slice PA ps.length pc) ps, rowT (.slice TA ts.length tc) ts, rdr R r, blk d4 #[.int .i64 0] 31, blk d3 #[.string { data := #[] }] 9] := ((((((s1.pick 5).setb 0 (.int .i64 x1) rfl).setb 1 (.int .i64 x2) rfl).setb 2 (.int .i64 x3) rfl).setb 3 (.int .i64 x4) rfl).setb 4 (.slice PA ps.length pc) rfl).setb 5 (.slice TA ts.length tc) rfl
  go_wp2_with fail
  clear s1 hc2 hf2
  generalize ((((((w1.setCell ⟨d2, 0, none⟩ (.int .i64 x1)).setCell ⟨d2, 1, none⟩ (.int .i64 x2)).setCell ⟨d2, 2, none⟩ (.int .i64 x3)).setCell ⟨d2, 3, none⟩ (.int .i64 x4)).setCell ⟨d2, 4, none⟩ (.slice PA ps.length pc)).setCell ⟨d2, 5, none⟩ (.slice TA ts.length tc)) = wb at *
  have rI := (s2.pick 1).rowKR
  have rT := (s2.pick 2).rowKR
  obtain ⟨A1, c1, e1, k1, kI⟩ := Kd.R_reads rI
  obtain ⟨A2, c2, e2, k2, kT'⟩ := Kd.R_reads rT
  injection e1 with e1a e1b e1c
  injection e2 with e2a e2b e2c
  subst e1a e1c e2a e2c
  have C := scheck_c x1 x2 x3 x4 PA TA ps.length pc ts.length tc ps ts wb rfl (RowI_of_C kI) (Kd.reads_of_C (d := (0 : Int)) kI).2.1 rfl (RowT_of_C kT') kT'.2.1 k2
  clear rI rT kI kT' e1b e2b
  by_cases hE : specE ⟨x1, x2, x3, x4, ps, ts⟩ = 0
  ·have er : decR l = (⟨x1, x2, x3, x4, ps, ts⟩, r, 0) := by
    unfold decR decS
    rw [H1.out]
    simp [okS, hE]
   rw [hE] at C
   have HER := Lib.hid er
   have HC := Lib.hid C
   have S2 := Lib.hid s2
   clear C hE er s2
   refine HC.out.mono ?_
   rintro e w2 ⟨rfl, hb⟩
   have s3 := S2.out.more hb
   clear HC S2 hb
   have hcA := s3.cells
   have hfA := s3.free
   have hcR := (s3.pick 3).cells
   have hc4 := (s3.pick 4).cells
   have hf4 := (s3.pick 4).free
   have hc3 := (s3.pick 5).cells
   have hf3 := (s3.pick 5).free
   have n1 : ¬ d2 = R := (s3.pick 3).snd.ne
   have n2 : ¬ d2 = d4 := (s3.pick 4).snd.ne
   have n3 : ¬ d2 = d3 := (s3.pick 5).snd.ne
   have n4 : ¬ R = d4 := ((s3.pick 4).pick 4).ne
   have n5 : ¬ R = d3 := ((s3.pick 5).pick 4).ne
   have n6 : ¬ d4 = d3 := ((s3.pick 5).pick 5).ne
   have m1 : ¬ R = d2 := fun e => n1 e.symm
   have m2 : ¬ d4 = d2 := fun e => n2 e.symm
   have m3 : ¬ d3 = d2 := fun e => n3 e.symm
   have m4 : ¬ d4 = R := fun e => n4 e.symm
   have m5 : ¬ d3 = R := fun e => n5 e.symm
   have m6 : ¬ d3 = d4 := fun e => n6 e.symm
   have S3 := Lib.hid s3
   clear s3
   go_wp2
   go_region
   have s4 : St w (((((((((w2.setCell ⟨d2, 0, none⟩ (.int .i64 x1)).setCell ⟨d2, 1, none⟩ (.int .i64 x2)).setCell ⟨d2, 2, none⟩ (.int .i64 x3)).setCell ⟨d2, 3, none⟩ (.int .i64 x4)).setCell ⟨d2, 4, none⟩ (.slice PA ps.length pc)).setCell ⟨d2, 5, none⟩ (.slice TA ts.length tc)).setCell ⟨d3, 0, none⟩ (.string (mkB r))).setCell ⟨d4, 0, none⟩ (.int .i64 0)).drew) [blk d4 #[.int .i64 0] 31, blk d3 #[.string (mkB r)] 9, blk d2 #[.int .i64 x1, .int .i64 x2, .int .i64 x3, .int .i64 x4, .slice PA ps.length pc, .slice TA ts.length tc] 27, rowI (.slice PA ps.length pc) ps, rowT (.slice TA ts.length tc) ts, rdr R r] := (((((((((((S3.out.setb 0 (.int .i64 x1) rfl).setb 1 (.int .i64 x2) rfl).setb 2 (.int .i64 x3) rfl).setb 3 (.int .i64 x4) rfl).setb 4 (.slice PA ps.length pc) rfl).setb 5 (.slice TA ts.length tc) rfl).pick 5).setb 0 (.string (mkB r)) rfl).pick 5).setb 0 (.int .i64 0) rfl)).drew
   clear S3 hcA hfA hcR hc4 hf4 hc3 hf3 n1 n2 n3 n4 n5 n6 m1 m2 m3 m4 m5 m6
   generalize (((((((((w2.setCell ⟨d2, 0, none⟩ (.int .i64 x1)).setCell ⟨d2, 1, none⟩ (.int .i64 x2)).setCell ⟨d2, 2, none⟩ (.int .i64 x3)).setCell ⟨d2, 3, none⟩ (.int .i64 x4)).setCell ⟨d2, 4, none⟩ (.slice PA ps.length pc)).setCell ⟨d2, 5, none⟩ (.slice TA ts.length tc)).setCell ⟨d3, 0, none⟩ (.string (mkB r))).setCell ⟨d4, 0, none⟩ (.int .i64 0)).drew) = W at *
   have hcC := s4.cells
   have hcB := (s4.pick 1).cells
   have hcA := (s4.pick 2).cells
   have hp : DecPost w (⟨x1, x2, x3, x4, ps, ts⟩, r, 0) (.returned (.tuple #[.agg #[.int .i64 x1, .int .i64 x2, .int .i64 x3, .int .i64 x4, .slice PA ps.length pc, .slice TA ts.length tc], .string (mkB r), .int .i64 0])) W := ⟨_, _, rfl, (s4.pick 3).rowKA (flat_int _), (s4.pick 4).rowKA kT_flat, s4.bel⟩
   have HP := Lib.hid hp
   clear hp s4
   go_wp2
   refine leaves_cons (f := 72) (args := #[.pointer (some ⟨d2, 0, none⟩), .pointer (some ⟨d3, 0, none⟩), .pointer (some ⟨d4, 0, none⟩)]) (by simp) (by simp [go_sem]) ?_
   refine (catch_idle _ _ _ _).mono ?_
   rintro e u' w3 ⟨rfl, rfl, ew⟩
   have ew := ew.symm
   subst ew
   simp [Leaves, settle, results, Try.results44, go_sem, hcA, hcB, hcC]
   rw [HER.out]
   exact HP.out
  ·have er : decR l = (zeroS, [], 4) := by
    unfold decR decS
    rw [H1.out]
    simp [okS, hE]
   have hEb : (specE ⟨x1, x2, x3, x4, ps, ts⟩ != 0) = true := bne_iff_ne.mpr hE
   generalize specE ⟨x1, x2, x3, x4, ps, ts⟩ = E at *
   have HER := Lib.hid er
   have HC := Lib.hid C
   have S2 := Lib.hid s2
   clear C hE er s2
   refine HC.out.mono ?_
   rintro e w2 ⟨rfl, hb⟩
   have s3 := S2.out.more hb
   have SP : Hid (St w w2 [blk d2 #[.int .i64 x1, .int .i64 x2, .int .i64 x3, .int .i64 x4, .slice PA ps.length pc, .slice TA ts.length tc] 27, blk d3 #[.string { data := #[] }] 9, blk d4 #[.int .i64 0] 31, rowI (.slice PA ps.length pc) ps, rowT (.slice TA ts.length tc) ts, rdr R r]) := Lib.hid (((s3.pick 4).pick 5).pick 2)
   clear HC S2 hb s3
   go_wp2
   refine leaves_cons (f := 72) (args := #[.pointer (some ⟨d2, 0, none⟩), .pointer (some ⟨d3, 0, none⟩), .pointer (some ⟨d4, 0, none⟩)]) (by simp) (by simp [go_sem]) ?_
   refine (catch_panicking d2 d3 d4 _ _ _ _ _ _ _ _ [] SP.out).mono ?_
   rintro e u' w3 ⟨rfl, rfl, s3⟩
   clear SP
   have hcA := s3.cells
   have hcB := (s3.pick 1).cells
   have hcC := (s3.pick 2).cells
   have hp : DecPost w (zeroS, [], 4) (.returned (.tuple #[.agg ZS, .string (mkB []), .int .i64 4])) w3 := ⟨_, _, rfl, Kd.R_nil _ _ _ _ _, Kd.R_nil _ _ _ _ _, s3.bel⟩
   have HP := Lib.hid hp
   clear hp s3
   simp [Leaves, settle, results, Try.results44, go_sem, hcA, hcB, hcC]
   rw [HER.out]
   exact HP.out
end Go.Proofs.YtkhcdichdnbcmaaR
end
section
namespace Go.Proofs.YtkhcdichdnbcmaaR
open Go.RowKit Go.Proofs.YtkhcdichdnbcmaaRW.PrintWords Go.Proofs.YtkhcdichdnbcmaaR.Sp
set_option linter.unusedSimpArgs false
set_option linter.unusedVariables false
section
variable {α β : Type} {d : Kd α} {f : β → α} {w : World}
theorem C_iso {A : Option Addr} {n : Nat} {xs : List β} : (Kd.iso d f).C w A n xs ↔ d.C w A n (xs.map f) := by
 unfold Kd.C ReadsRow
 rw [List.length_map]
 constructor
 ·rintro ⟨h1, h2, h3⟩
  refine ⟨h1, h2, fun hn => ?_⟩
  obtain ⟨ad, e, hc⟩ := h3 hn
  refine ⟨ad, e, fun j p hp => ?_⟩
  rw [List.getElem?_map, Option.map_eq_some_iff] at hp
  obtain ⟨q, hq, rfl⟩ := hp
  exact hc j q hq
 ·rintro ⟨h1, h2, h3⟩
  refine ⟨h1, h2, fun hn => ?_⟩
  obtain ⟨ad, e, hc⟩ := h3 hn
  exact ⟨ad, e, fun j p hp => hc j (f p) (by rw [List.getElem?_map, hp]; rfl)⟩
theorem R_iso {e base : Nat} {ok : Nat → Prop} {v : Value} {xs : List β} : (Kd.iso d f).R e w base ok v xs ↔ d.R e w base ok v (xs.map f) := by
 unfold Kd.R OwnRow Reps
 rw [List.length_map]
 constructor
 ·rintro ⟨h0, inner, ho, hl, hr⟩
  refine ⟨h0, inner, ho, hl, fun j p hp => ?_⟩
  rw [List.getElem?_map, Option.map_eq_some_iff] at hp
  obtain ⟨q, hq, rfl⟩ := hp
  exact hr j q hq
 ·rintro ⟨h0, inner, ho, hl, hr⟩
  exact ⟨h0, inner, ho, hl, fun j p hp => hr j (f p) (by rw [List.getElem?_map, hp]; rfl)⟩
end
end Go.Proofs.YtkhcdichdnbcmaaR
end
section
namespace Go.Proofs.YtkhcdichdnbcmaaR.Sp
open Go.Proofs.YtkhcdichdnbcmaaR.Pk
set_option linter.unusedVariables false
set_option linter.unusedSimpArgs false
structure CM where
 kind : Int
 epoch : Int
 spec : SP
 id : Int
deriving DecidableEq
abbrev zSP : SP := ⟨0, 0, 0, 0, [], []⟩
def zCM : CM := ⟨0, 0, zSP, 0⟩
def shapeC (c : CM) : Prop := c.kind = 1 ∧ c.id = 0 ∨ (c.kind = 2 ∨ c.kind = 3) ∧ c.spec = zSP
instance (c : CM) : Decidable (shapeC c) := by unfold shapeC; infer_instance
end Go.Proofs.YtkhcdichdnbcmaaR.Sp
end
section
namespace Go.Proofs.YtkhcdichdnbcmaaR.Sp
open Go.Proofs.YtkhcdichdnbcmaaR.Pk
set_option linter.unusedVariables false
set_option linter.unusedSimpArgs false
structure RE where
 kind : Int
 epoch : Int
 spec : SP
 id : Int
 task : Int
 tick : Int
 wait : Int
 pid : Int
 nonce : Int
 code : Int
deriving DecidableEq
def zRE : RE := ⟨0, 0, zSP, 0, 0, 0, 0, 0, 0, 0⟩
def usesB (k : Int) : List Bool :=
 if k = 1 then [true, false, false, false, false, false, false] else
 if k = 2 then [true, true, false, true, true, false, false] else
 if k = 3 then [true, true, false, false, false, false, false] else
 if k = 4 then [false, true, true, true, false, false, false] else
 if k = 5 then [false, true, true, false, false, true, true] else
 if k = 6 then [false, true, true, false, false, false, false] else
 if k = 7 then [false, true, true, false, false, false, false] else
 if k = 8 then [false, true, true, true, false, false, false] else
 if k = 9 then [false, false, false, true, false, false, false] else [false, false, false, false, false, false, false]
def mostsR : List Int := [1099511627776, 2147483648, 3, 1099511627776, 1099511627776, 1099511627776, 1099511627776]
def valsR (r : RE) : List Int := [r.epoch, r.id, r.task, r.tick, r.wait, r.pid, r.nonce]
def fldK (k : Int) : List (Bool × Int) := (usesB k).zip mostsR
def badA : List (Bool × Int) → List Int → Bool
 | (u, m) :: t, v :: vs => (!u && decide (v ≠ 0)) || badA t vs
 | _, _ => false
def badB : List (Bool × Int) → List Int → Bool
 | (u, m) :: t, v :: vs => (u && (decide (v < 0) || decide (m < v))) || badB t vs
 | _, _ => false
def shapeR (r : RE) : Bool := decide (1 ≤ r.kind ∧ r.kind ≤ 9) && (decide (r.kind = 8) || decide (r.code = 0)) && (decide (r.kind = 1) || decide (r.spec = zSP))
def recE (r : RE) : Int := if shapeR r = false then 2 else if badA (fldK r.kind) (valsR r) = true then 2 else if badB (fldK r.kind) (valsR r) = true then 3 else if r.kind = 1 then specE r.spec else 0
def encF : List (Bool × Int) → List Int → List UInt8
 | (u, m) :: t, v :: vs => (if u = true then encN v else []) ++ encF t vs
 | _, _ => []
def encI (i : Int) : List UInt8 := varL (zig i)
def tailRW (k : Int) (x : SP × Int) : List UInt8 := if k = 1 then encS x.1 else if k = 8 then encI x.2 else []
def encRe (r : RE) : List UInt8 := (encN r.kind ++ encF (fldK r.kind) (valsR r)) ++ tailRW r.kind (r.spec, r.code)
def fP : List (Bool × Int) → List UInt8 → Option (List Int × List UInt8)
 | [], l => some ([], l)
 | (u, m) :: t, l => if u = true then (numL m l).bind fun x => (fP t x.2).map fun y => (x.1 :: y.1, y.2) else (fP t l).map fun y => (0 :: y.1, y.2)
def gF : List (Bool × Int) → List Int → Prop
 | (u, m) :: t, v :: vs => (if u = true then 0 ≤ v ∧ v ≤ m else v = 0) ∧ gF t vs
 | [], [] => True
 | _, _ => False
theorem fP_codec (s : List (Bool × Int)) (hs : ∀ x ∈ s, x.2 < 18446744073709551616) : Codec (fP s) (gF s) (encF s) := by
 induction s with
 | nil =>
  intro l a r
  simp only [fP, Option.some.injEq, Prod.mk.injEq]
  constructor
  ·rintro ⟨rfl, rfl⟩
   exact ⟨trivial, rfl⟩
  ·rintro ⟨hg, he⟩
   cases a with
   | nil => exact ⟨rfl, by simpa [encF] using he.symm⟩
   | cons a b => exact absurd hg (by simp [gF])
 | cons x t ih =>
  obtain ⟨u, m⟩ := x
  have ih := ih (fun x hx => hs x (List.mem_cons_of_mem _ hx))
  have hm : m < 18446744073709551616 := hs (u, m) (List.mem_cons_self ..)
  intro l a r
  cases u with
  | true =>
   simp only [fP, if_true, Option.bind_eq_some_iff, Option.map_eq_some_iff, Prod.mk.injEq]
   constructor
   ·rintro ⟨⟨n, l'⟩, h1, ⟨⟨ns, l''⟩, h2, rfl, rfl⟩⟩
    obtain ⟨h3, h4⟩ := (num_codec hm _ _ _).1 h1
    obtain ⟨h5, h6⟩ := (ih _ _ _).1 h2
    refine ⟨⟨by simpa using h3, h5⟩, ?_⟩
    simp only [encF, if_true, List.append_assoc]
    rw [h6]
    exact h4
   ·rintro ⟨hg, he⟩
    cases a with
    | nil => exact absurd hg (by simp [gF])
    | cons v vs =>
     obtain ⟨h1, h2⟩ := hg
     simp only [if_true] at h1
     simp only [encF, if_true, List.append_assoc] at he
     exact ⟨(v, encF t vs ++ r), (num_codec hm _ _ _).2 ⟨h1, he⟩, (vs, r), (ih _ _ _).2 ⟨h2, rfl⟩, rfl, rfl⟩
  | false =>
   simp only [fP, Bool.false_eq_true, if_false, Option.map_eq_some_iff, Prod.mk.injEq]
   constructor
   ·rintro ⟨⟨ns, l''⟩, h2, rfl, rfl⟩
    obtain ⟨h5, h6⟩ := (ih _ _ _).1 h2
    refine ⟨⟨by simp, h5⟩, ?_⟩
    simpa only [encF, Bool.false_eq_true, if_false, List.nil_append] using h6
   ·rintro ⟨hg, he⟩
    cases a with
    | nil => exact absurd hg (by simp [gF])
    | cons v vs =>
     obtain ⟨h1, h2⟩ := hg
     simp only [Bool.false_eq_true, if_false] at h1
     subst h1
     simp only [encF, Bool.false_eq_true, if_false, List.nil_append] at he
     exact ⟨(vs, r), (ih _ _ _).2 ⟨h2, he⟩, rfl, rfl⟩
def unintL (l : List UInt8) : Option (Int × List UInt8) := (unvarL l).map fun x => (unzig x.1, x.2)
theorem int_codec : Codec unintL (fun i => -9223372036854775808 ≤ i ∧ i ≤ 9223372036854775807) encI := by
 intro l i r
 simp only [unintL, Option.map_eq_some_iff, Prod.mk.injEq, encI]
 constructor
 ·rintro ⟨⟨n, r'⟩, h1, rfl, rfl⟩
  obtain ⟨h2, h3⟩ := var_unvar h1
  exact ⟨unzig_bd h3, by rw [zig_unzig]; exact h2⟩
 ·rintro ⟨⟨h1, h2⟩, h3⟩
  exact ⟨(zig i, r), by rw [← h3, unvar_var (zig_lt h1 h2)], unzig_zig i, rfl⟩
def tailRP (k : Int) (l : List UInt8) : Option ((SP × Int) × List UInt8) := if k = 1 then (decS l).map fun x => ((x.1, 0), x.2) else if k = 8 then (unintL l).map fun x => ((zSP, x.1), x.2) else some ((zSP, 0), l)
def tailRG (k : Int) (x : SP × Int) : Prop := if k = 1 then okS x.1 = true ∧ x.2 = 0 else if k = 8 then x.1 = zSP ∧ -9223372036854775808 ≤ x.2 ∧ x.2 ≤ 9223372036854775807 else x.1 = zSP ∧ x.2 = 0
theorem tailR_codec (k : Int) : Codec (tailRP k) (tailRG k) (tailRW k) := by
 intro l ⟨s, i⟩ r
 unfold tailRP tailRG tailRW
 by_cases hk : k = 1
 ·simp only [if_pos hk, Option.map_eq_some_iff, Prod.mk.injEq]
  constructor
  ·rintro ⟨⟨a, r'⟩, h1, ⟨rfl, rfl⟩, rfl⟩
   obtain ⟨h2, h3⟩ := (decS_codec _ _ _).1 h1
   exact ⟨⟨h2, rfl⟩, h3⟩
  ·rintro ⟨⟨h1, rfl⟩, h2⟩
   exact ⟨(s, r), (decS_codec _ _ _).2 ⟨h1, h2⟩, ⟨rfl, rfl⟩, rfl⟩
 ·by_cases hk8 : k = 8
  ·simp only [if_neg hk, if_pos hk8, Option.map_eq_some_iff, Prod.mk.injEq]
   constructor
   ·rintro ⟨⟨a, r'⟩, h1, ⟨rfl, rfl⟩, rfl⟩
    obtain ⟨h2, h3⟩ := (int_codec _ _ _).1 h1
    exact ⟨⟨rfl, h2⟩, h3⟩
   ·rintro ⟨⟨rfl, h1⟩, h2⟩
    exact ⟨(i, r), (int_codec _ _ _).2 ⟨h1, h2⟩, ⟨rfl, rfl⟩, rfl⟩
  ·simp only [if_neg hk, if_neg hk8, Option.some.injEq, Prod.mk.injEq, List.nil_append]
   constructor
   ·rintro ⟨⟨rfl, rfl⟩, rfl⟩
    exact ⟨⟨rfl, rfl⟩, rfl⟩
   ·rintro ⟨⟨rfl, rfl⟩, rfl⟩
    exact ⟨⟨rfl, rfl⟩, rfl⟩
def headRP : List UInt8 → Option ((Int × List Int) × List UInt8) := seqP (numL 9) fun k => fP (fldK k)
def wholeRP : List UInt8 → Option (((Int × List Int) × (SP × Int)) × List UInt8) := seqP headRP fun x => tailRP x.1
def toRE (x : (Int × List Int) × (SP × Int)) : RE := ⟨x.1.1, x.1.2.getD 0 0, x.2.1, x.1.2.getD 1 0, x.1.2.getD 2 0, x.1.2.getD 3 0, x.1.2.getD 4 0, x.1.2.getD 5 0, x.1.2.getD 6 0, x.2.2⟩
def ofRE (r : RE) : (Int × List Int) × (SP × Int) := ((r.kind, valsR r), (r.spec, r.code))
def rdRe (l : List UInt8) : Option (RE × List UInt8) := (wholeRP l).map fun x => (toRE x.1, x.2)
def okRe (r : RE) : Bool := decide (recE r = 0)
def decRe (l : List UInt8) : Option (RE × List UInt8) := (rdRe l).bind fun x => if okRe x.1 = true then some x else none
def gRe (r : RE) : Prop := ((0 ≤ r.kind ∧ r.kind ≤ 9) ∧ gF (fldK r.kind) (valsR r)) ∧ tailRG r.kind (r.spec, r.code)
theorem usesB_len (k : Int) : (usesB k).length = 7 := by
 unfold usesB
 (repeat' split) <;> rfl
theorem fldK_len (k : Int) : (fldK k).length = 7 := by
 unfold fldK
 rw [List.length_zip, usesB_len]
 rfl
theorem fldK_most (k : Int) : ∀ x ∈ fldK k, x.2 < 18446744073709551616 := by
 intro x hx
 have : x.2 ∈ mostsR := (List.of_mem_zip (a := x.1) (b := x.2) hx).2
 simp only [mostsR, List.mem_cons, List.not_mem_nil, or_false] at this
 omega
theorem gF_len : ∀ {s : List (Bool × Int)} {l : List Int}, gF s l → l.length = s.length
 | [], [], _ => rfl
 | (u, m) :: t, v :: vs, h => by simp only [List.length_cons]; rw [gF_len h.2]
 | [], _ :: _, h => absurd h (by simp [gF])
 | _ :: _, [], h => absurd h (by simp [gF])
theorem vals7 {l : List Int} (h : l.length = 7) : [l.getD 0 0, l.getD 1 0, l.getD 2 0, l.getD 3 0, l.getD 4 0, l.getD 5 0, l.getD 6 0] = l := by
 match l, h with
 | [a, b, c, d, e, f, g], _ => rfl
theorem rdRe_codec : Codec rdRe gRe encRe := by
 have h1 : Codec headRP (fun x => (0 ≤ x.1 ∧ x.1 ≤ 9) ∧ gF (fldK x.1) x.2) (fun x => encN x.1 ++ encF (fldK x.1) x.2) :=
  Codec.seq (num_codec (by omega)) (fun a _ => fP_codec _ (fldK_most a))
 have h2 := Codec.seq h1 (q := fun x => tailRP x.1) (fun a _ => tailR_codec a.1)
 intro l x r
 simp only [rdRe, Option.map_eq_some_iff, Prod.mk.injEq]
 constructor
 ·rintro ⟨⟨⟨⟨k, vs⟩, t⟩, r'⟩, h3, rfl, rfl⟩
  obtain ⟨h4, h5⟩ := (h2 _ _ _).1 h3
  have hv : valsR (toRE ((k, vs), t)) = vs := vals7 (by rw [gF_len h4.1.2, fldK_len])
  refine ⟨⟨⟨h4.1.1, ?_⟩, h4.2⟩, ?_⟩
  ·rw [hv]; exact h4.1.2
  ·unfold encRe
   rw [hv]
   exact h5
 ·rintro ⟨hg, he⟩
  exact ⟨(ofRE x, r), (h2 _ _ _).2 ⟨hg, he⟩, rfl, rfl⟩
theorem gF_of : ∀ {s : List (Bool × Int)} {l : List Int}, l.length = s.length → badA s l = false → badB s l = false → gF s l
 | [], [], _, _, _ => trivial
 | (u, m) :: t, v :: vs, hl, ha, hb => by
  simp only [badA, badB, Bool.or_eq_false_iff] at ha hb
  refine ⟨?_, gF_of (by simpa using hl) ha.2 hb.2⟩
  cases u with
  | true => rw [if_pos rfl]; have := hb.1; simp at this; omega
  | false => rw [if_neg (by simp)]; have := ha.1; simpa using this
 | [], _ :: _, h, _, _ => absurd h (by simp)
 | _ :: _, [], h, _, _ => absurd h (by simp)
theorem okRe_gRe {r : RE} (hc : -9223372036854775808 ≤ r.code ∧ r.code ≤ 9223372036854775807) (h : okRe r = true) : gRe r := by
 unfold okRe at h
 have h := of_decide_eq_true h
 unfold recE at h
 split at h
 ·cases h
 rename_i hs
 split at h
 ·cases h
 rename_i ha
 split at h
 ·cases h
 rename_i hb
 have hs : shapeR r = true := by simpa using hs
 unfold shapeR at hs
 simp only [Bool.and_eq_true, Bool.or_eq_true, decide_eq_true_eq] at hs
 obtain ⟨⟨h1, h2⟩, h3⟩ := hs
 refine ⟨⟨⟨by omega, h1.2⟩, gF_of (by rw [fldK_len]; rfl) (by simpa using ha) (by simpa using hb)⟩, ?_⟩
 unfold tailRG
 by_cases hk : r.kind = 1
 ·rw [if_pos hk] at h ⊢
  exact ⟨by unfold okS; exact decide_eq_true h, h2.resolve_left (by omega)⟩
 ·rw [if_neg hk]
  have h3 := h3.resolve_left hk
  by_cases hk8 : r.kind = 8
  ·rw [if_pos hk8]; exact ⟨h3, hc⟩
  ·rw [if_neg hk8]; exact ⟨h3, h2.resolve_left hk8⟩
def goodRe (r : RE) : Prop := okRe r = true ∧ (-9223372036854775808 ≤ r.code ∧ r.code ≤ 9223372036854775807)
theorem decRe_codec : Codec decRe goodRe encRe := by
 intro l c r
 rw [show decRe l = (rdRe l).bind fun x => if okRe x.1 = true then some x else none from rfl, (Codec.guard rdRe_codec okRe) l c r]
 refine ⟨fun h => ⟨⟨h.1.2, ?_⟩, h.2⟩, fun h => ⟨⟨okRe_gRe h.1.2 h.1.1, h.1.1⟩, h.2⟩⟩
 have ht := h.1.1.2
 unfold tailRG at ht
 split at ht
 ·have : c.code = 0 := ht.2
  omega
 ·split at ht
  ·exact ht.2
  ·have : c.code = 0 := ht.2
   omega
def encRR (r : RE) : List UInt8 := if recE r = 0 then encRe r else []
def decRR (l : List UInt8) : RE × Int := match decRe l with | some (r, []) => (r, 0) | _ => (zRE, 4)
theorem decRR_codec (l : List UInt8) (r : RE) : decRR l = (r, 0) ↔ (goodRe r ∧ encRe r = l) := by
 unfold decRR
 split
 ·rename_i c' hd
  obtain ⟨h1, h2⟩ := (decRe_codec _ _ _).1 hd
  rw [List.append_nil] at h2
  simp only [Prod.mk.injEq]
  constructor
  ·rintro ⟨rfl, -⟩
   exact ⟨h1, h2⟩
  ·rintro ⟨h3, h4⟩
   have := (decRe_codec.apart h1 h3 (r := []) (s := []) (by rw [h2, h4])).1
   exact ⟨this, trivial⟩
 ·rename_i hd
  simp only [Prod.mk.injEq]
  constructor
  ·rintro ⟨-, h⟩
   cases h
  ·rintro ⟨h3, h4⟩
   exact absurd ((decRe_codec _ _ _).2 ⟨h3, by rw [List.append_nil]; exact h4⟩) (hd r)
theorem decRR_err (l : List UInt8) : (decRR l).2 ≠ 0 → decRR l = (zRE, 4) := by
 unfold decRR
 split
 ·exact fun h => absurd rfl h
 ·exact fun _ => rfl
end Go.Proofs.YtkhcdichdnbcmaaR.Sp
end
section
namespace Go.Proofs.YtkhcdichdnbcmaaR
end Go.Proofs.YtkhcdichdnbcmaaR
end
section
namespace Go.Proofs.YtkhcdichdnbcmaaR.Sp
open Go.Proofs.YtkhcdichdnbcmaaR.Pk
set_option linter.unusedVariables false
set_option linter.unusedSimpArgs false
def rdT2 (l : List UInt8) : Option (TS × List UInt8) :=
 (numL 1 l).bind fun a => (numL 4611686018427387904 a.2).bind fun b => (numL 4611686018427387904 b.2).bind fun c => (numL 4611686018427387904 c.2).bind fun d => (numL 4611686018427387904 d.2).bind fun e => (numL 4611686018427387904 e.2).bind fun f =>
  some (⟨decide (a.1 = 1), b.1, c.1, d.1, e.1, f.1⟩, f.2)
def rdS2 (l : List UInt8) : Option (SP × List UInt8) :=
 (numL 4611686018427387904 l).bind fun a => (numL 4611686018427387904 a.2).bind fun b => (numL 4611686018427387904 b.2).bind fun c => (numL 4611686018427387904 c.2).bind fun d => (listP 8 (numL 4611686018427387904) d.2).bind fun e => (listP 4 rdT2 e.2).bind fun f =>
  some (⟨a.1, b.1, c.1, d.1, e.1, f.1⟩, f.2)
def gT2 (t : TS) : Prop := (0 ≤ t.limit ∧ t.limit ≤ 4611686018427387904) ∧ (0 ≤ t.window ∧ t.window ≤ 4611686018427387904) ∧ (0 ≤ t.base ∧ t.base ≤ 4611686018427387904) ∧ (0 ≤ t.most ∧ t.most ≤ 4611686018427387904) ∧ (0 ≤ t.probes ∧ t.probes ≤ 4611686018427387904)
def gS2 (s : SP) : Prop := (0 ≤ s.id ∧ s.id ≤ 4611686018427387904) ∧ (0 ≤ s.cpu ∧ s.cpu ≤ 4611686018427387904) ∧ (0 ≤ s.mem ∧ s.mem ≤ 4611686018427387904) ∧ (0 ≤ s.disk ∧ s.disk ≤ 4611686018427387904) ∧ ((s.ports.length : Int) ≤ 8 ∧ ∀ p ∈ s.ports, 0 ≤ p ∧ p ≤ 4611686018427387904) ∧ ((s.tasks.length : Int) ≤ 4 ∧ ∀ t ∈ s.tasks, gT2 t)
theorem rdT2_codec : Codec rdT2 gT2 (fun t => encNs (numsT t)) := by
 have h1 := num_codec (most := 1) (by decide)
 have h8 := num_codec (most := 4611686018427387904) (by decide)
 have h40 := num_codec (most := 4611686018427387904) (by decide)
 have hp := num_codec (most := 4611686018427387904) (by decide)
 intro l t r
 simp only [rdT2, Option.bind_eq_some_iff]
 constructor
 ·rintro ⟨⟨a, l1⟩, k1, ⟨b, l2⟩, k2, ⟨c, l3⟩, k3, ⟨d, l4⟩, k4, ⟨e, l5⟩, k5, ⟨f, l6⟩, k6, k7⟩
  dsimp only at k1 k2 k3 k4 k5 k6
  obtain ⟨a1, a2⟩ := (h1 _ _ _).1 k1
  obtain ⟨b1, b2⟩ := (h8 _ _ _).1 k2
  obtain ⟨c1, c2⟩ := (h40 _ _ _).1 k3
  obtain ⟨d1, d2⟩ := (h40 _ _ _).1 k4
  obtain ⟨e1, e2⟩ := (h40 _ _ _).1 k5
  obtain ⟨f1, f2⟩ := (hp _ _ _).1 k6
  simp only [Option.some.injEq, Prod.mk.injEq] at k7
  obtain ⟨rfl, rfl⟩ := k7
  refine ⟨⟨b1, c1, d1, e1, f1⟩, ?_⟩
  have ha : b2i (decide (a = 1)) = a := by unfold b2i; split <;> rename_i hq <;> simp at hq <;> omega
  simp only [numsT, encNs_cons, encNs_nil, ha, List.append_assoc, List.nil_append]
  rw [← a2, ← b2, ← c2, ← d2, ← e2, ← f2]
 ·rintro ⟨⟨b1, c1, d1, e1, f1⟩, he⟩
  simp only [numsT, encNs_cons, encNs_nil, List.append_assoc, List.nil_append] at he
  have ha : 0 ≤ b2i t.always ∧ b2i t.always ≤ 1 := by unfold b2i; split <;> omega
  refine ⟨_, (h1 _ _ _).2 ⟨ha, he⟩, _, (h8 _ _ _).2 ⟨b1, rfl⟩, _, (h40 _ _ _).2 ⟨c1, rfl⟩, _, (h40 _ _ _).2 ⟨d1, rfl⟩, _, (h40 _ _ _).2 ⟨e1, rfl⟩, _, (hp _ _ _).2 ⟨f1, rfl⟩, ?_⟩
  have hb : decide (b2i t.always = 1) = t.always := by cases t.always <;> rfl
  simp [hb]
theorem rdS2_codec : Codec rdS2 gS2 encS := by
 have h31 := num_codec (most := 4611686018427387904) (by decide)
 have h40 := num_codec (most := 4611686018427387904) (by decide)
 have hp := (num_codec (most := 4611686018427387904) (by decide)).list (most := 8) (by decide)
 have ht := rdT2_codec.list (most := 4) (by decide)
 intro l s r
 simp only [rdS2, Option.bind_eq_some_iff]
 constructor
 ·rintro ⟨⟨a, l1⟩, k1, ⟨b, l2⟩, k2, ⟨c, l3⟩, k3, ⟨d, l4⟩, k4, ⟨e, l5⟩, k5, ⟨f, l6⟩, k6, k7⟩
  dsimp only at k1 k2 k3 k4 k5 k6
  obtain ⟨a1, a2⟩ := (h31 _ _ _).1 k1
  obtain ⟨b1, b2⟩ := (h40 _ _ _).1 k2
  obtain ⟨c1, c2⟩ := (h40 _ _ _).1 k3
  obtain ⟨d1, d2⟩ := (h40 _ _ _).1 k4
  obtain ⟨e1, e2⟩ := (hp _ _ _).1 k5
  obtain ⟨f1, f2⟩ := (ht _ _ _).1 k6
  simp only [Option.some.injEq, Prod.mk.injEq] at k7
  obtain ⟨rfl, rfl⟩ := k7
  refine ⟨⟨a1, b1, c1, d1, e1, f1⟩, ?_⟩
  simp only [encS, numsS, encNs_append, encNs_cons, encNs_nil, encNs_flat, List.append_assoc, List.nil_append]
  simp only [List.append_assoc] at e2 f2
  rw [← a2, ← b2, ← c2, ← d2, ← e2, ← f2]
  rfl
 ·rintro ⟨⟨a1, b1, c1, d1, e1, f1⟩, he⟩
  simp only [encS, numsS, encNs_append, encNs_cons, encNs_nil, encNs_flat, List.append_assoc, List.nil_append] at he
  refine ⟨_, (h31 _ _ _).2 ⟨a1, he⟩, _, (h40 _ _ _).2 ⟨b1, rfl⟩, _, (h40 _ _ _).2 ⟨c1, rfl⟩, _, (h40 _ _ _).2 ⟨d1, rfl⟩, _, (hp _ _ _).2 ⟨e1, by simp only [List.append_assoc]; rfl⟩, _, (ht _ _ _).2 ⟨f1, by simp only [List.append_assoc]⟩, rfl⟩
theorem gT_gT2 {t : TS} (h : gT t) : gT2 t := by
 obtain ⟨h1, h2, h3, h4, h5⟩ := h
 exact ⟨⟨h1.1, by omega⟩, ⟨h2.1, by omega⟩, ⟨h3.1, by omega⟩, ⟨h4.1, by omega⟩, ⟨h5.1, by omega⟩⟩
theorem gS_gS2 {s : SP} (h : gS s) : gS2 s := by
 obtain ⟨h1, h2, h3, h4, ⟨h5, h6⟩, h7, h8⟩ := h
 exact ⟨⟨h1.1, by omega⟩, ⟨h2.1, by omega⟩, ⟨h3.1, by omega⟩, ⟨h4.1, by omega⟩, ⟨h5, fun p hp => ⟨(h6 p hp).1, by have := (h6 p hp).2; omega⟩⟩, h7, fun t ht => gT_gT2 (h8 t ht)⟩
def decS2 (l : List UInt8) : Option (SP × List UInt8) := (rdS2 l).bind fun x => if okS x.1 = true then some x else none
theorem decS2_codec : Codec decS2 (fun s => okS s = true) encS := by
 have h := rdS2_codec.guard okS
 intro l s r
 constructor
 ·intro k
  have := (h l s r).1 k
  exact ⟨this.1.2, this.2⟩
 ·rintro ⟨k1, k2⟩
  exact (h l s r).2 ⟨⟨gS_gS2 (okS_gS k1), k1⟩, k2⟩
theorem decS2_eq (l : List UInt8) : decS2 l = decS l := by
 apply Option.ext
 rintro ⟨s, r⟩
 rw [decS2_codec l s r, decS_codec l s r]
end Go.Proofs.YtkhcdichdnbcmaaR.Sp
end
