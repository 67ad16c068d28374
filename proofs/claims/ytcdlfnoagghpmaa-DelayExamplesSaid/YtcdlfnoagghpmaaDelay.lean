/- The contracts of delay.Check and delay.After. -/
import Derived.Test.YtcdlfnoagghpmaaBase
import Derived.Test.YtcdlfnoagghpmaaProg
import Derived.Lib.Hide
import Derived.ScopeJumps
import Derived.WalkMore
import Derived.RangeFuncNested
import Derived.RangeFuncBound
import Derived.RangeFuncCalls
import Derived.RangeFuncLeaves
import Derived.Shelf.Abstract
import Derived.Shelf.RegionOpen
import Derived.WalkKit
import Derived.OwnWalkIn
import Derived.TacticsInMore
import Derived.LoopNIn
import Derived.LoopIn
namespace Go.Proofs.Ytcdlfnoagghpmaa
open Go.RowKit Go.Shelf
attribute [local go_sem] Oper.semAt_some
set_option linter.unusedSimpArgs false
set_option linter.unusedVariables false

/-- A scope that is left forwards, to one label alone. -/
theorem wp_scope_fwd {P : Program} {a : Act} {w : World} {Q : Exit → Act → World → Prop} {c rest : Code} (l : Nat) (hf : findLabel c l = some rest)
    (first : c.wp P (Exit.jump l (fun a w => rest.wp P (Exit.jump l (fun _ _ => False) Q) a w) Q) a w) : (Code.scope c).wp P Q a w := by
  refine wp_scope_jumps l (fun a w => rest.wp P (Exit.jump l (fun _ _ => False) Q) a w) (fun _ _ => 0) hf first (fun a w h => wp_mono h ?_)
  intro e a' w' hq
  cases e <;> first | exact hq | exact hq.2.elim

def okP (l wd b m : Int) : Bool := (decide (1 ≤ l) && decide (l ≤ 8)) && (decide (1 ≤ wd) && decide (wd ≤ 1099511627776)) && (decide (1 ≤ m) && decide (m ≤ 1099511627776) && decide (1 ≤ b) && decide (b ≤ m))
def errP (b : Bool) : Int := if b then 0 else 3
theorem okP_iff (l wd b m : Int) : okP l wd b m = true ↔ (1 ≤ l ∧ l ≤ 8) ∧ (1 ≤ wd ∧ wd ≤ 1099511627776) ∧ (1 ≤ m ∧ m ≤ 1099511627776 ∧ 1 ≤ b ∧ b ≤ m) := by
  simp [okP, and_assoc]
theorem errP_ok {l wd b m : Int} (h : (1 ≤ l ∧ l ≤ 8) ∧ (1 ≤ wd ∧ wd ≤ 1099511627776) ∧ (1 ≤ m ∧ m ≤ 1099511627776 ∧ 1 ≤ b ∧ b ≤ m)) : errP (okP l wd b m) = 0 := by
  rw [(okP_iff l wd b m).2 h]; rfl
theorem errP_no {l wd b m : Int} (h : ¬ ((1 ≤ l ∧ l ≤ 8) ∧ (1 ≤ wd ∧ wd ≤ 1099511627776) ∧ (1 ≤ m ∧ m ≤ 1099511627776 ∧ 1 ≤ b ∧ b ≤ m))) : errP (okP l wd b m) = 3 := by
  have : okP l wd b m = false := by rw [← Bool.not_eq_true, okP_iff]; exact h
  rw [this]; rfl

set_option maxHeartbeats 1000000 in
theorem dcheck_c (al : Bool) (l wd b m : Int) (w : World) : Calls Try.prog 16 #[.agg #[.bool al, .int .i64 l, .int .i64 wd, .int .i64 b, .int .i64 m]] w fun e w' =>
    e = .returned (.int .i64 (errP (okP l wd b m))) ∧ Below w.heap.size w w' := by
  go_enter Try.func16, Try.ntmps16
  go_wp2
  refine wp_scope_fwd 0 rfl ?_
  go_wp2
  all_goals (try (go_step3; refine ⟨rfl, ?_⟩; go_wp2; try go_step3; go_wp2))
  all_goals simp only [Exit.jump]
  all_goals go_returns
  all_goals refine ⟨ret_int ?_, by go_grown⟩
  all_goals first | (rw [errP_ok (by omega)]; done) | (rw [errP_no (by omega)]; done)

/-! ### The delays -/
/-- The delay number k, from 0 on. -/
def dly (b m : Int) : Nat → Int
  | 0 => b
  | k + 1 => min (2 * dly b m k) m
def upto (b m : Int) (k : Nat) : List (Int × Int) := (List.range k).map fun i : Nat => ((i : Int) + 1, dly b m i)
theorem upto_succ (b m : Int) (k : Nat) : upto b m (k + 1) = upto b m k ++ [((k : Int) + 1, dly b m k)] := by simp [upto, List.range_succ]
theorem upto_length (b m : Int) (k : Nat) : (upto b m k).length = k := by simp [upto]
theorem dly_bd {b m : Int} (hb : 1 ≤ b) (hm : b ≤ m) (k : Nat) : 1 ≤ dly b m k ∧ dly b m k ≤ m := by
  induction k with
  | zero => exact ⟨hb, hm⟩
  | succ k ih => simp only [dly]; omega
theorem dly_pow {b m : Int} (hb : 1 ≤ b) (hm : b ≤ m) (k : Nat) (h : ∀ i, i < k → dly b m i ≠ m) : k ≠ 0 → dly b m (k - 1) < m ∧ (2 : Int) ^ (k - 1) ≤ dly b m (k - 1) := by
  induction k with
  | zero => intro h; exact (h rfl).elim
  | succ k ih =>
    intro _
    have hk := dly_bd hb hm k
    have hn := h k (by omega)
    refine ⟨by simp; omega, ?_⟩
    simp only [Nat.add_sub_cancel]
    by_cases h0 : k = 0
    · subst h0; simp [dly]; omega
    · obtain ⟨h1, h2⟩ := ih (fun i hi => h i (by omega)) h0
      obtain ⟨j, rfl⟩ : ∃ j, k = j + 1 := ⟨k - 1, by omega⟩
      simp only [Nat.add_sub_cancel] at h1 h2
      have : dly b m (j + 1) = min (2 * dly b m j) m := rfl
      rw [Int.pow_succ]
      omega
theorem dly_few {b m : Int} (hb : 1 ≤ b) (hm : b ≤ m) (hm2 : m ≤ 1099511627776) (k : Nat) (h : ∀ i, i < k → dly b m i ≠ m) : k ≤ 41 := by
  by_cases h0 : k ≤ 41
  · exact h0
  · have := dly_pow hb hm 42 (fun i hi => h i (by omega)) (by omega)
    simp at this
    omega
theorem dly_stays {b m : Int} (hb : 1 ≤ b) (hm : b ≤ m) {K : Nat} (hK : dly b m K = m) (j : Nat) : dly b m (K + j) = m := by
  induction j with
  | zero => exact hK
  | succ j ih =>
    show min (2 * dly b m (K + j)) m = m
    rw [ih]; omega

abbrev encD (p : Int × Int) : Array Value := #[.int .i64 p.1, .int .i64 p.2]
/-- All delays have come: the last one is the greatest. -/
def AllD (b m : Int) (xs : List (Int × Int)) : Prop := ∃ k, xs = upto b m (k + 1) ∧ dly b m k = m
def SomeD (b m : Int) (xs : List (Int × Int)) : Prop := ∃ k, xs = upto b m (k + 1)

/-- Block B lies as it lay, if it is one of cells. -/
def KeepsB (B : Nat) (W W' : World) : Prop := ∀ C t m, W.heap[B]? = some (.cells C t m) → W'.heap[B]? = some (.cells C t m)
theorem KeepsB.t {B : Nat} {A C D : World} (h : KeepsB B A C) (k : KeepsB B C D) : KeepsB B A D := fun _ _ _ e => k _ _ _ (h _ _ _ e)
theorem keepsB_b {B : Nat} (W : World) (l : Nat) (o o' : Obj) (h : W.heap[l]? = some o) (hc : o.isCells = false) : KeepsB B W (W.putObj l o') := fun C t m e => by
  have hne : l ≠ B := by rintro rfl; rw [h] at e; cases e; simp [Obj.isCells] at hc
  rw [World.putObj_heap_other (Ne.symm hne)]; exact e

set_option maxRecDepth 100000 in
set_option maxHeartbeats 2000000 in
theorem delays_in (F : Fence) (n : Nat) (hF : F.fn 35) (hro : F.round = none) (hn : 1 ≤ n) (B : Nat) (al : Bool) (l wd b m : Int) (w : World)
    (hb1 : 1 ≤ b) (hbm : b ≤ m) (hm : m ≤ 1099511627776)
    (hc : w.heap[B]? = some (.cells #[.bool al, .int .i64 l, .int .i64 wd, .int .i64 b, .int .i64 m] 23 (0, 0))) :
    SeqStopsK F n Try.prog 35 #[.pointer (some ⟨B, 0, none⟩)] encD (KeepsB B) (AllD b m) (SomeD b m) 64 w := fun lr J Jx W hW hJ hJx hY h0 => by
  refine callsIn_of_wp Try.func35 rfl hF ?_ hro
  simp only [Try.ntmps35, List.size_toArray, List.length_cons, List.length_nil, Nat.reduceAdd, Nat.reduceSub, Array.replicate_succ, Array.replicate_zero, List.push_toArray, List.append_toArray, List.nil_append, List.cons_append]
  have hcW : W.heap[B]? = some (.cells #[.bool al, .int .i64 l, .int .i64 wd, .int .i64 b, .int .i64 m] 23 (0, 0)) := vbelow hc hW
  have hc0 := vcell hcW
  gi_wp2
  gi_loopw [3, 4] (fun d i wr => ∃ k : Nat, k ≤ 41 ∧ d = .int .i64 (dly b m k) ∧ i = .int .i64 ((k : Int) + 1) ∧ (∀ j, j < k → dly b m j ≠ m) ∧ J (upto b m k) wr ∧ wr.heap[B]? = some (.cells #[.bool al, .int .i64 l, .int .i64 wd, .int .i64 b, .int .i64 m] 23 (0, 0)))
    (fun _ i _ => (100 - intOf i).toNat)
  case atStart => exact ⟨0, by omega, rfl, rfl, fun j hj => absurd hj (by omega), h0, hcW⟩
  case round =>
    obtain ⟨k, hk, rfl, rfl, hne, hJk, hbw⟩ := hrel
    have hkk := dly_few hb1 hbm hm k hne
    have hd := dly_bd hb1 hbm k
    obtain ⟨fn, tmps, assign, body, hy, hR⟩ := hY (upto b m k) ((k : Int) + 1, dly b m k) wr hJk (by rw [upto_length]; omega)
    dsimp only [encD] at hy
    have HN := Lib.hid hne
    clear hne
    gi_wp2
    refine hR.mono ?_
    rintro e W3 (⟨rfl, hJ3, hk3⟩ | ⟨rfl, hJx3⟩)
    · rw [← upto_succ] at hJ3
      have hb3 := hk3 _ _ _ hbw
      have hc3 := vcell hb3
      by_cases hlt : dly b m k = m
      · have ht : (dly b m k == m) = true := by simp [hlt]
        have HL := Lib.hid hlt
        clear hlt
        gi_wp2
        refine bodyPost_ret (results_none rfl _ _ _) rfl ?_
        exact ⟨⟨_, rfl⟩, .inl ⟨upto b m (k + 1), ⟨k, rfl, HL.out⟩, hJ3⟩⟩
      · have ht : (dly b m k == m) = false := by simp [hlt]
        have HL := Lib.hid hlt
        clear hlt
        gi_wp2
        go_roundw
        case rel => exact ⟨k + 1, by have := dly_few hb1 hbm hm (k + 1) (fun j hj => by by_cases e : j = k; (subst e; exact HL.out); exact HN.out j (by omega)); omega, by rw [show dly b m (k + 1) = min (2 * dly b m k) m from rfl, Int.min_def]; split <;> split <;> first | rfl | (congr 1; omega), by go_num, fun j hj => by by_cases e : j = k; (subst e; exact HL.out); exact HN.out j (by omega), hJ3, hb3⟩
        case measure => simp [intOf]; omega
    · gi_wp2
      rw [← upto_succ] at hJx3
      refine bodyPost_ret (results_none rfl _ _ _) rfl ?_
      exact ⟨⟨_, rfl⟩, .inr ⟨upto b m (k + 1), ⟨k, rfl⟩, hJx3⟩⟩

/-- What After returns for a valid policy. -/
def aftV (b m n : Int) : Int := dly b m (max n 1 - 1).toNat
def lastD (b : Int) (pre : List (Int × Int)) : Int := (pre.getLast?.map (·.2)).getD b
theorem lastD_snoc (b : Int) (pre : List (Int × Int)) (x : Int × Int) : lastD b (pre ++ [x]) = x.2 := by simp [lastD]
theorem lastD_upto (b m : Int) (k : Nat) : lastD b (upto b m (k + 1)) = dly b m k := by rw [upto_succ, lastD_snoc]
theorem upto_mem {b m : Int} {k : Nat} {j : Nat} (h : j < k) : ((j : Int) + 1, dly b m j) ∈ upto b m k := by
  simp only [upto, List.mem_map, List.mem_range]; exact ⟨j, h, rfl⟩

set_option maxHeartbeats 400000 in
theorem delays_c (al : Bool) (l wd b m : Int) (w : World) : Calls Try.prog 31 #[.agg #[.bool al, .int .i64 l, .int .i64 wd, .int .i64 b, .int .i64 m]] w fun e w' =>
    e = .returned (.func (.func 35) #[] #[.pointer (some ⟨w.heap.size, 0, none⟩)]) ∧ w' = w.alloc (.cells #[.bool al, .int .i64 l, .int .i64 wd, .int .i64 b, .int .i64 m] 23) := by
  go_enter Try.func31, Try.ntmps31
  go_wp2
  go_returns
  exact ⟨rfl, rfl⟩

/-- What holds between two rounds of After, and where it has left the loop. -/
def AftI (w : World) (o : Nat) (n mx b : Int) (pre : List (Int × Int)) (W : World) : Prop := ((∀ y ∈ pre, y.1 ≤ mx) ∧ W.cell? ⟨w.heap.size + 1, 0, none⟩ = some (.int .i64 n) ∧ W.cell? ⟨o, 0, none⟩ = some (.int .i64 (lastD b pre)) ∧ W.frozen? ⟨o, 0, none⟩ = false) ∧ Below w.heap.size w W
def AftX (w : World) (o : Nat) (mx b : Int) (c : Code) (pre : List (Int × Int)) (W : World) : Prop := (c = .exit 0 ∧ (∃ pre' x, pre = pre' ++ [x] ∧ (∀ y ∈ pre', y.1 ≤ mx) ∧ mx < x.1 ∧ W.cell? ⟨o, 0, none⟩ = some (.int .i64 (lastD b pre')))) ∧ Below w.heap.size w W

set_option maxRecDepth 100000 in
set_option maxHeartbeats 2000000 in
theorem after_ok (al : Bool) (l wd b m n : Int) (w : World) (h : okP l wd b m = true) (hn : 0 ≤ n) (hn2 : n ≤ 9223372036854775807) : Calls Try.prog 14 #[.agg #[.bool al, .int .i64 l, .int .i64 wd, .int .i64 b, .int .i64 m], .int .i64 n] w fun e w' =>
    e = .returned (.tuple #[.int .i64 (aftV b m n), .int .i64 0]) ∧ Below w.heap.size w w' := by
  have he : errP (okP l wd b m) = 0 := by rw [h]; rfl
  obtain ⟨-, -, hm1, hm2, hb1, hbm⟩ := (okP_iff _ _ _ _).1 h
  refine (callsIn_wide (n := 8)).1 ?_
  refine callsIn_of_wp_marks (F := Fence.wide) (n := 8) Try.func14 rfl trivial ?_ rfl
  simp only [Try.ntmps14, List.size_toArray, List.length_cons, List.length_nil, Nat.reduceAdd, Nat.reduceSub, Array.replicate_succ, Array.replicate_zero, List.push_toArray, List.append_toArray, List.nil_append, List.cons_append]
  refine wpIn_wide.2 ?_
  go_wp2_with fail
  refine (dcheck_c _ _ _ _ _ _).mono ?_
  rintro e_w1 w1 ⟨rfl, hbw1⟩
  have hBw1 : Below w.heap.size w w1 := below_then (by go_grown) hbw1
  have P0_w1 : w1.heap[w.heap.size]? = some (.cells #[.bool al, .int .i64 l, .int .i64 wd, .int .i64 b, .int .i64 m] 23 (0, 0)) := vbelow (by (repeat' (first | assumption | (refine vnewAt ?_; first | omega | (simp; done) | (simp; omega)) | refine valloc ?_ | refine vdrew ?_ | apply vput | (refine vfarr ?_ ?_; focus (first | omega | (simp; done) | (simp; omega))) | rfl))) hbw1
  have N0_w1 : w1.heap[w.heap.size + 1]? = some (.cells #[.int .i64 n] 3 (0, 0)) := vbelow (by (repeat' (first | assumption | (refine vnewAt ?_; first | omega | (simp; done) | (simp; omega)) | refine valloc ?_ | refine vdrew ?_ | apply vput | (refine vfarr ?_ ?_; focus (first | omega | (simp; done) | (simp; omega))) | rfl))) hbw1
  have hcP0_w1 := vcell P0_w1
  have hfP0_w1 := vfree P0_w1
  have hsP0_w1 := vlt P0_w1
  have hlP0_w1 := Nat.le_of_lt hsP0_w1
  have hmP0_w1 := Nat.le_succ_of_le hlP0_w1
  have hcN0_w1 := vcell N0_w1
  have hfN0_w1 := vfree N0_w1
  have hsN0_w1 := vlt N0_w1
  have hlN0_w1 := Nat.le_of_lt hsN0_w1
  have hmN0_w1 := Nat.le_succ_of_le hlN0_w1
  go_wp2_with fail
  refine (delays_c _ _ _ _ _ _).mono ?_
  rintro e_ w_ ⟨rfl, rfl⟩
  go_wp2_with fail
  have hP0 : ((w1.alloc (.cells #[.int .i64 b] 3)).alloc (.cells #[.bool al, .int .i64 l, .int .i64 wd, .int .i64 b, .int .i64 m] 23)).heap[w.heap.size + 1]? = _ := valloc (valloc N0_w1)
  have hO0 : ((w1.alloc (.cells #[.int .i64 b] 3)).alloc (.cells #[.bool al, .int .i64 l, .int .i64 wd, .int .i64 b, .int .i64 m] 23)).heap[w1.heap.size]? = _ := valloc vnew
  have hB0 : ((w1.alloc (.cells #[.int .i64 b] 3)).alloc (.cells #[.bool al, .int .i64 l, .int .i64 wd, .int .i64 b, .int .i64 m] 23)).heap[w1.heap.size + 1]? = _ := vnewAt (by simp)
  have hbW : Below w.heap.size w ((w1.alloc (.cells #[.int .i64 b] 3)).alloc (.cells #[.bool al, .int .i64 l, .int .i64 wd, .int .i64 b, .int .i64 m] 23)) := by go_grown
  generalize hW0 : (w1.alloc (.cells #[.int .i64 b] 3)).alloc (.cells #[.bool al, .int .i64 l, .int .i64 wd, .int .i64 b, .int .i64 m] 23) = W0 at *
  have hsz : W0.heap.size = w1.heap.size + 2 := by rw [← hW0]; simp
  clear hW0 hcP0_w1 hfP0_w1 hcN0_w1 hfN0_w1 P0_w1 N0_w1 hbw1 hBw1
  generalize hoo : w1.heap.size = o at *
  generalize hMX : max n 1 = mx at *
  have HMX := Lib.hid hMX
  clear hMX
  refine wpIn_wide.1 (wpIn_rangeFunc_ownF (F := Fence.wide) (n := 8) rfl (by decide) (gf := 35) (lb := #[.pointer (some ⟨o + 1, 0, none⟩)]) rfl trivial (enters_of Try.func35 (by kernel_rfl) rfl)
    (delays_in Fence.wide 7 trivial rfl (by decide) (o + 1) al l wd b m W0 hb1 hbm hm2 hB0) KeepsB.t (fun W l o o' _ h hc _ => keepsB_b W l o o' h hc) (Below.refl _ _) (fun _ => rfl)
    (AftI w o n mx b) (AftX w o mx b)
    (OwnFrom.and (Own.from (fun s A B row hs hg hr => ⟨hs.1, cell_kept hs.2.1 hg hr, cell_kept hs.2.2.1 hg hr, (frozen_kept hs.2.2.1 hg hr).trans hs.2.2.2⟩) _) (ownFrom_below (Nat.le_refl _) (by omega)))
    (fun c => OwnFrom.and (Own.from (fun s A B row hs hg hr => ⟨hs.1, by obtain ⟨-, p', x, h1, h4, h2, h3⟩ := hs; exact ⟨p', x, h1, h4, h2, cell_kept h3 hg hr⟩⟩) _) (ownFrom_below (Nat.le_refl _) (by omega)))
    ⟨⟨by simp, (vcell hP0 0).trans rfl, (vcell hO0 0).trans rfl, vfree hO0 0⟩, hbW⟩
    (fun x => { tmps := #[.agg #[.bool al, .int .i64 l, .int .i64 wd, .int .i64 b, .int .i64 m], .int .i64 n, .pointer (some ⟨w.heap.size, 0, none⟩), .pointer (some ⟨w.heap.size + 1, 0, none⟩), .int .i64 0, .int .i64 0, .int .i64 (errP true), .pointer (some ⟨o, 0, none⟩), .int .i64 x.1, .int .i64 x.2,
        .agg #[.bool al, .int .i64 l, .int .i64 wd, .int .i64 b, .int .i64 m], .int .i64 (errP true), .int .i64 (errP true), .bool false, undef, .int .i64 n, .bool (decide (n < 0)), .pointer (some ⟨w.heap.size, 3, none⟩), .int .i64 b,
        .agg #[.bool al, .int .i64 l, .int .i64 wd, .int .i64 b, .int .i64 m], .func (.func 35) #[] #[.pointer (some ⟨o + 1, 0, none⟩)], .int .i64 x.1, .int .i64 x.2, undef, undef, undef, undef, undef, undef], defers := [] }) ?assign ?body ?done ?stop)
  case assign =>
    intro l x W K hK
    gi_wp2
    exact hK
  case body =>
    rintro lr pre x W ⟨⟨hp, hcn, hco, hfo⟩, hB⟩ _
    have HP := Lib.hid hp
    clear hp
    gi_wp2
    all_goals first
      | (have hx : (if n < 1 then 1 else n) < x.1 := by assumption
         have hx' : mx < x.1 := by have := HMX.out; split at hx <;> omega
         exact ⟨KeepsOthers.refl _, ⟨rfl, pre, x, rfl, HP.out, hx', hco⟩, hB⟩)
      | (have hx : x.1 ≤ (if n < 1 then 1 else n) := by assumption
         have hx' : x.1 ≤ mx := by have := HMX.out; split at hx <;> omega
         refine ⟨KeepsOthers.setCell _ _ _, fun C t m e => vfar e (by simp), ⟨⟨?_, ?_, ?_, ?_⟩, hB.setCell (p := ⟨o, 0, none⟩) (by show w.heap.size ≤ o; omega) _⟩⟩
         · intro y hy
           rcases List.mem_append.1 hy with h | h
           · exact HP.out y h
           · simp at h; subst h; exact hx'
         · exact (World.cell?_setCell_other (w := W) (v := .int .i64 x.2) (a := ⟨o, 0, none⟩) (b := ⟨w.heap.size + 1, 0, none⟩) (by intro e; injection e with e1; omega)).trans hcn
         · rw [lastD_snoc]; exact World.cell?_setCell_same' _ _ _ (by rw [hco]; rfl)
         · rw [World.frozen?_setCell]; exact hfo)
  case done =>
    rintro D ys W hD ⟨k, rfl, hkm⟩ ⟨⟨hp, hcn, hco, hfo⟩, hB⟩ hK
    have hv : lastD b (upto b m (k + 1)) = aftV b m n := by
      rw [lastD_upto]
      have := hp _ (upto_mem (Nat.lt_succ_self k))
      have hj : (max n 1 - 1).toNat = k + ((max n 1 - 1).toNat - k) := by rw [HMX.out]; simp at this; omega
      unfold aftV
      rw [hj, dly_stays hb1 hbm hkm, hkm]
    rw [hv] at hco
    have HP := Lib.hid hp
    clear hp hkm hv
    go_wp2
    refine ⟨by simp, .inl ⟨_, _, rfl, run_takeDeferred hK, ?_⟩⟩
    exact ⟨.tuple #[.int .i64 (aftV b m n), .int .i64 0], by simp [results, Try.results14, Try.f14, go_sem], rfl, hB.trans (belowK_b (w := w) (Nat.le_refl _) W D _ _ (by omega) hK rfl rfl)⟩
  case stop =>
    rintro D c pre W hD ⟨k, rfl⟩ ⟨⟨rfl, pre', x, hpx, hp, hx, hco⟩, hB⟩ hK
    rw [upto_succ] at hpx
    obtain ⟨h1, h2⟩ := List.append_inj' hpx rfl
    subst h1
    obtain rfl : ((k : Int) + 1, dly b m k) = x := by simpa using h2
    have hv : lastD b (upto b m k) = aftV b m n := by
      have hm := HMX.out
      have h1 : 1 ≤ k := by simp at hx; omega
      obtain ⟨j, rfl⟩ : ∃ j, k = j + 1 := ⟨k - 1, by omega⟩
      have := hp _ (upto_mem (Nat.lt_succ_self j))
      rw [lastD_upto]
      unfold aftV
      rw [show (max n 1 - 1).toNat = j by rw [hm]; simp at this hx; omega]
    rw [hv] at hco
    clear hp hx hv hpx h2
    gi_wp2
    go_wp2
    refine ⟨by simp, .inl ⟨_, _, rfl, run_takeDeferred hK, ?_⟩⟩
    exact ⟨.tuple #[.int .i64 (aftV b m n), .int .i64 0], by simp [results, Try.results14, Try.f14, go_sem], rfl, hB.trans (belowK_b (w := w) (Nat.le_refl _) W D _ _ (by omega) hK rfl rfl)⟩

set_option maxHeartbeats 400000 in
theorem after_no (al : Bool) (l wd b m n : Int) (w : World) (h : okP l wd b m = false) : Calls Try.prog 14 #[.agg #[.bool al, .int .i64 l, .int .i64 wd, .int .i64 b, .int .i64 m], .int .i64 n] w fun e w' =>
    e = .returned (.tuple #[.int .i64 0, .int .i64 3]) ∧ Below w.heap.size w w' := by
  have he : errP (okP l wd b m) = 3 := by rw [h]; rfl
  go_enter Try.func14, Try.ntmps14
  go_wp2_with fail
  refine (dcheck_c _ _ _ _ _ _).mono ?_
  rintro e_w1 w1 ⟨rfl, hbw1⟩
  have hBw1 : Below w.heap.size w w1 := below_then (by go_grown) hbw1
  have P0_w1 : w1.heap[w.heap.size]? = some (.cells #[.bool al, .int .i64 l, .int .i64 wd, .int .i64 b, .int .i64 m] 23 (0, 0)) := vbelow (by (repeat' (first | assumption | (refine vnewAt ?_; first | omega | (simp; done) | (simp; omega)) | refine valloc ?_ | refine vdrew ?_ | apply vput | (refine vfarr ?_ ?_; focus (first | omega | (simp; done) | (simp; omega))) | rfl))) hbw1
  have N0_w1 : w1.heap[w.heap.size + 1]? = some (.cells #[.int .i64 n] 3 (0, 0)) := vbelow (by (repeat' (first | assumption | (refine vnewAt ?_; first | omega | (simp; done) | (simp; omega)) | refine valloc ?_ | refine vdrew ?_ | apply vput | (refine vfarr ?_ ?_; focus (first | omega | (simp; done) | (simp; omega))) | rfl))) hbw1
  have hcP0_w1 := vcell P0_w1
  have hfP0_w1 := vfree P0_w1
  have hsP0_w1 := vlt P0_w1
  have hlP0_w1 := Nat.le_of_lt hsP0_w1
  have hmP0_w1 := Nat.le_succ_of_le hlP0_w1
  have hcN0_w1 := vcell N0_w1
  have hfN0_w1 := vfree N0_w1
  have hsN0_w1 := vlt N0_w1
  have hlN0_w1 := Nat.le_of_lt hsN0_w1
  have hmN0_w1 := Nat.le_succ_of_le hlN0_w1
  go_wp2
  go_returns
  exact ⟨rfl, hBw1⟩

set_option maxHeartbeats 400000 in
theorem after_neg (al : Bool) (l wd b m n : Int) (w : World) (h : okP l wd b m = true) (hn : n < 0) : Calls Try.prog 14 #[.agg #[.bool al, .int .i64 l, .int .i64 wd, .int .i64 b, .int .i64 m], .int .i64 n] w fun e w' =>
    e = .returned (.tuple #[.int .i64 0, .int .i64 3]) ∧ Below w.heap.size w w' := by
  have he : errP (okP l wd b m) = 0 := by rw [h]; rfl
  go_enter Try.func14, Try.ntmps14
  go_wp2_with fail
  refine (dcheck_c _ _ _ _ _ _).mono ?_
  rintro e_w1 w1 ⟨rfl, hbw1⟩
  have hBw1 : Below w.heap.size w w1 := below_then (by go_grown) hbw1
  have P0_w1 : w1.heap[w.heap.size]? = some (.cells #[.bool al, .int .i64 l, .int .i64 wd, .int .i64 b, .int .i64 m] 23 (0, 0)) := vbelow (by (repeat' (first | assumption | (refine vnewAt ?_; first | omega | (simp; done) | (simp; omega)) | refine valloc ?_ | refine vdrew ?_ | apply vput | (refine vfarr ?_ ?_; focus (first | omega | (simp; done) | (simp; omega))) | rfl))) hbw1
  have N0_w1 : w1.heap[w.heap.size + 1]? = some (.cells #[.int .i64 n] 3 (0, 0)) := vbelow (by (repeat' (first | assumption | (refine vnewAt ?_; first | omega | (simp; done) | (simp; omega)) | refine valloc ?_ | refine vdrew ?_ | apply vput | (refine vfarr ?_ ?_; focus (first | omega | (simp; done) | (simp; omega))) | rfl))) hbw1
  have hcP0_w1 := vcell P0_w1
  have hfP0_w1 := vfree P0_w1
  have hsP0_w1 := vlt P0_w1
  have hlP0_w1 := Nat.le_of_lt hsP0_w1
  have hmP0_w1 := Nat.le_succ_of_le hlP0_w1
  have hcN0_w1 := vcell N0_w1
  have hfN0_w1 := vfree N0_w1
  have hsN0_w1 := vlt N0_w1
  have hlN0_w1 := Nat.le_of_lt hsN0_w1
  have hmN0_w1 := Nat.le_succ_of_le hlN0_w1
  go_wp2
  go_returns
  exact ⟨rfl, hBw1⟩

/-- What After returns. -/
def aftF (l wd b m n : Int) : Int × Int := if okP l wd b m = true ∧ 0 ≤ n then (aftV b m n, 0) else (0, 3)
theorem after_c (al : Bool) (l wd b m n : Int) (w : World) (hn : n ≤ 9223372036854775807) : Calls Try.prog 14 #[.agg #[.bool al, .int .i64 l, .int .i64 wd, .int .i64 b, .int .i64 m], .int .i64 n] w fun e w' =>
    e = .returned (.tuple #[.int .i64 (aftF l wd b m n).1, .int .i64 (aftF l wd b m n).2]) ∧ Below w.heap.size w w' := by
  by_cases h : okP l wd b m = true
  · by_cases h0 : 0 ≤ n
    · have : aftF l wd b m n = (aftV b m n, 0) := if_pos ⟨h, h0⟩
      rw [this]; exact after_ok _ _ _ _ _ _ _ h h0 hn
    · have : aftF l wd b m n = (0, 3) := if_neg (fun q => h0 q.2)
      rw [this]; exact after_neg _ _ _ _ _ _ _ h (by omega)
  · have : aftF l wd b m n = (0, 3) := if_neg (fun q => h q.1)
    rw [this]; exact after_no _ _ _ _ _ _ _ (by simpa using h)
end Go.Proofs.Ytcdlfnoagghpmaa
