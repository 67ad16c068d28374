/- Arguments laid open to their cells, by a program of this session (wip/rows.py). -/

import Derived.ChangeArms

import Derived.OpenShut

import Derived.Deep.Slices

import Derived.ProofKit

import Derived.KernelRfl

import Derived.WalkKit

import Derived.Test.YtkhcdichdnbcmaaRProg

namespace Go.Proofs.YtkhcdichdnbcmaaR

open Go.ChangeShapes Go.WideShapes Go.ChangeAt Go.RowKit

set_option linter.unusedVariables false

set_option linter.unusedSimpArgs false

theorem agg_of {v : Value} {l : List Value} (h : v.cells.toList = l) (hl : l.length ≠ 1) : v = .agg l.toArray := by
  cases v <;> simp [Value.cells] at h <;> first | (subst h; simp at hl; done) | (subst h; rfl)

theorem add_block (a : Addr) (n : Nat) : (a.add n).block = a.block := by unfold Addr.add; split <;> rfl

theorem one_of {v c : Value} (h : v.cells.toList = [c]) (hc : c.cells = #[c]) : v = .agg #[c] ∨ v = c := by
  cases v <;> simp [Value.cells] at h <;> first | (right; exact h) | (left; rename_i z; obtain ⟨z⟩ := z; simp at h; subst h; rfl)

set_option maxRecDepth 100000 in
theorem op_23 {H : Type} {enc : TypeId × Value → H} {w : World} {base : Nat} {spare : Nat → Bool} {held : Bool} {fuel : Nat} {cs : List Value} {x : DataW H × List MemPlace} (h : DataW.trod enc Try.prog w base spare held fuel 23 cs = some x) : ∃ (n0 : Int) (n1 : Int) (n2 : Int), cs = [.int .i64 n0, .int .i64 n1, .int .i64 n2] ∧ (Lit.int .i64 n0).wf = true ∧ (Lit.int .i64 n1).wf = true ∧ (Lit.int .i64 n2).wf = true := by
  obtain ⟨xs, m, _, _, hl, hxl, hg⟩ := DataW.trod_struct Try.underlying23 h
  have hl' : cs.length = 3 := hl.trans (by kernel_rfl)
  match cs, hl' with
  | [q0, q1, q2], _ =>
    obtain ⟨y0, hy0⟩ : ∃ y, xs[0]? = some y := ⟨xs[0]'(by rw [hxl]; decide), List.getElem?_eq_getElem _⟩
    have h0 : DataW.trod enc Try.prog w base spare held m 3 [q0] = some y0 := Eq.trans (by kernel_rfl) ((hg 0 _ rfl).trans hy0)
    obtain ⟨y1, hy1⟩ : ∃ y, xs[1]? = some y := ⟨xs[1]'(by rw [hxl]; decide), List.getElem?_eq_getElem _⟩
    have h1 : DataW.trod enc Try.prog w base spare held m 3 [q1] = some y1 := Eq.trans (by kernel_rfl) ((hg 1 _ rfl).trans hy1)
    obtain ⟨y2, hy2⟩ : ∃ y, xs[2]? = some y := ⟨xs[2]'(by rw [hxl]; decide), List.getElem?_eq_getElem _⟩
    have h2 : DataW.trod enc Try.prog w base spare held m 3 [q2] = some y2 := Eq.trans (by kernel_rfl) ((hg 2 _ rfl).trans hy2)
    obtain ⟨n0, e_n0, _, n0_h⟩ := DataW.trod_int Try.underlying3 h0
    obtain rfl := List.cons.inj e_n0 |>.1
    obtain ⟨n1, e_n1, _, n1_h⟩ := DataW.trod_int Try.underlying3 h1
    obtain rfl := List.cons.inj e_n1 |>.1
    obtain ⟨n2, e_n2, _, n2_h⟩ := DataW.trod_int Try.underlying3 h2
    obtain rfl := List.cons.inj e_n2 |>.1
    exact ⟨n0, n1, n2, rfl, n0_h, n1_h, n2_h⟩

def rdInt (l : List Int) (k : Nat) : Int := l.getD k 0

/-- A list that lies in memory. -/
def SL24 (w : World) (A : Option Addr) (cap : Nat) (l : List Int) : Prop := l.length ≤ cap ∧ cap ≤ maxLen ∧ (l = [] ∨ ∃ b off, A = some ⟨b, off, none⟩ ∧ b < w.heap.size ∧ ∀ k, k < l.length → w.cell? ⟨b, off + k, none⟩ = some (.int .i64 (rdInt l k)) ∧ (Lit.int .i64 (rdInt l k)).wf = true)

theorem op_24 {H : Type} {enc : TypeId × Value → H} {w : World} {base : Nat} {spare : Nat → Bool} {held : Bool} {fuel : Nat} {cs : List Value} {x : DataW H × List MemPlace} (h : DataW.trod enc Try.prog w base spare held fuel 24 cs = some x) : ∃ (A : Option Addr) (cap : Nat) (l : List Int), cs = [.slice A l.length cap] ∧ SL24 w A cap l := by
  rcases DataW.trod_slice Try.underlying24 h with ⟨rfl, _⟩ | ⟨a, len, cap, elems, rest, n, _, rfl, _, hb, hl, hm, hlen, hel, _, _⟩
  · exact ⟨none, 0, [], rfl, Nat.le_refl _, Nat.zero_le _, .inl rfl⟩
  have hK : Try.prog.cellsOf 3 = 1 := by kernel_rfl
  have hy : ∀ k, k < len → ∃ y : Int, (k = 0 → a.spot = none) ∧ a.block < w.heap.size ∧ (∀ b off, a = ⟨b, off, none⟩ → w.cell? ⟨b, off + k, none⟩ = some (.int .i64 (y)) ∧ (Lit.int .i64 (y)).wf = true) := by
    intro k hk
    have h1 := hel k hk
    rw [List.getElem?_eq_getElem (by omega), hK] at h1
    obtain ⟨ys, hys, ht⟩ := Option.bind_eq_some_iff.1 h1
    obtain ⟨_, hcl, hat⟩ := World.cells?_some hys
    obtain ⟨z0, rfl, _, z0_h⟩ := DataW.trod_int Try.underlying3 ht
    have c0 : w.cell? ((a.add (k * 1)).add 0) = some (.int .i64 z0) := by have hq := hat 0 (by omega); simpa using hq
    have hsp : k = 0 → a.spot = none := fun h0 => by subst h0; have hq := World.cell?_spot c0; simpa [Addr.add] using hq
    have hbl : a.block < w.heap.size := by have hq := World.block_lt_of_cell? w _ c0; rw [add_block, add_block] at hq; exact hq
    exact ⟨z0, hsp, hbl, fun b off ha => ⟨by have hq := c0; rw [ha] at hq; simpa [Go.WideShapes.add_plain, Nat.add_assoc] using hq, z0_h⟩⟩
  classical
  let f : Nat → Int := fun k => if hk : k < len then Classical.choose (hy k hk) else rdInt [] 0
  have hf : ∀ k, k < len → (k = 0 → a.spot = none) ∧ a.block < w.heap.size ∧ (∀ b off, a = ⟨b, off, none⟩ → w.cell? ⟨b, off + k, none⟩ = some (.int .i64 (f k)) ∧ (Lit.int .i64 (f k)).wf = true) := fun k hk => by
    have hq := Classical.choose_spec (hy k hk)
    have he : f k = Classical.choose (hy k hk) := by simp [f, hk]
    rw [he]; exact hq
  refine ⟨some a, cap, (List.range len).map f, by simp, by simpa using hl, hm, ?_⟩
  by_cases h0 : len = 0
  · left; subst h0; rfl
  right
  obtain ⟨b, off, spot⟩ := a
  obtain ⟨hsp, hbl, _⟩ := hf 0 (by omega)
  have hsp' : spot = none := hsp rfl
  subst hsp'
  refine ⟨b, off, rfl, hbl, fun k hk => ?_⟩
  have hk' : k < len := by simpa using hk
  have hr : rdInt ((List.range len).map f) k = f k := by simp [rdInt, hk']
  rw [hr]
  exact (hf k hk').2.2 b off rfl

set_option maxRecDepth 100000 in
theorem op_88 {H : Type} {enc : TypeId × Value → H} {w : World} {base : Nat} {spare : Nat → Bool} {held : Bool} {fuel : Nat} {cs : List Value} {x : DataW H × List MemPlace} (h : DataW.trod enc Try.prog w base spare held fuel 88 cs = some x) : ∃ (n0 : Bool) (n1 : Int) (n2 : Int) (n3 : Int) (n4 : Int), cs = [.bool n0, .int .i64 n1, .int .i64 n2, .int .i64 n3, .int .i64 n4] ∧ (Lit.int .i64 n1).wf = true ∧ (Lit.int .i64 n2).wf = true ∧ (Lit.int .i64 n3).wf = true ∧ (Lit.int .i64 n4).wf = true := by
  obtain ⟨xs, m, _, _, hl, hxl, hg⟩ := DataW.trod_struct Try.underlying88 h
  have hl' : cs.length = 5 := hl.trans (by kernel_rfl)
  match cs, hl' with
  | [q0, q1, q2, q3, q4], _ =>
    obtain ⟨y0, hy0⟩ : ∃ y, xs[0]? = some y := ⟨xs[0]'(by rw [hxl]; decide), List.getElem?_eq_getElem _⟩
    have h0 : DataW.trod enc Try.prog w base spare held m 4 [q0] = some y0 := Eq.trans (by kernel_rfl) ((hg 0 _ rfl).trans hy0)
    obtain ⟨y1, hy1⟩ : ∃ y, xs[1]? = some y := ⟨xs[1]'(by rw [hxl]; decide), List.getElem?_eq_getElem _⟩
    have h1 : DataW.trod enc Try.prog w base spare held m 3 [q1] = some y1 := Eq.trans (by kernel_rfl) ((hg 1 _ rfl).trans hy1)
    obtain ⟨y2, hy2⟩ : ∃ y, xs[2]? = some y := ⟨xs[2]'(by rw [hxl]; decide), List.getElem?_eq_getElem _⟩
    have h2 : DataW.trod enc Try.prog w base spare held m 3 [q2] = some y2 := Eq.trans (by kernel_rfl) ((hg 2 _ rfl).trans hy2)
    obtain ⟨y3, hy3⟩ : ∃ y, xs[3]? = some y := ⟨xs[3]'(by rw [hxl]; decide), List.getElem?_eq_getElem _⟩
    have h3 : DataW.trod enc Try.prog w base spare held m 3 [q3] = some y3 := Eq.trans (by kernel_rfl) ((hg 3 _ rfl).trans hy3)
    obtain ⟨y4, hy4⟩ : ∃ y, xs[4]? = some y := ⟨xs[4]'(by rw [hxl]; decide), List.getElem?_eq_getElem _⟩
    have h4 : DataW.trod enc Try.prog w base spare held m 3 [q4] = some y4 := Eq.trans (by kernel_rfl) ((hg 4 _ rfl).trans hy4)
    obtain ⟨n0, e_n0, _⟩ := DataW.trod_bool Try.underlying4 h0
    obtain rfl := List.cons.inj e_n0 |>.1
    obtain ⟨n1, e_n1, _, n1_h⟩ := DataW.trod_int Try.underlying3 h1
    obtain rfl := List.cons.inj e_n1 |>.1
    obtain ⟨n2, e_n2, _, n2_h⟩ := DataW.trod_int Try.underlying3 h2
    obtain rfl := List.cons.inj e_n2 |>.1
    obtain ⟨n3, e_n3, _, n3_h⟩ := DataW.trod_int Try.underlying3 h3
    obtain rfl := List.cons.inj e_n3 |>.1
    obtain ⟨n4, e_n4, _, n4_h⟩ := DataW.trod_int Try.underlying3 h4
    obtain rfl := List.cons.inj e_n4 |>.1
    exact ⟨n0, n1, n2, n3, n4, rfl, n1_h, n2_h, n3_h, n4_h⟩

set_option maxRecDepth 100000 in
theorem op_90 {H : Type} {enc : TypeId × Value → H} {w : World} {base : Nat} {spare : Nat → Bool} {held : Bool} {fuel : Nat} {cs : List Value} {x : DataW H × List MemPlace} (h : DataW.trod enc Try.prog w base spare held fuel 90 cs = some x) : ∃ (n0 : Bool) (n1 : Int) (n2 : Int) (n3 : Int) (n4 : Int) (n5 : Int), cs = [.bool n0, .int .i64 n1, .int .i64 n2, .int .i64 n3, .int .i64 n4, .int .i64 n5] ∧ (Lit.int .i64 n1).wf = true ∧ (Lit.int .i64 n2).wf = true ∧ (Lit.int .i64 n3).wf = true ∧ (Lit.int .i64 n4).wf = true ∧ (Lit.int .i64 n5).wf = true := by
  obtain ⟨xs, m, _, _, hl, hxl, hg⟩ := DataW.trod_struct Try.underlying90 h
  have hl' : cs.length = 6 := hl.trans (by kernel_rfl)
  match cs, hl' with
  | [q0, q1, q2, q3, q4, q5], _ =>
    obtain ⟨y0, hy0⟩ : ∃ y, xs[0]? = some y := ⟨xs[0]'(by rw [hxl]; decide), List.getElem?_eq_getElem _⟩
    have h0 : DataW.trod enc Try.prog w base spare held m 88 [q0, q1, q2, q3, q4] = some y0 := Eq.trans (by kernel_rfl) ((hg 0 _ rfl).trans hy0)
    obtain ⟨y1, hy1⟩ : ∃ y, xs[1]? = some y := ⟨xs[1]'(by rw [hxl]; decide), List.getElem?_eq_getElem _⟩
    have h1 : DataW.trod enc Try.prog w base spare held m 3 [q5] = some y1 := Eq.trans (by kernel_rfl) ((hg 1 _ rfl).trans hy1)
    obtain ⟨n0, n1, n2, n3, n4, e_n0, n1_h, n2_h, n3_h, n4_h⟩ := op_88 h0
    simp only [List.cons.injEq, and_true] at e_n0
    obtain ⟨rfl, rfl, rfl, rfl, rfl⟩ := e_n0
    obtain ⟨n5, e_n5, _, n5_h⟩ := DataW.trod_int Try.underlying3 h1
    obtain rfl := List.cons.inj e_n5 |>.1
    exact ⟨n0, n1, n2, n3, n4, n5, rfl, n1_h, n2_h, n3_h, n4_h, n5_h⟩

structure E90 where
  (f0 : Bool)
  (f1 : Int)
  (f2 : Int)
  (f3 : Int)
  (f4 : Int)
  (f5 : Int)

def rdE90 (l : List E90) (k : Nat) : E90 := l.getD k ⟨false, 0, 0, 0, 0, 0⟩

/-- A list that lies in memory. -/
def SL25 (w : World) (A : Option Addr) (cap : Nat) (l : List E90) : Prop := l.length ≤ cap ∧ cap ≤ maxLen ∧ (l = [] ∨ ∃ b off, A = some ⟨b, off, none⟩ ∧ b < w.heap.size ∧ ∀ k, k < l.length → w.cell? ⟨b, off + k * 6, none⟩ = some (.bool (rdE90 l k).f0) ∧ w.cell? ⟨b, off + k * 6 + 1, none⟩ = some (.int .i64 (rdE90 l k).f1) ∧ (Lit.int .i64 (rdE90 l k).f1).wf = true ∧ w.cell? ⟨b, off + k * 6 + 2, none⟩ = some (.int .i64 (rdE90 l k).f2) ∧ (Lit.int .i64 (rdE90 l k).f2).wf = true ∧ w.cell? ⟨b, off + k * 6 + 3, none⟩ = some (.int .i64 (rdE90 l k).f3) ∧ (Lit.int .i64 (rdE90 l k).f3).wf = true ∧ w.cell? ⟨b, off + k * 6 + 4, none⟩ = some (.int .i64 (rdE90 l k).f4) ∧ (Lit.int .i64 (rdE90 l k).f4).wf = true ∧ w.cell? ⟨b, off + k * 6 + 5, none⟩ = some (.int .i64 (rdE90 l k).f5) ∧ (Lit.int .i64 (rdE90 l k).f5).wf = true)

theorem op_25 {H : Type} {enc : TypeId × Value → H} {w : World} {base : Nat} {spare : Nat → Bool} {held : Bool} {fuel : Nat} {cs : List Value} {x : DataW H × List MemPlace} (h : DataW.trod enc Try.prog w base spare held fuel 25 cs = some x) : ∃ (A : Option Addr) (cap : Nat) (l : List E90), cs = [.slice A l.length cap] ∧ SL25 w A cap l := by
  rcases DataW.trod_slice Try.underlying25 h with ⟨rfl, _⟩ | ⟨a, len, cap, elems, rest, n, _, rfl, _, hb, hl, hm, hlen, hel, _, _⟩
  · exact ⟨none, 0, [], rfl, Nat.le_refl _, Nat.zero_le _, .inl rfl⟩
  have hK : Try.prog.cellsOf 90 = 6 := by kernel_rfl
  have hy : ∀ k, k < len → ∃ y : E90, (k = 0 → a.spot = none) ∧ a.block < w.heap.size ∧ (∀ b off, a = ⟨b, off, none⟩ → w.cell? ⟨b, off + k * 6, none⟩ = some (.bool (y).f0) ∧ w.cell? ⟨b, off + k * 6 + 1, none⟩ = some (.int .i64 (y).f1) ∧ (Lit.int .i64 (y).f1).wf = true ∧ w.cell? ⟨b, off + k * 6 + 2, none⟩ = some (.int .i64 (y).f2) ∧ (Lit.int .i64 (y).f2).wf = true ∧ w.cell? ⟨b, off + k * 6 + 3, none⟩ = some (.int .i64 (y).f3) ∧ (Lit.int .i64 (y).f3).wf = true ∧ w.cell? ⟨b, off + k * 6 + 4, none⟩ = some (.int .i64 (y).f4) ∧ (Lit.int .i64 (y).f4).wf = true ∧ w.cell? ⟨b, off + k * 6 + 5, none⟩ = some (.int .i64 (y).f5) ∧ (Lit.int .i64 (y).f5).wf = true) := by
    intro k hk
    have h1 := hel k hk
    rw [List.getElem?_eq_getElem (by omega), hK] at h1
    obtain ⟨ys, hys, ht⟩ := Option.bind_eq_some_iff.1 h1
    obtain ⟨_, hcl, hat⟩ := World.cells?_some hys
    obtain ⟨z0, z1, z2, z3, z4, z5, rfl, z1_h, z2_h, z3_h, z4_h, z5_h⟩ := op_90 ht
    have c0 : w.cell? ((a.add (k * 6)).add 0) = some (.bool z0) := by have hq := hat 0 (by omega); simpa using hq
    have c1 : w.cell? ((a.add (k * 6)).add 1) = some (.int .i64 z1) := by have hq := hat 1 (by omega); simpa using hq
    have c2 : w.cell? ((a.add (k * 6)).add 2) = some (.int .i64 z2) := by have hq := hat 2 (by omega); simpa using hq
    have c3 : w.cell? ((a.add (k * 6)).add 3) = some (.int .i64 z3) := by have hq := hat 3 (by omega); simpa using hq
    have c4 : w.cell? ((a.add (k * 6)).add 4) = some (.int .i64 z4) := by have hq := hat 4 (by omega); simpa using hq
    have c5 : w.cell? ((a.add (k * 6)).add 5) = some (.int .i64 z5) := by have hq := hat 5 (by omega); simpa using hq
    have hsp : k = 0 → a.spot = none := fun h0 => by subst h0; have hq := World.cell?_spot c0; simpa [Addr.add] using hq
    have hbl : a.block < w.heap.size := by have hq := World.block_lt_of_cell? w _ c0; rw [add_block, add_block] at hq; exact hq
    exact ⟨⟨z0, z1, z2, z3, z4, z5⟩, hsp, hbl, fun b off ha => ⟨by have hq := c0; rw [ha] at hq; simpa [Go.WideShapes.add_plain, Nat.add_assoc] using hq, by have hq := c1; rw [ha] at hq; simpa [Go.WideShapes.add_plain, Nat.add_assoc] using hq, z1_h, by have hq := c2; rw [ha] at hq; simpa [Go.WideShapes.add_plain, Nat.add_assoc] using hq, z2_h, by have hq := c3; rw [ha] at hq; simpa [Go.WideShapes.add_plain, Nat.add_assoc] using hq, z3_h, by have hq := c4; rw [ha] at hq; simpa [Go.WideShapes.add_plain, Nat.add_assoc] using hq, z4_h, by have hq := c5; rw [ha] at hq; simpa [Go.WideShapes.add_plain, Nat.add_assoc] using hq, z5_h⟩⟩
  classical
  let f : Nat → E90 := fun k => if hk : k < len then Classical.choose (hy k hk) else rdE90 [] 0
  have hf : ∀ k, k < len → (k = 0 → a.spot = none) ∧ a.block < w.heap.size ∧ (∀ b off, a = ⟨b, off, none⟩ → w.cell? ⟨b, off + k * 6, none⟩ = some (.bool (f k).f0) ∧ w.cell? ⟨b, off + k * 6 + 1, none⟩ = some (.int .i64 (f k).f1) ∧ (Lit.int .i64 (f k).f1).wf = true ∧ w.cell? ⟨b, off + k * 6 + 2, none⟩ = some (.int .i64 (f k).f2) ∧ (Lit.int .i64 (f k).f2).wf = true ∧ w.cell? ⟨b, off + k * 6 + 3, none⟩ = some (.int .i64 (f k).f3) ∧ (Lit.int .i64 (f k).f3).wf = true ∧ w.cell? ⟨b, off + k * 6 + 4, none⟩ = some (.int .i64 (f k).f4) ∧ (Lit.int .i64 (f k).f4).wf = true ∧ w.cell? ⟨b, off + k * 6 + 5, none⟩ = some (.int .i64 (f k).f5) ∧ (Lit.int .i64 (f k).f5).wf = true) := fun k hk => by
    have hq := Classical.choose_spec (hy k hk)
    have he : f k = Classical.choose (hy k hk) := by simp [f, hk]
    rw [he]; exact hq
  refine ⟨some a, cap, (List.range len).map f, by simp, by simpa using hl, hm, ?_⟩
  by_cases h0 : len = 0
  · left; subst h0; rfl
  right
  obtain ⟨b, off, spot⟩ := a
  obtain ⟨hsp, hbl, _⟩ := hf 0 (by omega)
  have hsp' : spot = none := hsp rfl
  subst hsp'
  refine ⟨b, off, rfl, hbl, fun k hk => ?_⟩
  have hk' : k < len := by simpa using hk
  have hr : rdE90 ((List.range len).map f) k = f k := by simp [rdE90, hk']
  rw [hr]
  exact (hf k hk').2.2 b off rfl

set_option maxRecDepth 100000 in
theorem op_27 {H : Type} {enc : TypeId × Value → H} {w : World} {base : Nat} {spare : Nat → Bool} {held : Bool} {fuel : Nat} {cs : List Value} {x : DataW H × List MemPlace} (h : DataW.trod enc Try.prog w base spare held fuel 27 cs = some x) : ∃ (n0 : Int) (n1 : Int) (n2 : Int) (n3 : Int) (n4_A : Option Addr) (n4_c : Nat) (n4_l : List Int) (n5_A : Option Addr) (n5_c : Nat) (n5_l : List E90), cs = [.int .i64 n0, .int .i64 n1, .int .i64 n2, .int .i64 n3, .slice n4_A n4_l.length n4_c, .slice n5_A n5_l.length n5_c] ∧ (Lit.int .i64 n0).wf = true ∧ (Lit.int .i64 n1).wf = true ∧ (Lit.int .i64 n2).wf = true ∧ (Lit.int .i64 n3).wf = true ∧ SL24 w n4_A n4_c n4_l ∧ SL25 w n5_A n5_c n5_l := by
  obtain ⟨xs, m, _, _, hl, hxl, hg⟩ := DataW.trod_struct Try.underlying27 h
  have hl' : cs.length = 6 := hl.trans (by kernel_rfl)
  match cs, hl' with
  | [q0, q1, q2, q3, q4, q5], _ =>
    obtain ⟨y0, hy0⟩ : ∃ y, xs[0]? = some y := ⟨xs[0]'(by rw [hxl]; decide), List.getElem?_eq_getElem _⟩
    have h0 : DataW.trod enc Try.prog w base spare held m 3 [q0] = some y0 := Eq.trans (by kernel_rfl) ((hg 0 _ rfl).trans hy0)
    obtain ⟨y1, hy1⟩ : ∃ y, xs[1]? = some y := ⟨xs[1]'(by rw [hxl]; decide), List.getElem?_eq_getElem _⟩
    have h1 : DataW.trod enc Try.prog w base spare held m 23 [q1, q2, q3] = some y1 := Eq.trans (by kernel_rfl) ((hg 1 _ rfl).trans hy1)
    obtain ⟨y2, hy2⟩ : ∃ y, xs[2]? = some y := ⟨xs[2]'(by rw [hxl]; decide), List.getElem?_eq_getElem _⟩
    have h2 : DataW.trod enc Try.prog w base spare held m 24 [q4] = some y2 := Eq.trans (by kernel_rfl) ((hg 2 _ rfl).trans hy2)
    obtain ⟨y3, hy3⟩ : ∃ y, xs[3]? = some y := ⟨xs[3]'(by rw [hxl]; decide), List.getElem?_eq_getElem _⟩
    have h3 : DataW.trod enc Try.prog w base spare held m 25 [q5] = some y3 := Eq.trans (by kernel_rfl) ((hg 3 _ rfl).trans hy3)
    obtain ⟨n0, e_n0, _, n0_h⟩ := DataW.trod_int Try.underlying3 h0
    obtain rfl := List.cons.inj e_n0 |>.1
    obtain ⟨n1, n2, n3, e_n1, n1_h, n2_h, n3_h⟩ := op_23 h1
    simp only [List.cons.injEq, and_true] at e_n1
    obtain ⟨rfl, rfl, rfl⟩ := e_n1
    obtain ⟨n4_A, n4_c, n4_l, e_n4, n4_h⟩ := op_24 h2
    simp only [List.cons.injEq, and_true] at e_n4
    obtain rfl := e_n4
    obtain ⟨n5_A, n5_c, n5_l, e_n5, n5_h⟩ := op_25 h3
    simp only [List.cons.injEq, and_true] at e_n5
    obtain rfl := e_n5
    exact ⟨n0, n1, n2, n3, n4_A, n4_c, n4_l, n5_A, n5_c, n5_l, rfl, n0_h, n1_h, n2_h, n3_h, n4_h, n5_h⟩

set_option maxRecDepth 100000 in
theorem op_29 {H : Type} {enc : TypeId × Value → H} {w : World} {base : Nat} {spare : Nat → Bool} {held : Bool} {fuel : Nat} {cs : List Value} {x : DataW H × List MemPlace} (h : DataW.trod enc Try.prog w base spare held fuel 29 cs = some x) : ∃ (n0 : Int) (n1 : Int) (n2 : Int) (n3 : Int) (n4 : Int) (n5 : Int) (n6_A : Option Addr) (n6_c : Nat) (n6_l : List Int) (n7_A : Option Addr) (n7_c : Nat) (n7_l : List E90) (n8 : Int), cs = [.int .u8 n0, .int .i64 n1, .int .i64 n2, .int .i64 n3, .int .i64 n4, .int .i64 n5, .slice n6_A n6_l.length n6_c, .slice n7_A n7_l.length n7_c, .int .i64 n8] ∧ (Lit.int .u8 n0).wf = true ∧ (Lit.int .i64 n1).wf = true ∧ (Lit.int .i64 n2).wf = true ∧ (Lit.int .i64 n3).wf = true ∧ (Lit.int .i64 n4).wf = true ∧ (Lit.int .i64 n5).wf = true ∧ SL24 w n6_A n6_c n6_l ∧ SL25 w n7_A n7_c n7_l ∧ (Lit.int .i64 n8).wf = true := by
  obtain ⟨xs, m, _, _, hl, hxl, hg⟩ := DataW.trod_struct Try.underlying29 h
  have hl' : cs.length = 9 := hl.trans (by kernel_rfl)
  match cs, hl' with
  | [q0, q1, q2, q3, q4, q5, q6, q7, q8], _ =>
    obtain ⟨y0, hy0⟩ : ∃ y, xs[0]? = some y := ⟨xs[0]'(by rw [hxl]; decide), List.getElem?_eq_getElem _⟩
    have h0 : DataW.trod enc Try.prog w base spare held m 5 [q0] = some y0 := Eq.trans (by kernel_rfl) ((hg 0 _ rfl).trans hy0)
    obtain ⟨y1, hy1⟩ : ∃ y, xs[1]? = some y := ⟨xs[1]'(by rw [hxl]; decide), List.getElem?_eq_getElem _⟩
    have h1 : DataW.trod enc Try.prog w base spare held m 3 [q1] = some y1 := Eq.trans (by kernel_rfl) ((hg 1 _ rfl).trans hy1)
    obtain ⟨y2, hy2⟩ : ∃ y, xs[2]? = some y := ⟨xs[2]'(by rw [hxl]; decide), List.getElem?_eq_getElem _⟩
    have h2 : DataW.trod enc Try.prog w base spare held m 27 [q2, q3, q4, q5, q6, q7] = some y2 := Eq.trans (by kernel_rfl) ((hg 2 _ rfl).trans hy2)
    obtain ⟨y3, hy3⟩ : ∃ y, xs[3]? = some y := ⟨xs[3]'(by rw [hxl]; decide), List.getElem?_eq_getElem _⟩
    have h3 : DataW.trod enc Try.prog w base spare held m 3 [q8] = some y3 := Eq.trans (by kernel_rfl) ((hg 3 _ rfl).trans hy3)
    obtain ⟨n0, e_n0, _, n0_h⟩ := DataW.trod_int Try.underlying5 h0
    obtain rfl := List.cons.inj e_n0 |>.1
    obtain ⟨n1, e_n1, _, n1_h⟩ := DataW.trod_int Try.underlying3 h1
    obtain rfl := List.cons.inj e_n1 |>.1
    obtain ⟨n2, n3, n4, n5, n6_A, n6_c, n6_l, n7_A, n7_c, n7_l, e_n2, n2_h, n3_h, n4_h, n5_h, n6_h, n7_h⟩ := op_27 h2
    simp only [List.cons.injEq, and_true] at e_n2
    obtain ⟨rfl, rfl, rfl, rfl, rfl, rfl⟩ := e_n2
    obtain ⟨n8, e_n8, _, n8_h⟩ := DataW.trod_int Try.underlying3 h3
    obtain rfl := List.cons.inj e_n8 |>.1
    exact ⟨n0, n1, n2, n3, n4, n5, n6_A, n6_c, n6_l, n7_A, n7_c, n7_l, n8, rfl, n0_h, n1_h, n2_h, n3_h, n4_h, n5_h, n6_h, n7_h, n8_h⟩

set_option maxRecDepth 100000 in
theorem op_35 {H : Type} {enc : TypeId × Value → H} {w : World} {base : Nat} {spare : Nat → Bool} {held : Bool} {fuel : Nat} {cs : List Value} {x : DataW H × List MemPlace} (h : DataW.trod enc Try.prog w base spare held fuel 35 cs = some x) : ∃ (n0 : Int) (n1 : Int) (n2 : Int) (n3 : Int) (n4 : Int) (n5 : Int) (n6_A : Option Addr) (n6_c : Nat) (n6_l : List Int) (n7_A : Option Addr) (n7_c : Nat) (n7_l : List E90) (n8 : Int) (n9 : Int) (n10 : Int) (n11 : Int) (n12 : Int) (n13 : Int) (n14 : Int), cs = [.int .u8 n0, .int .i64 n1, .int .i64 n2, .int .i64 n3, .int .i64 n4, .int .i64 n5, .slice n6_A n6_l.length n6_c, .slice n7_A n7_l.length n7_c, .int .i64 n8, .int .i64 n9, .int .i64 n10, .int .i64 n11, .int .i64 n12, .int .i64 n13, .int .i64 n14] ∧ (Lit.int .u8 n0).wf = true ∧ (Lit.int .i64 n1).wf = true ∧ (Lit.int .i64 n2).wf = true ∧ (Lit.int .i64 n3).wf = true ∧ (Lit.int .i64 n4).wf = true ∧ (Lit.int .i64 n5).wf = true ∧ SL24 w n6_A n6_c n6_l ∧ SL25 w n7_A n7_c n7_l ∧ (Lit.int .i64 n8).wf = true ∧ (Lit.int .i64 n9).wf = true ∧ (Lit.int .i64 n10).wf = true ∧ (Lit.int .i64 n11).wf = true ∧ (Lit.int .i64 n12).wf = true ∧ (Lit.int .i64 n13).wf = true ∧ (Lit.int .i64 n14).wf = true := by
  obtain ⟨xs, m, _, _, hl, hxl, hg⟩ := DataW.trod_struct Try.underlying35 h
  have hl' : cs.length = 15 := hl.trans (by kernel_rfl)
  match cs, hl' with
  | [q0, q1, q2, q3, q4, q5, q6, q7, q8, q9, q10, q11, q12, q13, q14], _ =>
    obtain ⟨y0, hy0⟩ : ∃ y, xs[0]? = some y := ⟨xs[0]'(by rw [hxl]; decide), List.getElem?_eq_getElem _⟩
    have h0 : DataW.trod enc Try.prog w base spare held m 5 [q0] = some y0 := Eq.trans (by kernel_rfl) ((hg 0 _ rfl).trans hy0)
    obtain ⟨y1, hy1⟩ : ∃ y, xs[1]? = some y := ⟨xs[1]'(by rw [hxl]; decide), List.getElem?_eq_getElem _⟩
    have h1 : DataW.trod enc Try.prog w base spare held m 3 [q1] = some y1 := Eq.trans (by kernel_rfl) ((hg 1 _ rfl).trans hy1)
    obtain ⟨y2, hy2⟩ : ∃ y, xs[2]? = some y := ⟨xs[2]'(by rw [hxl]; decide), List.getElem?_eq_getElem _⟩
    have h2 : DataW.trod enc Try.prog w base spare held m 27 [q2, q3, q4, q5, q6, q7] = some y2 := Eq.trans (by kernel_rfl) ((hg 2 _ rfl).trans hy2)
    obtain ⟨y3, hy3⟩ : ∃ y, xs[3]? = some y := ⟨xs[3]'(by rw [hxl]; decide), List.getElem?_eq_getElem _⟩
    have h3 : DataW.trod enc Try.prog w base spare held m 3 [q8] = some y3 := Eq.trans (by kernel_rfl) ((hg 3 _ rfl).trans hy3)
    obtain ⟨y4, hy4⟩ : ∃ y, xs[4]? = some y := ⟨xs[4]'(by rw [hxl]; decide), List.getElem?_eq_getElem _⟩
    have h4 : DataW.trod enc Try.prog w base spare held m 3 [q9] = some y4 := Eq.trans (by kernel_rfl) ((hg 4 _ rfl).trans hy4)
    obtain ⟨y5, hy5⟩ : ∃ y, xs[5]? = some y := ⟨xs[5]'(by rw [hxl]; decide), List.getElem?_eq_getElem _⟩
    have h5 : DataW.trod enc Try.prog w base spare held m 3 [q10] = some y5 := Eq.trans (by kernel_rfl) ((hg 5 _ rfl).trans hy5)
    obtain ⟨y6, hy6⟩ : ∃ y, xs[6]? = some y := ⟨xs[6]'(by rw [hxl]; decide), List.getElem?_eq_getElem _⟩
    have h6 : DataW.trod enc Try.prog w base spare held m 3 [q11] = some y6 := Eq.trans (by kernel_rfl) ((hg 6 _ rfl).trans hy6)
    obtain ⟨y7, hy7⟩ : ∃ y, xs[7]? = some y := ⟨xs[7]'(by rw [hxl]; decide), List.getElem?_eq_getElem _⟩
    have h7 : DataW.trod enc Try.prog w base spare held m 3 [q12] = some y7 := Eq.trans (by kernel_rfl) ((hg 7 _ rfl).trans hy7)
    obtain ⟨y8, hy8⟩ : ∃ y, xs[8]? = some y := ⟨xs[8]'(by rw [hxl]; decide), List.getElem?_eq_getElem _⟩
    have h8 : DataW.trod enc Try.prog w base spare held m 3 [q13] = some y8 := Eq.trans (by kernel_rfl) ((hg 8 _ rfl).trans hy8)
    obtain ⟨y9, hy9⟩ : ∃ y, xs[9]? = some y := ⟨xs[9]'(by rw [hxl]; decide), List.getElem?_eq_getElem _⟩
    have h9 : DataW.trod enc Try.prog w base spare held m 3 [q14] = some y9 := Eq.trans (by kernel_rfl) ((hg 9 _ rfl).trans hy9)
    obtain ⟨n0, e_n0, _, n0_h⟩ := DataW.trod_int Try.underlying5 h0
    obtain rfl := List.cons.inj e_n0 |>.1
    obtain ⟨n1, e_n1, _, n1_h⟩ := DataW.trod_int Try.underlying3 h1
    obtain rfl := List.cons.inj e_n1 |>.1
    obtain ⟨n2, n3, n4, n5, n6_A, n6_c, n6_l, n7_A, n7_c, n7_l, e_n2, n2_h, n3_h, n4_h, n5_h, n6_h, n7_h⟩ := op_27 h2
    simp only [List.cons.injEq, and_true] at e_n2
    obtain ⟨rfl, rfl, rfl, rfl, rfl, rfl⟩ := e_n2
    obtain ⟨n8, e_n8, _, n8_h⟩ := DataW.trod_int Try.underlying3 h3
    obtain rfl := List.cons.inj e_n8 |>.1
    obtain ⟨n9, e_n9, _, n9_h⟩ := DataW.trod_int Try.underlying3 h4
    obtain rfl := List.cons.inj e_n9 |>.1
    obtain ⟨n10, e_n10, _, n10_h⟩ := DataW.trod_int Try.underlying3 h5
    obtain rfl := List.cons.inj e_n10 |>.1
    obtain ⟨n11, e_n11, _, n11_h⟩ := DataW.trod_int Try.underlying3 h6
    obtain rfl := List.cons.inj e_n11 |>.1
    obtain ⟨n12, e_n12, _, n12_h⟩ := DataW.trod_int Try.underlying3 h7
    obtain rfl := List.cons.inj e_n12 |>.1
    obtain ⟨n13, e_n13, _, n13_h⟩ := DataW.trod_int Try.underlying3 h8
    obtain rfl := List.cons.inj e_n13 |>.1
    obtain ⟨n14, e_n14, _, n14_h⟩ := DataW.trod_int Try.underlying3 h9
    obtain rfl := List.cons.inj e_n14 |>.1
    exact ⟨n0, n1, n2, n3, n4, n5, n6_A, n6_c, n6_l, n7_A, n7_c, n7_l, n8, n9, n10, n11, n12, n13, n14, rfl, n0_h, n1_h, n2_h, n3_h, n4_h, n5_h, n6_h, n7_h, n8_h, n9_h, n10_h, n11_h, n12_h, n13_h, n14_h⟩

end Go.Proofs.YtkhcdichdnbcmaaR

