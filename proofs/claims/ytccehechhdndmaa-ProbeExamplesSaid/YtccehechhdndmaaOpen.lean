/- Arguments laid open to their cells, by a program of this session (wip/rows.py). -/

import Derived.ChangeArms

import Derived.OpenShut

import Derived.Deep.Slices

import Derived.ProofKit

import Derived.KernelRfl

import Derived.WalkKit

import Derived.Test.YtccehechhdndmaaProg

namespace Go.Proofs.Ytccehechhdndmaa

open Go.ChangeShapes Go.WideShapes Go.ChangeAt Go.RowKit

set_option linter.unusedVariables false

set_option linter.unusedSimpArgs false

theorem agg_of {v : Value} {l : List Value} (h : v.cells.toList = l) (hl : l.length ≠ 1) : v = .agg l.toArray := by
  cases v <;> simp [Value.cells] at h <;> first | (subst h; simp at hl; done) | (subst h; rfl)

theorem add_block (a : Addr) (n : Nat) : (a.add n).block = a.block := by unfold Addr.add; split <;> rfl

theorem one_of {v c : Value} (h : v.cells.toList = [c]) (hc : c.cells = #[c]) : v = .agg #[c] ∨ v = c := by
  cases v <;> simp [Value.cells] at h <;> first | (right; exact h) | (left; rename_i z; obtain ⟨z⟩ := z; simp at h; subst h; rfl)

set_option maxRecDepth 100000 in
theorem op_32 {H : Type} {enc : TypeId × Value → H} {w : World} {base : Nat} {spare : Nat → Bool} {held : Bool} {fuel : Nat} {cs : List Value} {x : DataW H × List MemPlace} (h : DataW.trod enc Try.prog w base spare held fuel 32 cs = some x) : ∃ (n0 : Int) (n1 : Int) (n2 : Int), cs = [.int .i64 n0, .int .i64 n1, .int .i64 n2] ∧ (Lit.int .i64 n0).wf = true ∧ (Lit.int .i64 n1).wf = true ∧ (Lit.int .i64 n2).wf = true := by
  obtain ⟨xs, m, _, _, hl, hxl, hg⟩ := DataW.trod_struct Try.underlying32 h
  have hl' : cs.length = 3 := hl.trans (by kernel_rfl)
  match cs, hl' with
  | [q0, q1, q2], _ =>
    obtain ⟨y0, hy0⟩ : ∃ y, xs[0]? = some y := ⟨xs[0]'(by rw [hxl]; decide), List.getElem?_eq_getElem _⟩
    have h0 : DataW.trod enc Try.prog w base spare held m 3 [q0] = some y0 := Eq.trans (by kernel_rfl) ((hg 0 _ rfl).trans hy0)
    obtain ⟨y1, hy1⟩ : ∃ y, xs[1]? = some y := ⟨xs[1]'(by rw [hxl]; decide), List.getElem?_eq_getElem _⟩
    have h1 : DataW.trod enc Try.prog w base spare held m 3 [q1] = some y1 := Eq.trans (by kernel_rfl) ((hg 1 _ rfl).trans hy1)
    obtain ⟨y2, hy2⟩ : ∃ y, xs[2]? = some y := ⟨xs[2]'(by rw [hxl]; decide), List.getElem?_eq_getElem _⟩
    have h2 : DataW.trod enc Try.prog w base spare held m 3 [q2] = some y2 := Eq.trans (by kernel_rfl) ((hg 2 _ rfl).trans hy2)
    obtain ⟨n0, e_n0, _, n0_h⟩ := DataW.trod_int Try.underlying3 h0
    obtain rfl := List.cons.inj e_n0 |>.1
    obtain ⟨n1, e_n1, _, n1_h⟩ := DataW.trod_int Try.underlying3 h1
    obtain rfl := List.cons.inj e_n1 |>.1
    obtain ⟨n2, e_n2, _, n2_h⟩ := DataW.trod_int Try.underlying3 h2
    obtain rfl := List.cons.inj e_n2 |>.1
    exact ⟨n0, n1, n2, rfl, n0_h, n1_h, n2_h⟩

structure E32 where
  (f0 : Int)
  (f1 : Int)
  (f2 : Int)

def rdE32 (l : List E32) (k : Nat) : E32 := l.getD k ⟨0, 0, 0⟩

/-- A list that lies in memory. -/
def SL37 (w : World) (A : Option Addr) (cap : Nat) (l : List E32) : Prop := l.length ≤ cap ∧ cap ≤ maxLen ∧ (l = [] ∨ ∃ b off, A = some ⟨b, off, none⟩ ∧ b < w.heap.size ∧ ∀ k, k < l.length → w.cell? ⟨b, off + k * 3, none⟩ = some (.int .i64 (rdE32 l k).f0) ∧ (Lit.int .i64 (rdE32 l k).f0).wf = true ∧ w.cell? ⟨b, off + k * 3 + 1, none⟩ = some (.int .i64 (rdE32 l k).f1) ∧ (Lit.int .i64 (rdE32 l k).f1).wf = true ∧ w.cell? ⟨b, off + k * 3 + 2, none⟩ = some (.int .i64 (rdE32 l k).f2) ∧ (Lit.int .i64 (rdE32 l k).f2).wf = true)

theorem op_37 {H : Type} {enc : TypeId × Value → H} {w : World} {base : Nat} {spare : Nat → Bool} {held : Bool} {fuel : Nat} {cs : List Value} {x : DataW H × List MemPlace} (h : DataW.trod enc Try.prog w base spare held fuel 37 cs = some x) : ∃ (A : Option Addr) (cap : Nat) (l : List E32), cs = [.slice A l.length cap] ∧ SL37 w A cap l := by
  rcases DataW.trod_slice Try.underlying37 h with ⟨rfl, _⟩ | ⟨a, len, cap, elems, rest, n, _, rfl, _, hb, hl, hm, hlen, hel, _, _⟩
  · exact ⟨none, 0, [], rfl, Nat.le_refl _, Nat.zero_le _, .inl rfl⟩
  have hK : Try.prog.cellsOf 32 = 3 := by kernel_rfl
  have hy : ∀ k, k < len → ∃ y : E32, (k = 0 → a.spot = none) ∧ a.block < w.heap.size ∧ (∀ b off, a = ⟨b, off, none⟩ → w.cell? ⟨b, off + k * 3, none⟩ = some (.int .i64 (y).f0) ∧ (Lit.int .i64 (y).f0).wf = true ∧ w.cell? ⟨b, off + k * 3 + 1, none⟩ = some (.int .i64 (y).f1) ∧ (Lit.int .i64 (y).f1).wf = true ∧ w.cell? ⟨b, off + k * 3 + 2, none⟩ = some (.int .i64 (y).f2) ∧ (Lit.int .i64 (y).f2).wf = true) := by
    intro k hk
    have h1 := hel k hk
    rw [List.getElem?_eq_getElem (by omega), hK] at h1
    obtain ⟨ys, hys, ht⟩ := Option.bind_eq_some_iff.1 h1
    obtain ⟨_, hcl, hat⟩ := World.cells?_some hys
    obtain ⟨z0, z1, z2, rfl, z0_h, z1_h, z2_h⟩ := op_32 ht
    have c0 : w.cell? ((a.add (k * 3)).add 0) = some (.int .i64 z0) := by have hq := hat 0 (by omega); simpa using hq
    have c1 : w.cell? ((a.add (k * 3)).add 1) = some (.int .i64 z1) := by have hq := hat 1 (by omega); simpa using hq
    have c2 : w.cell? ((a.add (k * 3)).add 2) = some (.int .i64 z2) := by have hq := hat 2 (by omega); simpa using hq
    have hsp : k = 0 → a.spot = none := fun h0 => by subst h0; have hq := World.cell?_spot c0; simpa [Addr.add] using hq
    have hbl : a.block < w.heap.size := by have hq := World.block_lt_of_cell? w _ c0; rw [add_block, add_block] at hq; exact hq
    exact ⟨⟨z0, z1, z2⟩, hsp, hbl, fun b off ha => ⟨by have hq := c0; rw [ha] at hq; simpa [Go.WideShapes.add_plain, Nat.add_assoc] using hq, z0_h, by have hq := c1; rw [ha] at hq; simpa [Go.WideShapes.add_plain, Nat.add_assoc] using hq, z1_h, by have hq := c2; rw [ha] at hq; simpa [Go.WideShapes.add_plain, Nat.add_assoc] using hq, z2_h⟩⟩
  classical
  let f : Nat → E32 := fun k => if hk : k < len then Classical.choose (hy k hk) else rdE32 [] 0
  have hf : ∀ k, k < len → (k = 0 → a.spot = none) ∧ a.block < w.heap.size ∧ (∀ b off, a = ⟨b, off, none⟩ → w.cell? ⟨b, off + k * 3, none⟩ = some (.int .i64 (f k).f0) ∧ (Lit.int .i64 (f k).f0).wf = true ∧ w.cell? ⟨b, off + k * 3 + 1, none⟩ = some (.int .i64 (f k).f1) ∧ (Lit.int .i64 (f k).f1).wf = true ∧ w.cell? ⟨b, off + k * 3 + 2, none⟩ = some (.int .i64 (f k).f2) ∧ (Lit.int .i64 (f k).f2).wf = true) := fun k hk => by
    have hq := Classical.choose_spec (hy k hk)
    have he : f k = Classical.choose (hy k hk) := by simp [f, hk]
    rw [he]; exact hq
  refine ⟨some a, cap, (List.range len).map f, by simp, by simpa using hl, hm, ?_⟩
  by_cases h0 : len = 0
  · left; subst h0; rfl
  right
  obtain ⟨b, off, spot⟩ := a
  obtain ⟨hsp, hbl, _⟩ := hf 0 (by omega)
  have hsp' : spot = none := hsp rfl
  subst hsp'
  refine ⟨b, off, rfl, hbl, fun k hk => ?_⟩
  have hk' : k < len := by simpa using hk
  have hr : rdE32 ((List.range len).map f) k = f k := by simp [rdE32, hk']
  rw [hr]
  exact (hf k hk').2.2 b off rfl

set_option maxRecDepth 100000 in
theorem op_39 {H : Type} {enc : TypeId × Value → H} {w : World} {base : Nat} {spare : Nat → Bool} {held : Bool} {fuel : Nat} {cs : List Value} {x : DataW H × List MemPlace} (h : DataW.trod enc Try.prog w base spare held fuel 39 cs = some x) : ∃ (n0 : Int) (n1 : Int) (n2 : Int) (n3 : Bool) (n4 : Bool) (n5_A : Option Addr) (n5_c : Nat) (n5_l : List E32), cs = [.int .i64 n0, .int .i64 n1, .int .i64 n2, .bool n3, .bool n4, .slice n5_A n5_l.length n5_c] ∧ (Lit.int .i64 n0).wf = true ∧ (Lit.int .i64 n1).wf = true ∧ (Lit.int .i64 n2).wf = true ∧ SL37 w n5_A n5_c n5_l := by
  obtain ⟨xs, m, _, _, hl, hxl, hg⟩ := DataW.trod_struct Try.underlying39 h
  have hl' : cs.length = 6 := hl.trans (by kernel_rfl)
  match cs, hl' with
  | [q0, q1, q2, q3, q4, q5], _ =>
    obtain ⟨y0, hy0⟩ : ∃ y, xs[0]? = some y := ⟨xs[0]'(by rw [hxl]; decide), List.getElem?_eq_getElem _⟩
    have h0 : DataW.trod enc Try.prog w base spare held m 32 [q0, q1, q2] = some y0 := Eq.trans (by kernel_rfl) ((hg 0 _ rfl).trans hy0)
    obtain ⟨y1, hy1⟩ : ∃ y, xs[1]? = some y := ⟨xs[1]'(by rw [hxl]; decide), List.getElem?_eq_getElem _⟩
    have h1 : DataW.trod enc Try.prog w base spare held m 4 [q3] = some y1 := Eq.trans (by kernel_rfl) ((hg 1 _ rfl).trans hy1)
    obtain ⟨y2, hy2⟩ : ∃ y, xs[2]? = some y := ⟨xs[2]'(by rw [hxl]; decide), List.getElem?_eq_getElem _⟩
    have h2 : DataW.trod enc Try.prog w base spare held m 4 [q4] = some y2 := Eq.trans (by kernel_rfl) ((hg 2 _ rfl).trans hy2)
    obtain ⟨y3, hy3⟩ : ∃ y, xs[3]? = some y := ⟨xs[3]'(by rw [hxl]; decide), List.getElem?_eq_getElem _⟩
    have h3 : DataW.trod enc Try.prog w base spare held m 37 [q5] = some y3 := Eq.trans (by kernel_rfl) ((hg 3 _ rfl).trans hy3)
    obtain ⟨n0, n1, n2, e_n0, n0_h, n1_h, n2_h⟩ := op_32 h0
    simp only [List.cons.injEq, and_true] at e_n0
    obtain ⟨rfl, rfl, rfl⟩ := e_n0
    obtain ⟨n3, e_n3, _⟩ := DataW.trod_bool Try.underlying4 h1
    obtain rfl := List.cons.inj e_n3 |>.1
    obtain ⟨n4, e_n4, _⟩ := DataW.trod_bool Try.underlying4 h2
    obtain rfl := List.cons.inj e_n4 |>.1
    obtain ⟨n5_A, n5_c, n5_l, e_n5, n5_h⟩ := op_37 h3
    simp only [List.cons.injEq, and_true] at e_n5
    obtain rfl := e_n5
    exact ⟨n0, n1, n2, n3, n4, n5_A, n5_c, n5_l, rfl, n0_h, n1_h, n2_h, n5_h⟩

structure E39 where
  (f0 : Int)
  (f1 : Int)
  (f2 : Int)
  (f3 : Bool)
  (f4 : Bool)
  (A5 : Option Addr)
  (c5 : Nat)
  (l5 : List E32)

def rdE39 (l : List E39) (k : Nat) : E39 := l.getD k ⟨0, 0, 0, false, false, none, 0, []⟩

/-- A list that lies in memory. -/
def SL30 (w : World) (A : Option Addr) (cap : Nat) (l : List E39) : Prop := l.length ≤ cap ∧ cap ≤ maxLen ∧ (l = [] ∨ ∃ b off, A = some ⟨b, off, none⟩ ∧ b < w.heap.size ∧ ∀ k, k < l.length → w.cell? ⟨b, off + k * 6, none⟩ = some (.int .i64 (rdE39 l k).f0) ∧ (Lit.int .i64 (rdE39 l k).f0).wf = true ∧ w.cell? ⟨b, off + k * 6 + 1, none⟩ = some (.int .i64 (rdE39 l k).f1) ∧ (Lit.int .i64 (rdE39 l k).f1).wf = true ∧ w.cell? ⟨b, off + k * 6 + 2, none⟩ = some (.int .i64 (rdE39 l k).f2) ∧ (Lit.int .i64 (rdE39 l k).f2).wf = true ∧ w.cell? ⟨b, off + k * 6 + 3, none⟩ = some (.bool (rdE39 l k).f3) ∧ w.cell? ⟨b, off + k * 6 + 4, none⟩ = some (.bool (rdE39 l k).f4) ∧ w.cell? ⟨b, off + k * 6 + 5, none⟩ = some (.slice (rdE39 l k).A5 (rdE39 l k).l5.length (rdE39 l k).c5) ∧ SL37 w (rdE39 l k).A5 (rdE39 l k).c5 (rdE39 l k).l5)

theorem op_30 {H : Type} {enc : TypeId × Value → H} {w : World} {base : Nat} {spare : Nat → Bool} {held : Bool} {fuel : Nat} {cs : List Value} {x : DataW H × List MemPlace} (h : DataW.trod enc Try.prog w base spare held fuel 30 cs = some x) : ∃ (A : Option Addr) (cap : Nat) (l : List E39), cs = [.slice A l.length cap] ∧ SL30 w A cap l := by
  rcases DataW.trod_slice Try.underlying30 h with ⟨rfl, _⟩ | ⟨a, len, cap, elems, rest, n, _, rfl, _, hb, hl, hm, hlen, hel, _, _⟩
  · exact ⟨none, 0, [], rfl, Nat.le_refl _, Nat.zero_le _, .inl rfl⟩
  have hK : Try.prog.cellsOf 39 = 6 := by kernel_rfl
  have hy : ∀ k, k < len → ∃ y : E39, (k = 0 → a.spot = none) ∧ a.block < w.heap.size ∧ (∀ b off, a = ⟨b, off, none⟩ → w.cell? ⟨b, off + k * 6, none⟩ = some (.int .i64 (y).f0) ∧ (Lit.int .i64 (y).f0).wf = true ∧ w.cell? ⟨b, off + k * 6 + 1, none⟩ = some (.int .i64 (y).f1) ∧ (Lit.int .i64 (y).f1).wf = true ∧ w.cell? ⟨b, off + k * 6 + 2, none⟩ = some (.int .i64 (y).f2) ∧ (Lit.int .i64 (y).f2).wf = true ∧ w.cell? ⟨b, off + k * 6 + 3, none⟩ = some (.bool (y).f3) ∧ w.cell? ⟨b, off + k * 6 + 4, none⟩ = some (.bool (y).f4) ∧ w.cell? ⟨b, off + k * 6 + 5, none⟩ = some (.slice (y).A5 (y).l5.length (y).c5) ∧ SL37 w (y).A5 (y).c5 (y).l5) := by
    intro k hk
    have h1 := hel k hk
    rw [List.getElem?_eq_getElem (by omega), hK] at h1
    obtain ⟨ys, hys, ht⟩ := Option.bind_eq_some_iff.1 h1
    obtain ⟨_, hcl, hat⟩ := World.cells?_some hys
    obtain ⟨z0, z1, z2, z3, z4, z5_A, z5_c, z5_l, rfl, z0_h, z1_h, z2_h, z5_h⟩ := op_39 ht
    have c0 : w.cell? ((a.add (k * 6)).add 0) = some (.int .i64 z0) := by have hq := hat 0 (by omega); simpa using hq
    have c1 : w.cell? ((a.add (k * 6)).add 1) = some (.int .i64 z1) := by have hq := hat 1 (by omega); simpa using hq
    have c2 : w.cell? ((a.add (k * 6)).add 2) = some (.int .i64 z2) := by have hq := hat 2 (by omega); simpa using hq
    have c3 : w.cell? ((a.add (k * 6)).add 3) = some (.bool z3) := by have hq := hat 3 (by omega); simpa using hq
    have c4 : w.cell? ((a.add (k * 6)).add 4) = some (.bool z4) := by have hq := hat 4 (by omega); simpa using hq
    have c5 : w.cell? ((a.add (k * 6)).add 5) = some (.slice z5_A z5_l.length z5_c) := by have hq := hat 5 (by omega); simpa using hq
    have hsp : k = 0 → a.spot = none := fun h0 => by subst h0; have hq := World.cell?_spot c0; simpa [Addr.add] using hq
    have hbl : a.block < w.heap.size := by have hq := World.block_lt_of_cell? w _ c0; rw [add_block, add_block] at hq; exact hq
    exact ⟨⟨z0, z1, z2, z3, z4, z5_A, z5_c, z5_l⟩, hsp, hbl, fun b off ha => ⟨by have hq := c0; rw [ha] at hq; simpa [Go.WideShapes.add_plain, Nat.add_assoc] using hq, z0_h, by have hq := c1; rw [ha] at hq; simpa [Go.WideShapes.add_plain, Nat.add_assoc] using hq, z1_h, by have hq := c2; rw [ha] at hq; simpa [Go.WideShapes.add_plain, Nat.add_assoc] using hq, z2_h, by have hq := c3; rw [ha] at hq; simpa [Go.WideShapes.add_plain, Nat.add_assoc] using hq, by have hq := c4; rw [ha] at hq; simpa [Go.WideShapes.add_plain, Nat.add_assoc] using hq, by have hq := c5; rw [ha] at hq; simpa [Go.WideShapes.add_plain, Nat.add_assoc] using hq, z5_h⟩⟩
  classical
  let f : Nat → E39 := fun k => if hk : k < len then Classical.choose (hy k hk) else rdE39 [] 0
  have hf : ∀ k, k < len → (k = 0 → a.spot = none) ∧ a.block < w.heap.size ∧ (∀ b off, a = ⟨b, off, none⟩ → w.cell? ⟨b, off + k * 6, none⟩ = some (.int .i64 (f k).f0) ∧ (Lit.int .i64 (f k).f0).wf = true ∧ w.cell? ⟨b, off + k * 6 + 1, none⟩ = some (.int .i64 (f k).f1) ∧ (Lit.int .i64 (f k).f1).wf = true ∧ w.cell? ⟨b, off + k * 6 + 2, none⟩ = some (.int .i64 (f k).f2) ∧ (Lit.int .i64 (f k).f2).wf = true ∧ w.cell? ⟨b, off + k * 6 + 3, none⟩ = some (.bool (f k).f3) ∧ w.cell? ⟨b, off + k * 6 + 4, none⟩ = some (.bool (f k).f4) ∧ w.cell? ⟨b, off + k * 6 + 5, none⟩ = some (.slice (f k).A5 (f k).l5.length (f k).c5) ∧ SL37 w (f k).A5 (f k).c5 (f k).l5) := fun k hk => by
    have hq := Classical.choose_spec (hy k hk)
    have he : f k = Classical.choose (hy k hk) := by simp [f, hk]
    rw [he]; exact hq
  refine ⟨some a, cap, (List.range len).map f, by simp, by simpa using hl, hm, ?_⟩
  by_cases h0 : len = 0
  · left; subst h0; rfl
  right
  obtain ⟨b, off, spot⟩ := a
  obtain ⟨hsp, hbl, _⟩ := hf 0 (by omega)
  have hsp' : spot = none := hsp rfl
  subst hsp'
  refine ⟨b, off, rfl, hbl, fun k hk => ?_⟩
  have hk' : k < len := by simpa using hk
  have hr : rdE39 ((List.range len).map f) k = f k := by simp [rdE39, hk']
  rw [hr]
  exact (hf k hk').2.2 b off rfl

end Go.Proofs.Ytccehechhdndmaa

