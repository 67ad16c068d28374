/- Arguments laid open to their cells, by a program of this session (wip/rows.py). -/

import Derived.ChangeArms

import Derived.OpenShut

import Derived.Deep.Slices

import Derived.ProofKit

import Derived.KernelRfl

import Derived.WalkKit

import Derived.Test.YtipbgeobgppagaaProg

namespace Go.Proofs.Ytipbgeobgppagaa

open Go.ChangeShapes Go.WideShapes Go.ChangeAt Go.RowKit

set_option linter.unusedVariables false

set_option linter.unusedSimpArgs false

theorem agg_of {v : Value} {l : List Value} (h : v.cells.toList = l) (hl : l.length ≠ 1) : v = .agg l.toArray := by
  cases v <;> simp [Value.cells] at h <;> first | (subst h; simp at hl; done) | (subst h; rfl)

theorem add_block (a : Addr) (n : Nat) : (a.add n).block = a.block := by unfold Addr.add; split <;> rfl

theorem one_of {v c : Value} (h : v.cells.toList = [c]) (hc : c.cells = #[c]) : v = .agg #[c] ∨ v = c := by
  cases v <;> simp [Value.cells] at h <;> first | (right; exact h) | (left; rename_i z; obtain ⟨z⟩ := z; simp at h; subst h; rfl)

def rdInt (l : List Int) (k : Nat) : Int := l.getD k 0

/-- A list that lies in memory. -/
def SL22 (w : World) (A : Option Addr) (cap : Nat) (l : List Int) : Prop := l.length ≤ cap ∧ cap ≤ maxLen ∧ (l = [] ∨ ∃ b off, A = some ⟨b, off, none⟩ ∧ b < w.heap.size ∧ ∀ k, k < l.length → w.cell? ⟨b, off + k, none⟩ = some (.int .i64 (rdInt l k)) ∧ (Lit.int .i64 (rdInt l k)).wf = true)

theorem op_22 {H : Type} {enc : TypeId × Value → H} {w : World} {base : Nat} {spare : Nat → Bool} {held : Bool} {fuel : Nat} {cs : List Value} {x : DataW H × List MemPlace} (h : DataW.trod enc Try.prog w base spare held fuel 22 cs = some x) : ∃ (A : Option Addr) (cap : Nat) (l : List Int), cs = [.slice A l.length cap] ∧ SL22 w A cap l := by
  rcases DataW.trod_slice Try.underlying22 h with ⟨rfl, _⟩ | ⟨a, len, cap, elems, rest, n, _, rfl, _, hb, hl, hm, hlen, hel, _, _⟩
  · exact ⟨none, 0, [], rfl, Nat.le_refl _, Nat.zero_le _, .inl rfl⟩
  have hK : Try.prog.cellsOf 3 = 1 := by kernel_rfl
  have hy : ∀ k, k < len → ∃ y : Int, (k = 0 → a.spot = none) ∧ a.block < w.heap.size ∧ (∀ b off, a = ⟨b, off, none⟩ → w.cell? ⟨b, off + k, none⟩ = some (.int .i64 (y)) ∧ (Lit.int .i64 (y)).wf = true) := by
    intro k hk
    have h1 := hel k hk
    rw [List.getElem?_eq_getElem (by omega), hK] at h1
    obtain ⟨ys, hys, ht⟩ := Option.bind_eq_some_iff.1 h1
    obtain ⟨_, hcl, hat⟩ := World.cells?_some hys
    obtain ⟨z0, rfl, _, z0_h⟩ := DataW.trod_int Try.underlying3 ht
    have c0 : w.cell? ((a.add (k * 1)).add 0) = some (.int .i64 z0) := by have hq := hat 0 (by omega); simpa using hq
    have hsp : k = 0 → a.spot = none := fun h0 => by subst h0; have hq := World.cell?_spot c0; simpa [Addr.add] using hq
    have hbl : a.block < w.heap.size := by have hq := World.block_lt_of_cell? w _ c0; rw [add_block, add_block] at hq; exact hq
    exact ⟨z0, hsp, hbl, fun b off ha => ⟨by have hq := c0; rw [ha] at hq; simpa [Go.WideShapes.add_plain, Nat.add_assoc] using hq, z0_h⟩⟩
  classical
  let f : Nat → Int := fun k => if hk : k < len then Classical.choose (hy k hk) else rdInt [] 0
  have hf : ∀ k, k < len → (k = 0 → a.spot = none) ∧ a.block < w.heap.size ∧ (∀ b off, a = ⟨b, off, none⟩ → w.cell? ⟨b, off + k, none⟩ = some (.int .i64 (f k)) ∧ (Lit.int .i64 (f k)).wf = true) := fun k hk => by
    have hq := Classical.choose_spec (hy k hk)
    have he : f k = Classical.choose (hy k hk) := by simp [f, hk]
    rw [he]; exact hq
  refine ⟨some a, cap, (List.range len).map f, by simp, by simpa using hl, hm, ?_⟩
  by_cases h0 : len = 0
  · left; subst h0; rfl
  right
  obtain ⟨b, off, spot⟩ := a
  obtain ⟨hsp, hbl, _⟩ := hf 0 (by omega)
  have hsp' : spot = none := hsp rfl
  subst hsp'
  refine ⟨b, off, rfl, hbl, fun k hk => ?_⟩
  have hk' : k < len := by simpa using hk
  have hr : rdInt ((List.range len).map f) k = f k := by simp [rdInt, hk']
  rw [hr]
  exact (hf k hk').2.2 b off rfl

set_option maxRecDepth 100000 in
theorem op_38 {H : Type} {enc : TypeId × Value → H} {w : World} {base : Nat} {spare : Nat → Bool} {held : Bool} {fuel : Nat} {cs : List Value} {x : DataW H × List MemPlace} (h : DataW.trod enc Try.prog w base spare held fuel 38 cs = some x) : ∃ (n0 : Int) (n1 : Int), cs = [.int .i64 n0, .int .i64 n1] ∧ (Lit.int .i64 n0).wf = true ∧ (Lit.int .i64 n1).wf = true := by
  obtain ⟨xs, m, _, _, hl, hxl, hg⟩ := DataW.trod_array Try.underlying38 h
  have hl' : cs.length = 2 := hl.trans (by kernel_rfl)
  match cs, hl' with
  | [q0, q1], _ =>
    obtain ⟨y0, hy0⟩ : ∃ y, xs[0]? = some y := ⟨xs[0]'(by rw [hxl]; decide), List.getElem?_eq_getElem _⟩
    have h0 : DataW.trod enc Try.prog w base spare held m 3 [q0] = some y0 := Eq.trans (by kernel_rfl) ((hg 0 (by omega)).trans hy0)
    obtain ⟨y1, hy1⟩ : ∃ y, xs[1]? = some y := ⟨xs[1]'(by rw [hxl]; decide), List.getElem?_eq_getElem _⟩
    have h1 : DataW.trod enc Try.prog w base spare held m 3 [q1] = some y1 := Eq.trans (by kernel_rfl) ((hg 1 (by omega)).trans hy1)
    obtain ⟨n0, e_n0, _, n0_h⟩ := DataW.trod_int Try.underlying3 h0
    obtain rfl := List.cons.inj e_n0 |>.1
    obtain ⟨n1, e_n1, _, n1_h⟩ := DataW.trod_int Try.underlying3 h1
    obtain rfl := List.cons.inj e_n1 |>.1
    exact ⟨n0, n1, rfl, n0_h, n1_h⟩

set_option maxRecDepth 100000 in
theorem op_59 {H : Type} {enc : TypeId × Value → H} {w : World} {base : Nat} {spare : Nat → Bool} {held : Bool} {fuel : Nat} {cs : List Value} {x : DataW H × List MemPlace} (h : DataW.trod enc Try.prog w base spare held fuel 59 cs = some x) : ∃ (n0 : Int) (n1 : Int) (n2 : Int) (n3 : ByteArray), cs = [.int .u8 n0, .int .i64 n1, .int .u64 n2, .string n3] ∧ (Lit.int .u8 n0).wf = true ∧ (Lit.int .i64 n1).wf = true ∧ (Lit.int .u64 n2).wf = true ∧ n3.size ≤ maxLen := by
  obtain ⟨xs, m, _, _, hl, hxl, hg⟩ := DataW.trod_struct Try.underlying59 h
  have hl' : cs.length = 4 := hl.trans (by kernel_rfl)
  match cs, hl' with
  | [q0, q1, q2, q3], _ =>
    obtain ⟨y0, hy0⟩ : ∃ y, xs[0]? = some y := ⟨xs[0]'(by rw [hxl]; decide), List.getElem?_eq_getElem _⟩
    have h0 : DataW.trod enc Try.prog w base spare held m 5 [q0] = some y0 := Eq.trans (by kernel_rfl) ((hg 0 _ rfl).trans hy0)
    obtain ⟨y1, hy1⟩ : ∃ y, xs[1]? = some y := ⟨xs[1]'(by rw [hxl]; decide), List.getElem?_eq_getElem _⟩
    have h1 : DataW.trod enc Try.prog w base spare held m 3 [q1] = some y1 := Eq.trans (by kernel_rfl) ((hg 1 _ rfl).trans hy1)
    obtain ⟨y2, hy2⟩ : ∃ y, xs[2]? = some y := ⟨xs[2]'(by rw [hxl]; decide), List.getElem?_eq_getElem _⟩
    have h2 : DataW.trod enc Try.prog w base spare held m 41 [q2] = some y2 := Eq.trans (by kernel_rfl) ((hg 2 _ rfl).trans hy2)
    obtain ⟨y3, hy3⟩ : ∃ y, xs[3]? = some y := ⟨xs[3]'(by rw [hxl]; decide), List.getElem?_eq_getElem _⟩
    have h3 : DataW.trod enc Try.prog w base spare held m 9 [q3] = some y3 := Eq.trans (by kernel_rfl) ((hg 3 _ rfl).trans hy3)
    obtain ⟨n0, e_n0, _, n0_h⟩ := DataW.trod_int Try.underlying5 h0
    obtain rfl := List.cons.inj e_n0 |>.1
    obtain ⟨n1, e_n1, _, n1_h⟩ := DataW.trod_int Try.underlying3 h1
    obtain rfl := List.cons.inj e_n1 |>.1
    obtain ⟨n2, e_n2, _, n2_h⟩ := DataW.trod_int Try.underlying41 h2
    obtain rfl := List.cons.inj e_n2 |>.1
    obtain ⟨n3, e_n3, _, n3_h⟩ := DataW.trod_string Try.underlying9 h3
    obtain rfl := List.cons.inj e_n3 |>.1
    exact ⟨n0, n1, n2, n3, rfl, n0_h, n1_h, n2_h, n3_h⟩

structure E59 where
  (f0 : Int)
  (f1 : Int)
  (f2 : Int)
  (f3 : ByteArray)

def rdE59 (l : List E59) (k : Nat) : E59 := l.getD k ⟨0, 0, 0, ByteArray.empty⟩

/-- A list that lies in memory. -/
def SL57 (w : World) (A : Option Addr) (cap : Nat) (l : List E59) : Prop := l.length ≤ cap ∧ cap ≤ maxLen ∧ (l = [] ∨ ∃ b off, A = some ⟨b, off, none⟩ ∧ b < w.heap.size ∧ ∀ k, k < l.length → w.cell? ⟨b, off + k * 4, none⟩ = some (.int .u8 (rdE59 l k).f0) ∧ (Lit.int .u8 (rdE59 l k).f0).wf = true ∧ w.cell? ⟨b, off + k * 4 + 1, none⟩ = some (.int .i64 (rdE59 l k).f1) ∧ (Lit.int .i64 (rdE59 l k).f1).wf = true ∧ w.cell? ⟨b, off + k * 4 + 2, none⟩ = some (.int .u64 (rdE59 l k).f2) ∧ (Lit.int .u64 (rdE59 l k).f2).wf = true ∧ w.cell? ⟨b, off + k * 4 + 3, none⟩ = some (.string (rdE59 l k).f3) ∧ (rdE59 l k).f3.size ≤ maxLen)

theorem op_57 {H : Type} {enc : TypeId × Value → H} {w : World} {base : Nat} {spare : Nat → Bool} {held : Bool} {fuel : Nat} {cs : List Value} {x : DataW H × List MemPlace} (h : DataW.trod enc Try.prog w base spare held fuel 57 cs = some x) : ∃ (A : Option Addr) (cap : Nat) (l : List E59), cs = [.slice A l.length cap] ∧ SL57 w A cap l := by
  rcases DataW.trod_slice Try.underlying57 h with ⟨rfl, _⟩ | ⟨a, len, cap, elems, rest, n, _, rfl, _, hb, hl, hm, hlen, hel, _, _⟩
  · exact ⟨none, 0, [], rfl, Nat.le_refl _, Nat.zero_le _, .inl rfl⟩
  have hK : Try.prog.cellsOf 59 = 4 := by kernel_rfl
  have hy : ∀ k, k < len → ∃ y : E59, (k = 0 → a.spot = none) ∧ a.block < w.heap.size ∧ (∀ b off, a = ⟨b, off, none⟩ → w.cell? ⟨b, off + k * 4, none⟩ = some (.int .u8 (y).f0) ∧ (Lit.int .u8 (y).f0).wf = true ∧ w.cell? ⟨b, off + k * 4 + 1, none⟩ = some (.int .i64 (y).f1) ∧ (Lit.int .i64 (y).f1).wf = true ∧ w.cell? ⟨b, off + k * 4 + 2, none⟩ = some (.int .u64 (y).f2) ∧ (Lit.int .u64 (y).f2).wf = true ∧ w.cell? ⟨b, off + k * 4 + 3, none⟩ = some (.string (y).f3) ∧ (y).f3.size ≤ maxLen) := by
    intro k hk
    have h1 := hel k hk
    rw [List.getElem?_eq_getElem (by omega), hK] at h1
    obtain ⟨ys, hys, ht⟩ := Option.bind_eq_some_iff.1 h1
    obtain ⟨_, hcl, hat⟩ := World.cells?_some hys
    obtain ⟨z0, z1, z2, z3, rfl, z0_h, z1_h, z2_h, z3_h⟩ := op_59 ht
    have c0 : w.cell? ((a.add (k * 4)).add 0) = some (.int .u8 z0) := by have hq := hat 0 (by omega); simpa using hq
    have c1 : w.cell? ((a.add (k * 4)).add 1) = some (.int .i64 z1) := by have hq := hat 1 (by omega); simpa using hq
    have c2 : w.cell? ((a.add (k * 4)).add 2) = some (.int .u64 z2) := by have hq := hat 2 (by omega); simpa using hq
    have c3 : w.cell? ((a.add (k * 4)).add 3) = some (.string z3) := by have hq := hat 3 (by omega); simpa using hq
    have hsp : k = 0 → a.spot = none := fun h0 => by subst h0; have hq := World.cell?_spot c0; simpa [Addr.add] using hq
    have hbl : a.block < w.heap.size := by have hq := World.block_lt_of_cell? w _ c0; rw [add_block, add_block] at hq; exact hq
    exact ⟨⟨z0, z1, z2, z3⟩, hsp, hbl, fun b off ha => ⟨by have hq := c0; rw [ha] at hq; simpa [Go.WideShapes.add_plain, Nat.add_assoc] using hq, z0_h, by have hq := c1; rw [ha] at hq; simpa [Go.WideShapes.add_plain, Nat.add_assoc] using hq, z1_h, by have hq := c2; rw [ha] at hq; simpa [Go.WideShapes.add_plain, Nat.add_assoc] using hq, z2_h, by have hq := c3; rw [ha] at hq; simpa [Go.WideShapes.add_plain, Nat.add_assoc] using hq, z3_h⟩⟩
  classical
  let f : Nat → E59 := fun k => if hk : k < len then Classical.choose (hy k hk) else rdE59 [] 0
  have hf : ∀ k, k < len → (k = 0 → a.spot = none) ∧ a.block < w.heap.size ∧ (∀ b off, a = ⟨b, off, none⟩ → w.cell? ⟨b, off + k * 4, none⟩ = some (.int .u8 (f k).f0) ∧ (Lit.int .u8 (f k).f0).wf = true ∧ w.cell? ⟨b, off + k * 4 + 1, none⟩ = some (.int .i64 (f k).f1) ∧ (Lit.int .i64 (f k).f1).wf = true ∧ w.cell? ⟨b, off + k * 4 + 2, none⟩ = some (.int .u64 (f k).f2) ∧ (Lit.int .u64 (f k).f2).wf = true ∧ w.cell? ⟨b, off + k * 4 + 3, none⟩ = some (.string (f k).f3) ∧ (f k).f3.size ≤ maxLen) := fun k hk => by
    have hq := Classical.choose_spec (hy k hk)
    have he : f k = Classical.choose (hy k hk) := by simp [f, hk]
    rw [he]; exact hq
  refine ⟨some a, cap, (List.range len).map f, by simp, by simpa using hl, hm, ?_⟩
  by_cases h0 : len = 0
  · left; subst h0; rfl
  right
  obtain ⟨b, off, spot⟩ := a
  obtain ⟨hsp, hbl, _⟩ := hf 0 (by omega)
  have hsp' : spot = none := hsp rfl
  subst hsp'
  refine ⟨b, off, rfl, hbl, fun k hk => ?_⟩
  have hk' : k < len := by simpa using hk
  have hr : rdE59 ((List.range len).map f) k = f k := by simp [rdE59, hk']
  rw [hr]
  exact (hf k hk').2.2 b off rfl

end Go.Proofs.Ytipbgeobgppagaa

