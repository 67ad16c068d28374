/- Arguments laid open to their cells, by a program of this session (wip/rows.py). -/

import Derived.ChangeArms

import Derived.OpenShut

import Derived.Deep.Slices

import Derived.ProofKit

import Derived.KernelRfl

import Derived.WalkKit

import Derived.Test.YtipbgeobgppagaaProg

namespace Go.Proofs.Ytipbgeobgppagaa

open Go.ChangeShapes Go.WideShapes Go.ChangeAt Go.RowKit

set_option linter.unusedVariables false

set_option linter.unusedSimpArgs false

theorem agg_of {v : Value} {l : List Value} (h : v.cells.toList = l) (hl : l.length ≠ 1) : v = .agg l.toArray := by
  cases v <;> simp [Value.cells] at h <;> first | (subst h; simp at hl; done) | (subst h; rfl)

theorem add_block (a : Addr) (n : Nat) : (a.add n).block = a.block := by unfold Addr.add; split <;> rfl

theorem one_of {v c : Value} (h : v.cells.toList = [c]) (hc : c.cells = #[c]) : v = .agg #[c] ∨ v = c := by
  cases v <;> simp [Value.cells] at h <;> first | (right; exact h) | (left; rename_i z; obtain ⟨z⟩ := z; simp at h; subst h; rfl)

def rdInt (l : List Int) (k : Nat) : Int := l.getD k 0

/-- A list that lies in memory. -/
def SL22 (w : World) (A : Option Addr) (cap : Nat) (l : List Int) : Prop := l.length ≤ cap ∧ cap ≤ maxLen ∧ (l = [] ∨ ∃ b off, A = some ⟨b, off, none⟩ ∧ b < w.heap.size ∧ ∀ k, k < l.length → w.cell? ⟨b, off + k, none⟩ = some (.int .i64 (rdInt l k)) ∧ (Lit.int .i64 (rdInt l k)).wf = true)

theorem op_22 {H : Type} {enc : TypeId × Value → H} {w : World} {base : Nat} {spare : Nat → Bool} {held : Bool} {fuel : Nat} {cs : List Value} {x : DataW H × List MemPlace} (h : DataW.trod enc Try.prog w base spare held fuel 22 cs = some x) : ∃ (A : Option Addr) (cap : Nat) (l : List Int), cs = [.slice A l.length cap] ∧ SL22 w A cap l := by
  rcases DataW.trod_slice Try.underlying22 h with ⟨rfl, _⟩ | ⟨a, len, cap, elems, rest, n, _, rfl, _, hb, hl, hm, hlen, hel, _, _⟩
  · exact ⟨none, 0, [], rfl, Nat.le_refl _, Nat.zero_le _, .inl rfl⟩
  have hK : Try.prog.cellsOf 3 = 1 := by kernel_rfl
  have hy : ∀ k, k < len → ∃ y : Int, (k = 0 → a.spot = none) ∧ a.block < w.heap.size ∧ (∀ b off, a = ⟨b, off, none⟩ → w.cell? ⟨b, off + k, none⟩ = some (.int .i64 (y)) ∧ (Lit.int .i64 (y)).wf = true) := by
    intro k hk
    have h1 := hel k hk
    rw [List.getElem?_eq_getElem (by omega), hK] at h1
    obtain ⟨ys, hys, ht⟩ := Option.bind_eq_some_iff.1 h1
    obtain ⟨_, hcl, hat⟩ := World.cells?_some hys
    obtain ⟨z0, rfl, _, z0_h⟩ := DataW.trod_int Try.underlying3 ht
    have c0 : w.cell? ((a.add (k * 1)).add 0) = some (.int .i64 z0) := by have hq := hat 0 (by omega); simpa using hq
    have hsp : k = 0 → a.spot = none := fun h0 => by subst h0; have hq := World.cell?_spot c0; simpa [Addr.add] using hq
    have hbl : a.block < w.heap.size := by have hq := World.block_lt_of_cell? w _ c0; rw [add_block, add_block] at hq; exact hq
    exact ⟨z0, hsp, hbl, fun b off ha => ⟨by have hq := c0; rw [ha] at hq; simpa [Go.WideShapes.add_plain, Nat.add_assoc] using hq, z0_h⟩⟩
  classical
  let f : Nat → Int := fun k => if hk : k < len then Classical.choose (hy k hk) else rdInt [] 0
  have hf : ∀ k, k < len → (k = 0 → a.spot = none) ∧ a.block < w.heap.size ∧ (∀ b off, a = ⟨b, off, none⟩ → w.cell? ⟨b, off + k, none⟩ = some (.int .i64 (f k)) ∧ (Lit.int .i64 (f k)).wf = true) := fun k hk => by
    have hq := Classical.choose_spec (hy k hk)
    have he : f k = Classical.choose (hy k hk) := by simp [f, hk]
    rw [he]; exact hq
  refine ⟨some a, cap, (List.range len).map f, by simp, by simpa using hl, hm, ?_⟩
  by_cases h0 : len = 0
  · left; subst h0; rfl
  right
  obtain ⟨b, off, spot⟩ := a
  obtain ⟨hsp, hbl, _⟩ := hf 0 (by omega)
  have hsp' : spot = none := hsp rfl
  subst hsp'
  refine ⟨b, off, rfl, hbl, fun k hk => ?_⟩
  have hk' : k < len := by simpa using hk
  have hr : rdInt ((List.range len).map f) k = f k := by simp [rdInt, hk']
  rw [hr]
  exact (hf k hk').2.2 b off rfl

set_option maxRecDepth 100000 in
theorem op_38 {H : Type} {enc : TypeId × Value → H} {w : World} {base : Nat} {spare : Nat → Bool} {held : Bool} {fuel : Nat} {cs : List Value} {x : DataW H × List MemPlace} (h : DataW.trod enc Try.prog w base spare held fuel 38 cs = some x) : ∃ (n0 : Int) (n1 : Int), cs = [.int .i64 n0, .int .i64 n1] ∧ (Lit.int .i64 n0).wf = true ∧ (Lit.int .i64 n1).wf = true := by
  obtain ⟨xs, m, _, _, hl, hxl, hg⟩ := DataW.trod_array Try.underlying38 h
  have hl' : cs.length = 2 := hl.trans (by kernel_rfl)
  match cs, hl' with
  | [q0, q1], _ =>
    obtain ⟨y0, hy0⟩ : ∃ y, xs[0]? = some y := ⟨xs[0]'(by rw [hxl]; decide), List.getElem?_eq_getElem _⟩
    have h0 : DataW.trod enc Try.prog w base spare held m 3 [q0] = some y0 := Eq.trans (by kernel_rfl) ((hg 0 (by omega)).trans hy0)
    obtain ⟨y1, hy1⟩ : ∃ y, xs[1]? = some y := ⟨xs[1]'(by rw [hxl]; decide), List.getElem?_eq_getElem _⟩
    have h1 : DataW.trod enc Try.prog w base spare held m 3 [q1] = some y1 := Eq.trans (by kernel_rfl) ((hg 1 (by omega)).trans hy1)
    obtain ⟨n0, e_n0, _, n0_h⟩ := DataW.trod_int Try.underlying3 h0
    obtain rfl := List.cons.inj e_n0 |>.1
    obtain ⟨n1, e_n1, _, n1_h⟩ := DataW.trod_int Try.underlying3 h1
    obtain rfl := List.cons.inj e_n1 |>.1
    exact ⟨n0, n1, rfl, n0_h, n1_h⟩

end Go.Proofs.Ytipbgeobgppagaa

