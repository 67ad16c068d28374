/- Worlds that differ at one block of the law's own. -/
import Derived.Test.YtecneikblkjgoaaBase
namespace Go.Proofs.Ytecneikblkjgoaa
open Go.RowKit
set_option linter.unusedVariables false

/-- All is as it was but for block B. -/
structure But (B : Nat) (w w' : World) : Prop where
  os : w'.os = w.os
  tape : w'.tape = w.tape
  output : w'.output = w.output
  size : w.heap.size ≤ w'.heap.size
  block : ∀ k, k ≠ B → k < w.heap.size → w'.heap[k]? = w.heap[k]?
theorem But.refl (B : Nat) (w : World) : But B w w := ⟨rfl, rfl, rfl, Nat.le_refl _, fun _ _ _ => rfl⟩
theorem But.trans {B : Nat} {a b c : World} (h : But B a b) (k : But B b c) : But B a c :=
  ⟨k.os.trans h.os, k.tape.trans h.tape, k.output.trans h.output, Nat.le_trans h.size k.size, fun i hi hs => (k.block i hi (Nat.lt_of_lt_of_le hs h.size)).trans (h.block i hi hs)⟩
theorem But.of_below {B : Nat} {w w' : World} (h : Below w.heap.size w w') : But B w w' := ⟨h.os, h.tape, h.output, h.size, fun k _ hs => h.block k hs⟩
theorem But.below {B n : Nat} {w w' : World} (h : But B w w') (hn : n ≤ B) (hs : n ≤ w.heap.size) : Below n w w' :=
  ⟨h.os, h.tape, h.output, h.size, fun k hk => h.block k (by omega) (by omega)⟩
theorem But.at {B C : Nat} {w w' : World} {o : Obj} (h : But B w w') (hne : C ≠ B) (hC : w.heap[C]? = some o) : w'.heap[C]? = some o := (h.block C hne (vlt hC)).trans hC
theorem But.cell {B : Nat} {w w' : World} (h : But B w w') {p : Addr} (hp : p.block ≠ B) (hl : p.block < w.heap.size) : w'.cell? p = w.cell? p := World.cell?_of_block (w := w) (h.block p.block hp hl)
theorem But.setc {B j : Nat} {u : Value} {w W : World} (h : But B w W) : But B w (W.setCell ⟨B, j, none⟩ u) :=
  h.trans ⟨rfl, rfl, rfl, by simp [World.setCell], fun k hk _ => Below.heap_setCell _ _ _ _ hk⟩
theorem But.drw {B : Nat} {w W : World} (h : But B w W) : But B w W.drew := ⟨h.os, h.tape, h.output, h.size, h.block⟩
/-- Behind a change at a block of the law's own, what lay below the law's own lies as it lay. -/
theorem below_but {n B : Nat} {w a b : World} (h : Below n w a) (k : But B a b) (hn : n ≤ B) (hw : n ≤ w.heap.size) : Below n w b :=
  h.trans (k.below hn (Nat.le_trans hw h.size))
theorem below_more {n : Nat} {w a b : World} (h : Below n w a) (k : Below a.heap.size a b) (hw : n ≤ w.heap.size) : Below n w b :=
  h.trans ⟨k.os, k.tape, k.output, k.size, fun i hi => k.block i (Nat.lt_of_lt_of_le hi (Nat.le_trans hw h.size))⟩
end Go.Proofs.Ytecneikblkjgoaa
