/- Common lemmas of the walks: worlds above a world, small closers. -/
import Derived.Handy
import Derived.KernelRfl
import Derived.BigQuiet
import Derived.Below
import Derived.Lib.Hide
import Derived.Deep.RegionHeld3
import Derived.Deep.DeepCutAuto
import Derived.Deep.CutBlock
namespace Go.Proofs.Ytipbgeobgppagaa
open Go.RowKit

/-- What lies above `W` lies above every world that lies below it. -/
theorem below_then {w W w2 : World} (h : Below w.heap.size w W) (k : Below W.heap.size W w2) : Below w.heap.size w w2 :=
  h.trans ⟨k.os, k.tape, k.output, k.size, fun i hi => k.block i (Nat.lt_of_lt_of_le hi h.size)⟩
theorem below_alloc {w W : World} (h : Below w.heap.size w W) (o : Obj) : Below w.heap.size w (W.alloc o) := h.alloc h.size o
theorem below_drewN {w W : World} (h : Below w.heap.size w W) (n : Nat) : Below w.heap.size w (W.drewN n) :=
  ⟨h.os, h.tape, h.output, h.size, h.block⟩
theorem bcell {W w1 : World} (hb : Below W.heap.size W w1) : (∀ b o, b < W.heap.size → w1.cell? ⟨b, o, none⟩ = W.cell? ⟨b, o, none⟩) ∧ (∀ b o, b < W.heap.size → w1.frozen? ⟨b, o, none⟩ = W.frozen? ⟨b, o, none⟩) :=
  ⟨fun b o h => hb.cell (p := ⟨b, o, none⟩) h, fun b o h => hb.frozen (p := ⟨b, o, none⟩) h⟩

/-- A world above `w`: `x` where it is one, else `w` itself. -/
noncomputable def _root_.Go.World.up (w x : World) : World := by
  classical exact if Below w.heap.size w x then x else w
theorem up_below (w x : World) : Below w.heap.size w (w.up x) := by
  unfold World.up
  split
  · assumption
  · exact Below.refl _ _
theorem up_of {w x : World} (h : Below w.heap.size w x) : ∃ y, x = w.up y := ⟨x, by unfold World.up; rw [if_pos h]⟩
theorem up_ex {w x : World} (h : ∃ y, x = w.up y) : Below w.heap.size w x := by obtain ⟨y, rfl⟩ := h; exact up_below _ _
theorem up_cell (w x : World) (a : Addr) (h : a.block < w.heap.size) : (w.up x).cell? a = w.cell? a := (up_below w x).cell h
theorem up_frozen (w x : World) (a : Addr) (h : a.block < w.heap.size) : (w.up x).frozen? a = w.frozen? a := (up_below w x).frozen h
theorem wp_region_up_lit {P : Program} {id : Nat} {Q : Exit → Act → World → Prop} {a : Act} {w : World} {l : List Oper} (hm : P.follows .mixedOrders = true) (hB : Region.lexB .any l.toArray = true)
    (h : wpQuiet P l.toArray (fun w' => ∃ x, w' = w.up x) (fun a' => ∀ w', (∃ x, w' = w.up x) → Q .normal a' w') l a) : (Code.region id l.toArray true).wp P Q a w :=
  wp_region_quiet (C := fun w' => ∃ x, w' = w.up x) hm hB (up_of (Below.refl _ w).drew) (by simpa using h)
theorem calls_up {P : Program} {f : FuncId} {args : Array Value} {w x : World} {v : Value}
    (h : Calls P f args (w.up x) fun e w' => e = .returned v ∧ Below (w.up x).heap.size (w.up x) w') : Calls P f args (w.up x) fun e w'' => e = .returned v ∧ ∃ y, w'' = w.up y :=
  h.mono fun _ _ ⟨he, hb⟩ => ⟨he, up_of (below_then (up_below w x) hb)⟩
theorem calls_same {P : Program} {f : FuncId} {args : Array Value} {w x : World} {v : Value}
    (h : Calls P f args (w.up x) fun e w' => e = .returned v ∧ w' = w.up x) : Calls P f args (w.up x) fun e w'' => e = .returned v ∧ ∃ y, w'' = w.up y :=
  h.mono fun _ _ ⟨he, hb⟩ => ⟨he, x, hb⟩
theorem ret_int {k : IntKind} {a b : Int} (h : a = b) : Ending.returned (.int k a) = .returned (.int k b) := by rw [h]
theorem ret_bool {a b : Bool} (h : a = b) : Ending.returned (.bool a) = .returned (.bool b) := by rw [h]

/-! Blocks of cells of the call's own. -/
section
variable {W W1 : World} {B : Nat} {t : TypeId} {C C' : Array Value}
theorem vlt {o : Obj} (h : W.heap[B]? = some o) : B < W.heap.size := (Array.getElem?_eq_some_iff.1 h).1
theorem vcell (h : W.heap[B]? = some (.cells C t (0, 0))) : ∀ j, W.cell? ⟨B, j, none⟩ = C[j]? := fun j => by simp [World.cell?, h]
theorem vfree (h : W.heap[B]? = some (.cells C t (0, 0))) : ∀ j, W.frozen? ⟨B, j, none⟩ = false := fun j => by simp [World.frozen?, h]
theorem vput {j : Nat} {u : Value} (h : W.heap[B]? = some (.cells C t (0, 0))) (e : C.setIfInBounds j u = C') : (W.setCell ⟨B, j, none⟩ u).heap[B]? = some (.cells C' t (0, 0)) := by
  subst e
  simp [World.setCell, Array.getElem?_modify, h]
theorem vfar {p : Addr} {o : Obj} {u : Value} (h : W.heap[B]? = some o) (hp : B ≠ p.block) : (W.setCell p u).heap[B]? = some o := (Below.heap_setCell W p u B hp).trans h
theorem vfarr {p : Addr} {o : Obj} {u : Value} (hp : B ≠ p.block) (h : W.heap[B]? = some o) : (W.setCell p u).heap[B]? = some o := vfar h hp
theorem valloc {o o' : Obj} (h : W.heap[B]? = some o) : (W.alloc o').heap[B]? = some o := (Below.heap_alloc W o' B (vlt h)).trans h
theorem vnew {o : Obj} : (W.alloc o).heap[W.heap.size]? = some o := by simp only [World.alloc]; exact Array.getElem?_push_size
theorem vnewAt (h : B = W.heap.size) : (W.alloc (.cells C t)).heap[B]? = some (.cells C t (0, 0)) := by subst h; exact vnew
theorem vbelow {o : Obj} (h : W.heap[B]? = some o) (hb : Below W.heap.size W W1) : W1.heap[B]? = some o := (hb.block B (vlt h)).trans h
theorem vdrew {o : Obj} (h : W.heap[B]? = some o) : W.drew.heap[B]? = some o := h
end
end Go.Proofs.Ytipbgeobgppagaa
