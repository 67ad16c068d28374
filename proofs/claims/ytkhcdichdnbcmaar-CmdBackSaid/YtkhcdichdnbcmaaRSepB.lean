/- Blocks of cells as objects. -/
import Derived.Test.YtkhcdichdnbcmaaRBase
import Derived.Test.YtkhcdichdnbcmaaRSep
namespace Go.Proofs.YtkhcdichdnbcmaaR
open Go.RowKit
set_option linter.unusedVariables false

def blk (b : Nat) (cs : Array Value) (t : Nat) : HP := fun w S => w.heap[b]? = some (.cells cs t (0, 0)) ∧ S = fun k => k = b
theorem blk_loc (b : Nat) (cs : Array Value) (t : Nat) : Loc (blk b cs t) where
  keep := fun ⟨h, e⟩ k => ⟨(k b (by rw [e])).trans h, e⟩
  lt := fun ⟨h, e⟩ k => by subst e; subst k; exact vlt h
theorem St.drew {w0 w : World} {L : List HP} (h : St w0 w L) : St w0 w.drew L := h.more (Below.refl _ _).drew
theorem St.alloc {w0 w : World} {L : List HP} (h : St w0 w L) (cs : Array Value) (t : Nat) : St w0 (w.alloc (.cells cs t)) (blk w.heap.size cs t :: L) :=
  h.new (below_alloc (Below.refl _ _) _) (blk_loc _ _ _) ⟨vnew, rfl⟩ (fun i hi => by subst hi; exact Nat.le_refl _)
theorem St.setb {w0 w : World} {L : List HP} {b : Nat} {cs cs' : Array Value} {t : Nat} (h : St w0 w (Go.Proofs.YtkhcdichdnbcmaaR.blk b cs t :: L)) (j : Nat) (v : Value) (e : cs.setIfInBounds j v = cs') : St w0 (w.setCell ⟨b, j, none⟩ v) (Go.Proofs.YtkhcdichdnbcmaaR.blk b cs' t :: L) := by
  obtain ⟨S, ⟨z, rfl⟩, hh⟩ := h.one
  exact hh (Chg.setc (Chg.refl _ _) rfl) (blk_loc _ _ _) ⟨vput z e, rfl⟩ (fun k _ hk => hk)
theorem St.at0 {w0 w : World} {L : List HP} {b : Nat} {cs : Array Value} {t : Nat} (h : St w0 w (Go.Proofs.YtkhcdichdnbcmaaR.blk b cs t :: L)) : w.heap[b]? = some (.cells cs t (0, 0)) := by
  obtain ⟨S, ⟨z, -⟩⟩ := h.hd; exact z
theorem St.cells {w0 w : World} {L : List HP} {b : Nat} {cs : Array Value} {t : Nat} (h : St w0 w (Go.Proofs.YtkhcdichdnbcmaaR.blk b cs t :: L)) : ∀ j, w.cell? ⟨b, j, none⟩ = cs[j]? := vcell h.at0
theorem St.free {w0 w : World} {L : List HP} {b : Nat} {cs : Array Value} {t : Nat} (h : St w0 w (Go.Proofs.YtkhcdichdnbcmaaR.blk b cs t :: L)) : ∀ j, w.frozen? ⟨b, j, none⟩ = false := vfree h.at0
end Go.Proofs.YtkhcdichdnbcmaaR
