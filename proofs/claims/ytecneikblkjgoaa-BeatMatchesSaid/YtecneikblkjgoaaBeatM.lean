/- More of the state of a law's memory: a block, a row that is written. -/
import Derived.Test.YtecneikblkjgoaaBase
import Derived.Test.YtecneikblkjgoaaBeatS
import Derived.Test.YtecneikblkjgoaaBeatL
import Derived.Test.YtecneikblkjgoaaBeatG
import Derived.Test.YtecneikblkjgoaaOpen
import Derived.Test.YtecneikblkjgoaaProg
import Derived.Lib.Hide
import Derived.Deep.RegionWith
namespace Go.Proofs.Ytecneikblkjgoaa
open Go.RowKit Go.Proofs.YtecneikblkjgoaaW.PrintWords Go.Proofs.YtecneikblkjgoaaW.PrintLast Go.Proofs.YtecneikblkjgoaaW.PrintMore
set_option linter.unusedSimpArgs false
set_option linter.unusedVariables false

def blk (b : Nat) (cs : Array Value) (t : Nat) : HP := fun w S => w.heap[b]? = some (.cells cs t (0, 0)) ∧ S = fun k => k = b
theorem blk_loc (b : Nat) (cs : Array Value) (t : Nat) : Loc (blk b cs t) where
  keep := fun ⟨h, e⟩ k => ⟨(k b (by rw [e])).trans h, e⟩
  lt := fun ⟨h, e⟩ k => by subst e; subst k; exact vlt h
theorem St.drew {w0 w : World} {L : List HP} (h : St w0 w L) : St w0 w.drew L := h.more (Below.refl _ _).drew
theorem St.blk {w0 w : World} {L : List HP} (h : St w0 w L) (cs : Array Value) (t : Nat) : St w0 (w.alloc (.cells cs t)) (blk w.heap.size cs t :: L) :=
  h.new (below_alloc (Below.refl _ _) _) (blk_loc _ _ _) ⟨vnew, rfl⟩ (fun i hi => by subst hi; exact Nat.le_refl _)
theorem St.rfz {w0 w : World} {L : List HP} (h : St w0 w L) : St w0 (w.alloc (.cells #[.bool false, .bool false, .int .i64 0] 40)) (rf w.heap.size 0 0 :: L) :=
  h.new (below_alloc (Below.refl _ _) _) (rf_loc _ _ _) ⟨⟨false, 0, vnew, Or.inl ⟨rfl, rfl⟩⟩, rfl⟩ (fun i hi => by subst hi; exact Nat.le_refl _)
theorem St.setb {w0 w : World} {L : List HP} {b : Nat} {cs cs' : Array Value} {t : Nat} (h : St w0 w (Go.Proofs.Ytecneikblkjgoaa.blk b cs t :: L)) (j : Nat) (v : Value) (e : cs.setIfInBounds j v = cs') : St w0 (w.setCell ⟨b, j, none⟩ v) (Go.Proofs.Ytecneikblkjgoaa.blk b cs' t :: L) := by
  obtain ⟨S, ⟨z, rfl⟩, hh⟩ := h.one
  exact hh (Chg.setc (Chg.refl _ _) rfl) (blk_loc _ _ _) ⟨vput z e, rfl⟩ (fun k _ hk => hk)
theorem St.cells {w0 w : World} {L : List HP} {b : Nat} {cs : Array Value} {t : Nat} (h : St w0 w (Go.Proofs.Ytecneikblkjgoaa.blk b cs t :: L)) : ∀ j, w.cell? ⟨b, j, none⟩ = cs[j]? := by
  obtain ⟨S, ⟨z, -⟩⟩ := h.hd; exact vcell z
theorem St.rdead {w0 w : World} {L : List HP} {b : Nat} {s l : Int} (h : St w0 w (rf b s l :: L)) : w.cell? ⟨b, 1, none⟩ = some (.bool (s == 2)) := by
  obtain ⟨S, ⟨⟨ar, le, z, r⟩, -⟩⟩ := h.hd; exact vcell z 1
/-- A store into a row. -/
theorem St.rowset {w0 w : World} {L : List HP} {A : Option Addr} {n c : Nat} {xs : List Int} (h : St w0 w (row (.slice A n c) xs :: L)) (hn : n = xs.length) (k : Nat) (hk : k < n) (p : Int) :
    ∃ b, A = some ⟨b, 0, none⟩ ∧ (w.cell? ⟨b, k, none⟩).isSome = true ∧ w.frozen? ⟨b, k, none⟩ = false ∧ St w0 (w.setCell ⟨b, k, none⟩ (.int .i64 p)) (row (.slice A n c) (xs.set k p) :: L) := by
  subst hn
  obtain ⟨S, ⟨hR, rfl⟩, hh⟩ := h.one
  have ho := Kd.own_of_R hR
  rcases ho.2 with ⟨e, _⟩ | ⟨g, cap, cur, e, hg, hh', r⟩
  · injection e with e1 e2 e3; omega
  · injection e with e1 e2 e3
    subst e1; subst e3
    refine ⟨g, rfl, ?_, ho.frozenAt k, ?_⟩
    · rw [ho.cellAt k (by omega)]
      simp [encs, hk]
    · obtain ⟨hs, hg2⟩ := ho.stored k (.int .i64 p)
      refine hh (Chg.of_grown hg2 (fun q hq => by injection hq with hq; subst hq; rfl)) (row_loc _ _) ⟨Kd.R_of_own ?_ (fun _ _ => trivial), rfl⟩ (fun _ _ q => q)
      have e2 : encs (Value.int .i64) (xs.set k p) = (encs (Value.int .i64) xs).set k (.int .i64 p) := by simp [encs, List.map_set]
      rw [e2, List.length_set]; exact hs
end Go.Proofs.Ytecneikblkjgoaa
