/- Rows of whole numbers of the law's own, as objects. -/
import Derived.Test.YtipbgeobgppagaaBase
import Derived.Test.YtipbgeobgppagaaSep
import Derived.Test.YtipbgeobgppagaaSepB
import Derived.Test.YtipbgeobgppagaaWWords
import Derived.Test.YtipbgeobgppagaaWLast
import Derived.Test.YtipbgeobgppagaaWMore
namespace Go.Proofs.Ytipbgeobgppagaa
open Go.RowKit Go.Proofs.YtipbgeobgppagaaW.PrintWords Go.Proofs.YtipbgeobgppagaaW.PrintLast Go.Proofs.YtipbgeobgppagaaW.PrintMore
set_option linter.unusedSimpArgs false
set_option linter.unusedVariables false

def row (v : Value) (xs : List Int) : HP := fun w S => (Kd.int .i64).R 3 w 0 (fun _ => True) v xs ∧ S = fun k => v.ownBlock = some k
theorem R_keep1 {w w' : World} {v : Value} {xs : List Int} (h : (Kd.int .i64).R 3 w 0 (fun _ => True) v xs) (k : ∀ g, v.ownBlock = some g → w'.heap[g]? = w.heap[g]?) : (Kd.int .i64).R 3 w' 0 (fun _ => True) v xs := by
  obtain ⟨_, inner, hi, hr⟩ := h
  exact Kd.R_mono (Kd.R_move (ok := fun g => v.ownBlock = some g) ⟨fun g hg => hg, inner, hi, hr⟩ (fun g hg => k g hg)) (fun _ _ => trivial)
theorem R_lt1 {w : World} {v : Value} {xs : List Int} (h : (Kd.int .i64).R 3 w 0 (fun _ => True) v xs) {g : Nat} (hg : v.ownBlock = some g) : g < w.heap.size := ((Kd.R_bound h).1 g hg).2.2.1
theorem row_loc (v : Value) (xs : List Int) : Loc (row v xs) where
  keep := fun ⟨h, e⟩ k => ⟨R_keep1 h (fun g hg => k g (by rw [e]; exact hg)), e⟩
  lt := fun ⟨h, e⟩ k => by subst e; exact R_lt1 h k
theorem St.rowNew {w0 w w' : World} {L : List HP} {v : Value} {xs : List Int} (h : St w0 w L) (k : Below w.heap.size w w') (r : (Kd.int .i64).R 3 w' w.heap.size (fun _ => True) v xs) : St w0 w' (row v xs :: L) :=
  h.new k (row_loc v xs) ⟨Kd.R_lower r (Nat.zero_le _), rfl⟩ (fun i hi => ((Kd.R_bound r).1 i hi).2.1)
theorem St.rowC {w0 w : World} {L : List HP} {A : Option Addr} {n c : Nat} {xs : List Int} (h : St w0 w (row (.slice A n c) xs :: L)) : (Kd.int .i64).C w A xs.length xs ∧ n = xs.length ∧ n ≤ c := by
  obtain ⟨S, hR, -⟩ := h.hd
  obtain ⟨A2, c2, e, h1, h2⟩ := Kd.R_reads hR
  injection e with e1 e2 e3
  subst e1; subst e3
  exact ⟨h2, e2, by omega⟩
/-- A store into a row. -/
theorem St.rowset {w0 w : World} {L : List HP} {A : Option Addr} {n c : Nat} {xs : List Int} (h : St w0 w (row (.slice A n c) xs :: L)) (hn : n = xs.length) (k : Nat) (hk : k < n) (p : Int) :
    ∃ b, A = some ⟨b, 0, none⟩ ∧ (w.cell? ⟨b, k, none⟩).isSome = true ∧ w.frozen? ⟨b, k, none⟩ = false ∧ St w0 (w.setCell ⟨b, k, none⟩ (.int .i64 p)) (row (.slice A n c) (xs.set k p) :: L) := by
  subst hn
  obtain ⟨S, ⟨hR, rfl⟩, hh⟩ := h.one
  have ho := Kd.own_of_R hR
  rcases ho.2 with ⟨e, _⟩ | ⟨g, cap, cur, e, hg, hh', r⟩
  · injection e with e1 e2 e3; omega
  · injection e with e1 e2 e3
    subst e1; subst e3
    refine ⟨g, rfl, ?_, ho.frozenAt k, ?_⟩
    · rw [ho.cellAt k (by omega)]
      simp [encs, hk]
    · obtain ⟨hs, hg2⟩ := ho.stored k (.int .i64 p)
      refine hh (Chg.of_grown hg2 (fun q hq => by injection hq with hq; subst hq; rfl)) (row_loc _ _) ⟨Kd.R_of_own ?_ (fun _ _ => trivial), rfl⟩ (fun _ _ q => q)
      have e2 : encs (Value.int .i64) (xs.set k p) = (encs (Value.int .i64) xs).set k (.int .i64 p) := by simp [encs, List.map_set]
      rw [e2, List.length_set]; exact hs
theorem St.moreD {w0 w w' : World} {L : List HP} (h : St w0 w L) (d : Drawn0 w w') : St w0 w' L := by
  obtain ⟨m, rfl⟩ := d; exact h.more (pw_below_drewN (Below.refl _ _) m)
end Go.Proofs.Ytipbgeobgppagaa
