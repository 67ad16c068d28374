/- Lists of numbers that came in. -/
import Derived.Test.YtipbgeobgppagaaOpen
import Derived.Test.YtipbgeobgppagaaWLast
import Derived.Test.YtipbgeobgppagaaWMore
namespace Go.Proofs.Ytipbgeobgppagaa.Pure
open Go.RowKit Go.Proofs.Ytipbgeobgppagaa Go.Proofs.YtipbgeobgppagaaW.PrintWords
theorem readsInts {w : World} {A : Option Addr} {cap : Nat} {l : List Int} (h : SL22 w A cap l) : Kd.C (Kd.int .i64) w A l.length l ∧ l.length ≤ cap ∧ l.length ≤ 9223372036854775807 := by
  obtain ⟨h1, h2, h3⟩ := h
  have hm : maxLen ≤ 9223372036854775807 := by decide
  refine ⟨Kd.C_of_reads (d := (0 : Int)) (h1 := fun _ => rfl) ⟨rfl, by omega, fun hp => ?_⟩, h1, by omega⟩
  rcases h3 with rfl | ⟨b, off, rfl, hb, hc⟩
  · simp at hp
  exact ⟨_, rfl, fun j hj => (congrArg w.cell? (by simp [Addr.add])).trans (hc j hj).1⟩
end Go.Proofs.Ytipbgeobgppagaa.Pure
