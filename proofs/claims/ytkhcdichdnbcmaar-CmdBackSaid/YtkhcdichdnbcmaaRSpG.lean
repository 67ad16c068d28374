/- Rows by a Lean structure's fields: the same row told in two ways. -/
import Derived.Test.YtkhcdichdnbcmaaRBase
import Derived.Test.YtkhcdichdnbcmaaRSpE
import Derived.Test.YtkhcdichdnbcmaaRWWords
namespace Go.Proofs.YtkhcdichdnbcmaaR
open Go.RowKit Go.Proofs.YtkhcdichdnbcmaaRW.PrintWords Go.Proofs.YtkhcdichdnbcmaaR.Sp
set_option linter.unusedSimpArgs false
set_option linter.unusedVariables false

section
variable {α β : Type} {d : Kd α} {f : β → α} {w : World}
theorem C_iso {A : Option Addr} {n : Nat} {xs : List β} : (Kd.iso d f).C w A n xs ↔ d.C w A n (xs.map f) := by
  unfold Kd.C ReadsRow
  rw [List.length_map]
  constructor
  · rintro ⟨h1, h2, h3⟩
    refine ⟨h1, h2, fun hn => ?_⟩
    obtain ⟨ad, e, hc⟩ := h3 hn
    refine ⟨ad, e, fun j p hp => ?_⟩
    rw [List.getElem?_map, Option.map_eq_some_iff] at hp
    obtain ⟨q, hq, rfl⟩ := hp
    exact hc j q hq
  · rintro ⟨h1, h2, h3⟩
    refine ⟨h1, h2, fun hn => ?_⟩
    obtain ⟨ad, e, hc⟩ := h3 hn
    exact ⟨ad, e, fun j p hp => hc j (f p) (by rw [List.getElem?_map, hp]; rfl)⟩
theorem R_iso {e base : Nat} {ok : Nat → Prop} {v : Value} {xs : List β} : (Kd.iso d f).R e w base ok v xs ↔ d.R e w base ok v (xs.map f) := by
  unfold Kd.R OwnRow Reps
  rw [List.length_map]
  constructor
  · rintro ⟨h0, inner, ho, hl, hr⟩
    refine ⟨h0, inner, ho, hl, fun j p hp => ?_⟩
    rw [List.getElem?_map, Option.map_eq_some_iff] at hp
    obtain ⟨q, hq, rfl⟩ := hp
    exact hr j q hq
  · rintro ⟨h0, inner, ho, hl, hr⟩
    exact ⟨h0, inner, ho, hl, fun j p hp => hr j (f p) (by rw [List.getElem?_map, hp]; rfl)⟩
end
end Go.Proofs.YtkhcdichdnbcmaaR
