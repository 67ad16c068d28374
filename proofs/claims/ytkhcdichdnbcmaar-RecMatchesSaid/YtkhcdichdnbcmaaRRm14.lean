/- Texts of this session, merged (wip/gen/shake.py). -/
import Derived.Deep.Cut
import Derived.Deep.CutRange
import Derived.Deep.RegionWith
import Derived.Test.YtkhcdichdnbcmaaROpen
import Derived.Test.YtkhcdichdnbcmaaRRm5
import Derived.Test.YtkhcdichdnbcmaaRRm13
section
namespace Go.Proofs.YtkhcdichdnbcmaaR
end Go.Proofs.YtkhcdichdnbcmaaR
end
section
namespace Go.Proofs.YtkhcdichdnbcmaaR
end Go.Proofs.YtkhcdichdnbcmaaR
end
section
namespace Go.Proofs.YtkhcdichdnbcmaaR
open Go.RowKit Go.Proofs.YtkhcdichdnbcmaaR Go.Proofs.YtkhcdichdnbcmaaR.Ext Go.Proofs.YtkhcdichdnbcmaaR.C Go.Proofs.YtkhcdichdnbcmaaRW.PrintWords Go.Proofs.YtkhcdichdnbcmaaRW.PrintLast
set_option linter.unusedVariables false
set_option linter.unusedSimpArgs false
def toE (x : E90) : S90 := ⟨⟨x.f0, x.f1, x.f2, x.f3, x.f4⟩, x.f5⟩
theorem readsI {w : World} {A : Option Addr} {cap : Nat} {l : List Int} (h : SL24 w A cap l) : Kd.C (Kd.int .i64) w A l.length l ∧ l.length ≤ cap := by
 obtain ⟨h1, h2, h3⟩ := h
 have hm : maxLen ≤ 9223372036854775807 := by decide
 refine ⟨Kd.C_of_reads (d := (0 : Int)) ⟨rfl, by omega, fun hp => ?_⟩, h1⟩
 rcases h3 with rfl | ⟨b, off, rfl, hb, hc⟩
 ·simp at hp
 refine ⟨_, rfl, fun j hj => ?_⟩
 have ha : (Addr.mk b off none).add j = ⟨b, off + j, none⟩ := by unfold Addr.add; split <;> simp_all
 rw [ha]
 exact (hc j hj).1
theorem readsT {w : World} {A : Option Addr} {cap : Nat} {l : List E90} (h : SL25 w A cap l) : Kd.C k90 w A (l.map toE).length (l.map toE) ∧ (l.map toE).length ≤ cap := by
 obtain ⟨h1, h2, h3⟩ := h
 have hm : maxLen ≤ 9223372036854775807 := by decide
 refine ⟨⟨rfl, by rw [List.length_map]; omega, fun hp => ?_⟩, by rw [List.length_map]; exact h1⟩
 rw [List.length_map] at hp
 rcases h3 with rfl | ⟨b, off, rfl, hb, hc⟩
 ·simp at hp
 refine ⟨_, rfl, fun j p hj => ?_⟩
 obtain ⟨hl, rfl⟩ := List.getElem?_eq_some_iff.1 hj
 rw [List.length_map] at hl
 obtain ⟨c0, c1, _, c2, _, c3, _, c4, _, c5, _⟩ := hc j hl
 have hr : rdE90 l j = l[j] := by simp [rdE90, hl]
 rw [hr] at c0 c1 c2 c3 c4 c5
 have he : (l.map toE)[j] = toE l[j] := by simp
 refine ⟨[.bool (l[j]).f0, .int .i64 (l[j]).f1, .int .i64 (l[j]).f2, .int .i64 (l[j]).f3, .int .i64 (l[j]).f4, .int .i64 (l[j]).f5], rfl, ?_, fun i u hu => ?_⟩
 ·rw [he]; exact k90_mk w (toE l[j])
 ·have ha : ∀ n, (Addr.mk b off none).add n = ⟨b, off + n, none⟩ := fun n => by unfold Addr.add; split <;> simp_all
  show w.cell? ((Addr.mk b off none).add (j * 6 + i)) = _
  rw [ha, ← Nat.add_assoc]
  match i, hu with
  | 0, hu => injection hu with hu; subst hu; exact c0
  | 1, hu => injection hu with hu; subst hu; exact c1
  | 2, hu => injection hu with hu; subst hu; exact c2
  | 3, hu => injection hu with hu; subst hu; exact c3
  | 4, hu => injection hu with hu; subst hu; exact c4
  | 5, hu => injection hu with hu; subst hu; exact c5
  | i + 6, hu => simp at hu
end Go.Proofs.YtkhcdichdnbcmaaR
end
section
namespace Go.Proofs.YtkhcdichdnbcmaaR
open Go.RowKit Go.Proofs.YtkhcdichdnbcmaaR Go.Proofs.YtkhcdichdnbcmaaR.Ext Go.Proofs.YtkhcdichdnbcmaaR.C Go.Proofs.YtkhcdichdnbcmaaR.Sp Go.Proofs.YtkhcdichdnbcmaaRW.PrintWords Go.Proofs.YtkhcdichdnbcmaaRW.PrintLast
set_option linter.unusedVariables false
set_option linter.unusedSimpArgs false
theorem i64_of_wf {n : Int} (h : (Lit.int .i64 n).wf = true) : -9223372036854775808 ≤ n ∧ n ≤ 9223372036854775807 := by
 simp only [Lit.wf, Bool.and_eq_true, decide_eq_true_eq] at h
 exact h
end Go.Proofs.YtkhcdichdnbcmaaR
end
