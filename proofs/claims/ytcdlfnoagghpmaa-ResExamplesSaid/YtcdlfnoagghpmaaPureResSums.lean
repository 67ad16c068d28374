/- The plain law of ResSums, and its walk. -/
import Derived.Test.YtcdlfnoagghpmaaResP
import Derived.Test.YtcdlfnoagghpmaaX4
import Derived.Test.YtcdlfnoagghpmaaOpen
namespace Go.Proofs.Ytcdlfnoagghpmaa.Pure
open Go.RowKit Go.Proofs.Ytcdlfnoagghpmaa Go.Proofs.Ytcdlfnoagghpmaa.Ext Go.Proofs.Ytcdlfnoagghpmaa.X Go.Proofs.YtcdlfnoagghpmaaW.PrintWords Go.Proofs.YtcdlfnoagghpmaaW.PrintLast
set_option linter.unusedVariables false
set_option linter.unusedSimpArgs false

def toS (x : E37) : S37 := ⟨x.f0, x.f1, x.f2⟩
theorem readsRes {w : World} {A : Option Addr} {cap : Nat} {l : List E37} (h : SL42 w A cap l) : Kd.C k37 w A (l.map toS).length (l.map toS) ∧ (l.map toS).length ≤ cap := by
  obtain ⟨h1, h2, h3⟩ := h
  have hm : maxLen ≤ 9223372036854775807 := by decide
  refine ⟨⟨rfl, by rw [List.length_map]; omega, fun hp => ?_⟩, by rw [List.length_map]; exact h1⟩
  rw [List.length_map] at hp
  rcases h3 with rfl | ⟨b, off, rfl, hb, hc⟩
  · simp at hp
  refine ⟨_, rfl, fun j p hj => ?_⟩
  obtain ⟨hl, rfl⟩ := List.getElem?_eq_some_iff.1 hj
  rw [List.length_map] at hl
  obtain ⟨c0, _, c1, _, c2, _⟩ := hc j hl
  have hr : rdE37 l j = l[j] := by simp [rdE37, hl]
  rw [hr] at c0 c1 c2
  have he : (l.map toS)[j] = toS l[j] := by simp
  refine ⟨[.int .i64 (l[j]).f0, .int .i64 (l[j]).f1, .int .i64 (l[j]).f2], rfl, ?_, fun i u hu => ?_⟩
  · rw [he]; exact k37_mk w (toS l[j])
  · have ha : ∀ n, (Addr.mk b off none).add n = ⟨b, off + n, none⟩ := fun n => by
      unfold Addr.add; split
      · rename_i h0; rw [h0, Nat.add_zero]
      · rfl
    show w.cell? ((Addr.mk b off none).add (j * 3 + i)) = _
    rw [ha, ← Nat.add_assoc]
    match i, hu with
    | 0, hu => injection hu with hu; subst hu; exact c0
    | 1, hu => injection hu with hu; subst hu; exact c1
    | 2, hu => injection hu with hu; subst hu; exact c2
    | i + 3, hu => simp at hu
theorem resSums_l0 (l : List (S37)) (p : R3 × Bool) (hl : l.length ≤ 1000) (d : Nat) : ∀ (k i : Nat), i + d = l.length → d < k →
    sacristanlaw09_ResSums.l0 k l l p.2 p.2 i p.1.c p.1.m p.1.d p.1.c p.1.m p.1.d = some true := by
  induction d with
  | zero =>
    intro k i hi hk
    obtain ⟨k, rfl⟩ : ∃ m, k = m + 1 := ⟨k - 1, by omega⟩
    simp only [sacristanlaw09_ResSums.l0, beq_self_eq_true, Bool.and_self]
    rw [if_neg (by omega), if_pos trivial, if_pos trivial]
    rfl
  | succ d ih =>
    intro k i hi hk
    obtain ⟨k, rfl⟩ : ∃ m, k = m + 1 := ⟨k - 1, by omega⟩
    simp only [sacristanlaw09_ResSums.l0, beq_self_eq_true, Bool.not_true, Bool.or_self]
    rw [if_pos (by omega), if_pos (by omega), if_pos (by omega), if_neg (by simp)]
    rw [show wrap64 ((i : Int) + 1) = ((i + 1 : Nat) : Int) from by unfold wrap64; omega]
    exact ih k (i + 1) (by omega) (by omega)
theorem resSums_eq (l : List (S37)) : sacristanlaw09_ResSums.f 100 l = some true := by
  unfold sacristanlaw09_ResSums.f
  have hm : ∃ n : Nat, mn (l.length : Int) 60 = n ∧ n ≤ 60 ∧ n ≤ l.length := by
    unfold mn
    split
    · exact ⟨60, rfl, by omega, by omega⟩
    · exact ⟨l.length, rfl, by omega, by omega⟩
  obtain ⟨n, hn, h60, hle⟩ := hm
  rw [hn, if_pos (by omega), if_pos (by omega), Int.toNat_natCast, Option.bind_some, Option.bind_some]
  generalize hx : l.take n = x
  have hl : x.length ≤ 60 := by rw [← hx, List.length_take]; omega
  rw [if_pos (by simp; omega), Option.bind_some, List.nil_append]
  simp only [res_Sum.f]
  rw [if_pos (by omega), Option.bind_some, rsum_eq 100 x (by omega) (by omega), Option.bind_some]
  exact resSums_l0 x _ (by omega) x.length 100 0 (by omega) (by omega)
end Go.Proofs.Ytcdlfnoagghpmaa.Pure
namespace Go.Proofs.Ytcdlfnoagghpmaa
open Go.RowKit Go.Proofs.Ytcdlfnoagghpmaa.X
theorem walk_ResSums (w : World) (A : Option Addr) (c : Nat) (l : List E37) (h : SL42 w A c l) : Calls Try.prog 9 #[.slice A l.length c] w fun e w' => e = .returned (.bool true) ∧ Below w.heap.size w w' := by
  obtain ⟨h1, h2⟩ := Pure.readsRes h
  have := sacristanlaw09_ResSums.calls 100 A c (l.map Pure.toS) true w h1 h2 (Pure.resSums_eq _) rfl
  rwa [List.length_map] at this
end Go.Proofs.Ytcdlfnoagghpmaa
