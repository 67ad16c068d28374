/- PackRow: its plain law and its walk, from the arguments on. -/
import Derived.Test.YtipbgeobgppagaaPureRow
import Derived.Test.YtipbgeobgppagaaOpen
namespace Go.Proofs.Ytipbgeobgppagaa.PureR
open Go.RowKit Go.Proofs.Ytipbgeobgppagaa Go.Proofs.Ytipbgeobgppagaa.Ext Go.Proofs.Ytipbgeobgppagaa.R Go.Proofs.YtipbgeobgppagaaW.PrintWords Go.Proofs.YtipbgeobgppagaaW.PrintLast
open Go.Proofs.Ytipbgeobgppagaa.Pk
set_option linter.unusedVariables false
set_option linter.unusedSimpArgs false
/-- What the types say of an item. -/
structure OkA (x : S59) : Prop where
  a : 0 ≤ x.f0 ∧ x.f0 < 256
  b : -9223372036854775808 ≤ x.f1 ∧ x.f1 ≤ 9223372036854775807
  c : 0 ≤ x.f2 ∧ x.f2 < 18446744073709551616
theorem rd_in {l : List S59} {i : Nat} (hi : i < l.length) : rd_T59 l i = l[i] := by unfold rd_T59; simp [List.getD_eq_getElem?_getD, hi]
theorem axs_pc {x : S59} (h : OkA x) (hk : 0 ≤ Int.tmod x.f0 3 ∧ Int.tmod x.f0 3 < 3) : axs [mkB (varL (zig x.f1)), mkB (varL x.f2.toNat), mkB (varL x.f3.size ++ x.f3.data.toList)] (Int.tmod x.f0 3) = mkB (pc x) := by
  have : Int.tmod x.f0 3 = 0 ∨ Int.tmod x.f0 3 = 1 ∨ Int.tmod x.f0 3 = 2 := by omega
  unfold pc
  rcases this with e | e | e
  · rw [e, if_pos rfl]; rfl
  · rw [e, if_neg (by decide), if_pos rfl]; rfl
  · rw [e, if_neg (by decide), if_neg (by decide)]; rfl
theorem l0_ok (l : List S59) (hl : l.length ≤ 30) (hA : ∀ x ∈ l, OkA x) (d : Nat) : ∀ (k i : Nat), i + d = l.length → 13 * d + 12 * l.length + 60 ≤ k → (∀ x ∈ l.take i, Ok x) → sacristanlaw02_PackRow.l0 k l (mkB (cc (l.take i))) (i : Int) = some true := by
  induction d with
  | zero =>
    intro k i hi hk hz
    obtain ⟨k, rfl⟩ : ∃ m, k = m + 1 := ⟨k - 1, by omega⟩
    simp only [sacristanlaw02_PackRow.l0]
    rw [if_neg (by omega)]
    rw [List.take_of_length_le (by omega)] at hz ⊢
    exact l1_ok l hl hz l.length k 0 (by omega) (by omega) (cc l) (fun _ => rfl)
  | succ d ih =>
    intro k i hi hk hz
    have hi1 : i < l.length := by omega
    obtain ⟨k, rfl⟩ : ∃ m, k = m + 1 := ⟨k - 1, by omega⟩
    have hx : OkA (rd_T59 l i) := by rw [rd_in hi1]; exact hA _ (List.getElem_mem hi1)
    have hrd := rd_in hi1
    simp only [sacristanlaw02_PackRow.l0]
    rw [if_pos (by omega), if_pos (by omega)]
    obtain ⟨x, hxe⟩ : ∃ x, rd_T59 l i = x := ⟨_, rfl⟩
    have hct := cc_take (l := l) (i := i) hi1
    rw [hxe] at hx hrd hct ⊢
    by_cases hs : ((x.f3).size : Int) > 300
    · rw [if_pos hs, known_eq k (by omega)]; rfl
    · rw [if_neg hs]
      have hok : Ok x := ⟨hx.a, hx.b, hx.c, by omega⟩
      have ht : 0 ≤ Int.tmod x.f0 3 ∧ Int.tmod x.f0 3 < 3 := by
        rw [Int.tmod_eq_emod_of_nonneg hx.a.1]; omega
      have hc := hx.c
      have e2 : pack_Var.f x.f2 = some (mkB (varL x.f2.toNat)) := by
        have := var_eq x.f2.toNat (by omega)
        rwa [Int.toNat_of_nonneg hc.1] at this
      have e3 : pack_Text.f x.f3 = some (mkB (varL x.f3.size ++ x.f3.data.toList)) := by
        have := text_eq x.f3.data.toList (by rw [size_data]; omega)
        rw [mkB_data, size_data] at this
        exact this
      rw [int_eq x.f1 hx.b.1 hx.b.2, Option.bind_some, e2, Option.bind_some, e3, Option.bind_some, if_pos ht.1, if_pos ht.2, axs_pc hx ht]
      have hl1 : (cc (l.take i)).length ≤ 309 * 30 := by
        have := cc_len hz
        rw [List.length_take] at this; omega
      have hl2 := pc_len hok
      rw [if_pos (by rw [mkB_size, mkB_size]; omega), mkB_append, ← hct, w64n i (by omega)]
      refine ih k (i + 1) (by omega) (by omega) (fun y hy => ?_)
      rw [List.take_succ_eq_append_getElem hi1] at hy
      rcases List.mem_append.1 hy with q | q
      · exact hz y q
      · rw [List.mem_singleton] at q
        rw [q, ← hrd]; exact hok
theorem row_ok (l : List S59) (hA : ∀ x ∈ l, OkA x) : sacristanlaw02_PackRow.f 1000 l = some true := by
  unfold sacristanlaw02_PackRow.f
  by_cases hl : (l.length : Int) > 30
  · rw [if_pos hl, known_eq 1000 (by omega)]; rfl
  · rw [if_neg hl]
    exact l0_ok l (by omega) hA l.length 1000 0 (by omega) (by omega) (by simp)
def toI (x : E59) : S59 := ⟨x.f0, x.f1, x.f2, x.f3⟩
theorem readsR {w : World} {A : Option Addr} {cap : Nat} {l : List E59} (h : SL57 w A cap l) : Kd.C k59 w A (l.map toI).length (l.map toI) ∧ (l.map toI).length ≤ cap ∧ ∀ x ∈ l.map toI, OkA x := by
  obtain ⟨h1, h2, h3⟩ := h
  have hm : maxLen ≤ 9223372036854775807 := by decide
  refine ⟨⟨rfl, by rw [List.length_map]; omega, fun hp => ?_⟩, by rw [List.length_map]; exact h1, fun x hx => ?_⟩
  · rw [List.length_map] at hp
    rcases h3 with rfl | ⟨b, off, rfl, hb, hc⟩
    · simp at hp
    refine ⟨_, rfl, fun j p hj => ?_⟩
    obtain ⟨hl, rfl⟩ := List.getElem?_eq_some_iff.1 hj
    rw [List.length_map] at hl
    obtain ⟨c0, _, c1, _, c2, _, c3, _⟩ := hc j hl
    have hr : rdE59 l j = l[j] := by simp [rdE59, hl]
    rw [hr] at c0 c1 c2 c3
    have he : (l.map toI)[j] = toI l[j] := by simp
    refine ⟨[.int .u8 (l[j]).f0, .int .i64 (l[j]).f1, .int .u64 (l[j]).f2, .string (l[j]).f3], rfl, ?_, fun i u hu => ?_⟩
    · rw [he]; exact k59_mk w (toI l[j])
    · have ha : ∀ n, (Addr.mk b off none).add n = ⟨b, off + n, none⟩ := fun n => by unfold Addr.add; split <;> simp_all
      show w.cell? ((Addr.mk b off none).add (j * 4 + i)) = _
      rw [ha, ← Nat.add_assoc]
      match i, hu with
      | 0, hu => injection hu with hu; subst hu; exact c0
      | 1, hu => injection hu with hu; subst hu; exact c1
      | 2, hu => injection hu with hu; subst hu; exact c2
      | 3, hu => injection hu with hu; subst hu; exact c3
      | i + 4, hu => simp at hu
  · obtain ⟨y, hy, rfl⟩ := List.mem_map.1 hx
    obtain ⟨j, hj, he⟩ := List.mem_iff_getElem.1 hy
    rcases h3 with rfl | ⟨b, off, rfl, hb, hc⟩
    · simp at hj
    obtain ⟨_, w0, _, w1, _, w2, _, _⟩ := hc j hj
    have hr : rdE59 l j = y := by rw [← he]; simp [rdE59, hj]
    rw [hr] at w0 w1 w2
    simp only [Lit.wf, Bool.and_eq_true, decide_eq_true_eq] at w0 w1 w2
    have m0 : IntKind.u8.max = 255 := by decide
    have m2 : IntKind.u64.max = 18446744073709551615 := by decide
    refine ⟨⟨?_, ?_⟩, ?_, ⟨?_, ?_⟩⟩
    · exact w0.1
    · show y.f0 < 256; have := w0.2; simp [IntKind.max, IntKind.bits] at this; omega
    · exact w1
    · exact w2.1
    · show y.f2 < 18446744073709551616; have := w2.2; simp [IntKind.max, IntKind.bits] at this; omega
end Go.Proofs.Ytipbgeobgppagaa.PureR
namespace Go.Proofs.Ytipbgeobgppagaa
open Go.RowKit Go.Proofs.Ytipbgeobgppagaa.Ext
theorem walk_PackRow (w : World) (A : Option Addr) (c : Nat) (l : List E59) (h : SL57 w A c l) : Calls Try.prog 12 #[.slice A l.length c] w fun e w' => e = .returned (.bool true) ∧ Below w.heap.size w w' := by
  obtain ⟨h1, h2, h3⟩ := PureR.readsR h
  have q := R.sacristanlaw02_PackRow.calls 1000 A c (l.map PureR.toI) true w h1 h2 (PureR.row_ok _ h3) rfl
  rw [List.length_map] at q
  exact q
end Go.Proofs.Ytipbgeobgppagaa
