/- The plain law of WindowMoves, and its walk. -/
import Derived.Test.YtipbgeobgppagaaPWin
import Derived.Test.YtipbgeobgppagaaV5
import Derived.Test.YtipbgeobgppagaaPWinW
namespace Go.Proofs.Ytipbgeobgppagaa.Pure
open Go.RowKit Go.Proofs.Ytipbgeobgppagaa.Ext Go.Proofs.Ytipbgeobgppagaa.V Go.Proofs.YtipbgeobgppagaaW.PrintWords Go.Proofs.YtipbgeobgppagaaW.PrintLast Go.Proofs.YtipbgeobgppagaaW.PrintMore
set_option linter.unusedVariables false
set_option linter.unusedSimpArgs false

theorem rd_map {l : List Int} {b : Int} {i : Nat} (h : i < l.length) : rd (l.map (· + b)) (i : Int) = rd l (i : Int) + b := by
  rw [rd_get h, rd_get (by simpa using h)]; simp
theorem rd_drop' {l : List Int} {m i : Nat} (h : m + i < l.length) : rd (l.drop m) (i : Int) = rd l ((m + i : Nat) : Int) := by
  rw [rd_get h, rd_get (by simp; omega)]; simp
theorem cw_map (w t b : Int) (l : List Int) : cw w (t + b) (l.map (· + b)) = cw w t l := by
  unfold cw
  rw [cn_map, show t + b - w = (t - w) + b by omega, cn_map]
theorem km_map (w t b : Int) (l : List Int) : km w (t + b) (l.map (· + b)) = km w t l := by
  unfold km
  rw [show t + b - w = (t - w) + b by omega, cn_map, List.length_map]
theorem wi_map (w n b : Int) (l : List Int) : wi w n (l.map (· + b)) = wi w n l := by
  rw [Bool.eq_iff_iff, wi_iff, wi_iff]
  constructor
  · intro h s hs
    have := h (s + b) (List.mem_map_of_mem hs)
    rwa [cw_map] at this
  · intro h s hs
    obtain ⟨x, hx, rfl⟩ := List.mem_map.1 hs
    rw [cw_map]; exact h x hx
theorem cw_parts (v u t : Int) (l : List Int) : cw (v + u) t l = cw u t l + cw v (t - u) l := by
  unfold cw
  rw [show t - (v + u) = t - u - v by omega]; omega
theorem moves_l1 (L : List Int) (hS : StL L) (v u x11 t b : Int) (hv : 1 ≤ v ∧ v ≤ 200) (hu : 1 ≤ u ∧ u ≤ 200) (ht : 200 ≤ t ∧ t ≤ 3200) (hb : 0 ≤ b ∧ b < 100000) (K M : List Int) (hK : K.length ≤ 40) (hM : M = K.map (· + b)) (hx : ∀ x ∈ K, 0 ≤ x ∧ x ≤ 4000) (d : Nat) : ∀ (k i : Nat), i ≤ K.length → K.length - i ≤ d → d + 100 ≤ k →
    sacristanlaw12_WindowMoves.l1 k L v u t b K M (i : Int) = some true := by
  induction d with
  | zero =>
    intro k i hi hd hk
    obtain ⟨k, rfl⟩ : ∃ q, k = q + 1 := ⟨k - 1, by omega⟩
    have h40 := hS.len
    simp only [sacristanlaw12_WindowMoves.l1]
    rw [if_neg (by omega), show wrap64 (v + u) = v + u by unfold wrap64; omega, show wrap64 (t - u) = t - u by unfold wrap64; omega]
    rw [Count_eq L hS.ok (by omega) _ _ (by omega) (by omega) k (by omega), Count_eq L hS.ok (by omega) _ _ (by omega) (by omega) k (by omega), Count_eq L hS.ok (by omega) _ _ (by omega) (by omega) k (by omega)]
    simp only [Option.bind_some]
    have h1 := cw_le u t L
    have h2 := cw_le v (t - u) L
    have h3 := cw_nn (w := u) (t := t) (by omega) L
    have h4 := cw_nn (w := v) (t := t - u) (by omega) L
    rw [if_pos trivial, if_pos trivial, if_pos trivial, if_pos (by rw [cw_parts]; unfold wrap64; omega), awake_eq k (by omega)]; rfl
  | succ d ih =>
    intro k i hi hd hk
    obtain ⟨k, rfl⟩ : ∃ q, k = q + 1 := ⟨k - 1, by omega⟩
    have h40 := hS.len
    by_cases hlt : i < K.length
    · simp only [sacristanlaw12_WindowMoves.l1]
      have hb1 := hx _ (rd_mem hlt)
      have hml : M.length = K.length := by rw [hM, List.length_map]
      rw [if_pos (by omega), if_pos (by omega), if_pos (by omega), if_pos (by rw [hM, rd_map hlt]; unfold wrap64; omega), show wrap64 ((i : Int) + 1) = ((i + 1 : Nat) : Int) by unfold wrap64; omega]
      exact ih k (i + 1) (by omega) (by omega) (by omega)
    · exact ih (k + 1) i hi (by omega) (by omega)
theorem okL.map {l : List Int} (hl : StL l) {b : Int} (hb : 0 ≤ b ∧ b < 100000) : okL (l.map (· + b)) := by
  refine ⟨fun x hx => ?_, ?_⟩
  · obtain ⟨y, hy, rfl⟩ := List.mem_map.1 hx
    have := hl.bd y hy
    omega
  · exact List.pairwise_map.2 (hl.ok.2.imp (fun h => by omega))
theorem moves_l0 (L : List Int) (hS : StL L) (v u t b : Int) (hv : 1 ≤ v ∧ v ≤ 200) (hu : 1 ≤ u ∧ u ≤ 200) (ht : 200 ≤ t ∧ t ≤ 3200) (hb : 0 ≤ b ∧ b < 100000) (d : Nat) : ∀ (k i : Nat) (far : List Int), i ≤ L.length → L.length - i ≤ d → d + 200 ≤ k → far = (L.take i).map (· + b) →
    sacristanlaw12_WindowMoves.l0 k L v u t b far (i : Int) = some true := by
  induction d with
  | zero =>
    intro k i far hi hd hk hf
    obtain ⟨k, rfl⟩ : ∃ q, k = q + 3 := ⟨k - 3, by omega⟩
    have h40 := hS.len
    have hfl : far = L.map (· + b) := by rw [hf, List.take_of_length_le (by omega)]
    have hfok : okL far := by rw [hfl]; exact okL.map hS hb
    have hflen : far.length = L.length := by rw [hfl, List.length_map]
    have hlim := Int.tmod_lt_of_pos u (b := 10) (by omega)
    have hlim0 := Int.tmod_nonneg 10 (a := u) (by omega)
    simp only [sacristanlaw12_WindowMoves.l0]
    rw [if_neg (by omega), show wrap64 (t + b) = t + b by unfold wrap64; omega]
    rw [Count_eq L hS.ok (by omega) _ _ (by omega) (by omega) _ (by omega), Count_eq far hfok (by omega) _ _ (by omega) (by omega) _ (by omega), Within_eq L hS.ok (by omega) _ _ (by omega) hlim0 _ (by omega), Within_eq far hfok (by omega) _ _ (by omega) hlim0 _ (by omega)]
    simp only [Option.bind_some]
    rw [if_pos trivial, if_pos trivial, if_pos trivial, if_pos trivial, if_pos (by rw [hfl, cw_map]), hfl, wi_map, bne_self_eq_false]
    simp only [sacristanlaw12_WindowMoves.j1]
    rw [if_neg (by decide), show wrap64 (t + b) = t + b by unfold wrap64; omega, Keep_eq L hS.ok (by omega) _ _ (by omega) (by omega) _ (by omega), ← hfl, Keep_eq far hfok (by omega) _ _ (by omega) (by omega) _ (by omega)]
    simp only [Option.bind_some]
    rw [if_pos trivial, if_pos trivial, hfl, km_map, ← List.map_drop]
    rw [show ((((L.drop (km v t L)).length : Nat) : Int) != ((((L.drop (km v t L)).map (· + b)).length : Nat) : Int)) = false by simp]
    simp only [sacristanlaw12_WindowMoves.j2]
    rw [if_neg (by decide)]
    exact moves_l1 L hS v u u t b hv hu ht hb _ _ (by rw [List.length_drop]; omega) rfl (fun x hx => hS.bd x (List.mem_of_mem_drop hx)) 40 k 0 (by omega) (by rw [List.length_drop]; omega) (by omega)
  | succ d ih =>
    intro k i far hi hd hk hf
    obtain ⟨k, rfl⟩ : ∃ q, k = q + 1 := ⟨k - 1, by omega⟩
    have h40 := hS.len
    by_cases hlt : i < L.length
    · simp only [sacristanlaw12_WindowMoves.l0]
      have hb1 := hS.bd _ (rd_mem hlt)
      rw [if_pos (by omega), if_pos (by omega), if_pos (by rw [hf, List.length_map, List.length_take]; omega), show wrap64 ((i : Int) + 1) = ((i + 1 : Nat) : Int) by unfold wrap64; omega, show wrap64 (rd L (i : Int) + b) = rd L (i : Int) + b by unfold wrap64; omega]
      refine ih k (i + 1) _ (by omega) (by omega) (by omega) ?_
      rw [hf, List.take_succ_eq_append_getElem hlt, List.map_append, rd_get hlt]; rfl
    · exact ih (k + 1) i far hi (by omega) (by omega) hf
theorem moves_eq (l : List Int) (hl : l.length ≤ 9223372036854775807) (a0 a1 t b : Int) : sacristanlaw12_WindowMoves.f 400 l a0 a1 t b = some true := by
  obtain ⟨L, hL, hS⟩ := starts_eq l hl
  obtain ⟨v, e1, hv⟩ := mod_eq a0 200 (by omega) (by omega)
  obtain ⟨u, e2, hu⟩ := mod_eq a1 200 (by omega) (by omega)
  obtain ⟨q, e3, hq⟩ := mod_eq t 3001 (by omega) (by omega)
  obtain ⟨p, e4, hp⟩ := mod_eq b 100000 (by omega) (by omega)
  unfold sacristanlaw12_WindowMoves.f
  rw [hL 400 (by omega), e1, e2, e3, e4]
  simp only [Option.bind_some]
  rw [show wrap64 (199 + q) = 199 + q by unfold wrap64; omega, show wrap64 (p - 1) = p - 1 by unfold wrap64; omega]
  exact moves_l0 L hS v u (199 + q) (p - 1) hv hu (by omega) (by omega) 40 400 0 [] (by omega) (by have := hS.len; omega) (by omega) rfl
end Go.Proofs.Ytipbgeobgppagaa.Pure
namespace Go.Proofs.Ytipbgeobgppagaa
open Go.RowKit Go.Proofs.Ytipbgeobgppagaa.V Go.Proofs.YtipbgeobgppagaaW.PrintWords
theorem walk_WindowMoves (w : World) (A : Option Addr) (c : Nat) (l : List Int) (h : SL22 w A c l) (a0 a1 : Int) (_ : (Lit.int .i64 a0).wf = true) (_ : (Lit.int .i64 a1).wf = true) (t : Int) (_ : (Lit.int .i64 t).wf = true) (b : Int) (_ : (Lit.int .i64 b).wf = true) :
    Calls Try.prog 8 #[.slice A l.length c, .agg #[.int .i64 a0, .int .i64 a1], .int .i64 t, .int .i64 b] w fun e w' => e = .returned (.bool true) ∧ Below w.heap.size w w' := by
  obtain ⟨h1, h2, h3⟩ := Pure.readsInts h
  exact sacristanlaw12_WindowMoves.calls 400 A c l a0 a1 t b true w h1 h2 (Pure.moves_eq l h3 a0 a1 t b) rfl
end Go.Proofs.Ytipbgeobgppagaa
