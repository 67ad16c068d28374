/- SpecRow: its plain law and its walk. -/
import Derived.Test.YtldpmeaibkpojaaRB7
import Derived.Test.YtldpmeaibkpojaaRSpP
import Derived.Test.YtldpmeaibkpojaaRSpO
namespace Go.Proofs.YtldpmeaibkpojaaR
open Go.RowKit Go.Proofs.YtldpmeaibkpojaaR Go.Proofs.YtldpmeaibkpojaaR.Ext Go.Proofs.YtldpmeaibkpojaaR.B Go.Proofs.YtldpmeaibkpojaaR.PureS Go.Proofs.YtldpmeaibkpojaaR.Sp Go.Proofs.YtldpmeaibkpojaaRW.PrintWords Go.Proofs.YtldpmeaibkpojaaRW.PrintLast
set_option linter.unusedVariables false
set_option linter.unusedSimpArgs false

def spS (x : S27) : SP := spOf x.f0 x.f1.f0 x.f1.f1 x.f1.f2 x.f2 x.f3
def okX (x : S27) : Prop := okS (spS x) = true ∧ x.f2.length ≤ 20 ∧ x.f3.length ≤ 10
theorem rdX_at (l : List (S27)) (i : Nat) (h : i < l.length) : rd_T27 l (i : Int) = l[i] := by simp [rd_T27, h]
theorem encS_pos (s : SP) : 1 ≤ (encS s).length := by
  have h : encS s = encN s.id ++ encNs (s.cpu :: s.mem :: s.disk :: (s.ports.length : Int) :: (s.ports ++ [(s.tasks.length : Int)] ++ s.tasks.flatMap numsT)) := rfl
  rw [h, List.length_append]
  have := (encN_length s.id).1
  omega
theorem toTS_map (l : List TS) : (l.map ofTS).map toTS = l := by
  rw [List.map_map]
  have : (toTS ∘ ofTS) = id := by funext x; rfl
  rw [this, List.map_id]
theorem gS_lens {s : SP} (h : okS s = true) : s.ports.length ≤ 8 ∧ s.tasks.length ≤ 4 := by
  obtain ⟨_, _, _, _, ⟨h1, _⟩, h2⟩ := okS_gS h
  have h2 := h2.1
  omega
theorem l1_true (d : Nat) : ∀ (G : List (S27)) (k j : Nat), j + d = G.length → G.length ≤ 1000 → (∀ g ∈ G, okX g) → 25 + d < k → sacristanlaw13_SpecRow.l1 k (Go.Proofs.YtldpmeaibkpojaaR.Ext.mkB ((G.drop j).flatMap fun g => encS (spS g))) G j = some true := by
  induction d with
  | zero =>
    intro G k j hj hm hG hk
    obtain ⟨k, rfl⟩ : ∃ m, k = m + 1 := ⟨k - 1, by omega⟩
    simp only [sacristanlaw13_SpecRow.l1]
    rw [if_neg (by omega), List.drop_eq_nil_of_le (by omega), if_pos (by rw [toList_mkB]; rfl), awake_eq]
    rfl
  | succ d ih =>
    intro G k j hj hm hG hk
    obtain ⟨k, rfl⟩ : ∃ m, k = m + 1 := ⟨k - 1, by omega⟩
    simp only [sacristanlaw13_SpecRow.l1]
    rw [if_pos (by omega), dec_eq]
    have hjl : j < G.length := by omega
    obtain ⟨o1, o2, o3⟩ := hG G[j] (List.getElem_mem hjl)
    have hd : ((G.drop j).flatMap fun g => encS (spS g)) = encS (spS G[j]) ++ ((G.drop (j + 1)).flatMap fun g => encS (spS g)) := by
      rw [List.drop_eq_getElem_cons hjl, List.flatMap_cons]
    rw [hd, dec_some o1 rfl]
    have hl := gS_lens o1
    simp only [Option.bind_some, decT]
    rw [if_pos trivial, if_pos (by omega), rdX_at G j hjl]
    have q := sEqual k (spS G[j]).id (spS G[j]).cpu (spS G[j]).mem (spS G[j]).disk (G[j]).f0 (G[j]).f1.f0 (G[j]).f1.f1 (G[j]).f1.f2 (spS G[j]).ports (G[j]).f2 ((spS G[j]).tasks.map ofTS) (G[j]).f3 (by omega) (by rw [List.length_map]; omega) (by omega) (by rw [List.length_map]; omega)
    rw [q]
    have e : spOf (spS G[j]).id (spS G[j]).cpu (spS G[j]).mem (spS G[j]).disk (spS G[j]).ports ((spS G[j]).tasks.map ofTS) = spS G[j] := by unfold spOf; rw [toTS_map]
    rw [e, Option.bind_some]
    have e2 : decide (spS G[j] = spOf (G[j]).f0 (G[j]).f1.f0 (G[j]).f1.f1 (G[j]).f1.f2 (G[j]).f2 (G[j]).f3) = true := decide_eq_true rfl
    rw [e2, if_pos rfl, sz_mkB, sz_mkB, List.length_append]
    have hp := encS_pos (spS G[j])
    rw [if_neg (by omega), w1 (by omega)]
    exact ih G k (j + 1) (by omega) hm hG (by omega)
def few' (x : S27) : S27 := ⟨x.f0, ⟨x.f1.f0, x.f1.f1, x.f1.f2⟩, x.f2.take 20, x.f3.take 10⟩
theorem l0_true (d : Nat) : ∀ (X G : List (S27)) (k i : Nat), i + d = 6 → G.length ≤ i → (∀ g ∈ G, okX g) → 2 * d + 40 < k → sacristanlaw13_SpecRow.l0 k X (Go.Proofs.YtldpmeaibkpojaaR.Ext.mkB (G.flatMap fun g => encS (spS g))) G i = some true := by
  induction d with
  | zero =>
    intro X G k i hi hGi hG hk
    obtain ⟨k, rfl⟩ : ∃ m, k = m + 2 := ⟨k - 2, by omega⟩
    simp only [sacristanlaw13_SpecRow.l0]
    have q := l1_true G.length G k 0 (by omega) (by omega) hG (by omega)
    rw [List.drop_zero] at q
    have hf : decide ((i : Int) < 6) = false := by simp; omega
    rw [hf]
    split <;> (simp only [sacristanlaw13_SpecRow.j1]; rw [if_neg (by simp)]; exact q)
  | succ d ih =>
    intro X G k i hi hGi hG hk
    obtain ⟨k, rfl⟩ : ∃ m, k = m + 2 := ⟨k - 2, by omega⟩
    simp only [sacristanlaw13_SpecRow.l0]
    by_cases hX : (i : Int) < (X.length : Int)
    · have hf : decide ((i : Int) < 6) = true := by simp; omega
      rw [if_pos hX, hf]
      simp only [sacristanlaw13_SpecRow.j1]
      rw [if_pos trivial, if_pos (by omega), if_pos hX, few]
      simp only [Option.bind_some]
      generalize rd_T27 X (i : Int) = x
      unfold spec_Encode.f
      simp only [Option.bind_some]
      have hs : spOf x.f0 x.f1.f0 x.f1.f1 x.f1.f2 (x.f2.take 20) (x.f3.take 10) = spS (few' x) := rfl
      rw [hs]
      by_cases hx : specE (spS (few' x)) = 0
      · have ox : okX (few' x) := ⟨okS_E.2 hx, by show (x.f2.take 20).length ≤ 20; rw [List.length_take]; omega, by show (x.f3.take 10).length ≤ 10; rw [List.length_take]; omega⟩
        have ex : encR (spS (few' x)) = encS (spS (few' x)) := by unfold encR; rw [if_pos hx]
        rw [if_pos hx, ex, app_mkB]
        have hG' : ∀ g ∈ G ++ [few' x], okX g := by
          intro g hg
          rcases List.mem_append.1 hg with h | h
          · exact hG g h
          · rw [List.mem_singleton.1 h]; exact ox
        have q := ih X (G ++ [few' x]) k (i + 1) (by omega) (by simp; omega) hG' (by omega)
        have hlen : ((G.flatMap fun g => encS (spS g))).length ≤ 156 * G.length := flat_len _ 156 G fun g hg => encS_length (okS_gS (hG g hg).1)
        have hx1 := encS_length (okS_gS ox.1)
        rw [if_pos (by rw [sz_mkB, sz_mkB]; omega), if_pos (by omega), w1 (by omega)]
        rw [List.flatMap_append, List.flatMap_singleton] at q
        exact q
      · rw [if_neg hx, w1 (by omega)]
        exact ih X G k (i + 1) (by omega) (by omega) hG (by omega)
    · rw [if_neg hX]
      have q := l1_true G.length G k 0 (by omega) (by omega) hG (by omega)
      rw [List.drop_zero] at q
      simp only [sacristanlaw13_SpecRow.j1]
      rw [if_neg (by simp)]
      exact q
theorem specRow_law (X : List (S27)) : sacristanlaw13_SpecRow.f 60 X = some true := l0_true 6 X [] 60 0 (by omega) (by simp) (by simp) (by omega)
def toX (x : E27) : S27 := ⟨x.f0, ⟨x.f1, x.f2, x.f3⟩, x.l4, x.l5.map toE⟩
theorem readsX {w : World} {A : Option Addr} {cap : Nat} {l : List E27} (h : SL44 w A cap l) : Kd.C k27 w A (l.map toX).length (l.map toX) ∧ (l.map toX).length ≤ cap := by
  obtain ⟨h1, h2, h3⟩ := h
  have hm : maxLen ≤ 9223372036854775807 := by decide
  refine ⟨⟨rfl, by rw [List.length_map]; omega, fun hp => ?_⟩, by rw [List.length_map]; exact h1⟩
  rw [List.length_map] at hp
  rcases h3 with rfl | ⟨b, off, rfl, hb, hc⟩
  · simp at hp
  refine ⟨_, rfl, fun j p hj => ?_⟩
  obtain ⟨hl, rfl⟩ := List.getElem?_eq_some_iff.1 hj
  rw [List.length_map] at hl
  obtain ⟨c0, _, c1, _, c2, _, c3, _, c4, s4, c5, s5⟩ := hc j hl
  have hr : rdE27 l j = l[j] := by simp [rdE27, hl]
  rw [hr] at c0 c1 c2 c3 c4 c5 s4 s5
  have he : (l.map toX)[j] = toX l[j] := by simp
  have q4 := readsI s4
  have q5 := readsT s5
  refine ⟨[.int .i64 (l[j]).f0, .int .i64 (l[j]).f1, .int .i64 (l[j]).f2, .int .i64 (l[j]).f3, .slice (l[j]).A4 (l[j]).l4.length (l[j]).c4, .slice (l[j]).A5 ((l[j]).l5.map toE).length (l[j]).c5], rfl, ?_, fun i u hu => ?_⟩
  · rw [he]; exact k27_mk w (toX l[j]) q4.2 q4.1 q5.2 q5.1
  · have ha : ∀ n, (Addr.mk b off none).add n = ⟨b, off + n, none⟩ := fun n => by unfold Addr.add; split <;> simp_all
    show w.cell? ((Addr.mk b off none).add (j * 6 + i)) = _
    rw [ha, ← Nat.add_assoc]
    match i, hu with
    | 0, hu => injection hu with hu; subst hu; exact c0
    | 1, hu => injection hu with hu; subst hu; exact c1
    | 2, hu => injection hu with hu; subst hu; exact c2
    | 3, hu => injection hu with hu; subst hu; exact c3
    | 4, hu => injection hu with hu; subst hu; exact c4
    | 5, hu => injection hu with hu; subst hu; rw [List.length_map]; exact c5
    | i + 6, hu => simp at hu
set_option maxHeartbeats 400000 in
theorem walk_SpecRow (W : World) (A0 : Option Addr) (c0 : Nat) (l0 : List E27) (w0 : SL44 W A0 c0 l0) :
    Calls Try.prog 7 #[.slice A0 l0.length c0] W fun e w' => e = .returned (.bool true) ∧ Below W.heap.size W w' := by
  have q1 := readsX w0
  have q := sacristanlaw13_SpecRow.calls 60 A0 c0 (l0.map toX) true W q1.1 q1.2 (specRow_law _) rfl
  rw [List.length_map] at q
  exact q
end Go.Proofs.YtldpmeaibkpojaaR
