/- The walk of WindowMatches. -/
import Derived.Test.YtipbgeobgppagaaBase
import Derived.Test.YtipbgeobgppagaaSep
import Derived.Test.YtipbgeobgppagaaSepR
import Derived.Test.YtipbgeobgppagaaPWinX
import Derived.Test.YtipbgeobgppagaaKeepR
import Derived.Test.YtipbgeobgppagaaOpen
import Derived.Test.YtipbgeobgppagaaProg
import Derived.Lib.Hide
namespace Go.Proofs.Ytipbgeobgppagaa
open Go.RowKit Go.Proofs.Ytipbgeobgppagaa.Ext Go.Proofs.Ytipbgeobgppagaa.V Go.Proofs.Ytipbgeobgppagaa.Pure Go.Proofs.YtipbgeobgppagaaW.PrintWords Go.Proofs.YtipbgeobgppagaaW.PrintLast Go.Proofs.YtipbgeobgppagaaW.PrintMore
set_option linter.unusedSimpArgs false
set_option linter.unusedVariables false

theorem arg_C {w : World} {A : Option Addr} {cp : Nat} {l : List Int} (h : SL22 w A cp l) (m : Nat) (hm : m ≤ l.length) : (Kd.int .i64).C w A (l.take m).length (l.take m) := by
  obtain ⟨h1, h2, h3⟩ := h
  refine Kd.C_of_reads (d := (0 : Int)) ⟨rfl, ?_, fun hn => ?_⟩
  · have : (l.take m).length ≤ l.length := by rw [List.length_take]; omega
    simp only [maxLen] at h2; omega
  · have hl : (l.take m).length = m := by rw [List.length_take]; omega
    rcases h3 with rfl | ⟨b, off, rfl, hb, hc⟩
    · simp at hn
    · refine ⟨_, rfl, fun j hj => ?_⟩
      have := (hc j (by omega)).1
      rw [show (l.take m).getD j 0 = rdInt l j by simp [rdInt, List.getD_eq_getElem?_getD, show j < m by omega]]
      simpa [Go.WideShapes.add_plain] using this
theorem count_s {w0 w : World} {L : List HP} {A : Option Addr} {n c : Nat} {xs : List Int} (h : St w0 w (row (.slice A n c) xs :: L)) (hx : xs.length ≤ 1000) (a t : Int) :
    Calls Try.prog 16 #[.slice A n c, .int .i64 a, .int .i64 t] w fun e w' => e = .returned (.tuple #[.int .i64 (cS xs a t).1, .int .i64 (cS xs a t).2]) ∧ St w0 w' (row (.slice A n c) xs :: L) := by
  obtain ⟨hC, rfl, hc⟩ := h.rowC
  exact (window_Count.calls 3000 A c xs a t _ _ w hC hc (wCount_any xs hx a t 3000 (by omega))).mono fun e w' ⟨e1, e2⟩ => ⟨e1, h.moreD e2⟩
theorem within_s {w0 w : World} {L : List HP} {A : Option Addr} {n c : Nat} {xs : List Int} (h : St w0 w (row (.slice A n c) xs :: L)) (hx : xs.length ≤ 1000) (a t : Int) :
    Calls Try.prog 20 #[.slice A n c, .int .i64 a, .int .i64 t] w fun e w' => e = .returned (.tuple #[.bool (wS xs a t).1, .int .i64 (wS xs a t).2]) ∧ St w0 w' (row (.slice A n c) xs :: L) := by
  obtain ⟨hC, rfl, hc⟩ := h.rowC
  exact (window_Within.calls 3000 A c xs a t _ _ w hC hc (wWithin_any xs hx a t 3000 (by omega))).mono fun e w' ⟨e1, e2⟩ => ⟨e1, h.moreD e2⟩
theorem keep_s {w0 w : World} {L : List HP} {A : Option Addr} {n c : Nat} {xs : List Int} (h : St w0 w (row (.slice A n c) xs :: L)) (hx : xs.length ≤ 1000) (a t : Int) (m : Nat) (hm : m = (kS xs a t).1.length) :
    Calls Try.prog 18 #[.slice A n c, .int .i64 a, .int .i64 t] w fun e w' => ∃ B d, e = .returned (.tuple #[.slice B m m, .int .i64 (kS xs a t).2]) ∧ St w0 w' (row (.slice B m d) (kS xs a t).1 :: row (.slice A n c) xs :: L) := by
  obtain ⟨hC, rfl, hc⟩ := h.rowC
  subst hm
  exact (window_Keep.callsR 3000 A c xs a t _ _ w hC hc (wKeep_any xs hx a t 3000 (by omega))).mono fun e w' ⟨B, d, e1, e2, e3⟩ => ⟨B, d, e1, h.rowNew e3 e2⟩
theorem rcount_s {w0 w : World} {L : List HP} {A : Option Addr} {c : Nat} {xs : List Int} (h : St w0 w L) (hC : (Kd.int .i64).C w0 A xs.length xs) (n : Nat) (hn : n = xs.length) (hc : n ≤ c) (hx : xs.length ≤ 1000) (a t : Int) :
    Calls Try.prog 17 #[.slice A n c, .int .i64 a, .int .i64 t] w fun e w' => e = .returned (.tuple #[.int .i64 (cS xs a t).1, .int .i64 (cS xs a t).2]) ∧ St w0 w' L := by
  subst hn
  exact (sacristanref12_Count.calls 3000 A c xs a t _ _ w (Kd.C_below hC h.bel) hc (rCount_any xs hx a t 3000 (by omega))).mono fun e w' ⟨e1, e2⟩ => ⟨e1, h.moreD e2⟩
theorem rwithin_s {w0 w : World} {L : List HP} {A : Option Addr} {c : Nat} {xs : List Int} (h : St w0 w L) (hC : (Kd.int .i64).C w0 A xs.length xs) (n : Nat) (hn : n = xs.length) (hc : n ≤ c) (hx : xs.length ≤ 1000) (a t : Int) :
    Calls Try.prog 21 #[.slice A n c, .int .i64 a, .int .i64 t] w fun e w' => e = .returned (.tuple #[.bool (wS xs a t).1, .int .i64 (wS xs a t).2]) ∧ St w0 w' L := by
  subst hn
  exact (sacristanref12_Within.calls 3000 A c xs a t _ _ w (Kd.C_below hC h.bel) hc (rWithin_any xs hx a t 3000 (by omega))).mono fun e w' ⟨e1, e2⟩ => ⟨e1, h.moreD e2⟩
theorem rkeep_s {w0 w : World} {L : List HP} {A : Option Addr} {c : Nat} {xs : List Int} (h : St w0 w L) (hC : (Kd.int .i64).C w0 A xs.length xs) (n : Nat) (hn : n = xs.length) (hc : n ≤ c) (hx : xs.length ≤ 1000) (a t : Int) (m : Nat) (hm : m = (kS xs a t).1.length) :
    Calls Try.prog 19 #[.slice A n c, .int .i64 a, .int .i64 t] w fun e w' => ∃ B d, e = .returned (.tuple #[.slice B m d, .int .i64 (kS xs a t).2]) ∧ St w0 w' (row (.slice B m d) (kS xs a t).1 :: L) := by
  subst hn; subst hm
  refine (sacristanref12_Keep.calls 3000 A c xs a t _ _ w (Kd.C_below hC h.bel) hc (rKeep_any xs hx a t 3000 (by omega))).mono fun e w' ⟨v, e1, e2, e3⟩ => ?_
  obtain ⟨B, d, rfl, -, -⟩ := Kd.R_reads e2
  exact ⟨B, d, e1, h.rowNew e3 e2⟩
theorem copy_s {w0 w : World} {L : List HP} {A : Option Addr} {c : Nat} {xs : List Int} (h : St w0 w L) (hC : (Kd.int .i64).C w0 A xs.length xs) (n : Nat) (hn : n = xs.length) (hc : n ≤ c) (hx : xs.length ≤ 1000) :
    Calls Try.prog 15 #[.slice A n c] w fun e w' => ∃ B d, e = .returned (.slice B n d) ∧ St w0 w' (row (.slice B n d) xs :: L) := by
  subst hn
  refine (sacristankit_CopyInts.calls A c xs xs w (Kd.C_below hC h.bel) hc (by unfold sacristankit_CopyInts.f; rw [if_pos (by omega)])).mono fun e w' ⟨v, e1, e2, e3⟩ => ?_
  obtain ⟨B, d, rfl, -, -⟩ := Kd.R_reads e2
  exact ⟨B, d, e1, h.rowNew e3 e2⟩
theorem eq_s {w0 w : World} {L : List HP} {A B : Option Addr} {c d : Nat} {xs : List Int} (h : St w0 w L) (n : Nat) (hn : n = xs.length) (hA : (Kd.int .i64).C w A xs.length xs) (hc : n ≤ c) (hB : (Kd.int .i64).C w B xs.length xs) (hd : n ≤ d) (hx : xs.length ≤ 1000) :
    Calls Try.prog 22 #[.slice A n c, .slice B n d] w fun e w' => e = .returned (.bool true) ∧ St w0 w' L := by
  subst hn
  exact (sacristankit_EqualInts.calls 3000 A c xs B d xs true w hA hc hB hd (eqints_same xs hx 3000 (by omega))).mono fun e w' ⟨e1, e2⟩ => ⟨e1, h.moreD e2⟩
theorem wawake_s {w0 w : World} {L : List HP} (h : St w0 w L) : Calls Try.prog 23 #[] w fun e w' => e = .returned (.bool true) ∧ St w0 w' L :=
  (sacristanlaw12_awake.calls 30 true w (awake_eq 30 (by omega)) rfl).mono fun e w' ⟨e1, e2⟩ => ⟨e1, h.more e2⟩
theorem kS_len (xs : List Int) (a t : Int) : (kS xs a t).1.length ≤ xs.length := by
  unfold kS; split <;> simp

set_option maxRecDepth 100000 in
set_option maxHeartbeats 8000000 in
theorem wmatches_c (w : World) (A : Option Addr) (cp : Nat) (xs : List Int) (hC : (Kd.int .i64).C w A xs.length xs) (n : Nat) (hn : n = xs.length) (hc : n ≤ cp) (hx : xs.length ≤ 60) (l : Nat) (hl : l = n ∨ (60 < l ∧ n = 60)) (hl2 : l ≤ cp) (hl3 : cp ≤ 9223372036854775807)
    (a t m : Int) : Calls Try.prog 3 #[.slice A l cp, .int .i64 a, .int .i64 t, .int .i64 m] w fun e w' => e = .returned (.bool true) ∧ Below w.heap.size w w' := by
  have HC := Lib.hid hC
  have HX := Lib.hid hx
  clear hC
  rcases hl with rfl | ⟨h60, rfl⟩
  · have hl60 : (l : Int) ≤ 60 := by omega
    clear hx
    have HN := Lib.hid hn
    clear hn
    have h0 := St.start w
    go_enter Try.func3, Try.ntmps3
    go_wp2_with fail
    refine (copy_s h0 HC.out l HN.out hc (by have := HX.out; omega)).mono ?_
    rintro e_ w1 ⟨O, d, rfl, h1⟩
    go_wp2_with fail
    go_loopw [10] (fun v wr => ∃ r : Nat, r ≤ 2 ∧ v = .int .i64 r ∧ St w wr [row (.slice O l d) xs]) (fun v _ => 2 - (intOf v).toNat)
    case atStart => exact ⟨0, by omega, rfl, h1⟩
    case round =>
      clear h1 h0
      obtain ⟨r, hr, rfl, h2⟩ := hrel
      have hr0 : (0 : Int) ≤ (r : Int) := by omega
      by_cases hr1 : ((r : Int) < 2)
      · go_wp2_with fail
        refine (count_s h2 (by have := HX.out; omega) a t).mono ?_
        rintro e_ w3 ⟨rfl, h3⟩
        clear h2
        go_wp2_with fail
        refine (rcount_s h3 HC.out l HN.out hc (by have := HX.out; omega) a t).mono ?_
        rintro e_ w4 ⟨rfl, h4⟩
        clear h3
        go_wp2_with fail
        obtain ⟨M, hM⟩ : ∃ M, M = (kS xs a t).1.length := ⟨_, rfl⟩
        have HM := Lib.hid hM
        clear hM
        refine (keep_s h4 (by have := HX.out; omega) a t M HM.out).mono ?_
        rintro e_ w5 ⟨E, e, rfl, h5⟩
        clear h4
        go_wp2_with fail
        refine (rkeep_s h5 HC.out l HN.out hc (by have := HX.out; omega) a t M HM.out).mono ?_
        rintro e_ w6 ⟨F, f, rfl, h6⟩
        clear h5
        have h7 : St w w6 [row (.slice O l d) xs, row (.slice F M f) (kS xs a t).1, row (.slice E M e) (kS xs a t).1] := h6.pick 2
        clear h6
        go_wp2_with fail
        refine (within_s h7 (by have := HX.out; omega) a m).mono ?_
        rintro e_ w8 ⟨rfl, h8⟩
        clear h7
        go_wp2_with fail
        refine (rwithin_s h8 HC.out l HN.out hc (by have := HX.out; omega) a m).mono ?_
        rintro e_ w9 ⟨rfl, h9⟩
        clear h8
        have hkl : (kS xs a t).1.length ≤ 1000 := by have := kS_len xs a t; have := HX.out; omega
        have HKL := Lib.hid hkl
        clear hkl
        go_wp2_with fail
        have r1 := (h9.pick 2).rowC
        have r2 := (h9.pick 1).rowC
        refine (eq_s h9 M HM.out r1.1 (Nat.le_refl _) r2.1 r2.2.2 HKL.out).mono ?_
        clear r1 r2
        rintro e_ w10 ⟨rfl, h10⟩
        clear h9
        go_wp2_with fail
        have r1 := h10.rowC
        refine (eq_s h10 l HN.out r1.1 r1.2.2 (Kd.C_below HC.out h10.bel) hc (by have := HX.out; omega)).mono ?_
        clear r1
        rintro e_ w11 ⟨rfl, h11⟩
        clear h10
        have h12 : St w w11 [row (.slice E M e) (kS xs a t).1, row (.slice O l d) xs] := ((h11.pick 1).drop.pick 1)
        clear h11
        have hML : M ≤ 60 := by have := HM.out; have := kS_len xs a t; have := HX.out; omega
        have HML := Lib.hid hML
        clear hML
        go_wp2_with fail
        go_loopw [23] (fun v wr => ∃ (z : Nat) (ys : List Int), z ≤ M ∧ v = .int .i64 z ∧ M = ys.length ∧ St w wr [row (.slice E M e) ys, row (.slice O l d) xs]) (fun v _ => M - (intOf v).toNat)
        case atStart => exact ⟨0, _, by omega, rfl, HM.out, h12⟩
        case round =>
          clear h12
          obtain ⟨z, ys, hz1, rfl, hz2, h13⟩ := hrel
          have hz0 : (0 : Int) ≤ (z : Int) := by omega
          by_cases hz : (z < M)
          · obtain ⟨b9, rfl, hs, hf, q7⟩ := h13.rowset hz2 z hz (-1)
            obtain ⟨v9, hv⟩ := Option.isSome_iff_exists.1 hs
            have hz3 : (z : Int) < (M : Int) := by omega
            have hz4 : (z : Int) < 60 := by have := HML.out; omega
            have HJ := Lib.hid (And.intro hz hz2)
            clear h13 hs hz hz1 hz2
            go_wp2_with fail
            all_goals go_roundw
            all_goals first | exact ⟨z + 1, ys.set z (-1), by have := HJ.out; omega, by go_num, by rw [List.length_set]; exact HJ.out.2, q7⟩ | (have := HJ.out; simp [intOf]; omega)
          · have hz3 : ¬ (z : Int) < (M : Int) := by omega
            clear hz hz1 hz2
            have h14 := h13.drop
            clear h13
            go_wp2_with fail
            all_goals go_roundw
            all_goals first | exact ⟨r + 1, by omega, by go_num, h14⟩ | (simp [intOf]; omega)
      · go_wp2_with fail
        refine (wawake_s h2).mono ?_
        rintro e_ w3 ⟨rfl, h3⟩
        go_wp2
        go_ret
        exact ⟨rfl, h3.bel⟩
  · have hl60 : ¬ (l : Int) ≤ 60 := by omega
    have hl61 : (60 : Int) < (l : Int) := by omega
    clear hx h60
    have HN := Lib.hid hn
    clear hn
    have h0 := St.start w
    go_enter Try.func3, Try.ntmps3
    go_wp2_with fail
    refine (copy_s h0 HC.out 60 HN.out hc (by have := HX.out; omega)).mono ?_
    rintro e_ w1 ⟨O, d, rfl, h1⟩
    go_wp2_with fail
    go_loopw [10] (fun v wr => ∃ r : Nat, r ≤ 2 ∧ v = .int .i64 r ∧ St w wr [row (.slice O 60 d) xs]) (fun v _ => 2 - (intOf v).toNat)
    case atStart => exact ⟨0, by omega, rfl, h1⟩
    case round =>
      clear h1 h0
      obtain ⟨r, hr, rfl, h2⟩ := hrel
      have hr0 : (0 : Int) ≤ (r : Int) := by omega
      by_cases hr1 : ((r : Int) < 2)
      · go_wp2_with fail
        refine (count_s h2 (by have := HX.out; omega) a t).mono ?_
        rintro e_ w3 ⟨rfl, h3⟩
        clear h2
        go_wp2_with fail
        refine (rcount_s h3 HC.out 60 HN.out hc (by have := HX.out; omega) a t).mono ?_
        rintro e_ w4 ⟨rfl, h4⟩
        clear h3
        go_wp2_with fail
        obtain ⟨M, hM⟩ : ∃ M, M = (kS xs a t).1.length := ⟨_, rfl⟩
        have HM := Lib.hid hM
        clear hM
        refine (keep_s h4 (by have := HX.out; omega) a t M HM.out).mono ?_
        rintro e_ w5 ⟨E, e, rfl, h5⟩
        clear h4
        go_wp2_with fail
        refine (rkeep_s h5 HC.out 60 HN.out hc (by have := HX.out; omega) a t M HM.out).mono ?_
        rintro e_ w6 ⟨F, f, rfl, h6⟩
        clear h5
        have h7 : St w w6 [row (.slice O 60 d) xs, row (.slice F M f) (kS xs a t).1, row (.slice E M e) (kS xs a t).1] := h6.pick 2
        clear h6
        go_wp2_with fail
        refine (within_s h7 (by have := HX.out; omega) a m).mono ?_
        rintro e_ w8 ⟨rfl, h8⟩
        clear h7
        go_wp2_with fail
        refine (rwithin_s h8 HC.out 60 HN.out hc (by have := HX.out; omega) a m).mono ?_
        rintro e_ w9 ⟨rfl, h9⟩
        clear h8
        have hkl : (kS xs a t).1.length ≤ 1000 := by have := kS_len xs a t; have := HX.out; omega
        have HKL := Lib.hid hkl
        clear hkl
        go_wp2_with fail
        have r1 := (h9.pick 2).rowC
        have r2 := (h9.pick 1).rowC
        refine (eq_s h9 M HM.out r1.1 (Nat.le_refl _) r2.1 r2.2.2 HKL.out).mono ?_
        clear r1 r2
        rintro e_ w10 ⟨rfl, h10⟩
        clear h9
        go_wp2_with fail
        have r1 := h10.rowC
        refine (eq_s h10 60 HN.out r1.1 r1.2.2 (Kd.C_below HC.out h10.bel) hc (by have := HX.out; omega)).mono ?_
        clear r1
        rintro e_ w11 ⟨rfl, h11⟩
        clear h10
        have h12 : St w w11 [row (.slice E M e) (kS xs a t).1, row (.slice O 60 d) xs] := ((h11.pick 1).drop.pick 1)
        clear h11
        have hML : M ≤ 60 := by have := HM.out; have := kS_len xs a t; have := HX.out; omega
        have HML := Lib.hid hML
        clear hML
        go_wp2_with fail
        go_loopw [23] (fun v wr => ∃ (z : Nat) (ys : List Int), z ≤ M ∧ v = .int .i64 z ∧ M = ys.length ∧ St w wr [row (.slice E M e) ys, row (.slice O 60 d) xs]) (fun v _ => M - (intOf v).toNat)
        case atStart => exact ⟨0, _, by omega, rfl, HM.out, h12⟩
        case round =>
          clear h12
          obtain ⟨z, ys, hz1, rfl, hz2, h13⟩ := hrel
          have hz0 : (0 : Int) ≤ (z : Int) := by omega
          by_cases hz : (z < M)
          · obtain ⟨b9, rfl, hs, hf, q7⟩ := h13.rowset hz2 z hz (-1)
            obtain ⟨v9, hv⟩ := Option.isSome_iff_exists.1 hs
            have hz3 : (z : Int) < (M : Int) := by omega
            have hz4 : (z : Int) < 60 := by have := HML.out; omega
            have HJ := Lib.hid (And.intro hz hz2)
            clear h13 hs hz hz1 hz2
            go_wp2_with fail
            all_goals go_roundw
            all_goals first | exact ⟨z + 1, ys.set z (-1), by have := HJ.out; omega, by go_num, by rw [List.length_set]; exact HJ.out.2, q7⟩ | (have := HJ.out; simp [intOf]; omega)
          · have hz3 : ¬ (z : Int) < (M : Int) := by omega
            clear hz hz1 hz2
            have h14 := h13.drop
            clear h13
            go_wp2_with fail
            all_goals go_roundw
            all_goals first | exact ⟨r + 1, by omega, by go_num, h14⟩ | (simp [intOf]; omega)
      · go_wp2_with fail
        refine (wawake_s h2).mono ?_
        rintro e_ w3 ⟨rfl, h3⟩
        go_wp2
        go_ret
        exact ⟨rfl, h3.bel⟩
theorem walk_WindowMatches (w : World) (A : Option Addr) (cp : Nat) (l : List Int) (h : SL22 w A cp l) (a : Int) (ha : (Lit.int .i64 a).wf = true) (t : Int) (ht : (Lit.int .i64 t).wf = true) (m : Int) (hm : (Lit.int .i64 m).wf = true) :
    Calls Try.prog 3 #[.slice A l.length cp, .int .i64 a, .int .i64 t, .int .i64 m] w fun e w' => e = .returned (.bool true) ∧ Below w.heap.size w w' := by
  have h1 := h.1
  have h2 : cp ≤ 9223372036854775807 := by have := h.2.1; simp only [maxLen] at this; omega
  by_cases h60 : l.length ≤ 60
  · refine wmatches_c w A cp l ?_ l.length rfl h1 h60 l.length (Or.inl rfl) h1 h2 a t m
    have := arg_C h l.length (Nat.le_refl _)
    rwa [List.take_length] at this
  · exact wmatches_c w A cp (l.take 60) (arg_C h 60 (by omega)) 60 (by rw [List.length_take]; omega) (by omega) (by rw [List.length_take]; omega) l.length (Or.inr ⟨by omega, rfl⟩) h1 h2 a t m
end Go.Proofs.Ytipbgeobgppagaa
