/- The law BeatShares. Printed by gen/beatsh.py. -/
import Derived.Test.YtecneikblkjgoaaBase
import Derived.Test.YtecneikblkjgoaaBeatS
import Derived.Test.YtecneikblkjgoaaBeatL
import Derived.Test.YtecneikblkjgoaaBeatG
import Derived.Test.YtecneikblkjgoaaOpen
import Derived.Test.YtecneikblkjgoaaProg
import Derived.Lib.Hide
namespace Go.Proofs.Ytecneikblkjgoaa
open Go.RowKit Go.Proofs.YtecneikblkjgoaaW.PrintWords Go.Proofs.YtecneikblkjgoaaW.PrintLast Go.Proofs.YtecneikblkjgoaaW.PrintMore
set_option linter.unusedSimpArgs false
set_option linter.unusedVariables false

/-- The shared fuse behind n sends. -/
def hS (K n s l : Int) : Prop := (s = 1 ∧ l = K - n ∧ n ≤ K) ∨ (s = 2 ∧ K < n)

set_option maxRecDepth 100000 in
set_option maxHeartbeats 8000000 in
theorem walk_BeatShares (w : World) (A : Option Addr) (c : Nat) (l : List Bool) (hl : SL34 w A c l) (k : Int) (hk_ : (Lit.int .i64 k).wf = true) :
    Calls Try.prog 4 #[.slice A l.length c, .int .i64 k] w fun e w' => e = .returned (.bool true) ∧ Below w.heap.size w w' := by
  obtain ⟨l1, l2, l3⟩ := hl
  have hmax : l.length ≤ 9223372036854775807 := by have := l2; simp only [maxLen] at this; omega
  have H3 := Lib.hid l3
  clear l3 hk_ l2
  have hr := red k 150 (by omega) (by omega)
  have h0 := St.start w
  go_enter Try.func4, Try.ntmps4
  go_wp2_with fail
  refine (fnew_s h0).mono ?_
  rintro e_ w1 ⟨f, rfl, q1⟩
  have h1_0 : St w w1 [fz f 0 0] := q1
  clear q1 h0
  go_wp2_with fail
  refine (bnew_s f h1_0).mono ?_
  rintro e_ w2 ⟨b1, rfl, q2⟩
  have h2_0 : St w w2 [nz b1 f [], fz f 0 0] := q2
  clear q2 h1_0
  go_wp2_with fail
  refine (bnew_s f h2_0).mono ?_
  rintro e_ w3 ⟨b2, rfl, q3⟩
  have h3_0 : St w w3 [nz b2 f [], nz b1 f [], fz f 0 0] := q3
  clear q3 h2_0
  go_wp2_with fail
  generalize hK_ : (wrap64 (k.tmod 150 + 150)).tmod 150 = K at *
  clear hK_
  have h3_1 : St w w3 [fz f 0 0, nz b2 f [], nz b1 f []] := h3_0.pick 2
  clear h3_0
  refine (arm_i K h3_1 (by decide) hr.1).mono ?_
  rintro e_ w4 ⟨rfl, q4⟩
  have h4_0 : St w w4 [fz f 1 K, nz b2 f [], nz b1 f []] := q4
  clear q4 h3_1
  go_wp2_with fail
  have hn : St w w4 [row (.slice none 0 0) [], fz f 1 K, nz b2 f [], nz b1 f []] := row_nil h4_0
  clear h4_0
  have hm : St w w4 [row (.slice none 0 0) [], row (.slice none 0 0) [], fz f 1 K, nz b2 f [], nz b1 f []] := row_nil hn
  clear hn
  have h4_1 : St w w4 [fz f 1 K, row (.slice none 0 0) [], row (.slice none 0 0) [], nz b2 f [], nz b1 f []] := hm.pick 2
  clear hm
  have h4_2 : St w w4 [nz b2 f [], fz f 1 K, row (.slice none 0 0) [], row (.slice none 0 0) [], nz b1 f []] := h4_1.pick 3
  clear h4_1
  have h4_3 : St w w4 [nz b1 f [], nz b2 f [], fz f 1 K, row (.slice none 0 0) [], row (.slice none 0 0) []] := h4_2.pick 4
  clear h4_2
  go_loopw [10, 11, 12] (fun v u i wr => ∃ (n : Nat) (xs ys : List Int) (s l' : Int) (B : Option Addr) (d : Nat) (C : Option Addr) (e : Nat), v = .slice B xs.length d ∧ u = .slice C ys.length e ∧ i = .int .i64 n ∧ n ≤ l.length ∧ n ≤ 100 ∧ xs.length ≤ n ∧ ys.length ≤ n ∧ hS K n s l' ∧ St w wr [nz b1 f xs, nz b2 f ys, fz f s l', row (.slice B xs.length d) xs, row (.slice C ys.length e) ys]) (fun _ _ i _ => 100 - (intOf i).toNat)
  case atStart => exact ⟨0, [], [], 1, K, none, 0, none, 0, rfl, rfl, rfl, by omega, by omega, by simp, by simp, Or.inl ⟨rfl, by simp, by simpa using hr.1⟩, h4_3⟩
  case round =>
    clear h4_3
    obtain ⟨n, xs, ys, s, l', B, d, C, e, rfl, rfl, rfl, hn1, hn2, hn3, hn4, hg, h0_0⟩ := hrel
    have hk0 : (0 : Int) ≤ (n : Int) := by omega
    by_cases m1 : (n < l.length)
    · by_cases m2 : (n < 100)
      · skip
        obtain ⟨a, off, rfl, ha, hcells⟩ : ∃ b off, A = some ⟨b, off, none⟩ ∧ b < w.heap.size ∧ _ := H3.out.resolve_left (by rintro rfl; simp at m1)
        have z0 := hcells n m1
        clear hcells H3
        have y0 : wr.cell? ⟨a, off + n, none⟩ = some (.bool (rdBool l n)) := (h0_0.bel.cell ha).trans z0
        generalize rdBool l n = x at *
        have hk1 : (n : Int) < (l.length : Int) := by omega
        have hk2 : (n : Int) < 100 := by omega
        have Z0 := Lib.hid z0
        clear z0
        have HN := Lib.hid (show n < l.length ∧ n < 100 ∧ xs.length ≤ n ∧ ys.length ≤ n from ⟨m1, m2, hn3, hn4⟩)
        cases x with
        | true =>
          by_cases hd : (s = 2 ∨ (s = 1 ∧ l' = 0))
          · have hlen : K ≤ (n : Int) := by have := hg; unfold hS at this; omega
            have HD := Lib.hid hd
            have hdc : decide ((n : Int) < K) = false := by simp; omega
            have HLN := Lib.hid hlen
            clear hd hg hlen
            have h0_1 : St w wr [fz f s l', nz b1 f xs, nz b2 f ys, row (.slice B xs.length d) xs, row (.slice C ys.length e) ys] := h0_0.pick 2
            clear h0_0
            have h0_2 : St w wr [nz b1 f xs, fz f s l', nz b2 f ys, row (.slice B xs.length d) xs, row (.slice C ys.length e) ys] := h0_1.pick 1
            clear h0_1
            go_wp2_with fail
            refine (send_d n h0_2 ⟨by omega, by omega⟩ HD.out (by omega)).mono ?_
            rintro e_ w1 ⟨rfl, q1⟩
            have h1_0 : St w w1 [nz b1 f xs, fz f 2 0, nz b2 f ys, row (.slice B xs.length d) xs, row (.slice C ys.length e) ys] := q1
            clear q1 h0_2
            have y1 : w1.cell? ⟨a, off + n, none⟩ = some (.bool true) := (h1_0.bel.cell ha).trans Z0.out
            have h1_1 : St w w1 [row (.slice C ys.length e) ys, nz b1 f xs, fz f 2 0, nz b2 f ys, row (.slice B xs.length d) xs] := h1_0.pick 4
            clear h1_0
            have h1_2 : St w w1 [row (.slice B xs.length d) xs, row (.slice C ys.length e) ys, nz b1 f xs, fz f 2 0, nz b2 f ys] := h1_1.pick 4
            clear h1_1
            have h1_3 : St w w1 [fz f 2 0, row (.slice B xs.length d) xs, row (.slice C ys.length e) ys, nz b1 f xs, nz b2 f ys] := h1_2.pick 3
            clear h1_2
            have h1_4 : St w w1 [nz b2 f ys, fz f 2 0, row (.slice B xs.length d) xs, row (.slice C ys.length e) ys, nz b1 f xs] := h1_3.pick 4
            clear h1_3
            have h1_5 : St w w1 [nz b1 f xs, nz b2 f ys, fz f 2 0, row (.slice B xs.length d) xs, row (.slice C ys.length e) ys] := h1_4.pick 4
            clear h1_4
            clear m1 m2 hn1 hn2 hn3 hn4 hmax l1
            go_wp2_with fail
            all_goals go_roundw
            all_goals obtain ⟨m1, m2, hn3, hn4⟩ := HN.out
            all_goals first | exact ⟨n + 1, xs, ys, 2, 0, B, d, C, e, rfl, rfl, by go_num, by omega, by omega, by omega, by omega, Or.inr ⟨rfl, by have := HLN.out; omega⟩, h1_5⟩ | (simp [intOf]; omega)
          · obtain ⟨rfl, hl1, hl2, hlen⟩ : s = 1 ∧ 1 ≤ l' ∧ l' = K - n ∧ (n : Int) < K := by have := hg; unfold hS at this; omega
            have HL := Lib.hid hl2
            have hdc : decide ((n : Int) < K) = true := by simpa using hlen
            have HLN := Lib.hid hlen
            clear hd hg hl2 hlen
            have h0_1 : St w wr [fz f 1 l', nz b1 f xs, nz b2 f ys, row (.slice B xs.length d) xs, row (.slice C ys.length e) ys] := h0_0.pick 2
            clear h0_0
            have h0_2 : St w wr [nz b1 f xs, fz f 1 l', nz b2 f ys, row (.slice B xs.length d) xs, row (.slice C ys.length e) ys] := h0_1.pick 1
            clear h0_1
            go_wp2_with fail
            refine (send_a n h0_2 ⟨by omega, by omega⟩ ⟨hl1, by have := HL.out; omega⟩ (by omega)).mono ?_
            rintro e_ w1 ⟨rfl, q1⟩
            have h1_0 : St w w1 [nz b1 f (xs ++ [(n : Int)]), fz f 1 (l' - 1), nz b2 f ys, row (.slice B xs.length d) xs, row (.slice C ys.length e) ys] := q1
            clear q1 h0_2
            have y1 : w1.cell? ⟨a, off + n, none⟩ = some (.bool true) := (h1_0.bel.cell ha).trans Z0.out
            have h1_1 : St w w1 [row (.slice B xs.length d) xs, nz b1 f (xs ++ [(n : Int)]), fz f 1 (l' - 1), nz b2 f ys, row (.slice C ys.length e) ys] := h1_0.pick 3
            clear h1_0
            clear m1 m2 hn1 hn2 hn3 hn4 hmax l1
            go_wp2_with (at_builtin; refine row_append _ _ _ _ xs (n : Int) h1_1 rfl rfl rfl rfl (by have := HN.out; omega) ?_; intro B2 d2 w9 q9; have y9 : w9.cell? ⟨a, off + n, none⟩ = some (.bool true) := (q9.bel.cell ha).trans Z0.out)
            clear h1_1 y1
            have HR9 : St w w9 [row (.slice B2 (xs ++ [(n : Int)]).length d2) (xs ++ [(n : Int)]), nz b1 f (xs ++ [(n : Int)]), fz f 1 (l' - 1), nz b2 f ys, row (.slice C ys.length e) ys] := by rw [show (xs ++ [(n : Int)]).length = xs.length + 1 by simp]; exact q9
            clear q9
            have h9_1 : St w w9 [row (.slice C ys.length e) ys, row (.slice B2 (xs ++ [(n : Int)]).length d2) (xs ++ [(n : Int)]), nz b1 f (xs ++ [(n : Int)]), fz f 1 (l' - 1), nz b2 f ys] := HR9.pick 4
            clear HR9
            have h9_2 : St w w9 [row (.slice B2 (xs ++ [(n : Int)]).length d2) (xs ++ [(n : Int)]), row (.slice C ys.length e) ys, nz b1 f (xs ++ [(n : Int)]), fz f 1 (l' - 1), nz b2 f ys] := h9_1.pick 1
            clear h9_1
            have h9_3 : St w w9 [fz f 1 (l' - 1), row (.slice B2 (xs ++ [(n : Int)]).length d2) (xs ++ [(n : Int)]), row (.slice C ys.length e) ys, nz b1 f (xs ++ [(n : Int)]), nz b2 f ys] := h9_2.pick 3
            clear h9_2
            have h9_4 : St w w9 [nz b2 f ys, fz f 1 (l' - 1), row (.slice B2 (xs ++ [(n : Int)]).length d2) (xs ++ [(n : Int)]), row (.slice C ys.length e) ys, nz b1 f (xs ++ [(n : Int)])] := h9_3.pick 4
            clear h9_3
            have h9_5 : St w w9 [nz b1 f (xs ++ [(n : Int)]), nz b2 f ys, fz f 1 (l' - 1), row (.slice B2 (xs ++ [(n : Int)]).length d2) (xs ++ [(n : Int)]), row (.slice C ys.length e) ys] := h9_4.pick 4
            clear h9_4
            all_goals go_roundw
            all_goals obtain ⟨m1, m2, hn3, hn4⟩ := HN.out
            all_goals first | exact ⟨n + 1, (xs ++ [(n : Int)]), ys, 1, (l' - 1), B2, d2, C, e, by first | rfl | simp, by first | rfl | simp, by go_num, by omega, by omega, by first | omega | (simp; omega), by first | omega | (simp; omega), Or.inl ⟨rfl, by have := HL.out; omega, by have := HLN.out; omega⟩, h9_5⟩ | (simp [intOf]; omega)
        | false =>
          by_cases hd : (s = 2 ∨ (s = 1 ∧ l' = 0))
          · have hlen : K ≤ (n : Int) := by have := hg; unfold hS at this; omega
            have HD := Lib.hid hd
            have hdc : decide ((n : Int) < K) = false := by simp; omega
            have HLN := Lib.hid hlen
            clear hd hg hlen
            have h0_1 : St w wr [fz f s l', nz b1 f xs, nz b2 f ys, row (.slice B xs.length d) xs, row (.slice C ys.length e) ys] := h0_0.pick 2
            clear h0_0
            have h0_2 : St w wr [nz b2 f ys, fz f s l', nz b1 f xs, row (.slice B xs.length d) xs, row (.slice C ys.length e) ys] := h0_1.pick 2
            clear h0_1
            go_wp2_with fail
            refine (send_d n h0_2 ⟨by omega, by omega⟩ HD.out (by omega)).mono ?_
            rintro e_ w1 ⟨rfl, q1⟩
            have h1_0 : St w w1 [nz b2 f ys, fz f 2 0, nz b1 f xs, row (.slice B xs.length d) xs, row (.slice C ys.length e) ys] := q1
            clear q1 h0_2
            have y1 : w1.cell? ⟨a, off + n, none⟩ = some (.bool false) := (h1_0.bel.cell ha).trans Z0.out
            have h1_1 : St w w1 [row (.slice C ys.length e) ys, nz b2 f ys, fz f 2 0, nz b1 f xs, row (.slice B xs.length d) xs] := h1_0.pick 4
            clear h1_0
            have h1_2 : St w w1 [row (.slice B xs.length d) xs, row (.slice C ys.length e) ys, nz b2 f ys, fz f 2 0, nz b1 f xs] := h1_1.pick 4
            clear h1_1
            have h1_3 : St w w1 [fz f 2 0, row (.slice B xs.length d) xs, row (.slice C ys.length e) ys, nz b2 f ys, nz b1 f xs] := h1_2.pick 3
            clear h1_2
            have h1_4 : St w w1 [nz b2 f ys, fz f 2 0, row (.slice B xs.length d) xs, row (.slice C ys.length e) ys, nz b1 f xs] := h1_3.pick 3
            clear h1_3
            have h1_5 : St w w1 [nz b1 f xs, nz b2 f ys, fz f 2 0, row (.slice B xs.length d) xs, row (.slice C ys.length e) ys] := h1_4.pick 4
            clear h1_4
            clear m1 m2 hn1 hn2 hn3 hn4 hmax l1
            go_wp2_with fail
            all_goals go_roundw
            all_goals obtain ⟨m1, m2, hn3, hn4⟩ := HN.out
            all_goals first | exact ⟨n + 1, xs, ys, 2, 0, B, d, C, e, rfl, rfl, by go_num, by omega, by omega, by omega, by omega, Or.inr ⟨rfl, by have := HLN.out; omega⟩, h1_5⟩ | (simp [intOf]; omega)
          · obtain ⟨rfl, hl1, hl2, hlen⟩ : s = 1 ∧ 1 ≤ l' ∧ l' = K - n ∧ (n : Int) < K := by have := hg; unfold hS at this; omega
            have HL := Lib.hid hl2
            have hdc : decide ((n : Int) < K) = true := by simpa using hlen
            have HLN := Lib.hid hlen
            clear hd hg hl2 hlen
            have h0_1 : St w wr [fz f 1 l', nz b1 f xs, nz b2 f ys, row (.slice B xs.length d) xs, row (.slice C ys.length e) ys] := h0_0.pick 2
            clear h0_0
            have h0_2 : St w wr [nz b2 f ys, fz f 1 l', nz b1 f xs, row (.slice B xs.length d) xs, row (.slice C ys.length e) ys] := h0_1.pick 2
            clear h0_1
            go_wp2_with fail
            refine (send_a n h0_2 ⟨by omega, by omega⟩ ⟨hl1, by have := HL.out; omega⟩ (by omega)).mono ?_
            rintro e_ w1 ⟨rfl, q1⟩
            have h1_0 : St w w1 [nz b2 f (ys ++ [(n : Int)]), fz f 1 (l' - 1), nz b1 f xs, row (.slice B xs.length d) xs, row (.slice C ys.length e) ys] := q1
            clear q1 h0_2
            have y1 : w1.cell? ⟨a, off + n, none⟩ = some (.bool false) := (h1_0.bel.cell ha).trans Z0.out
            have h1_1 : St w w1 [row (.slice C ys.length e) ys, nz b2 f (ys ++ [(n : Int)]), fz f 1 (l' - 1), nz b1 f xs, row (.slice B xs.length d) xs] := h1_0.pick 4
            clear h1_0
            clear m1 m2 hn1 hn2 hn3 hn4 hmax l1
            go_wp2_with (at_builtin; refine row_append _ _ _ _ ys (n : Int) h1_1 rfl rfl rfl rfl (by have := HN.out; omega) ?_; intro B2 d2 w9 q9; have y9 : w9.cell? ⟨a, off + n, none⟩ = some (.bool false) := (q9.bel.cell ha).trans Z0.out)
            clear h1_1 y1
            have HR9 : St w w9 [row (.slice B2 (ys ++ [(n : Int)]).length d2) (ys ++ [(n : Int)]), nz b2 f (ys ++ [(n : Int)]), fz f 1 (l' - 1), nz b1 f xs, row (.slice B xs.length d) xs] := by rw [show (ys ++ [(n : Int)]).length = ys.length + 1 by simp]; exact q9
            clear q9
            have h9_1 : St w w9 [row (.slice B xs.length d) xs, row (.slice B2 (ys ++ [(n : Int)]).length d2) (ys ++ [(n : Int)]), nz b2 f (ys ++ [(n : Int)]), fz f 1 (l' - 1), nz b1 f xs] := HR9.pick 4
            clear HR9
            have h9_2 : St w w9 [fz f 1 (l' - 1), row (.slice B xs.length d) xs, row (.slice B2 (ys ++ [(n : Int)]).length d2) (ys ++ [(n : Int)]), nz b2 f (ys ++ [(n : Int)]), nz b1 f xs] := h9_1.pick 3
            clear h9_1
            have h9_3 : St w w9 [nz b2 f (ys ++ [(n : Int)]), fz f 1 (l' - 1), row (.slice B xs.length d) xs, row (.slice B2 (ys ++ [(n : Int)]).length d2) (ys ++ [(n : Int)]), nz b1 f xs] := h9_2.pick 3
            clear h9_2
            have h9_4 : St w w9 [nz b1 f xs, nz b2 f (ys ++ [(n : Int)]), fz f 1 (l' - 1), row (.slice B xs.length d) xs, row (.slice B2 (ys ++ [(n : Int)]).length d2) (ys ++ [(n : Int)])] := h9_3.pick 4
            clear h9_3
            all_goals go_roundw
            all_goals obtain ⟨m1, m2, hn3, hn4⟩ := HN.out
            all_goals first | exact ⟨n + 1, xs, (ys ++ [(n : Int)]), 1, (l' - 1), B, d, B2, d2, by first | rfl | simp, by first | rfl | simp, by go_num, by omega, by omega, by first | omega | (simp; omega), by first | omega | (simp; omega), Or.inl ⟨rfl, by have := HL.out; omega, by have := HLN.out; omega⟩, h9_4⟩ | (simp [intOf]; omega)
      · skip
        clear hg
        go_wp2_with fail
        refine (sent_n xs.length h0_0 (by omega) rfl).mono ?_
        rintro e_ w1 ⟨A8, c8, rfl, q1⟩
        have h1_0 : St w w1 [row (.slice A8 xs.length c8) xs, nz b1 f xs, nz b2 f ys, fz f s l', row (.slice B xs.length d) xs, row (.slice C ys.length e) ys] := q1
        clear q1 h0_0
        have h1_1 : St w w1 [row (.slice B xs.length d) xs, row (.slice A8 xs.length c8) xs, nz b1 f xs, nz b2 f ys, fz f s l', row (.slice C ys.length e) ys] := h1_0.pick 4
        clear h1_0
        have h1_2 : St w w1 [row (.slice A8 xs.length c8) xs, row (.slice B xs.length d) xs, nz b1 f xs, nz b2 f ys, fz f s l', row (.slice C ys.length e) ys] := h1_1.pick 1
        clear h1_1
        go_wp2_with fail
        refine (eq_s h1_2 (by omega)).mono ?_
        rintro e_ w2 ⟨rfl, q2⟩
        have h2_0 : St w w2 [row (.slice A8 xs.length c8) xs, row (.slice B xs.length d) xs, nz b1 f xs, nz b2 f ys, fz f s l', row (.slice C ys.length e) ys] := q2
        clear q2 h1_2
        have h2_1 : St w w2 [row (.slice B xs.length d) xs, nz b1 f xs, nz b2 f ys, fz f s l', row (.slice C ys.length e) ys] := h2_0.drop
        clear h2_0
        have h2_2 : St w w2 [nz b2 f ys, row (.slice B xs.length d) xs, nz b1 f xs, fz f s l', row (.slice C ys.length e) ys] := h2_1.pick 2
        clear h2_1
        go_wp2_with fail
        refine (sent_n ys.length h2_2 (by omega) rfl).mono ?_
        rintro e_ w3 ⟨A9, c9, rfl, q3⟩
        have h3_0 : St w w3 [row (.slice A9 ys.length c9) ys, nz b2 f ys, row (.slice B xs.length d) xs, nz b1 f xs, fz f s l', row (.slice C ys.length e) ys] := q3
        clear q3 h2_2
        have h3_1 : St w w3 [row (.slice C ys.length e) ys, row (.slice A9 ys.length c9) ys, nz b2 f ys, row (.slice B xs.length d) xs, nz b1 f xs, fz f s l'] := h3_0.pick 5
        clear h3_0
        have h3_2 : St w w3 [row (.slice A9 ys.length c9) ys, row (.slice C ys.length e) ys, nz b2 f ys, row (.slice B xs.length d) xs, nz b1 f xs, fz f s l'] := h3_1.pick 1
        clear h3_1
        go_wp2_with fail
        refine (eq_s h3_2 (by omega)).mono ?_
        rintro e_ w4 ⟨rfl, q4⟩
        have h4_0 : St w w4 [row (.slice A9 ys.length c9) ys, row (.slice C ys.length e) ys, nz b2 f ys, row (.slice B xs.length d) xs, nz b1 f xs, fz f s l'] := q4
        clear q4 h3_2
        have h4_1 : St w w4 [nz b2 f ys, row (.slice B xs.length d) xs, nz b1 f xs, fz f s l'] := h4_0.drop.drop
        clear h4_0
        go_wp2_with fail
        refine (awake_s h4_1).mono ?_
        rintro e_ w5 ⟨rfl, q5⟩
        have h5_0 : St w w5 [nz b2 f ys, row (.slice B xs.length d) xs, nz b1 f xs, fz f s l'] := q5
        clear q5 h4_1
        go_wp2
        go_ret
        exact ⟨rfl, h5_0.bel⟩
    · skip
      clear hg
      go_wp2_with fail
      refine (sent_n xs.length h0_0 (by omega) rfl).mono ?_
      rintro e_ w1 ⟨A8, c8, rfl, q1⟩
      have h1_0 : St w w1 [row (.slice A8 xs.length c8) xs, nz b1 f xs, nz b2 f ys, fz f s l', row (.slice B xs.length d) xs, row (.slice C ys.length e) ys] := q1
      clear q1 h0_0
      have h1_1 : St w w1 [row (.slice B xs.length d) xs, row (.slice A8 xs.length c8) xs, nz b1 f xs, nz b2 f ys, fz f s l', row (.slice C ys.length e) ys] := h1_0.pick 4
      clear h1_0
      have h1_2 : St w w1 [row (.slice A8 xs.length c8) xs, row (.slice B xs.length d) xs, nz b1 f xs, nz b2 f ys, fz f s l', row (.slice C ys.length e) ys] := h1_1.pick 1
      clear h1_1
      go_wp2_with fail
      refine (eq_s h1_2 (by omega)).mono ?_
      rintro e_ w2 ⟨rfl, q2⟩
      have h2_0 : St w w2 [row (.slice A8 xs.length c8) xs, row (.slice B xs.length d) xs, nz b1 f xs, nz b2 f ys, fz f s l', row (.slice C ys.length e) ys] := q2
      clear q2 h1_2
      have h2_1 : St w w2 [row (.slice B xs.length d) xs, nz b1 f xs, nz b2 f ys, fz f s l', row (.slice C ys.length e) ys] := h2_0.drop
      clear h2_0
      have h2_2 : St w w2 [nz b2 f ys, row (.slice B xs.length d) xs, nz b1 f xs, fz f s l', row (.slice C ys.length e) ys] := h2_1.pick 2
      clear h2_1
      go_wp2_with fail
      refine (sent_n ys.length h2_2 (by omega) rfl).mono ?_
      rintro e_ w3 ⟨A9, c9, rfl, q3⟩
      have h3_0 : St w w3 [row (.slice A9 ys.length c9) ys, nz b2 f ys, row (.slice B xs.length d) xs, nz b1 f xs, fz f s l', row (.slice C ys.length e) ys] := q3
      clear q3 h2_2
      have h3_1 : St w w3 [row (.slice C ys.length e) ys, row (.slice A9 ys.length c9) ys, nz b2 f ys, row (.slice B xs.length d) xs, nz b1 f xs, fz f s l'] := h3_0.pick 5
      clear h3_0
      have h3_2 : St w w3 [row (.slice A9 ys.length c9) ys, row (.slice C ys.length e) ys, nz b2 f ys, row (.slice B xs.length d) xs, nz b1 f xs, fz f s l'] := h3_1.pick 1
      clear h3_1
      go_wp2_with fail
      refine (eq_s h3_2 (by omega)).mono ?_
      rintro e_ w4 ⟨rfl, q4⟩
      have h4_0 : St w w4 [row (.slice A9 ys.length c9) ys, row (.slice C ys.length e) ys, nz b2 f ys, row (.slice B xs.length d) xs, nz b1 f xs, fz f s l'] := q4
      clear q4 h3_2
      have h4_1 : St w w4 [nz b2 f ys, row (.slice B xs.length d) xs, nz b1 f xs, fz f s l'] := h4_0.drop.drop
      clear h4_0
      go_wp2_with fail
      refine (awake_s h4_1).mono ?_
      rintro e_ w5 ⟨rfl, q5⟩
      have h5_0 : St w w5 [nz b2 f ys, row (.slice B xs.length d) xs, nz b1 f xs, fz f s l'] := q5
      clear q5 h4_1
      go_wp2
      go_ret
      exact ⟨rfl, h5_0.bel⟩
end Go.Proofs.Ytecneikblkjgoaa
