/- The law BeatGrows. Printed by gen/beatg.py. -/
import Derived.Test.YtecneikblkjgoaaBase
import Derived.Test.YtecneikblkjgoaaBeatS
import Derived.Test.YtecneikblkjgoaaBeatL
import Derived.Test.YtecneikblkjgoaaOpen
import Derived.Test.YtecneikblkjgoaaProg
import Derived.Lib.Hide
namespace Go.Proofs.Ytecneikblkjgoaa
open Go.RowKit Go.Proofs.YtecneikblkjgoaaW.PrintWords Go.Proofs.YtecneikblkjgoaaW.PrintLast Go.Proofs.YtecneikblkjgoaaW.PrintMore
set_option linter.unusedSimpArgs false
set_option linter.unusedVariables false

theorem red (a M : Int) (h0 : 0 < M) (h1 : M ≤ 2199023255552) : 0 ≤ Int.tmod (wrap64 ((Int.tmod a M) + M)) M ∧ Int.tmod (wrap64 ((Int.tmod a M) + M)) M < M := by
  have h2 := Int.tmod_lt_of_pos a h0
  have h3 := Int.lt_tmod_of_pos a h0
  rw [show wrap64 (Int.tmod a M + M) = Int.tmod a M + M by unfold wrap64; omega]
  exact ⟨Int.tmod_nonneg _ (by omega), Int.tmod_lt_of_pos _ h0⟩
theorem row_nil {w0 w : World} {L : List HP} (h : St w0 w L) : St w0 w (row (.slice none 0 0) [] :: L) :=
  h.new (Below.refl _ _) (row_loc _ _) ⟨Kd.R_nil _ _ _ _ _, rfl⟩ (fun i hi => by cases hi)
theorem sent_n {w0 w : World} {L : List HP} {b f : Nat} {xs : List Int} (n : Nat) (h : St w0 w (nz b f xs :: L)) (hx : xs.length ≤ 100000) (hn : n = xs.length) :
    Calls Try.prog 17 #[.pointer (some ⟨b, 0, none⟩)] w fun e w' => ∃ A c, e = .returned (.slice A n c) ∧ St w0 w' (row (.slice A n c) xs :: nz b f xs :: L) := by
  subst hn; exact sent_s h hx
section
variable {ops : Array Oper} {rest : List Oper} {o : Oper} {a : Act} {Q : Exit → Act → World → Prop}
theorem row_append {w0 W : World} {L : List HP} (s x : Operand) (A : Option Addr) (c : Nat) (xs : List Int) (p : Int) (h : St w0 W (row (.slice A xs.length c) xs :: L)) (hgd : o.guard = none) (ho : o.op = .call { callee := .builtin .append, args := #[s, x], argTypes := #[22, 22] })
    (hs : a.eval s = .slice A xs.length c) (hx : a.eval x = .slice (some ⟨W.heap.size, 0, none⟩) 1 1) (hl : xs.length ≤ 100000)
    (k : ∀ A1 c1 w1, St w0 w1 (row (.slice A1 (xs.length + 1) c1) (xs ++ [p]) :: L) → wpList Try.prog ops Q rest (a.put o.dst (.slice A1 (xs.length + 1) c1)) w1) :
    wpList Try.prog ops Q (o :: rest) a (W.alloc (.cells #[.int .i64 p] 3)) := by
  obtain ⟨S, ⟨hR, rfl⟩, hh⟩ := h.one
  refine Kd.R_append (Kd.int .i64) 0 hgd s x 22 3 (.int .i64 0) 8 ho Try.underlying22 info_int3 rfl (by decide) (by decide) (.slice A xs.length c) xs p [.int .i64 p] (fun _ => True) (fun k => False) hs hx rfl (fun k hk => hk.elim) (fun _ _ => trivial) hR (Below.refl _ _) (by omega) (by omega) ?_
  intro v2 w2 hR2 hB2 hg2 hat2
  obtain ⟨A2, c2, rfl, -, -⟩ := Kd.R_reads hR2
  have q := hh (w' := w2) (Chg.of_grown hg2 (fun k hk => hk)) (row_loc _ _) ⟨hR2, rfl⟩ (fun k hk hq => by
    rcases hat2 with e | ⟨g, e, hg⟩
    · exact e ▸ hq
    · rw [e] at hq; injection hq with hq; omega)
  rw [show (xs ++ [p]).length = xs.length + 1 by simp] at q ⊢
  exact k A2 c2 w2 q
end
/-- The fuse of BeatGrows and BeatShares, behind n sends. -/
def gS (K n s l : Int) : Prop := (s = 1 ∧ l = K - n ∧ n ≤ K) ∨ (s = 2 ∧ n = K)

set_option maxHeartbeats 8000000 in
theorem walk_BeatGrows (w : World) (A : Option Addr) (c : Nat) (l : List Int) (hl : SL22 w A c l) (k : Int) (hk_ : (Lit.int .i64 k).wf = true) :
    Calls Try.prog 3 #[.slice A l.length c, .int .i64 k] w fun e w' => e = .returned (.bool true) ∧ Below w.heap.size w w' := by
  obtain ⟨l1, l2, l3⟩ := hl
  have hmax : l.length ≤ 9223372036854775807 := by have := l2; simp only [maxLen] at this; omega
  have H3 := Lib.hid l3
  clear l3 hk_ l2
  have hr := red k 200 (by omega) (by omega)
  have h0 := St.start w
  go_enter Try.func3, Try.ntmps3
  go_wp2_with fail
  refine (fnew_s h0).mono ?_
  rintro e_ w1 ⟨f, rfl, q1⟩
  have h1_0 : St w w1 [fz f 0 0] := q1
  clear q1 h0
  go_wp2_with fail
  refine (bnew_s f h1_0).mono ?_
  rintro e_ w2 ⟨b, rfl, q2⟩
  have h2_0 : St w w2 [nz b f [], fz f 0 0] := q2
  clear q2 h1_0
  go_wp2_with fail
  generalize hK_ : (wrap64 (k.tmod 200 + 200)).tmod 200 = K at *
  clear hK_
  have h2_1 : St w w2 [fz f 0 0, nz b f []] := h2_0.pick 1
  clear h2_0
  refine (arm_i K h2_1 (by decide) hr.1).mono ?_
  rintro e_ w3 ⟨rfl, q3⟩
  have h3_0 : St w w3 [fz f 1 K, nz b f []] := q3
  clear q3 h2_1
  go_wp2_with fail
  have hn : St w w3 [row (.slice none 0 0) [], fz f 1 K, nz b f []] := row_nil h3_0
  clear h3_0
  have h3_1 : St w w3 [fz f 1 K, row (.slice none 0 0) [], nz b f []] := hn.pick 1
  clear hn
  have h3_2 : St w w3 [nz b f [], fz f 1 K, row (.slice none 0 0) []] := h3_1.pick 2
  clear h3_1
  go_loopw [8, 9] (fun v i wr => ∃ (n : Nat) (xs : List Int) (s l' : Int) (B : Option Addr) (d : Nat), v = .slice B xs.length d ∧ i = .int .i64 n ∧ n ≤ l.length ∧ n ≤ 100 ∧ xs.length ≤ n ∧ gS K xs.length s l' ∧ St w wr [nz b f xs, fz f s l', row (.slice B xs.length d) xs]) (fun _ i _ => 100 - (intOf i).toNat)
  case atStart => exact ⟨0, [], 1, K, none, 0, rfl, rfl, by omega, by omega, by simp, Or.inl ⟨rfl, by simp, by simpa using hr.1⟩, h3_2⟩
  case round =>
    clear h3_2
    obtain ⟨n, xs, s, l', B, d, rfl, rfl, hn1, hn2, hn3, hg, h0_0⟩ := hrel
    have HG := Lib.hid hg
    clear hg
    by_cases m1 : (n < l.length)
    · by_cases m2 : (n < 100)
      · skip
        obtain ⟨a, off, rfl, ha, hcells⟩ : ∃ b off, A = some ⟨b, off, none⟩ ∧ b < w.heap.size ∧ _ := H3.out.resolve_left (by rintro rfl; simp at m1)
        obtain ⟨x0, x1⟩ := hcells n m1
        clear hcells H3
        have y0 : wr.cell? ⟨a, off + n, none⟩ = some (.int .i64 (rdInt l n)) := (h0_0.bel.cell ha).trans x0
        clear x0 x1
        generalize rdInt l n = x at *
        have hk0 : (0 : Int) ≤ (n : Int) := by omega
        have hk1 : (n : Int) < (l.length : Int) := by omega
        have hk2 : (n : Int) < 100 := by omega
        by_cases hbad : (x < 0 ∨ 1099511627776 < x)
        · rcases hbad with hbad | hbad
          · skip
            go_wp2_with fail
            refine (send_bad b x _ (Or.inl hbad)).mono ?_
            rintro e_ wx ⟨rfl, ew⟩
            have ew := ew.symm
            subst ew
            go_wp2_with fail
            refine (sent_n (xs.length) h0_0 (by first | omega | (simp; omega)) (by simp)).mono ?_
            rintro e_ w1 ⟨A9, c9, rfl, q1⟩
            have h1_0 : St w w1 [row (.slice A9 (xs.length) c9) xs, nz b f xs, fz f s l', row (.slice B xs.length d) xs] := q1
            clear q1 h0_0
            have h1_1 : St w w1 [row (.slice B xs.length d) xs, row (.slice A9 (xs.length) c9) xs, nz b f xs, fz f s l'] := h1_0.pick 3
            clear h1_0
            have h1_2 : St w w1 [row (.slice A9 (xs.length) c9) xs, row (.slice B xs.length d) xs, nz b f xs, fz f s l'] := h1_1.pick 1
            clear h1_1
            go_wp2_with fail
            refine (eq_s h1_2 (by first | omega | (simp; omega))).mono ?_
            rintro e_ w2 ⟨rfl, q2⟩
            have h2_0 : St w w2 [row (.slice A9 (xs.length) c9) xs, row (.slice B xs.length d) xs, nz b f xs, fz f s l'] := q2
            clear q2 h1_2
            have h2_1 : St w w2 [row (.slice B xs.length d) xs, nz b f xs, fz f s l'] := h2_0.drop
            clear h2_0
            have h2_2 : St w w2 [fz f s l', row (.slice B xs.length d) xs, nz b f xs] := h2_1.pick 2
            clear h2_1
            have h2_3 : St w w2 [nz b f xs, fz f s l', row (.slice B xs.length d) xs] := h2_2.pick 2
            clear h2_2
            go_wp2_with fail
            all_goals go_roundw
            all_goals first | exact ⟨n + 1, xs, s, l', B, d, by first | rfl | simp, by go_num, by omega, by omega, by first | omega | (simp; omega), HG.out, h2_3⟩ | (simp [intOf]; omega)
          · skip
            go_wp2_with fail
            refine (send_bad b x _ (Or.inr hbad)).mono ?_
            rintro e_ wx ⟨rfl, ew⟩
            have ew := ew.symm
            subst ew
            go_wp2_with fail
            refine (sent_n (xs.length) h0_0 (by first | omega | (simp; omega)) (by simp)).mono ?_
            rintro e_ w1 ⟨A9, c9, rfl, q1⟩
            have h1_0 : St w w1 [row (.slice A9 (xs.length) c9) xs, nz b f xs, fz f s l', row (.slice B xs.length d) xs] := q1
            clear q1 h0_0
            have h1_1 : St w w1 [row (.slice B xs.length d) xs, row (.slice A9 (xs.length) c9) xs, nz b f xs, fz f s l'] := h1_0.pick 3
            clear h1_0
            have h1_2 : St w w1 [row (.slice A9 (xs.length) c9) xs, row (.slice B xs.length d) xs, nz b f xs, fz f s l'] := h1_1.pick 1
            clear h1_1
            go_wp2_with fail
            refine (eq_s h1_2 (by first | omega | (simp; omega))).mono ?_
            rintro e_ w2 ⟨rfl, q2⟩
            have h2_0 : St w w2 [row (.slice A9 (xs.length) c9) xs, row (.slice B xs.length d) xs, nz b f xs, fz f s l'] := q2
            clear q2 h1_2
            have h2_1 : St w w2 [row (.slice B xs.length d) xs, nz b f xs, fz f s l'] := h2_0.drop
            clear h2_0
            have h2_2 : St w w2 [fz f s l', row (.slice B xs.length d) xs, nz b f xs] := h2_1.pick 2
            clear h2_1
            have h2_3 : St w w2 [nz b f xs, fz f s l', row (.slice B xs.length d) xs] := h2_2.pick 2
            clear h2_2
            go_wp2_with fail
            all_goals go_roundw
            all_goals first | exact ⟨n + 1, xs, s, l', B, d, by first | rfl | simp, by go_num, by omega, by omega, by first | omega | (simp; omega), HG.out, h2_3⟩ | (simp [intOf]; omega)
        · skip
          have hx1 : 0 ≤ x := by omega
          have hx2 : x ≤ 1099511627776 := by omega
          clear hbad
          by_cases hd : (s = 2 ∨ (s = 1 ∧ l' = 0))
          · have hlen : (xs.length : Int) = K := by have := HG.out; unfold gS at this; omega
            have z0 := (h0_0.bel.cell ha).symm.trans y0
            have HD := Lib.hid hd
            clear hd
            go_wp2_with fail
            refine (send_d x h0_0 ⟨hx1, hx2⟩ HD.out (by omega)).mono ?_
            rintro e_ w1 ⟨rfl, q1⟩
            have h1_0 : St w w1 [nz b f xs, fz f 2 0, row (.slice B xs.length d) xs] := q1
            clear q1 h0_0
            have y1 : w1.cell? ⟨a, off + n, none⟩ = some (.int .i64 x) := (h1_0.bel.cell ha).trans z0
            go_wp2_with fail
            refine (sent_n (xs.length) h1_0 (by first | omega | (simp; omega)) (by simp)).mono ?_
            rintro e_ w2 ⟨A9, c9, rfl, q2⟩
            have h2_0 : St w w2 [row (.slice A9 (xs.length) c9) xs, nz b f xs, fz f 2 0, row (.slice B xs.length d) xs] := q2
            clear q2 h1_0
            have h2_1 : St w w2 [row (.slice B xs.length d) xs, row (.slice A9 (xs.length) c9) xs, nz b f xs, fz f 2 0] := h2_0.pick 3
            clear h2_0
            have h2_2 : St w w2 [row (.slice A9 (xs.length) c9) xs, row (.slice B xs.length d) xs, nz b f xs, fz f 2 0] := h2_1.pick 1
            clear h2_1
            go_wp2_with fail
            refine (eq_s h2_2 (by first | omega | (simp; omega))).mono ?_
            rintro e_ w3 ⟨rfl, q3⟩
            have h3_0 : St w w3 [row (.slice A9 (xs.length) c9) xs, row (.slice B xs.length d) xs, nz b f xs, fz f 2 0] := q3
            clear q3 h2_2
            have h3_1 : St w w3 [row (.slice B xs.length d) xs, nz b f xs, fz f 2 0] := h3_0.drop
            clear h3_0
            have h3_2 : St w w3 [fz f 2 0, row (.slice B xs.length d) xs, nz b f xs] := h3_1.pick 2
            clear h3_1
            have h3_3 : St w w3 [nz b f xs, fz f 2 0, row (.slice B xs.length d) xs] := h3_2.pick 2
            clear h3_2
            go_wp2_with fail
            all_goals go_roundw
            all_goals first | exact ⟨n + 1, xs, 2, 0, B, d, by first | rfl | simp, by go_num, by omega, by omega, by first | omega | (simp; omega), Or.inr ⟨rfl, hlen⟩, h3_3⟩ | (simp [intOf]; omega)
          · obtain ⟨rfl, hl1, hl2⟩ : s = 1 ∧ 1 ≤ l' ∧ l' = K - xs.length := by have := HG.out; unfold gS at this; omega
            have z0 := (h0_0.bel.cell ha).symm.trans y0
            clear hd HG
            have hlen : (xs.length : Int) < K := by omega
            have HL := Lib.hid hl2
            clear hl2
            go_wp2_with fail
            refine (send_a x h0_0 ⟨hx1, hx2⟩ ⟨hl1, by have := HL.out; omega⟩ (by omega)).mono ?_
            rintro e_ w1 ⟨rfl, q1⟩
            have h1_0 : St w w1 [nz b f (xs ++ [x]), fz f 1 (l' - 1), row (.slice B xs.length d) xs] := q1
            clear q1 h0_0
            have y1 : w1.cell? ⟨a, off + n, none⟩ = some (.int .i64 x) := (h1_0.bel.cell ha).trans z0
            have h1_1 : St w w1 [row (.slice B xs.length d) xs, nz b f (xs ++ [x]), fz f 1 (l' - 1)] := h1_0.pick 2
            clear h1_0
            go_wp2_with (at_builtin; refine row_append _ _ _ _ xs x h1_1 rfl rfl rfl rfl (by omega) ?_; intro B2 d2 w9 q9)
            clear h1_1 y1
            have y9 : w9.cell? ⟨a, off + n, none⟩ = some (.int .i64 x) := (q9.bel.cell ha).trans z0
            have h9_1 : St w w9 [nz b f (xs ++ [x]), row (.slice B2 (xs.length + 1) d2) (xs ++ [x]), fz f 1 (l' - 1)] := q9.pick 1
            clear q9
            refine (sent_n (xs.length + 1) h9_1 (by first | omega | (simp; omega)) (by simp)).mono ?_
            rintro e_ w10 ⟨A9, c9, rfl, q10⟩
            have h10_0 : St w w10 [row (.slice A9 (xs.length + 1) c9) (xs ++ [x]), nz b f (xs ++ [x]), row (.slice B2 (xs.length + 1) d2) (xs ++ [x]), fz f 1 (l' - 1)] := q10
            clear q10 h9_1
            have h10_1 : St w w10 [row (.slice B2 (xs.length + 1) d2) (xs ++ [x]), row (.slice A9 (xs.length + 1) c9) (xs ++ [x]), nz b f (xs ++ [x]), fz f 1 (l' - 1)] := h10_0.pick 2
            clear h10_0
            have h10_2 : St w w10 [row (.slice A9 (xs.length + 1) c9) (xs ++ [x]), row (.slice B2 (xs.length + 1) d2) (xs ++ [x]), nz b f (xs ++ [x]), fz f 1 (l' - 1)] := h10_1.pick 1
            clear h10_1
            go_wp2_with fail
            refine (eq_s h10_2 (by first | omega | (simp; omega))).mono ?_
            rintro e_ w11 ⟨rfl, q11⟩
            have h11_0 : St w w11 [row (.slice A9 (xs.length + 1) c9) (xs ++ [x]), row (.slice B2 (xs.length + 1) d2) (xs ++ [x]), nz b f (xs ++ [x]), fz f 1 (l' - 1)] := q11
            clear q11 h10_2
            have h11_1 : St w w11 [row (.slice B2 (xs.length + 1) d2) (xs ++ [x]), nz b f (xs ++ [x]), fz f 1 (l' - 1)] := h11_0.drop
            clear h11_0
            have h11_2 : St w w11 [fz f 1 (l' - 1), row (.slice B2 (xs.length + 1) d2) (xs ++ [x]), nz b f (xs ++ [x])] := h11_1.pick 2
            clear h11_1
            have h11_3 : St w w11 [nz b f (xs ++ [x]), fz f 1 (l' - 1), row (.slice B2 (xs.length + 1) d2) (xs ++ [x])] := h11_2.pick 2
            clear h11_2
            have HR9 : St w w11 [nz b f (xs ++ [x]), fz f 1 (l' - 1), row (.slice B2 (xs ++ [x]).length d2) (xs ++ [x])] := by rw [show (xs ++ [x]).length = xs.length + 1 by simp]; exact h11_3
            go_wp2_with fail
            all_goals go_roundw
            all_goals first | exact ⟨n + 1, (xs ++ [x]), 1, (l' - 1), B2, d2, by first | rfl | simp, by go_num, by omega, by omega, by first | omega | (simp; omega), Or.inl ⟨rfl, by have := HL.out; simp; omega, by simp; omega⟩, HR9⟩ | (simp [intOf]; omega)
      · skip
        have hn0 : (0 : Int) ≤ (n : Int) := by omega
        go_wp2_with fail
        refine (awake_s h0_0).mono ?_
        rintro e_ w1 ⟨rfl, q1⟩
        have h1_0 : St w w1 [nz b f xs, fz f s l', row (.slice B xs.length d) xs] := q1
        clear q1 h0_0
        go_wp2
        go_ret
        exact ⟨rfl, h1_0.bel⟩
    · skip
      have hn0 : (0 : Int) ≤ (n : Int) := by omega
      go_wp2_with fail
      refine (awake_s h0_0).mono ?_
      rintro e_ w1 ⟨rfl, q1⟩
      have h1_0 : St w w1 [nz b f xs, fz f s l', row (.slice B xs.length d) xs] := q1
      clear q1 h0_0
      go_wp2
      go_ret
      exact ⟨rfl, h1_0.bel⟩
end Go.Proofs.Ytecneikblkjgoaa
