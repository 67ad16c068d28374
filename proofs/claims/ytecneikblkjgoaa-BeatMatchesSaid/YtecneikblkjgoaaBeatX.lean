/- The law BeatMatches. Printed by gen/beatx.py. -/
import Derived.Test.YtecneikblkjgoaaBase
import Derived.Test.YtecneikblkjgoaaBeatM
import Derived.Test.YtecneikblkjgoaaProg
import Derived.Lib.Hide
import Derived.Deep.RegionHeld3
import Derived.Deep.Cut
import Derived.Deep.CutRange
namespace Go.Proofs.Ytecneikblkjgoaa
open Go.RowKit Go.Proofs.YtecneikblkjgoaaW.PrintWords Go.Proofs.YtecneikblkjgoaaW.PrintLast Go.Proofs.YtecneikblkjgoaaW.PrintMore
set_option linter.unusedSimpArgs false
set_option linter.unusedVariables false

/-- The net before the copy: it is the net itself, or one that lies beside it. -/
def CD (a b c d : Nat) (L : List HP) : Prop := (c = a ∧ d = b ∧ L = []) ∨ ∃ fc gd ys, ys.length ≤ 60 ∧ L = [nz c fc ys, nr d gd ys]
/-- What a round of BeatMatches knows. -/
structure BM (w0 w : World) (f g a b c d : Nat) (xs : List Int) (s l : Int) (L : List HP) : Prop where
  st : St w0 w (nz a f xs :: nr b g xs :: fz f s l :: rf g s l :: L)
  fin : Fin s l
  len : xs.length ≤ 60
  cd : CD a b c d L

theorem St.take2 {w0 w : World} {P Q : HP} {L : List HP} (h : St w0 w (P :: Q :: L)) : St w0 w [P, Q] := by
  obtain ⟨⟨S, l, p, d, T, l2, p2, d2, r⟩, b⟩ := h
  exact ⟨⟨S, l, p, d, T, l2, p2, d2, trivial⟩, b⟩
theorem rsent_n {w0 w : World} {L : List HP} {b f : Nat} {xs : List Int} (n : Nat) (h : St w0 w (nr b f xs :: L)) (hx : xs.length ≤ 100000) (hn : n = xs.length) :
    Calls Try.prog 26 #[.pointer (some ⟨b, 0, none⟩)] w fun e w' => ∃ A c, e = .returned (.slice A n c) ∧ St w0 w' (row (.slice A n c) xs :: nr b f xs :: L) := by
  subst hn; exact rsent_s h hx
theorem seX_len (xs : List Int) (t s l : Int) : (seX xs t s l).length ≤ xs.length + 1 := by
  unfold seX; split <;> simp

set_option maxRecDepth 100000 in
set_option maxHeartbeats 8000000 in
theorem walk_BeatMatches (w : World) (A : Option Addr) (cp : Nat) (l : List E46) (hl : SL37 w A cp l) (at_ : Int) (hk_ : (Lit.int .i64 at_).wf = true) :
    Calls Try.prog 6 #[.slice A l.length cp, .int .i64 at_] w fun e w' => e = .returned (.bool true) ∧ Below w.heap.size w w' := by
  obtain ⟨l1, l2, l3⟩ := hl
  have hmax : l.length ≤ 9223372036854775807 := by have := l2; simp only [maxLen] at this; omega
  have H3 := Lib.hid l3
  clear l3 hk_ l2
  have h0 := St.start w
  go_enter Try.func6, Try.ntmps6
  go_wp2_with fail
  refine (fnew_s h0).mono ?_
  rintro e_ w1 ⟨f, rfl, q1⟩
  have h1_0 : St w w1 [fz f 0 0] := q1
  clear q1 h0
  go_wp2_with fail
  have hg := h1_0.rfz
  clear h1_0
  generalize w1.heap.size = g at *
  generalize (w1.alloc (.cells #[.bool false, .bool false, .int .i64 0] 40)) = wg at *
  refine (bnew_s f hg).mono ?_
  rintro e_ w2 ⟨a, rfl, q2⟩
  have h2_0 : St w w2 [nz a f [], rf g 0 0, fz f 0 0] := q2
  clear q2 hg
  go_wp2_with fail
  refine (rbnew_s g h2_0).mono ?_
  rintro e_ w3 ⟨b, rfl, q3⟩
  have h3_0 : St w w3 [nr b g [], nz a f [], rf g 0 0, fz f 0 0] := q3
  clear q3 h2_0
  have h3_1 : St w w3 [rf g 0 0, nr b g [], nz a f [], fz f 0 0] := h3_0.pick 2
  clear h3_0
  have h3_2 : St w w3 [fz f 0 0, rf g 0 0, nr b g [], nz a f []] := h3_1.pick 3
  clear h3_1
  have h3_3 : St w w3 [nr b g [], fz f 0 0, rf g 0 0, nz a f []] := h3_2.pick 2
  clear h3_2
  have h3_4 : St w w3 [nz a f [], nr b g [], fz f 0 0, rf g 0 0] := h3_3.pick 3
  clear h3_3
  go_wp2_with fail
  go_loopw [5, 6, 7, 9, 11, 12, 13] (fun v5 v6 v7 v9 v11 v12 i wr => ∃ (n : Nat) (f g a b c d : Nat) (xs : List Int) (s l' : Int) (L : List HP), v5 = .pointer (some ⟨f, 0, none⟩) ∧ v6 = .pointer (some ⟨g, 0, none⟩) ∧ v7 = .pointer (some ⟨a, 0, none⟩) ∧ v9 = .pointer (some ⟨b, 0, none⟩) ∧ v11 = .pointer (some ⟨c, 0, none⟩) ∧ v12 = .pointer (some ⟨d, 0, none⟩) ∧ i = .int .i64 n ∧ n ≤ l.length ∧ n ≤ 60 ∧ xs.length ≤ n ∧ BM w wr f g a b c d xs s l' L) (fun _ _ _ _ _ _ i _ => 60 - (intOf i).toNat)
  case atStart => exact ⟨0, f, g, a, b, a, b, [], 0, 0, [], rfl, rfl, rfl, rfl, rfl, rfl, rfl, by omega, by omega, by simp, ⟨h3_4, Or.inl rfl, by simp, Or.inl ⟨rfl, rfl, rfl⟩⟩⟩
  case round =>
    clear h3_4
    obtain ⟨n, f, g, a, b, c, d, xs, s, l', L, rfl, rfl, rfl, rfl, rfl, rfl, rfl, hn1, hn2, hn3, hbm⟩ := hrel
    have hk0 : (0 : Int) ≤ (n : Int) := by omega
    by_cases m1 : (n < l.length)
    · by_cases m2 : (n < 60)
      · skip
        obtain ⟨q, off, rfl, ha, hcells⟩ : ∃ b off, A = some ⟨b, off, none⟩ ∧ b < w.heap.size ∧ _ := H3.out.resolve_left (by rintro rfl; simp at m1)
        obtain ⟨x0, x1, x1b, x2, x2b⟩ := hcells n m1
        clear hcells H3
        generalize (rdE46 l n).f0 = y0 at *
        generalize (rdE46 l n).f1 = y1 at *
        generalize (rdE46 l n).f2 = y2 at *
        have hy1 : y1 ≤ 9223372036854775807 := by simp [Lit.wf, IntKind.min, IntKind.max, IntKind.bits, IntKind.signed] at x1b; omega
        have HY1 := Lib.hid hy1
        have X := Lib.hid (And.intro x0 (And.intro x1 x2))
        clear x0 x1 x2 x1b x2b hy1
        have hk1 : (n : Int) < (l.length : Int) := by omega
        have hk2 : (n : Int) < 60 := by omega
        have HN := Lib.hid (show n < l.length ∧ n < 60 ∧ xs.length ≤ n from ⟨m1, m2, hn3⟩)
        clear m1 m2 hn1 hn2 hn3 hmax l1
        go_upto_if 55 with fail
        go_cut [5, 6, 7, 9, 11, 12] from 55 to 148 (fun v5 v6 v7 v9 v11 v12 wc => ∃ (f g a b c d : Nat) (L : List HP) (s l' : Int), v5 = .pointer (some ⟨f, 0, none⟩) ∧ v6 = .pointer (some ⟨g, 0, none⟩) ∧ v7 = .pointer (some ⟨a, 0, none⟩) ∧ v9 = .pointer (some ⟨b, 0, none⟩) ∧ v11 = .pointer (some ⟨c, 0, none⟩) ∧ v12 = .pointer (some ⟨d, 0, none⟩) ∧ BM w wc f g a b c d xs s l' L)
        case first =>
          by_cases hat : ((n : Int) = at_)
          · have hatb : ((n : Int) == at_) = true := by simpa using hat
            clear hat
            obtain ⟨hst, hfin, hlen, hcd⟩ := hbm
            have h0_0 : St w wr [nz a f xs, nr b g xs] := hst.take2
            clear hst hcd hfin
            have HLE := Lib.hid hlen
            clear hlen
            go_wp2_with fail
            refine (fnew_s h0_0).mono ?_
            rintro e_ w1 ⟨f2, rfl, q1⟩
            have h1_0 : St w w1 [fz f2 0 0, nz a f xs, nr b g xs] := q1
            clear q1 h0_0
            go_wp2_with fail
            have hg2 := h1_0.rfz
            clear h1_0
            generalize w1.heap.size = g2 at *
            generalize (w1.alloc (.cells #[.bool false, .bool false, .int .i64 0] 40)) = wg at *
            have h0_1 : St w wg [nz a f xs, rf g2 0 0, fz f2 0 0, nr b g xs] := hg2.pick 2
            clear hg2
            refine (bcopy_s f2 h0_1 (by have := HLE.out; omega)).mono ?_
            rintro e_ w6 ⟨a2, rfl, q6⟩
            have h6_0 : St w w6 [nz a2 f2 xs, nz a f xs, rf g2 0 0, fz f2 0 0, nr b g xs] := q6
            clear q6 h0_1
            have h6_1 : St w w6 [nr b g xs, nz a2 f2 xs, nz a f xs, rf g2 0 0, fz f2 0 0] := h6_0.pick 4
            clear h6_0
            go_wp2_with fail
            refine (rbcopy_s g2 h6_1 (by have := HLE.out; omega)).mono ?_
            rintro e_ w7 ⟨b2, rfl, q7⟩
            have h7_0 : St w w7 [nr b2 g2 xs, nr b g xs, nz a2 f2 xs, nz a f xs, rf g2 0 0, fz f2 0 0] := q7
            clear q7 h6_1
            have h7_1 : St w w7 [nr b g xs, nr b2 g2 xs, nz a2 f2 xs, nz a f xs, rf g2 0 0, fz f2 0 0] := h7_0.pick 1
            clear h7_0
            have h7_2 : St w w7 [nz a f xs, nr b g xs, nr b2 g2 xs, nz a2 f2 xs, rf g2 0 0, fz f2 0 0] := h7_1.pick 3
            clear h7_1
            have h7_3 : St w w7 [rf g2 0 0, nz a f xs, nr b g xs, nr b2 g2 xs, nz a2 f2 xs, fz f2 0 0] := h7_2.pick 4
            clear h7_2
            have h7_4 : St w w7 [fz f2 0 0, rf g2 0 0, nz a f xs, nr b g xs, nr b2 g2 xs, nz a2 f2 xs] := h7_3.pick 5
            clear h7_3
            have h7_5 : St w w7 [nr b2 g2 xs, fz f2 0 0, rf g2 0 0, nz a f xs, nr b g xs, nz a2 f2 xs] := h7_4.pick 4
            clear h7_4
            have h7_6 : St w w7 [nz a2 f2 xs, nr b2 g2 xs, fz f2 0 0, rf g2 0 0, nz a f xs, nr b g xs] := h7_5.pick 5
            clear h7_5
            go_wp2_with fail
            go_meet
            case rel => exact ⟨f2, g2, a2, b2, a, b, [nz a f xs, nr b g xs], 0, 0, rfl, rfl, rfl, rfl, rfl, rfl, ⟨h7_6, Or.inl rfl, HLE.out, Or.inr ⟨f, g, xs, HLE.out, rfl⟩⟩⟩
          · go_wp2_with fail
            go_meet
            case rel => exact ⟨f, g, a, b, c, d, L, s, l', rfl, rfl, rfl, rfl, rfl, rfl, hbm⟩
        case rest =>
          clear hbm
          obtain ⟨f, g, a, b, c, d, L, s, l', rfl, rfl, rfl, rfl, rfl, rfl, hbm⟩ := hcut
          have hbe := hbm.st.bel
          obtain ⟨x0, x1, x2⟩ := X.out
          have u0 := (hbe.cell ha (p := ⟨q, off + n * 3, none⟩)).trans x0
          have u1 := (hbe.cell ha (p := ⟨q, off + n * 3 + 1, none⟩)).trans x1
          have u2 := (hbe.cell ha (p := ⟨q, off + n * 3 + 2, none⟩)).trans x2
          clear x0 x1 x2
          go_upto_block 2 with fail
          obtain ⟨hst, hfin, hlen, hcd⟩ := hbm
          have h0_0 := hst.blk #[.bool y0, .int .i64 y1, .int .i64 y2] 46
          clear hst u0 u1 u2 hbe
          generalize wc.heap.size = bx at *
          generalize (wc.alloc (.cells #[.bool y0, .int .i64 y1, .int .i64 y2] 46)) = wd at *
          have FIN := Lib.hid hfin
          have HCD := Lib.hid hcd
          have HLE := Lib.hid hlen
          clear hfin hcd hlen
          have hcx := h0_0.cells
          go_cut [] from 77 to 148 (fun wf => ∃ (ys : List Int) (s2 l2 : Int), ys.length ≤ xs.length + 1 ∧ Fin s2 l2 ∧ St w wf (nz a f ys :: nr b g ys :: fz f s2 l2 :: rf g s2 l2 :: L))
          case first =>
            go_upto_region 19 with fail
            go_cut [86] from 87 to 148 (fun v86 we => v86 = .bool (y0 && decide (y1 < 0)) ∧ we = wd)
            case first =>
              cases y0 <;> (go_wp2_with fail; go_meet; case rel => exact ⟨by simp, rfl⟩)
            case rest =>
              obtain ⟨e86, ew⟩ := hcut
              have ew := ew.symm
              subst ew
              cases y0 with
              | true =>
                by_cases hneg : (y1 < 0)
                · have e : (true && decide (y1 < 0)) = true := by simpa using hneg
                  rw [e] at e86
                  subst e86
                  clear hneg e hcx
                  have h0_1 : St w wd (fz f s l' :: blk bx #[.bool true, .int .i64 y1, .int .i64 y2] 46 :: nz a f xs :: nr b g xs :: rf g s l' :: L) := h0_0.pick 3
                  clear h0_0
                  go_wp2_with fail
                  refine (reset_s h0_1).mono ?_
                  rintro e_ w1 ⟨rfl, q1⟩
                  have h1_0 : St w w1 (fz f 0 0 :: blk bx #[.bool true, .int .i64 y1, .int .i64 y2] 46 :: nz a f xs :: nr b g xs :: rf g s l' :: L) := q1
                  clear q1 h0_1
                  have h1_1 : St w w1 (rf g s l' :: fz f 0 0 :: blk bx #[.bool true, .int .i64 y1, .int .i64 y2] 46 :: nz a f xs :: nr b g xs :: L) := h1_0.pick 4
                  clear h1_0
                  go_wp2_with fail
                  refine (rreset_s h1_1).mono ?_
                  rintro e_ w2 ⟨rfl, q2⟩
                  have h2_0 : St w w2 (rf g 0 0 :: fz f 0 0 :: blk bx #[.bool true, .int .i64 y1, .int .i64 y2] 46 :: nz a f xs :: nr b g xs :: L) := q2
                  clear q2 h1_1
                  have h2_1 : St w w2 (blk bx #[.bool true, .int .i64 y1, .int .i64 y2] 46 :: rf g 0 0 :: fz f 0 0 :: nz a f xs :: nr b g xs :: L) := h2_0.pick 2
                  clear h2_0
                  have h2_2 : St w w2 (rf g 0 0 :: fz f 0 0 :: nz a f xs :: nr b g xs :: L) := h2_1.drop
                  clear h2_1
                  have h2_3 : St w w2 (fz f 0 0 :: rf g 0 0 :: nz a f xs :: nr b g xs :: L) := h2_2.pick 1
                  clear h2_2
                  have h2_4 : St w w2 (nr b g xs :: fz f 0 0 :: rf g 0 0 :: nz a f xs :: L) := h2_3.pick 3
                  clear h2_3
                  have h2_5 : St w w2 (nz a f xs :: nr b g xs :: fz f 0 0 :: rf g 0 0 :: L) := h2_4.pick 3
                  clear h2_4
                  go_wp2_with fail
                  all_goals go_meet
                  case rel => exact ⟨xs, 0, 0, Nat.le_succ _, Or.inl rfl, h2_5⟩
                · have e : (true && decide (y1 < 0)) = false := by simp; omega
                  rw [e] at e86
                  subst e86
                  clear hneg e
                  have h0_1 : St w wd (rf g s l' :: blk bx #[.bool true, .int .i64 y1, .int .i64 y2] 46 :: nz a f xs :: nr b g xs :: fz f s l' :: L) := h0_0.pick 4
                  clear h0_0
                  have h0_2 : St w wd (fz f s l' :: rf g s l' :: blk bx #[.bool true, .int .i64 y1, .int .i64 y2] 46 :: nz a f xs :: nr b g xs :: L) := h0_1.pick 4
                  clear h0_1
                  have z0 : wd.cell? ⟨bx, 1, none⟩ = some (.int .i64 y1) := hcx 1
                  go_upto_region 23 with fail
                  clear hcx
                  go_region_held3 (fun w' => w'.cell? ⟨bx, 1, none⟩ = some (.int .i64 y1)) (first | exact z2 | exact z1 | exact z0) (first | (go_at_call 14; refine (arm_s y1 (by first | exact h0_2 | exact h0_2.drew)).mono ?_; rintro e_ w2 ⟨rfl, q2⟩; have z1 : w2.cell? ⟨bx, 1, none⟩ = some (.int .i64 y1) := (q2.pick 2).cells 1; have q3 : St w w2 (rf g s l' :: fz f (arS s y1) (arL s l' y1) :: blk bx #[.bool true, .int .i64 y1, .int .i64 y2] 46 :: nz a f xs :: nr b g xs :: L) := q2.pick 1; clear q2) | (go_at_call 24; refine (rarm_s y1 (by first | exact q3 | exact q3.drew) HY1.out).mono ?_; rintro e_ w3 ⟨rfl, q4⟩; have z2 : w3.cell? ⟨bx, 1, none⟩ = some (.int .i64 y1) := (q4.pick 2).cells 1))
                  all_goals clear z0 z1 z2 q3 h0_2
                  have h3_1 : St w _ (blk bx #[.bool true, .int .i64 y1, .int .i64 y2] 46 :: rf g (arS s y1) (arL s l' y1) :: fz f (arS s y1) (arL s l' y1) :: nz a f xs :: nr b g xs :: L) := q4.pick 2
                  clear q4
                  have h3_2 : St w _ (rf g (arS s y1) (arL s l' y1) :: fz f (arS s y1) (arL s l' y1) :: nz a f xs :: nr b g xs :: L) := h3_1.drop
                  clear h3_1
                  have h3_3 : St w _ (fz f (arS s y1) (arL s l' y1) :: rf g (arS s y1) (arL s l' y1) :: nz a f xs :: nr b g xs :: L) := h3_2.pick 1
                  clear h3_2
                  have h3_4 : St w _ (nr b g xs :: fz f (arS s y1) (arL s l' y1) :: rf g (arS s y1) (arL s l' y1) :: nz a f xs :: L) := h3_3.pick 3
                  clear h3_3
                  have h3_5 : St w _ (nz a f xs :: nr b g xs :: fz f (arS s y1) (arL s l' y1) :: rf g (arS s y1) (arL s l' y1) :: L) := h3_4.pick 3
                  clear h3_4
                  go_wp2_with fail
                  all_goals go_meet
                  case rel => exact ⟨xs, _, _, Nat.le_succ _, (FIN.out.ar HY1.out), h3_5⟩
              | false =>
                have e : (false && decide (y1 < 0)) = false := rfl
                rw [e] at e86
                subst e86
                clear e
                have h0_1 : St w wd (rf g s l' :: blk bx #[.bool false, .int .i64 y1, .int .i64 y2] 46 :: nz a f xs :: nr b g xs :: fz f s l' :: L) := h0_0.pick 4
                clear h0_0
                have h0_2 : St w wd (nr b g xs :: rf g s l' :: blk bx #[.bool false, .int .i64 y1, .int .i64 y2] 46 :: nz a f xs :: fz f s l' :: L) := h0_1.pick 3
                clear h0_1
                have h0_3 : St w wd (fz f s l' :: nr b g xs :: rf g s l' :: blk bx #[.bool false, .int .i64 y1, .int .i64 y2] 46 :: nz a f xs :: L) := h0_2.pick 4
                clear h0_2
                have h0_4 : St w wd (nz a f xs :: fz f s l' :: nr b g xs :: rf g s l' :: blk bx #[.bool false, .int .i64 y1, .int .i64 y2] 46 :: L) := h0_3.pick 4
                clear h0_3
                have z0 : wd.cell? ⟨bx, 2, none⟩ = some (.int .i64 y2) := hcx 2
                go_upto_region 17 with fail
                clear hcx
                go_region_held3 (fun w' => w'.cell? ⟨bx, 2, none⟩ = some (.int .i64 y2)) (first | exact z2 | exact z1 | exact z0) (first | (go_at_call 15; refine (send_s y2 (by first | exact h0_4 | exact h0_4.drew) FIN.out (by have := HLE.out; omega)).mono ?_; rintro e_ w2 ⟨rfl, q2⟩; have z1 : w2.cell? ⟨bx, 2, none⟩ = some (.int .i64 y2) := (q2.pick 4).cells 2; have q3 : St w w2 (nr b g xs :: rf g s l' :: nz a f (seX xs y2 s l') :: fz f (seS y2 s l') (seL y2 s l') :: blk bx #[.bool false, .int .i64 y1, .int .i64 y2] 46 :: L) := (q2.pick 3).pick 3; clear q2) | (go_at_call 25; refine (rsend_s y2 (by first | exact q3 | exact q3.drew) FIN.out (by have := HLE.out; omega)).mono ?_; rintro e_ w3 ⟨rfl, q4⟩; have z2 : w3.cell? ⟨bx, 2, none⟩ = some (.int .i64 y2) := (q4.pick 4).cells 2))
                all_goals clear z0 z1 z2 q3 h0_4
                have h3_1 : St w _ (blk bx #[.bool false, .int .i64 y1, .int .i64 y2] 46 :: nr b g (seX xs y2 s l') :: rf g (seS y2 s l') (seL y2 s l') :: nz a f (seX xs y2 s l') :: fz f (seS y2 s l') (seL y2 s l') :: L) := q4.pick 4
                clear q4
                have h3_2 : St w _ (nr b g (seX xs y2 s l') :: rf g (seS y2 s l') (seL y2 s l') :: nz a f (seX xs y2 s l') :: fz f (seS y2 s l') (seL y2 s l') :: L) := h3_1.drop
                clear h3_1
                have h3_3 : St w _ (rf g (seS y2 s l') (seL y2 s l') :: nr b g (seX xs y2 s l') :: nz a f (seX xs y2 s l') :: fz f (seS y2 s l') (seL y2 s l') :: L) := h3_2.pick 1
                clear h3_2
                have h3_4 : St w _ (fz f (seS y2 s l') (seL y2 s l') :: rf g (seS y2 s l') (seL y2 s l') :: nr b g (seX xs y2 s l') :: nz a f (seX xs y2 s l') :: L) := h3_3.pick 3
                clear h3_3
                have h3_5 : St w _ (nr b g (seX xs y2 s l') :: fz f (seS y2 s l') (seL y2 s l') :: rf g (seS y2 s l') (seL y2 s l') :: nz a f (seX xs y2 s l') :: L) := h3_4.pick 2
                clear h3_4
                have h3_6 : St w _ (nz a f (seX xs y2 s l') :: nr b g (seX xs y2 s l') :: fz f (seS y2 s l') (seL y2 s l') :: rf g (seS y2 s l') (seL y2 s l') :: L) := h3_5.pick 3
                clear h3_5
                go_wp2_with fail
                all_goals go_meet
                case rel => exact ⟨_, _, _, (seX_len _ _ _ _), (FIN.out.se y2), h3_6⟩
          case rest =>
            clear h0_0 hcx FIN
            obtain ⟨ys, s2, l2, hln, hfin, h0_0⟩ := hcut
            have FIN := Lib.hid hfin
            have hly : ys.length ≤ 60 := by have := HN.out; omega
            have HLY := Lib.hid hly
            have HLN := Lib.hid hln
            clear hly hln hfin
            have e0_0 := h0_0
            clear h0_0
            go_wp2_with fail
            refine (sent_n ys.length e0_0 (by have := HLY.out; omega) rfl).mono ?_
            rintro e_ w21 ⟨A9, c9, rfl, q21⟩
            have h21_0 : St w w21 (row (.slice A9 ys.length c9) ys :: nz a f ys :: nr b g ys :: fz f s2 l2 :: rf g s2 l2 :: L) := q21
            clear q21 e0_0
            have h21_1 : St w w21 (nr b g ys :: row (.slice A9 ys.length c9) ys :: nz a f ys :: fz f s2 l2 :: rf g s2 l2 :: L) := h21_0.pick 2
            clear h21_0
            have z0 := ((h21_1.pick 4)).rdead
            go_upto_region 26 with fail
            go_region_held3 (fun w' => w'.cell? ⟨g, 1, none⟩ = some (.bool (s2 == 2))) (first | exact z2 | exact z1 | exact z0) (first | (go_at_call 26; refine (rsent_s (by first | exact h21_1 | exact h21_1.drew) (by have := HLY.out; omega)).mono ?_; rintro e_ w2 ⟨A8, c8, rfl, q2⟩; have z1 : w2.cell? ⟨g, 1, none⟩ = some (.bool (s2 == 2)) := (q2.pick 5).rdead; have q3 : St w w2 (row (.slice A9 ys.length c9) ys :: row (.slice A8 ys.length c8) ys :: nr b g ys :: nz a f ys :: fz f s2 l2 :: rf g s2 l2 :: L) := q2.pick 2; clear q2) | (go_at_call 16; refine (eq_s (by first | exact q3 | exact q3.drew) (by have := HLY.out; omega)).mono ?_; rintro e_ w3 ⟨rfl, q4⟩; have z2 : w3.cell? ⟨g, 1, none⟩ = some (.bool (s2 == 2)) := (q4.pick 5).rdead; have q5 : St w w3 (fz f s2 l2 :: row (.slice A9 ys.length c9) ys :: row (.slice A8 ys.length c8) ys :: nr b g ys :: nz a f ys :: rf g s2 l2 :: L) := q4.pick 4; clear q4) | (go_at_call 27; refine (blown_s (by first | exact q5 | exact q5.drew)).mono ?_; rintro e_ w4 ⟨rfl, ew⟩; have ew := ew.symm; subst ew))
            have q6 := ((q5.pick 2).drop.pick 1)
            clear z0 z1 z2 q3 q5 h21_1
            go_wp2_with fail
            go_loopw [16] (fun v wr => ∃ (j : Nat) (zs : List Int), v = .int .i64 j ∧ j ≤ ys.length ∧ zs.length = ys.length ∧ St w wr (row (.slice A9 ys.length c9) zs :: fz f s2 l2 :: nr b g ys :: nz a f ys :: rf g s2 l2 :: L)) (fun v _ => ys.length - (intOf v).toNat)
            case atStart => exact ⟨0, ys, rfl, by omega, rfl, q6⟩
            case round =>
              clear q6
              obtain ⟨j, zs, rfl, hj1, hj2, hz⟩ := hrel
              have hj0 : (0 : Int) ≤ (j : Int) := by omega
              by_cases hj : (j < ys.length)
              · obtain ⟨b9, rfl, hs, hf, q7⟩ := hz.rowset hj2.symm j hj (-7)
                obtain ⟨v9, hv⟩ := Option.isSome_iff_exists.1 hs
                have hj3 : (j : Int) < (ys.length : Int) := by omega
                have hj4 : (j : Int) < 60 := by have := HLY.out; omega
                have HJ := Lib.hid (And.intro hj hj2)
                clear hz hs hj hj1 hj2
                go_wp2_with fail
                all_goals go_roundw
                all_goals first | exact ⟨j + 1, zs.set j (-7), by go_num, by have := HJ.out; omega, by rw [List.length_set]; exact HJ.out.2, q7⟩ | (have := HJ.out; simp [intOf]; omega)
              · have hj3 : ¬ (j : Int) < (ys.length : Int) := by omega
                clear hj hj1 hj2
                have h0_0 := hz.drop
                clear hz
                have h30_2 : St w _ (nz a f ys :: fz f s2 l2 :: nr b g ys :: rf g s2 l2 :: L) := h0_0.pick 2
                clear h0_0
                go_wp2_with fail
                refine (sent_n ys.length h30_2 (by have := HLY.out; omega) rfl).mono ?_
                rintro e_ w31 ⟨S30, s30, rfl, q31⟩
                have h31_0 : St w w31 (row (.slice S30 ys.length s30) ys :: nz a f ys :: fz f s2 l2 :: nr b g ys :: rf g s2 l2 :: L) := q31
                clear q31 h30_2
                have h31_1 : St w w31 (nr b g ys :: row (.slice S30 ys.length s30) ys :: nz a f ys :: fz f s2 l2 :: rf g s2 l2 :: L) := h31_0.pick 3
                clear h31_0
                go_wp2_with fail
                refine (rsent_n ys.length h31_1 (by have := HLY.out; omega) rfl).mono ?_
                rintro e_ w32 ⟨S31, s31, rfl, q32⟩
                have h32_0 : St w w32 (row (.slice S31 ys.length s31) ys :: nr b g ys :: row (.slice S30 ys.length s30) ys :: nz a f ys :: fz f s2 l2 :: rf g s2 l2 :: L) := q32
                clear q32 h31_1
                have h32_1 : St w w32 (row (.slice S30 ys.length s30) ys :: row (.slice S31 ys.length s31) ys :: nr b g ys :: nz a f ys :: fz f s2 l2 :: rf g s2 l2 :: L) := h32_0.pick 2
                clear h32_0
                go_wp2_with fail
                refine (eq_s h32_1 (by have := HLY.out; omega)).mono ?_
                rintro e_ w33 ⟨rfl, q33⟩
                have h33_0 : St w w33 (row (.slice S30 ys.length s30) ys :: row (.slice S31 ys.length s31) ys :: nr b g ys :: nz a f ys :: fz f s2 l2 :: rf g s2 l2 :: L) := q33
                clear q33 h32_1
                have h33_1 : St w w33 (nr b g ys :: nz a f ys :: fz f s2 l2 :: rf g s2 l2 :: L) := h33_0.drop.drop
                clear h33_0
                rcases HCD.out with ⟨e1, e2, e3⟩ | ⟨fc, gd, zs', hz1, e3⟩
                · have e1 := e1.symm
                  have e2 := e2.symm
                  subst e3
                  subst e1
                  subst e2
                  have h33_2 : St w w33 [nz a f ys, nr b g ys, fz f s2 l2, rf g s2 l2] := h33_1.pick 1
                  clear h33_1
                  go_wp2_with fail
                  refine (sent_n ys.length h33_2 (by have := HLY.out; omega) rfl).mono ?_
                  rintro e_ w34 ⟨S33, s33, rfl, q34⟩
                  have h34_0 : St w w34 [row (.slice S33 ys.length s33) ys, nz a f ys, nr b g ys, fz f s2 l2, rf g s2 l2] := q34
                  clear q34 h33_2
                  have h34_1 : St w w34 [nr b g ys, row (.slice S33 ys.length s33) ys, nz a f ys, fz f s2 l2, rf g s2 l2] := h34_0.pick 2
                  clear h34_0
                  go_wp2_with fail
                  refine (rsent_n ys.length h34_1 (by have := HLY.out; omega) rfl).mono ?_
                  rintro e_ w35 ⟨S34, s34, rfl, q35⟩
                  have h35_0 : St w w35 [row (.slice S34 ys.length s34) ys, nr b g ys, row (.slice S33 ys.length s33) ys, nz a f ys, fz f s2 l2, rf g s2 l2] := q35
                  clear q35 h34_1
                  have h35_1 : St w w35 [row (.slice S33 ys.length s33) ys, row (.slice S34 ys.length s34) ys, nr b g ys, nz a f ys, fz f s2 l2, rf g s2 l2] := h35_0.pick 2
                  clear h35_0
                  go_wp2_with fail
                  refine (eq_s h35_1 (by have := HLY.out; omega)).mono ?_
                  rintro e_ w36 ⟨rfl, q36⟩
                  have h36_0 : St w w36 [row (.slice S33 ys.length s33) ys, row (.slice S34 ys.length s34) ys, nr b g ys, nz a f ys, fz f s2 l2, rf g s2 l2] := q36
                  clear q36 h35_1
                  have h36_1 : St w w36 [nr b g ys, nz a f ys, fz f s2 l2, rf g s2 l2] := h36_0.drop.drop
                  clear h36_0
                  have h36_2 : St w w36 [rf g s2 l2, nr b g ys, nz a f ys, fz f s2 l2] := h36_1.pick 3
                  clear h36_1
                  have h36_3 : St w w36 [fz f s2 l2, rf g s2 l2, nr b g ys, nz a f ys] := h36_2.pick 3
                  clear h36_2
                  have h36_4 : St w w36 [nr b g ys, fz f s2 l2, rf g s2 l2, nz a f ys] := h36_3.pick 2
                  clear h36_3
                  have h36_5 : St w w36 [nz a f ys, nr b g ys, fz f s2 l2, rf g s2 l2] := h36_4.pick 3
                  clear h36_4
                  go_wp2_with fail
                  all_goals go_roundw
                  all_goals first | exact ⟨n + 1, f, g, a, b, a, b, ys, s2, l2, [], rfl, rfl, rfl, rfl, rfl, rfl, by go_num, by have := HN.out; omega, by have := HN.out; omega, by have h8 := HN.out; have h9 := HLN.out; omega, ⟨h36_5, FIN.out, HLY.out, Or.inl ⟨rfl, rfl, rfl⟩⟩⟩ | (simp [intOf]; omega)
                · subst e3
                  have HZ := Lib.hid hz1
                  clear hz1
                  have h33_2 : St w w33 [nz c fc zs', nr b g ys, nz a f ys, fz f s2 l2, rf g s2 l2, nr d gd zs'] := h33_1.pick 4
                  clear h33_1
                  go_wp2_with fail
                  refine (sent_n zs'.length h33_2 (by have := HZ.out; omega) rfl).mono ?_
                  rintro e_ w34 ⟨S33, s33, rfl, q34⟩
                  have h34_0 : St w w34 [row (.slice S33 zs'.length s33) zs', nz c fc zs', nr b g ys, nz a f ys, fz f s2 l2, rf g s2 l2, nr d gd zs'] := q34
                  clear q34 h33_2
                  have h34_1 : St w w34 [nr d gd zs', row (.slice S33 zs'.length s33) zs', nz c fc zs', nr b g ys, nz a f ys, fz f s2 l2, rf g s2 l2] := h34_0.pick 6
                  clear h34_0
                  go_wp2_with fail
                  refine (rsent_n zs'.length h34_1 (by have := HZ.out; omega) rfl).mono ?_
                  rintro e_ w35 ⟨S34, s34, rfl, q35⟩
                  have h35_0 : St w w35 [row (.slice S34 zs'.length s34) zs', nr d gd zs', row (.slice S33 zs'.length s33) zs', nz c fc zs', nr b g ys, nz a f ys, fz f s2 l2, rf g s2 l2] := q35
                  clear q35 h34_1
                  have h35_1 : St w w35 [row (.slice S33 zs'.length s33) zs', row (.slice S34 zs'.length s34) zs', nr d gd zs', nz c fc zs', nr b g ys, nz a f ys, fz f s2 l2, rf g s2 l2] := h35_0.pick 2
                  clear h35_0
                  go_wp2_with fail
                  refine (eq_s h35_1 (by have := HZ.out; omega)).mono ?_
                  rintro e_ w36 ⟨rfl, q36⟩
                  have h36_0 : St w w36 [row (.slice S33 zs'.length s33) zs', row (.slice S34 zs'.length s34) zs', nr d gd zs', nz c fc zs', nr b g ys, nz a f ys, fz f s2 l2, rf g s2 l2] := q36
                  clear q36 h35_1
                  have h36_1 : St w w36 [nr d gd zs', nz c fc zs', nr b g ys, nz a f ys, fz f s2 l2, rf g s2 l2] := h36_0.drop.drop
                  clear h36_0
                  have h36_2 : St w w36 [nz c fc zs', nr d gd zs', nr b g ys, nz a f ys, fz f s2 l2, rf g s2 l2] := h36_1.pick 1
                  clear h36_1
                  have h36_3 : St w w36 [rf g s2 l2, nz c fc zs', nr d gd zs', nr b g ys, nz a f ys, fz f s2 l2] := h36_2.pick 5
                  clear h36_2
                  have h36_4 : St w w36 [fz f s2 l2, rf g s2 l2, nz c fc zs', nr d gd zs', nr b g ys, nz a f ys] := h36_3.pick 5
                  clear h36_3
                  have h36_5 : St w w36 [nr b g ys, fz f s2 l2, rf g s2 l2, nz c fc zs', nr d gd zs', nz a f ys] := h36_4.pick 4
                  clear h36_4
                  have h36_6 : St w w36 [nz a f ys, nr b g ys, fz f s2 l2, rf g s2 l2, nz c fc zs', nr d gd zs'] := h36_5.pick 5
                  clear h36_5
                  have hz1 := HZ.out
                  clear HZ
                  have HZ2 := Lib.hid hz1
                  clear hz1
                  go_wp2_with fail
                  all_goals go_roundw
                  all_goals first | exact ⟨n + 1, f, g, a, b, c, d, ys, s2, l2, [nz c fc zs', nr d gd zs'], rfl, rfl, rfl, rfl, rfl, rfl, by go_num, by have := HN.out; omega, by have := HN.out; omega, by have h8 := HN.out; have h9 := HLN.out; omega, ⟨h36_6, FIN.out, HLY.out, Or.inr ⟨fc, gd, zs', HZ2.out, rfl⟩⟩⟩ | (simp [intOf]; omega)
      · skip
        have h0_0 := hbm.st
        clear hbm
        go_wp2_with fail
        refine (awake_s h0_0).mono ?_
        rintro e_ w1 ⟨rfl, q1⟩
        go_wp2
        go_ret
        exact ⟨rfl, q1.bel⟩
    · skip
      have h0_0 := hbm.st
      clear hbm
      go_wp2_with fail
      refine (awake_s h0_0).mono ?_
      rintro e_ w1 ⟨rfl, q1⟩
      go_wp2
      go_ret
      exact ⟨rfl, q1.bel⟩
end Go.Proofs.Ytecneikblkjgoaa
