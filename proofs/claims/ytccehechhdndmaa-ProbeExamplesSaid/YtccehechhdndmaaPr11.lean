/- The law ProbeMatches. Printed by gen/probe11.py. -/
import Derived.Test.YtccehechhdndmaaBase
import Derived.Test.YtccehechhdndmaaSep
import Derived.Test.YtccehechhdndmaaSepB
import Derived.Test.YtccehechhdndmaaOpen
import Derived.Test.YtccehechhdndmaaProg
import Derived.Lib.Hide
import Derived.Deep.Cut
import Derived.Deep.CutRange
import Derived.Deep.RegionWith
import Derived.Test.YtccehechhdndmaaWWords
import Derived.Test.YtccehechhdndmaaPr0
import Derived.Test.YtccehechhdndmaaPr1
import Derived.Test.YtccehechhdndmaaPr2
import Derived.Test.YtccehechhdndmaaPr3
import Derived.Test.YtccehechhdndmaaPr4
import Derived.Test.YtccehechhdndmaaPr5
import Derived.Test.YtccehechhdndmaaPr7
import Derived.Test.YtccehechhdndmaaPr8
import Derived.Test.YtccehechhdndmaaPr9
import Derived.Test.YtccehechhdndmaaPr10
namespace Go.Proofs.Ytccehechhdndmaa
open Go.RowKit Go.Proofs.YtccehechhdndmaaW.PrintWords
set_option linter.unusedSimpArgs false
set_option linter.unusedVariables false

set_option maxRecDepth 100000 in
set_option maxHeartbeats 16000000 in
theorem match_w (w : World) (A : Option Addr) (c : Nat) (l : List E39) (hl : SL30 w A c l) (t : Tok) (ht : tokW t) (pr : Int) :
    Calls Try.prog 4 #[.slice A l.length c, .agg #[.int .i64 t.a, .int .i64 t.b, .int .i64 t.c], .int .i64 pr] w fun e w' => e = .returned (.bool true) ∧ Below w.heap.size w w' := by
  obtain ⟨l1, l2, l3⟩ := hl
  have hmax : l.length ≤ 9223372036854775807 := by have := l2; simp only [maxLen] at this; omega
  have H3 := Lib.hid l3
  clear l3 l2
  have a0 : St w (w.alloc (.cells #[.int .i64 t.a, .int .i64 t.b, .int .i64 t.c] 32)) [Go.Proofs.Ytccehechhdndmaa.blk w.heap.size #[.int .i64 t.a, .int .i64 t.b, .int .i64 t.c] 32] := (St.start w).alloc _ _
  go_enter Try.func4, Try.ntmps4
  go_wp2_with fail
  refine (pnew_s a0).mono ?_
  rintro e_ w1 ⟨p, rfl, a1⟩
  clear a0
  go_wp2_with fail
  refine (rnew_s a1).mono ?_
  rintro e_ w2 ⟨g, rfl, a2⟩
  clear a1
  have a3 := rowC_nil a2
  have cT := (a3.pick 3).cells
  clear a2
  have a4 := rowT_one a3 t
  clear a3
  go_wp2_with fail
  go_loopw [9, 10] (fun v i wr => ∃ (N nn : Nat) (f : Tok → Nat) (L : List Cn) (vg : Value) (B : Option Addr) (d : Nat) (T : List Tok), v = .slice B (N + 1) d ∧ i = .int .i64 N ∧ N ≤ l.length ∧ N ≤ 60 ∧ T.length = N + 1 ∧ nn ≤ N ∧ L.length ≤ N ∧ RF L f ∧ (∀ t ∈ T, tokW t) ∧ St w wr [hz p nn f, RH g vg, rowC vg L, rowT (.slice B (N + 1) d) T, Go.Proofs.Ytccehechhdndmaa.blk w.heap.size #[.int .i64 t.a, .int .i64 t.b, .int .i64 t.c] 32]) (fun _ i _ => 60 - (intOf i).toNat)
  case atStart => exact ⟨0, 0, fun _ => 0, [], .slice none 0 0, some ⟨w2.heap.size, 0, none⟩, 1, [t], rfl, rfl, by omega, by omega, rfl, by omega, by simp, RF_nil, by simpa using ht, ((a4.pick 1).pick 2).pick 3⟩
  case round =>
    clear a4 cT
    obtain ⟨N, nn, f, L, vg, B, d, T, rfl, rfl, hN1, hN2, hTl, hnn, hLl, hf, hTw, h0⟩ := hrel
    by_cases m1 : N < l.length
    · by_cases m2 : N < 60
      · skip
        obtain ⟨xb, xo, rfl, xB, hcells⟩ : ∃ b off, A = some ⟨b, off, none⟩ ∧ b < w.heap.size ∧ _ := H3.out.resolve_left (by rintro rfl; simp at m1)
        obtain ⟨x0, g0, x1, g1, x2, g2, x3, x4, x5, x6⟩ := hcells N m1
        generalize rdE39 l N = x at *
        have z0 : wr.cell? ⟨xb, xo + N * 6, none⟩ = _ := (h0.bel.cell xB).trans x0
        have z1 : wr.cell? ⟨xb, xo + N * 6 + 1, none⟩ = _ := (h0.bel.cell xB).trans x1
        have z2 : wr.cell? ⟨xb, xo + N * 6 + 2, none⟩ = _ := (h0.bel.cell xB).trans x2
        have z3 : wr.cell? ⟨xb, xo + N * 6 + 3, none⟩ = _ := (h0.bel.cell xB).trans x3
        have z4 : wr.cell? ⟨xb, xo + N * 6 + 4, none⟩ = _ := (h0.bel.cell xB).trans x4
        have z5 : wr.cell? ⟨xb, xo + N * 6 + 5, none⟩ = _ := (h0.bel.cell xB).trans x5
        clear x0 x1 x2 x3 x4 x5 hcells H3
        have hx : tokW ⟨x.f0, x.f1, x.f2⟩ := ⟨g0, g1, g2⟩
        clear g0 g1 g2
        obtain ⟨f0, f1, f2, ok, kp, KA, Kc, Kl⟩ := x
        obtain ⟨y, ey⟩ : ∃ y : Tok, y = ⟨f0, f1, f2⟩ := ⟨_, rfl⟩
        obtain rfl : f0 = y.a := by rw [ey]
        obtain rfl : f1 = y.b := by rw [ey]
        obtain rfl : f2 = y.c := by rw [ey]
        have hy : tokW y := hx
        clear hx ey
        simp only at z0 z1 z2 z3 z4 z5 x6
        have hk0 : (0 : Int) ≤ (N : Int) := by omega
        have hk1 : (N : Int) < (l.length : Int) := by omega
        have hk2 : (N : Int) < 60 := by omega
        have hX := h0.alloc #[.int .i64 y.a, .int .i64 y.b, .int .i64 y.c, .bool ok, .bool kp, .slice KA Kl.length Kc] 39
        have hXc := hX.cells
        clear h0
        have hX4 := hX.pick 4
        clear hX
        have hTl2 : (T ++ [y]).length = N + 1 + 1 := by simp [hTl]
        have hTw2 : ∀ t ∈ T ++ [y], tokW t := fun t h => (List.mem_append.1 h).elim (hTw t) (fun h => by simp at h; subst h; exact hy)
        clear hTw
        go_upto_region 9 with fail
        generalize hWx : wr.alloc (.cells #[.int .i64 y.a, .int .i64 y.b, .int .i64 y.c, .bool ok, .bool kp, .slice KA Kl.length Kc] 39) = wx at *
        clear hWx z0 z1 z2 z3 z4 z5
        generalize wr.heap.size = X9 at *
        go_upto_if 42 with (at_builtin; refine rowT_append _ _ _ _ y hX4 rfl rfl rfl rfl (by omega) ?_; intro v1 w9 q9; obtain ⟨B2, d2, rfl, -, -⟩ := Kd.R_reads (rowT_at q9); rw [hTl2] at q9 ⊢; have cX := (q9.pick 1).cells)
        clear hTl hX4 hXc
        go_cut [12, 13, 14] from 22 to 141 (fun v12 v13 v14 wc => ∃ (n2 : Nat) (f2 : Tok → Nat) (L2 : List Cn) (vg2 : Value), n2 ≤ N + 1 ∧ L2.length ≤ N + 1 ∧ RF L2 f2 ∧ St w wc [hz p n2 f2, RH g vg2, rowC vg2 L2, rowT (.slice B2 (N + 1 + 1) d2) (T ++ [y]), Go.Proofs.Ytccehechhdndmaa.blk w.heap.size #[.int .i64 t.a, .int .i64 t.b, .int .i64 t.c] 32])
        case first =>
          clear hmax l1
          cases kp with
          | false =>
            have hA := (q9.pick 2).more (Below.refl w9.heap.size w9).drew
            have hB : St w w9.drew [RH g vg, rowC vg L, rowT (.slice B2 (N + 1 + 1) d2) (T ++ [y]), Go.Proofs.Ytccehechhdndmaa.blk X9 #[.int .i64 y.a, .int .i64 y.b, .int .i64 y.c, .bool ok, .bool false, .slice KA Kl.length Kc] 39, hz p nn f, Go.Proofs.Ytccehechhdndmaa.blk w.heap.size #[.int .i64 t.a, .int .i64 t.b, .int .i64 t.c] 32] := ((q9.pick 4).pick 4).more (Below.refl w9.heap.size w9).drew
            have hT1 := tell_s y ok hA hy (by omega)
            have hR1 := rtell_s y ok hB hf (by have := hA.bound y; omega) (by omega)
            have hfb : f y < 1099511627776 := by have := hA.bound y; omega
            clear q9 hA hB
            simp only [tokV] at hT1 hR1
            have K0 : w9.cell? ⟨X9, 0, none⟩ = some (.int .i64 y.a) ∧ w9.cell? ⟨X9, 1, none⟩ = some (.int .i64 y.b) ∧ w9.cell? ⟨X9, 2, none⟩ = some (.int .i64 y.c) ∧ w9.cell? ⟨X9, 3, none⟩ = some (.bool ok) := ⟨cX 0, cX 1, cX 2, cX 3⟩
            go_wp2
            go_region_held3 (fun w' => w'.cell? ⟨X9, 0, none⟩ = some (.int .i64 y.a) ∧ w'.cell? ⟨X9, 1, none⟩ = some (.int .i64 y.b) ∧ w'.cell? ⟨X9, 2, none⟩ = some (.int .i64 y.c) ∧ w'.cell? ⟨X9, 3, none⟩ = some (.bool ok)) (first | exact K2 | exact K1 | exact K0) (first
              | (go_at_call 27; (with_reducible refine hT1.mono ?_); rintro e_ w8 ⟨rfl, s8⟩; have K1 : w8.cell? ⟨X9, 0, none⟩ = some (.int .i64 y.a) ∧ w8.cell? ⟨X9, 1, none⟩ = some (.int .i64 y.b) ∧ w8.cell? ⟨X9, 2, none⟩ = some (.int .i64 y.c) ∧ w8.cell? ⟨X9, 3, none⟩ = some (.bool ok) := ⟨(s8.pick 2).cells 0, (s8.pick 2).cells 1, (s8.pick 2).cells 2, (s8.pick 2).cells 3⟩; have hR2 := rtell_s y ok ((s8.pick 4).pick 4) hf hfb (by omega); simp only [tokV] at hR2; clear hT1 hR1 s8)
              | (go_at_call 28; (with_reducible refine hR2.mono ?_); rintro e_ w7 ⟨rfl, vg8, L8, s9, f8, l8⟩; have K2 : w7.cell? ⟨X9, 0, none⟩ = some (.int .i64 y.a) ∧ w7.cell? ⟨X9, 1, none⟩ = some (.int .i64 y.b) ∧ w7.cell? ⟨X9, 2, none⟩ = some (.int .i64 y.c) ∧ w7.cell? ⟨X9, 3, none⟩ = some (.bool ok) := ⟨(s9.pick 4).cells 0, (s9.pick 4).cells 1, (s9.pick 4).cells 2, (s9.pick 4).cells 3⟩; clear hR2))
            go_wp2
            go_meet
            exact ⟨nn + 1, tellF f y ok, L8, vg8, by omega, by omega, f8, ((s9.pick 4).drop).pick 2⟩
          | true =>
            have hkc : (Kl.length : Int) ≤ (Kc : Int) := by have := x6.1; omega
            by_cases hm : Kl.length ≤ 20
            · have hmi : (Kl.length : Int) ≤ 20 := by omega
              have hS : SL37 w KA Kc Kl := x6
              obtain ⟨M, hM⟩ : ∃ M : List E32, M = Kl := ⟨_, rfl⟩
              have hML : M.length = Kl.length := by rw [hM]
              have hM20 : M.length ≤ 20 := by omega
              rw [← hM] at hS
              clear hM x6
              have hTA : TA w KA (M.map tk) := TA.of_sl hS
              have hMT : (M.map tk).length = Kl.length := by simpa using hML
              have hM100 : (M.map tk).length ≤ 100000 := by rw [hMT]; omega
              have hm10 : Kl.length ≤ 10000 := by omega
              go_wp2_with fail
              refine (copytok_c KA Kc Kl.length (M.map tk) _ (hTA.below q9.bel) hM100 hMT).mono ?_
              rintro e_ v1 ⟨A1, c1, rfl, hR_, hB_⟩
              have q_ := rowT_new q9 hB_ hR_; clear hR_ hB_ cX
              have s1 : St w v1 [rowT (.slice A1 (Kl.length) c1) (M.map tk), rowT (.slice B2 (N + 1 + 1) d2) (T ++ [y]), Go.Proofs.Ytccehechhdndmaa.blk X9 #[.int .i64 y.a, .int .i64 y.b, .int .i64 y.c, .bool ok, .bool true, .slice KA Kl.length Kc] 39, hz p nn f, RH g vg, rowC vg L, Go.Proofs.Ytccehechhdndmaa.blk w.heap.size #[.int .i64 t.a, .int .i64 t.b, .int .i64 t.c] 32] := q_
              clear q_ q9
              have s2 : St w v1 [hz p nn f, rowT (.slice A1 (Kl.length) c1) (M.map tk), rowT (.slice B2 (N + 1 + 1) d2) (T ++ [y]), Go.Proofs.Ytccehechhdndmaa.blk X9 #[.int .i64 y.a, .int .i64 y.b, .int .i64 y.c, .bool ok, .bool true, .slice KA Kl.length Kc] 39, RH g vg, rowC vg L, Go.Proofs.Ytccehechhdndmaa.blk w.heap.size #[.int .i64 t.a, .int .i64 t.b, .int .i64 t.c] 32] := s1.pick 3
              clear s1
              go_wp2_with fail
              refine (keep_r s2 hS hML).mono ?_
              rintro e_ v3 ⟨rfl, q_⟩
              have s3 : St w v3 [hz p nn (keepF f (M.map tk)), rowT (.slice A1 (Kl.length) c1) (M.map tk), rowT (.slice B2 (N + 1 + 1) d2) (T ++ [y]), Go.Proofs.Ytccehechhdndmaa.blk X9 #[.int .i64 y.a, .int .i64 y.b, .int .i64 y.c, .bool ok, .bool true, .slice KA Kl.length Kc] 39, RH g vg, rowC vg L, Go.Proofs.Ytccehechhdndmaa.blk w.heap.size #[.int .i64 t.a, .int .i64 t.b, .int .i64 t.c] 32] := q_
              clear q_ s2
              have s4 : St w v3 [rowC vg L, hz p nn (keepF f (M.map tk)), rowT (.slice A1 (Kl.length) c1) (M.map tk), rowT (.slice B2 (N + 1 + 1) d2) (T ++ [y]), Go.Proofs.Ytccehechhdndmaa.blk X9 #[.int .i64 y.a, .int .i64 y.b, .int .i64 y.c, .bool ok, .bool true, .slice KA Kl.length Kc] 39, RH g vg, Go.Proofs.Ytccehechhdndmaa.blk w.heap.size #[.int .i64 t.a, .int .i64 t.b, .int .i64 t.c] 32] := s3.pick 5
              clear s3
              have s5 : St w v3 [RH g vg, rowC vg L, hz p nn (keepF f (M.map tk)), rowT (.slice A1 (Kl.length) c1) (M.map tk), rowT (.slice B2 (N + 1 + 1) d2) (T ++ [y]), Go.Proofs.Ytccehechhdndmaa.blk X9 #[.int .i64 y.a, .int .i64 y.b, .int .i64 y.c, .bool ok, .bool true, .slice KA Kl.length Kc] 39, Go.Proofs.Ytccehechhdndmaa.blk w.heap.size #[.int .i64 t.a, .int .i64 t.b, .int .i64 t.c] 32] := s4.pick 5
              clear s4
              go_wp2_with fail
              refine (rkeep_s KA Kc Kl.length (M.map tk) s5 hTA hMT hm10 (by omega)).mono ?_
              rintro e_ v6 ⟨rfl, vg8, q_⟩
              have s6 : St w v6 [RH g vg8, rowC vg8 (inL L (M.map tk)), hz p nn (keepF f (M.map tk)), rowT (.slice A1 (Kl.length) c1) (M.map tk), rowT (.slice B2 (N + 1 + 1) d2) (T ++ [y]), Go.Proofs.Ytccehechhdndmaa.blk X9 #[.int .i64 y.a, .int .i64 y.b, .int .i64 y.c, .bool ok, .bool true, .slice KA Kl.length Kc] 39, Go.Proofs.Ytccehechhdndmaa.blk w.heap.size #[.int .i64 t.a, .int .i64 t.b, .int .i64 t.c] 32] := q_
              clear q_ s5
              have s7 : St w v6 [rowT (.slice A1 (Kl.length) c1) (M.map tk), RH g vg8, rowC vg8 (inL L (M.map tk)), hz p nn (keepF f (M.map tk)), rowT (.slice B2 (N + 1 + 1) d2) (T ++ [y]), Go.Proofs.Ytccehechhdndmaa.blk X9 #[.int .i64 y.a, .int .i64 y.b, .int .i64 y.c, .bool ok, .bool true, .slice KA Kl.length Kc] 39, Go.Proofs.Ytccehechhdndmaa.blk w.heap.size #[.int .i64 t.a, .int .i64 t.b, .int .i64 t.c] 32] := s6.pick 3
              clear s6
              go_wp2_with fail
              refine (eqtok_c A1 KA c1 Kc Kl.length (M.map tk) _ (TA.of_row (rowT_at s7)) (hTA.below s7.bel) hM100 hMT).mono ?_
              rintro e_ v8 ⟨rfl, hb_⟩
              have q_ := s7.more hb_; clear hb_
              have s8 : St w v8 [rowT (.slice A1 (Kl.length) c1) (M.map tk), RH g vg8, rowC vg8 (inL L (M.map tk)), hz p nn (keepF f (M.map tk)), rowT (.slice B2 (N + 1 + 1) d2) (T ++ [y]), Go.Proofs.Ytccehechhdndmaa.blk X9 #[.int .i64 y.a, .int .i64 y.b, .int .i64 y.c, .bool ok, .bool true, .slice KA Kl.length Kc] 39, Go.Proofs.Ytccehechhdndmaa.blk w.heap.size #[.int .i64 t.a, .int .i64 t.b, .int .i64 t.c] 32] := q_
              clear q_ s7
              by_cases hm0 : Kl.length = 0
              · have hm0i : (Kl.length : Int) = 0 := by omega
                have s9 : St w v8 [RH g vg8, rowC vg8 (inL L (M.map tk)), hz p nn (keepF f (M.map tk)), rowT (.slice B2 (N + 1 + 1) d2) (T ++ [y]), Go.Proofs.Ytccehechhdndmaa.blk X9 #[.int .i64 y.a, .int .i64 y.b, .int .i64 y.c, .bool ok, .bool true, .slice KA Kl.length Kc] 39, Go.Proofs.Ytccehechhdndmaa.blk w.heap.size #[.int .i64 t.a, .int .i64 t.b, .int .i64 t.c] 32] := s8.drop
                clear s8
                have s10 : St w v8 [Go.Proofs.Ytccehechhdndmaa.blk X9 #[.int .i64 y.a, .int .i64 y.b, .int .i64 y.c, .bool ok, .bool true, .slice KA Kl.length Kc] 39, RH g vg8, rowC vg8 (inL L (M.map tk)), hz p nn (keepF f (M.map tk)), rowT (.slice B2 (N + 1 + 1) d2) (T ++ [y]), Go.Proofs.Ytccehechhdndmaa.blk w.heap.size #[.int .i64 t.a, .int .i64 t.b, .int .i64 t.c] 32] := s9.pick 4
                clear s9
                have s11 : St w v8 [RH g vg8, rowC vg8 (inL L (M.map tk)), hz p nn (keepF f (M.map tk)), rowT (.slice B2 (N + 1 + 1) d2) (T ++ [y]), Go.Proofs.Ytccehechhdndmaa.blk w.heap.size #[.int .i64 t.a, .int .i64 t.b, .int .i64 t.c] 32] := s10.drop
                clear s10
                have s12 : St w v8 [rowT (.slice B2 (N + 1 + 1) d2) (T ++ [y]), RH g vg8, rowC vg8 (inL L (M.map tk)), hz p nn (keepF f (M.map tk)), Go.Proofs.Ytccehechhdndmaa.blk w.heap.size #[.int .i64 t.a, .int .i64 t.b, .int .i64 t.c] 32] := s11.pick 3
                clear s11
                have s13 : St w v8 [rowC vg8 (inL L (M.map tk)), rowT (.slice B2 (N + 1 + 1) d2) (T ++ [y]), RH g vg8, hz p nn (keepF f (M.map tk)), Go.Proofs.Ytccehechhdndmaa.blk w.heap.size #[.int .i64 t.a, .int .i64 t.b, .int .i64 t.c] 32] := s12.pick 2
                clear s12
                have s14 : St w v8 [RH g vg8, rowC vg8 (inL L (M.map tk)), rowT (.slice B2 (N + 1 + 1) d2) (T ++ [y]), hz p nn (keepF f (M.map tk)), Go.Proofs.Ytccehechhdndmaa.blk w.heap.size #[.int .i64 t.a, .int .i64 t.b, .int .i64 t.c] 32] := s13.pick 2
                clear s13
                have s15 : St w v8 [hz p nn (keepF f (M.map tk)), RH g vg8, rowC vg8 (inL L (M.map tk)), rowT (.slice B2 (N + 1 + 1) d2) (T ++ [y]), Go.Proofs.Ytccehechhdndmaa.blk w.heap.size #[.int .i64 t.a, .int .i64 t.b, .int .i64 t.c] 32] := s14.pick 3
                clear s14
                go_wp2_with fail
                refine wp_loop_rounds 1 ?_
                rw [rounds_succ]
                go_wp2
                go_meet
                exact ⟨nn, keepF f (M.map tk), inL L (M.map tk), vg8, by omega, by have := inL_len L (M.map tk); omega, hf.keep _, s15⟩
              · skip
                obtain ⟨b, cur, rfl, hcs, s8_⟩ := rowT_blk s8 (by omega)
                have s90 : St w v8 [Go.Proofs.Ytccehechhdndmaa.blk b cur 32, RH g vg8, rowC vg8 (inL L (M.map tk)), hz p nn (keepF f (M.map tk)), rowT (.slice B2 (N + 1 + 1) d2) (T ++ [y]), Go.Proofs.Ytccehechhdndmaa.blk X9 #[.int .i64 y.a, .int .i64 y.b, .int .i64 y.c, .bool ok, .bool true, .slice KA Kl.length Kc] 39, Go.Proofs.Ytccehechhdndmaa.blk w.heap.size #[.int .i64 t.a, .int .i64 t.b, .int .i64 t.c] 32] := s8_
                clear s8 s8_
                go_wp2_with fail
                go_loopw [14] (fun kv wr => ∃ (k : Nat) (cur : Array Value), kv = .int .i64 k ∧ k ≤ Kl.length ∧ Kl.length * 3 ≤ cur.size ∧ St w wr [Go.Proofs.Ytccehechhdndmaa.blk b cur 32, RH g vg8, rowC vg8 (inL L (M.map tk)), hz p nn (keepF f (M.map tk)), rowT (.slice B2 (N + 1 + 1) d2) (T ++ [y]), Go.Proofs.Ytccehechhdndmaa.blk X9 #[.int .i64 y.a, .int .i64 y.b, .int .i64 y.c, .bool ok, .bool true, .slice KA Kl.length Kc] 39, Go.Proofs.Ytccehechhdndmaa.blk w.heap.size #[.int .i64 t.a, .int .i64 t.b, .int .i64 t.c] 32]) (fun kv _ => 20 - (intOf kv).toNat)
                case atStart => exact ⟨0, cur, rfl, by omega, hcs, s90⟩
                case round =>
                  clear s90 hcs
                  obtain ⟨k, cur, rfl, hk, hcs, s0⟩ := hrel
                  by_cases mk : k < Kl.length
                  · have hc := s0.cells
                    have hfz := s0.free
                    have y0 : wr.cell? ⟨b, k * 3, none⟩ = some (cur[k * 3]'(by omega)) := (hc _).trans (Array.getElem?_eq_getElem (by omega))
                    have y1 : wr.cell? ⟨b, k * 3 + 1, none⟩ = some (cur[k * 3 + 1]'(by omega)) := (hc _).trans (Array.getElem?_eq_getElem (by omega))
                    have y2 : wr.cell? ⟨b, k * 3 + 2, none⟩ = some (cur[k * 3 + 2]'(by omega)) := (hc _).trans (Array.getElem?_eq_getElem (by omega))
                    have kk0 : (0 : Int) ≤ (k : Int) := by omega
                    have kk1 : (k : Int) < (Kl.length : Int) := by omega
                    have s1 := ((s0.setb (k * 3) (.int .i64 0) rfl).setb (k * 3 + 1) (.int .i64 0) rfl).setb (k * 3 + 2) (.int .i64 0) rfl
                    have hcs2 : Kl.length * 3 ≤ (((cur.setIfInBounds (k * 3) (.int .i64 0)).setIfInBounds (k * 3 + 1) (.int .i64 0)).setIfInBounds (k * 3 + 2) (.int .i64 0)).size := by simpa using hcs
                    clear s0 hc
                    go_wp2
                    all_goals go_roundw
                    all_goals first | exact ⟨k + 1, _, by go_num, by omega, hcs2, s1⟩ | (simp [intOf]; omega)
                  · skip
                    have s1 : St w wr [RH g vg8, rowC vg8 (inL L (M.map tk)), hz p nn (keepF f (M.map tk)), rowT (.slice B2 (N + 1 + 1) d2) (T ++ [y]), Go.Proofs.Ytccehechhdndmaa.blk X9 #[.int .i64 y.a, .int .i64 y.b, .int .i64 y.c, .bool ok, .bool true, .slice KA Kl.length Kc] 39, Go.Proofs.Ytccehechhdndmaa.blk w.heap.size #[.int .i64 t.a, .int .i64 t.b, .int .i64 t.c] 32] := s0.drop
                    clear s0
                    have s2 : St w wr [Go.Proofs.Ytccehechhdndmaa.blk X9 #[.int .i64 y.a, .int .i64 y.b, .int .i64 y.c, .bool ok, .bool true, .slice KA Kl.length Kc] 39, RH g vg8, rowC vg8 (inL L (M.map tk)), hz p nn (keepF f (M.map tk)), rowT (.slice B2 (N + 1 + 1) d2) (T ++ [y]), Go.Proofs.Ytccehechhdndmaa.blk w.heap.size #[.int .i64 t.a, .int .i64 t.b, .int .i64 t.c] 32] := s1.pick 4
                    clear s1
                    have s3 : St w wr [RH g vg8, rowC vg8 (inL L (M.map tk)), hz p nn (keepF f (M.map tk)), rowT (.slice B2 (N + 1 + 1) d2) (T ++ [y]), Go.Proofs.Ytccehechhdndmaa.blk w.heap.size #[.int .i64 t.a, .int .i64 t.b, .int .i64 t.c] 32] := s2.drop
                    clear s2
                    have s4 : St w wr [rowT (.slice B2 (N + 1 + 1) d2) (T ++ [y]), RH g vg8, rowC vg8 (inL L (M.map tk)), hz p nn (keepF f (M.map tk)), Go.Proofs.Ytccehechhdndmaa.blk w.heap.size #[.int .i64 t.a, .int .i64 t.b, .int .i64 t.c] 32] := s3.pick 3
                    clear s3
                    have s5 : St w wr [rowC vg8 (inL L (M.map tk)), rowT (.slice B2 (N + 1 + 1) d2) (T ++ [y]), RH g vg8, hz p nn (keepF f (M.map tk)), Go.Proofs.Ytccehechhdndmaa.blk w.heap.size #[.int .i64 t.a, .int .i64 t.b, .int .i64 t.c] 32] := s4.pick 2
                    clear s4
                    have s6 : St w wr [RH g vg8, rowC vg8 (inL L (M.map tk)), rowT (.slice B2 (N + 1 + 1) d2) (T ++ [y]), hz p nn (keepF f (M.map tk)), Go.Proofs.Ytccehechhdndmaa.blk w.heap.size #[.int .i64 t.a, .int .i64 t.b, .int .i64 t.c] 32] := s5.pick 2
                    clear s5
                    have s7 : St w wr [hz p nn (keepF f (M.map tk)), RH g vg8, rowC vg8 (inL L (M.map tk)), rowT (.slice B2 (N + 1 + 1) d2) (T ++ [y]), Go.Proofs.Ytccehechhdndmaa.blk w.heap.size #[.int .i64 t.a, .int .i64 t.b, .int .i64 t.c] 32] := s6.pick 3
                    clear s6
                    go_wp2
                    go_meet
                    exact ⟨nn, keepF f (M.map tk), inL L (M.map tk), vg8, by omega, by have := inL_len L (M.map tk); omega, hf.keep _, s7⟩
            · have hmi : (20 : Int) < (Kl.length : Int) := by omega
              have hkc2 : (20 : Int) ≤ (Kc : Int) := by omega
              have hS : SL37 w KA Kc (Kl.take 20) := sl_take x6 20
              obtain ⟨M, hM⟩ : ∃ M : List E32, M = (Kl.take 20) := ⟨_, rfl⟩
              have hML : M.length = 20 := by rw [hM]; simp; omega
              have hM20 : M.length ≤ 20 := by omega
              rw [← hM] at hS
              clear hM x6
              have hTA : TA w KA (M.map tk) := TA.of_sl hS
              have hMT : (M.map tk).length = 20 := by simpa using hML
              have hM100 : (M.map tk).length ≤ 100000 := by rw [hMT]; omega
              have hm10 : 20 ≤ 10000 := by omega
              go_wp2_with fail
              refine (copytok_c KA Kc 20 (M.map tk) _ (hTA.below q9.bel) hM100 hMT).mono ?_
              rintro e_ v1 ⟨A1, c1, rfl, hR_, hB_⟩
              have q_ := rowT_new q9 hB_ hR_; clear hR_ hB_ cX
              have s1 : St w v1 [rowT (.slice A1 20 c1) (M.map tk), rowT (.slice B2 (N + 1 + 1) d2) (T ++ [y]), Go.Proofs.Ytccehechhdndmaa.blk X9 #[.int .i64 y.a, .int .i64 y.b, .int .i64 y.c, .bool ok, .bool true, .slice KA Kl.length Kc] 39, hz p nn f, RH g vg, rowC vg L, Go.Proofs.Ytccehechhdndmaa.blk w.heap.size #[.int .i64 t.a, .int .i64 t.b, .int .i64 t.c] 32] := q_
              clear q_ q9
              have s2 : St w v1 [hz p nn f, rowT (.slice A1 20 c1) (M.map tk), rowT (.slice B2 (N + 1 + 1) d2) (T ++ [y]), Go.Proofs.Ytccehechhdndmaa.blk X9 #[.int .i64 y.a, .int .i64 y.b, .int .i64 y.c, .bool ok, .bool true, .slice KA Kl.length Kc] 39, RH g vg, rowC vg L, Go.Proofs.Ytccehechhdndmaa.blk w.heap.size #[.int .i64 t.a, .int .i64 t.b, .int .i64 t.c] 32] := s1.pick 3
              clear s1
              go_wp2_with fail
              refine (keep_r s2 hS hML).mono ?_
              rintro e_ v3 ⟨rfl, q_⟩
              have s3 : St w v3 [hz p nn (keepF f (M.map tk)), rowT (.slice A1 20 c1) (M.map tk), rowT (.slice B2 (N + 1 + 1) d2) (T ++ [y]), Go.Proofs.Ytccehechhdndmaa.blk X9 #[.int .i64 y.a, .int .i64 y.b, .int .i64 y.c, .bool ok, .bool true, .slice KA Kl.length Kc] 39, RH g vg, rowC vg L, Go.Proofs.Ytccehechhdndmaa.blk w.heap.size #[.int .i64 t.a, .int .i64 t.b, .int .i64 t.c] 32] := q_
              clear q_ s2
              have s4 : St w v3 [rowC vg L, hz p nn (keepF f (M.map tk)), rowT (.slice A1 20 c1) (M.map tk), rowT (.slice B2 (N + 1 + 1) d2) (T ++ [y]), Go.Proofs.Ytccehechhdndmaa.blk X9 #[.int .i64 y.a, .int .i64 y.b, .int .i64 y.c, .bool ok, .bool true, .slice KA Kl.length Kc] 39, RH g vg, Go.Proofs.Ytccehechhdndmaa.blk w.heap.size #[.int .i64 t.a, .int .i64 t.b, .int .i64 t.c] 32] := s3.pick 5
              clear s3
              have s5 : St w v3 [RH g vg, rowC vg L, hz p nn (keepF f (M.map tk)), rowT (.slice A1 20 c1) (M.map tk), rowT (.slice B2 (N + 1 + 1) d2) (T ++ [y]), Go.Proofs.Ytccehechhdndmaa.blk X9 #[.int .i64 y.a, .int .i64 y.b, .int .i64 y.c, .bool ok, .bool true, .slice KA Kl.length Kc] 39, Go.Proofs.Ytccehechhdndmaa.blk w.heap.size #[.int .i64 t.a, .int .i64 t.b, .int .i64 t.c] 32] := s4.pick 5
              clear s4
              go_wp2_with fail
              refine (rkeep_s KA Kc 20 (M.map tk) s5 hTA hMT hm10 (by omega)).mono ?_
              rintro e_ v6 ⟨rfl, vg8, q_⟩
              have s6 : St w v6 [RH g vg8, rowC vg8 (inL L (M.map tk)), hz p nn (keepF f (M.map tk)), rowT (.slice A1 20 c1) (M.map tk), rowT (.slice B2 (N + 1 + 1) d2) (T ++ [y]), Go.Proofs.Ytccehechhdndmaa.blk X9 #[.int .i64 y.a, .int .i64 y.b, .int .i64 y.c, .bool ok, .bool true, .slice KA Kl.length Kc] 39, Go.Proofs.Ytccehechhdndmaa.blk w.heap.size #[.int .i64 t.a, .int .i64 t.b, .int .i64 t.c] 32] := q_
              clear q_ s5
              have s7 : St w v6 [rowT (.slice A1 20 c1) (M.map tk), RH g vg8, rowC vg8 (inL L (M.map tk)), hz p nn (keepF f (M.map tk)), rowT (.slice B2 (N + 1 + 1) d2) (T ++ [y]), Go.Proofs.Ytccehechhdndmaa.blk X9 #[.int .i64 y.a, .int .i64 y.b, .int .i64 y.c, .bool ok, .bool true, .slice KA Kl.length Kc] 39, Go.Proofs.Ytccehechhdndmaa.blk w.heap.size #[.int .i64 t.a, .int .i64 t.b, .int .i64 t.c] 32] := s6.pick 3
              clear s6
              go_wp2_with fail
              refine (eqtok_c A1 KA c1 Kc 20 (M.map tk) _ (TA.of_row (rowT_at s7)) (hTA.below s7.bel) hM100 hMT).mono ?_
              rintro e_ v8 ⟨rfl, hb_⟩
              have q_ := s7.more hb_; clear hb_
              have s8 : St w v8 [rowT (.slice A1 20 c1) (M.map tk), RH g vg8, rowC vg8 (inL L (M.map tk)), hz p nn (keepF f (M.map tk)), rowT (.slice B2 (N + 1 + 1) d2) (T ++ [y]), Go.Proofs.Ytccehechhdndmaa.blk X9 #[.int .i64 y.a, .int .i64 y.b, .int .i64 y.c, .bool ok, .bool true, .slice KA Kl.length Kc] 39, Go.Proofs.Ytccehechhdndmaa.blk w.heap.size #[.int .i64 t.a, .int .i64 t.b, .int .i64 t.c] 32] := q_
              clear q_ s7
              obtain ⟨b, cur, rfl, hcs, s8_⟩ := rowT_blk s8 (by omega)
              have s90 : St w v8 [Go.Proofs.Ytccehechhdndmaa.blk b cur 32, RH g vg8, rowC vg8 (inL L (M.map tk)), hz p nn (keepF f (M.map tk)), rowT (.slice B2 (N + 1 + 1) d2) (T ++ [y]), Go.Proofs.Ytccehechhdndmaa.blk X9 #[.int .i64 y.a, .int .i64 y.b, .int .i64 y.c, .bool ok, .bool true, .slice KA Kl.length Kc] 39, Go.Proofs.Ytccehechhdndmaa.blk w.heap.size #[.int .i64 t.a, .int .i64 t.b, .int .i64 t.c] 32] := s8_
              clear s8 s8_
              go_wp2_with fail
              go_loopw [14] (fun kv wr => ∃ (k : Nat) (cur : Array Value), kv = .int .i64 k ∧ k ≤ 20 ∧ 20 * 3 ≤ cur.size ∧ St w wr [Go.Proofs.Ytccehechhdndmaa.blk b cur 32, RH g vg8, rowC vg8 (inL L (M.map tk)), hz p nn (keepF f (M.map tk)), rowT (.slice B2 (N + 1 + 1) d2) (T ++ [y]), Go.Proofs.Ytccehechhdndmaa.blk X9 #[.int .i64 y.a, .int .i64 y.b, .int .i64 y.c, .bool ok, .bool true, .slice KA Kl.length Kc] 39, Go.Proofs.Ytccehechhdndmaa.blk w.heap.size #[.int .i64 t.a, .int .i64 t.b, .int .i64 t.c] 32]) (fun kv _ => 20 - (intOf kv).toNat)
              case atStart => exact ⟨0, cur, rfl, by omega, hcs, s90⟩
              case round =>
                clear s90 hcs
                obtain ⟨k, cur, rfl, hk, hcs, s0⟩ := hrel
                by_cases mk : k < 20
                · have hc := s0.cells
                  have hfz := s0.free
                  have y0 : wr.cell? ⟨b, k * 3, none⟩ = some (cur[k * 3]'(by omega)) := (hc _).trans (Array.getElem?_eq_getElem (by omega))
                  have y1 : wr.cell? ⟨b, k * 3 + 1, none⟩ = some (cur[k * 3 + 1]'(by omega)) := (hc _).trans (Array.getElem?_eq_getElem (by omega))
                  have y2 : wr.cell? ⟨b, k * 3 + 2, none⟩ = some (cur[k * 3 + 2]'(by omega)) := (hc _).trans (Array.getElem?_eq_getElem (by omega))
                  have kk0 : (0 : Int) ≤ (k : Int) := by omega
                  have kk1 : (k : Int) < 20 := by omega
                  have s1 := ((s0.setb (k * 3) (.int .i64 0) rfl).setb (k * 3 + 1) (.int .i64 0) rfl).setb (k * 3 + 2) (.int .i64 0) rfl
                  have hcs2 : 20 * 3 ≤ (((cur.setIfInBounds (k * 3) (.int .i64 0)).setIfInBounds (k * 3 + 1) (.int .i64 0)).setIfInBounds (k * 3 + 2) (.int .i64 0)).size := by simpa using hcs
                  clear s0 hc
                  go_wp2
                  all_goals go_roundw
                  all_goals first | exact ⟨k + 1, _, by go_num, by omega, hcs2, s1⟩ | (simp [intOf]; omega)
                · skip
                  have s1 : St w wr [RH g vg8, rowC vg8 (inL L (M.map tk)), hz p nn (keepF f (M.map tk)), rowT (.slice B2 (N + 1 + 1) d2) (T ++ [y]), Go.Proofs.Ytccehechhdndmaa.blk X9 #[.int .i64 y.a, .int .i64 y.b, .int .i64 y.c, .bool ok, .bool true, .slice KA Kl.length Kc] 39, Go.Proofs.Ytccehechhdndmaa.blk w.heap.size #[.int .i64 t.a, .int .i64 t.b, .int .i64 t.c] 32] := s0.drop
                  clear s0
                  have s2 : St w wr [Go.Proofs.Ytccehechhdndmaa.blk X9 #[.int .i64 y.a, .int .i64 y.b, .int .i64 y.c, .bool ok, .bool true, .slice KA Kl.length Kc] 39, RH g vg8, rowC vg8 (inL L (M.map tk)), hz p nn (keepF f (M.map tk)), rowT (.slice B2 (N + 1 + 1) d2) (T ++ [y]), Go.Proofs.Ytccehechhdndmaa.blk w.heap.size #[.int .i64 t.a, .int .i64 t.b, .int .i64 t.c] 32] := s1.pick 4
                  clear s1
                  have s3 : St w wr [RH g vg8, rowC vg8 (inL L (M.map tk)), hz p nn (keepF f (M.map tk)), rowT (.slice B2 (N + 1 + 1) d2) (T ++ [y]), Go.Proofs.Ytccehechhdndmaa.blk w.heap.size #[.int .i64 t.a, .int .i64 t.b, .int .i64 t.c] 32] := s2.drop
                  clear s2
                  have s4 : St w wr [rowT (.slice B2 (N + 1 + 1) d2) (T ++ [y]), RH g vg8, rowC vg8 (inL L (M.map tk)), hz p nn (keepF f (M.map tk)), Go.Proofs.Ytccehechhdndmaa.blk w.heap.size #[.int .i64 t.a, .int .i64 t.b, .int .i64 t.c] 32] := s3.pick 3
                  clear s3
                  have s5 : St w wr [rowC vg8 (inL L (M.map tk)), rowT (.slice B2 (N + 1 + 1) d2) (T ++ [y]), RH g vg8, hz p nn (keepF f (M.map tk)), Go.Proofs.Ytccehechhdndmaa.blk w.heap.size #[.int .i64 t.a, .int .i64 t.b, .int .i64 t.c] 32] := s4.pick 2
                  clear s4
                  have s6 : St w wr [RH g vg8, rowC vg8 (inL L (M.map tk)), rowT (.slice B2 (N + 1 + 1) d2) (T ++ [y]), hz p nn (keepF f (M.map tk)), Go.Proofs.Ytccehechhdndmaa.blk w.heap.size #[.int .i64 t.a, .int .i64 t.b, .int .i64 t.c] 32] := s5.pick 2
                  clear s5
                  have s7 : St w wr [hz p nn (keepF f (M.map tk)), RH g vg8, rowC vg8 (inL L (M.map tk)), rowT (.slice B2 (N + 1 + 1) d2) (T ++ [y]), Go.Proofs.Ytccehechhdndmaa.blk w.heap.size #[.int .i64 t.a, .int .i64 t.b, .int .i64 t.c] 32] := s6.pick 3
                  clear s6
                  go_wp2
                  go_meet
                  exact ⟨nn, keepF f (M.map tk), inL L (M.map tk), vg8, by omega, by have := inL_len L (M.map tk); omega, hf.keep _, s7⟩
        case rest =>
          obtain ⟨n2, f2, L2, vg2, hn2, hL2, hf2, s0⟩ := hcut
          clear cX
          generalize T ++ [y] = T2 at *
          clear hf hLl hnn x6
          go_wp2_with fail
          go_loopw [15] (fun kv wr => ∃ k : Nat, kv = .int .i64 k ∧ k ≤ N + 1 + 1 ∧ St w wr [hz p n2 f2, RH g vg2, rowC vg2 L2, rowT (.slice B2 (N + 1 + 1) d2) T2, Go.Proofs.Ytccehechhdndmaa.blk w.heap.size #[.int .i64 t.a, .int .i64 t.b, .int .i64 t.c] 32]) (fun kv _ => 70 - (intOf kv).toNat)
          case atStart => exact ⟨0, rfl, by omega, s0⟩
          case round =>
            clear s0
            obtain ⟨k, rfl, hk, s0⟩ := hrel
            by_cases mk : k < N + 1 + 1
            · rcases rowT_get (rowT_at (s0.pick 3)) with ⟨rfl, -⟩ | ⟨b, c9, e, -, -, -, hb, -, hcells⟩
              · simp at hTl2
              injection e with e1 e2 e3
              subst e1
              clear e2 e3
              have hkT : k < T2.length := by omega
              obtain ⟨y0, y1, y2⟩ := hcells k hkT
              have huw := hTw2 T2[k] (List.getElem_mem hkT)
              clear hcells
              have hfT := hf2 T2[k]
              generalize T2[k] = u at *
              have kk0 : (0 : Int) ≤ (k : Int) := by omega
              have kk1 : (k : Int) < (N : Int) + 1 + 1 := by omega
              obtain ⟨bp, hp⟩ := hz_lt s0
              have hG0 := (s0.pick 1).at0
              have hR0 := rowC_at (s0.pick 2)
              have cz : ∀ v, Below wr.heap.size wr (wr.up v) := fun v => up_below _ _
              have hpu : ∀ v, HZ (wr.up v) p bp n2 f2 := fun v => hp.keep (fun i hi => (cz v).block i (by rcases hi with rfl | rfl; exact vlt hp.2.1; exact hp.2.2.lt))
              have hgu : ∀ v, (wr.up v).heap[g]? = some (.cells #[vg2] 83 (0, 0)) := fun v => vbelow hG0 (cz v)
              have hru : ∀ v, kC.R 87 (wr.up v) 0 (fun _ => True) (vg2) L2 := fun v => Kd.R_below hR0 (cz v)
              have hLm : L2.length ≤ 100000 := by omega
              have zf1 := fun v => calls_up (fails_c p bp n2 f2 u (wr.up v) (hpu v) huw)
              have zf2 := fun v => calls_up (rfails_c g (vg2) L2 u (wr.up v) (hgu v) (hru v) hLm)
              have zf3 := fun v kk => calls_up (sick_c p bp n2 f2 u kk (wr.up v) (hpu v) huw)
              have zf4 := fun v kk => calls_up (rsick_c g (vg2) L2 u kk (wr.up v) (hgu v) (hru v) hLm)
              simp only [tokV] at zf1 zf2 zf3 zf4
              rw [hfT] at zf2
              simp only [hfT, show ∀ (n : Nat) (k : Int), sickI (n : Int) k = sickB n k from fun _ _ => rfl] at zf4
              clear hpu hgu hru hp hG0 hR0
              have yu0 : ∀ v, (wr.up v).cell? ⟨b, k * 3, none⟩ = some (.int .i64 u.a) := fun v => (up_cell wr v _ hb).trans y0
              have yu1 : ∀ v, (wr.up v).cell? ⟨b, k * 3 + 1, none⟩ = some (.int .i64 u.b) := fun v => (up_cell wr v _ hb).trans y1
              have yu2 : ∀ v, (wr.up v).cell? ⟨b, k * 3 + 2, none⟩ = some (.int .i64 u.c) := fun v => (up_cell wr v _ hb).trans y2
              clear y0 y1 y2 huw cz hfT
              generalize f2 u = fu at *
              go_wp2
              refine wp_region_up_lit (by kernel_rfl) (by kernel_rfl) ?_
              repeat (go_big_quiet_step ((first | (with_reducible exact zf1 _) | (with_reducible exact zf2 _) | (with_reducible exact zf3 _ _) | (with_reducible exact zf4 _ _))))
              refine wpQuiet_nil ?_
              intro wz hwz
              have hbz := up_ex hwz
              clear hwz
              have s1 := s0.more hbz
              clear s0 hbz zf1 zf2 zf3 zf4 yu0 yu1 yu2
              go_wp2
              all_goals go_roundw
              all_goals first | exact ⟨k + 1, by go_num, by omega, s1⟩ | (simp [intOf]; omega)
            · skip
              go_wp2
              all_goals go_roundw
              all_goals first | exact ⟨N + 1, n2, f2, L2, vg2, B2, d2, T2, rfl, by go_num, by omega, by omega, hTl2, hn2, hL2, hf2, hTw2, s0⟩ | (simp [intOf]; omega)
      · skip
        have cT := (h0.pick 4).cells
        have hfT := hf t
        have hTb : w.heap.size < wr.heap.size := vlt (h0.pick 4).at0
        obtain ⟨bp, hp⟩ := hz_lt h0
        have hG0 := (h0.pick 1).at0
        have hR0 := rowC_at (h0.pick 2)
        have cz : ∀ v, Below wr.heap.size wr (wr.up v) := fun v => up_below _ _
        have hpu : ∀ v, HZ (wr.up v) p bp nn f := fun v => hp.keep (fun i hi => (cz v).block i (by rcases hi with rfl | rfl; exact vlt hp.2.1; exact hp.2.2.lt))
        have hgu : ∀ v, (wr.up v).heap[g]? = some (.cells #[vg] 83 (0, 0)) := fun v => vbelow hG0 (cz v)
        have hru : ∀ v, kC.R 87 (wr.up v) 0 (fun _ => True) (vg) L := fun v => Kd.R_below hR0 (cz v)
        have hLm : L.length ≤ 100000 := by omega
        have zf1 := fun v => calls_up (fails_c p bp nn f t (wr.up v) (hpu v) ht)
        have zf2 := fun v => calls_up (rfails_c g (vg) L t (wr.up v) (hgu v) (hru v) hLm)
        simp only [tokV] at zf1 zf2
        rw [hfT] at zf2
        clear hpu hgu hru hp hG0 hR0
        have zf3 := fun v => calls_up (awake_s (wr.up v))
        have cu : ∀ v j, (wr.up v).cell? ⟨w.heap.size, j, none⟩ = (#[.int .i64 t.a, .int .i64 t.b, .int .i64 t.c] : Array Value)[j]? := fun v j => (up_cell wr v _ hTb).trans (cT j)
        clear cT cz hfT
        generalize f t = ft at *
        go_wp2
        refine wp_region_up_lit (by kernel_rfl) (by kernel_rfl) ?_
        repeat (go_big_quiet_step ((first | (with_reducible exact zf1 _) | (with_reducible exact zf2 _) | (with_reducible exact zf3 _))))
        refine wpQuiet_nil ?_
        intro wz hwz
        have hbz := up_ex hwz
        clear hwz
        have s1 := h0.more hbz
        clear h0 hbz zf1 zf2 zf3 cu
        go_wp2
        go_returns
        exact ⟨by first | rfl | simp, s1.bel⟩
    · skip
      have cT := (h0.pick 4).cells
      have hfT := hf t
      have hTb : w.heap.size < wr.heap.size := vlt (h0.pick 4).at0
      obtain ⟨bp, hp⟩ := hz_lt h0
      have hG0 := (h0.pick 1).at0
      have hR0 := rowC_at (h0.pick 2)
      have cz : ∀ v, Below wr.heap.size wr (wr.up v) := fun v => up_below _ _
      have hpu : ∀ v, HZ (wr.up v) p bp nn f := fun v => hp.keep (fun i hi => (cz v).block i (by rcases hi with rfl | rfl; exact vlt hp.2.1; exact hp.2.2.lt))
      have hgu : ∀ v, (wr.up v).heap[g]? = some (.cells #[vg] 83 (0, 0)) := fun v => vbelow hG0 (cz v)
      have hru : ∀ v, kC.R 87 (wr.up v) 0 (fun _ => True) (vg) L := fun v => Kd.R_below hR0 (cz v)
      have hLm : L.length ≤ 100000 := by omega
      have zf1 := fun v => calls_up (fails_c p bp nn f t (wr.up v) (hpu v) ht)
      have zf2 := fun v => calls_up (rfails_c g (vg) L t (wr.up v) (hgu v) (hru v) hLm)
      simp only [tokV] at zf1 zf2
      rw [hfT] at zf2
      clear hpu hgu hru hp hG0 hR0
      have zf3 := fun v => calls_up (awake_s (wr.up v))
      have cu : ∀ v j, (wr.up v).cell? ⟨w.heap.size, j, none⟩ = (#[.int .i64 t.a, .int .i64 t.b, .int .i64 t.c] : Array Value)[j]? := fun v j => (up_cell wr v _ hTb).trans (cT j)
      clear cT cz hfT
      generalize f t = ft at *
      go_wp2
      refine wp_region_up_lit (by kernel_rfl) (by kernel_rfl) ?_
      repeat (go_big_quiet_step ((first | (with_reducible exact zf1 _) | (with_reducible exact zf2 _) | (with_reducible exact zf3 _))))
      refine wpQuiet_nil ?_
      intro wz hwz
      have hbz := up_ex hwz
      clear hwz
      have s1 := h0.more hbz
      clear h0 hbz zf1 zf2 zf3 cu
      go_wp2
      go_returns
      exact ⟨by first | rfl | simp, s1.bel⟩
theorem walk_ProbeMatches (w : World) (A : Option Addr) (c : Nat) (l : List E39) (hl : SL30 w A c l) (t0 t1 t2 : Int) (h0 : (Lit.int .i64 t0).wf = true) (h1 : (Lit.int .i64 t1).wf = true) (h2 : (Lit.int .i64 t2).wf = true) (pr : Int) (hpr : (Lit.int .i64 pr).wf = true) :
    Calls Try.prog 4 #[.slice A l.length c, .agg #[.int .i64 t0, .int .i64 t1, .int .i64 t2], .int .i64 pr] w fun e w' => e = .returned (.bool true) ∧ Below w.heap.size w w' := match_w w A c l hl ⟨t0, t1, t2⟩ ⟨h0, h1, h2⟩ pr
end Go.Proofs.Ytccehechhdndmaa
