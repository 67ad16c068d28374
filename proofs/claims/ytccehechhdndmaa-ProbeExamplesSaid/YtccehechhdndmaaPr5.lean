/- The law ProbeAlone. Printed by gen/probe5.py. -/
import Derived.Test.YtccehechhdndmaaBase
import Derived.Test.YtccehechhdndmaaSep
import Derived.Test.YtccehechhdndmaaSepB
import Derived.Test.YtccehechhdndmaaOpen
import Derived.Test.YtccehechhdndmaaProg
import Derived.Lib.Hide
import Derived.Test.YtccehechhdndmaaPr0
import Derived.Test.YtccehechhdndmaaPr1
import Derived.Test.YtccehechhdndmaaPr2
import Derived.Test.YtccehechhdndmaaPr3
import Derived.Test.YtccehechhdndmaaPr4
namespace Go.Proofs.Ytccehechhdndmaa
open Go.RowKit
set_option linter.unusedSimpArgs false
set_option linter.unusedVariables false

theorem eq_tok (x t : Tok) (W : World) : (binOp .eql 32 (.agg #[.int .i64 x.a, .int .i64 x.b, .int .i64 x.c]) (.agg #[.int .i64 t.a, .int .i64 t.b, .int .i64 t.c])).run Try.prog W = .ok (.bool (decide (x = t))) W := by
  obtain ⟨a, b, c⟩ := x
  obtain ⟨a', b', c'⟩ := t
  by_cases h0 : a = a'
  · by_cases h1 : b = b'
    · by_cases h2 : c = c' <;> simp [go_sem, h0, h1, h2, Try.underlying32, Try.underlying3, Result.andThen]
    · simp [go_sem, h0, h1, Try.underlying32, Try.underlying3, Result.andThen]
  · simp [go_sem, h0, Try.underlying32, Try.underlying3, Result.andThen]
theorem tellF_ne {f : Tok → Nat} {x t : Tok} (ok : Bool) (h : x ≠ t) : tellF f x ok t = f t := by unfold tellF; split <;> simp [Ne.symm h]
theorem tellF_ok {f : Tok → Nat} {t : Tok} (h : tokOk t = false → f t = 0) : tellF f t true t = 0 := by unfold tellF; split <;> simp_all
theorem tellF_bad {f : Tok → Nat} {t : Tok} (ok : Bool) (h : tokOk t = false) : tellF f t ok t = f t := by unfold tellF; rw [h]; rfl
theorem tellF_fail {f : Tok → Nat} {t : Tok} (h : tokOk t = true) : tellF f t false t = f t + 1 := by unfold tellF; rw [h]; simp
theorem sick_same (n : Nat) : sickB n n = decide ((n : Int) > 0) := by unfold sickB; simp; try omega
theorem sick_more (n : Nat) : sickB n ((n : Int) + 1) = false := by unfold sickB; simp; try omega
theorem sick_same1 (n : Nat) : sickB (n + 1) ((n : Int) + 1) = decide ((n : Int) + 1 > 0) := by unfold sickB; simp
theorem sick_more1 (n : Nat) : sickB (n + 1) ((n : Int) + 1 + 1) = false := by unfold sickB; simp; try omega
theorem sick_00 : sickB 0 0 = false := by decide
theorem sick_01 : sickB 0 1 = false := by decide
theorem sl_take {w : World} {A : Option Addr} {c : Nat} {l : List E32} (h : SL37 w A c l) (n : Nat) : SL37 w A c (l.take n) := by
  obtain ⟨h1, h2, h3⟩ := h
  refine ⟨by simp; omega, h2, ?_⟩
  rcases h3 with rfl | ⟨b, off, rfl, hb, hc⟩
  · exact Or.inl (by simp)
  · refine Or.inr ⟨b, off, rfl, hb, fun k hk => ?_⟩
    have hk1 : k < l.length := by simp at hk; omega
    have hk2 : k < n := by simp at hk; omega
    have e : rdE32 (l.take n) k = rdE32 l k := by simp [rdE32, List.getElem?_take, hk2]
    rw [e]; exact hc k hk1
theorem keep_s2 {w0 w : World} {L : List HP} {p n : Nat} {f : Tok → Nat} (A : Option Addr) (c : Nat) (l : List E32) (m : Nat) (hm : l.length = m) (h : St w0 w (hz p n f :: L)) (hl : SL37 w0 A c l) :
    Calls Try.prog 24 #[.pointer (some ⟨p, 0, none⟩), .slice A m c] w fun e w' => e = .returned (.tuple #[]) ∧ St w0 w' (hz p n (keepF f (l.map tk)) :: L) := by
  subst hm
  refine keep_s A c l h (sl_chg hl (Chg.of_below (S := fun _ => False) h.bel) (fun _ _ _ q => q)) (fun a ha hne => ?_)
  obtain ⟨b, off, e, hb, -⟩ := hl.2.2.resolve_left hne
  rw [ha] at e; cases e; exact hb
theorem St.bound {w0 w : World} {L : List HP} {p n : Nat} {f : Tok → Nat} (h : St w0 w (hz p n f :: L)) (t : Tok) : f t ≤ n := by obtain ⟨S, b, ⟨-, -, D, -, -, h3⟩, -⟩ := h.hd; exact h3 t
set_option maxRecDepth 100000 in
set_option maxHeartbeats 8000000 in
theorem alone_w (w : World) (A : Option Addr) (c : Nat) (l : List E39) (hl : SL30 w A c l) (t : Tok) (ht : tokW t) :
    Calls Try.prog 6 #[.slice A l.length c, .agg #[.int .i64 t.a, .int .i64 t.b, .int .i64 t.c]] w fun e w' => e = .returned (.bool true) ∧ Below w.heap.size w w' := by
  obtain ⟨l1, l2, l3⟩ := hl
  have hmax : l.length ≤ 9223372036854775807 := by have := l2; simp only [maxLen] at this; omega
  have H3 := Lib.hid l3
  clear l3 l2
  have a0 : St w (w.alloc (.cells #[.int .i64 t.a, .int .i64 t.b, .int .i64 t.c] 32)) [Go.Proofs.Ytccehechhdndmaa.blk w.heap.size #[.int .i64 t.a, .int .i64 t.b, .int .i64 t.c] 32] := (St.start w).alloc _ _
  go_enter Try.func6, Try.ntmps6
  go_wp2_with fail
  refine (pnew_s a0).mono ?_
  rintro e_ w1 ⟨p, rfl, a1⟩
  clear a0
  go_wp2_with fail
  refine (pnew_s a1).mono ?_
  rintro e_ w2 ⟨q, rfl, a2⟩
  clear a1
  go_wp2_with fail
  go_loopw [7, 8] (fun v i wr => ∃ (N K a b : Nat) (f g : Tok → Nat), v = .int .i64 K ∧ i = .int .i64 N ∧ N ≤ l.length ∧ N ≤ 60 ∧ a ≤ N ∧ b ≤ N ∧ f t = K ∧ g t = K ∧ (tokOk t = false → K = 0) ∧ St w wr [hz p a f, hz q b g, Go.Proofs.Ytccehechhdndmaa.blk w.heap.size #[.int .i64 t.a, .int .i64 t.b, .int .i64 t.c] 32]) (fun _ i _ => 60 - (intOf i).toNat)
  case atStart => exact ⟨0, 0, 0, 0, _, _, rfl, rfl, by omega, by omega, by omega, by omega, rfl, rfl, fun _ => rfl, a2.pick 1⟩
  case round =>
    clear a2
    obtain ⟨N, K, a, b, f, g, rfl, rfl, hN1, hN2, ha, hb, hf, hg, hK, h0⟩ := hrel
    have hKN : K ≤ N := by have := h0.bound t; omega
    by_cases m1 : N < l.length
    · by_cases m2 : N < 60
      · obtain ⟨B, off, rfl, hB, hcells⟩ : ∃ b off, A = some ⟨b, off, none⟩ ∧ b < w.heap.size ∧ _ := H3.out.resolve_left (by rintro rfl; simp at m1)
        obtain ⟨x0, g0, x1, g1, x2, g2, x3, x4, x5, x6⟩ := hcells N m1
        generalize rdE39 l N = x at *
        have z0 : wr.cell? ⟨B, off + N * 6, none⟩ = _ := (h0.bel.cell hB).trans x0
        have z1 : wr.cell? ⟨B, off + N * 6 + 1, none⟩ = _ := (h0.bel.cell hB).trans x1
        have z2 : wr.cell? ⟨B, off + N * 6 + 2, none⟩ = _ := (h0.bel.cell hB).trans x2
        have z3 : wr.cell? ⟨B, off + N * 6 + 3, none⟩ = _ := (h0.bel.cell hB).trans x3
        have z4 : wr.cell? ⟨B, off + N * 6 + 4, none⟩ = _ := (h0.bel.cell hB).trans x4
        have z5 : wr.cell? ⟨B, off + N * 6 + 5, none⟩ = _ := (h0.bel.cell hB).trans x5
        clear x0 x1 x2 x3 x4 x5 hcells H3
        have hx : tokW ⟨x.f0, x.f1, x.f2⟩ := ⟨g0, g1, g2⟩
        clear g0 g1 g2
        obtain ⟨f0, f1, f2, ok, kp, KA, Kc, Kl⟩ := x
        obtain ⟨y, ey⟩ : ∃ y : Tok, y = ⟨f0, f1, f2⟩ := ⟨_, rfl⟩
        obtain rfl : f0 = y.a := by rw [ey]
        obtain rfl : f1 = y.b := by rw [ey]
        obtain rfl : f2 = y.c := by rw [ey]
        have hy : tokW y := hx
        clear hx ey
        simp only at z0 z1 z2 z3 z4 z5 x6
        have hk0 : (0 : Int) ≤ (N : Int) := by omega
        have hk1 : (N : Int) < (l.length : Int) := by omega
        have hk2 : (N : Int) < 60 := by omega
        have hX := h0.alloc #[.int .i64 y.a, .int .i64 y.b, .int .i64 y.c, .bool ok, .bool kp, .slice KA Kl.length Kc] 39
        have hXc := hX.cells
        cases kp with
        | false =>
          have cT := (hX.pick 3).cells
          have s1 : St w (wr.alloc (.cells #[.int .i64 y.a, .int .i64 y.b, .int .i64 y.c, .bool ok, .bool false, .slice KA Kl.length Kc] 39)) [hz p a f, Go.Proofs.Ytccehechhdndmaa.blk wr.heap.size #[.int .i64 y.a, .int .i64 y.b, .int .i64 y.c, .bool ok, .bool false, .slice KA Kl.length Kc] 39, hz q b g, Go.Proofs.Ytccehechhdndmaa.blk w.heap.size #[.int .i64 t.a, .int .i64 t.b, .int .i64 t.c] 32] := hX.pick 1
          clear hX
          have cX := (s1.pick 1).cells
          go_wp2_with fail
          refine (tell_s y ok s1 hy (by omega)).mono ?_
          rintro e_ v2 ⟨rfl, q_⟩
          have s2 : St w v2 [hz p (a + 1) (tellF f y ok), Go.Proofs.Ytccehechhdndmaa.blk wr.heap.size #[.int .i64 y.a, .int .i64 y.b, .int .i64 y.c, .bool ok, .bool false, .slice KA Kl.length Kc] 39, hz q b g, Go.Proofs.Ytccehechhdndmaa.blk w.heap.size #[.int .i64 t.a, .int .i64 t.b, .int .i64 t.c] 32] := q_
          clear q_ cT s1
          have cT := (s2.pick 3).cells
          clear cX
          have cX := (s2.pick 1).cells
          have hch := check_c y
          go_wp2_with fail
          refine (hch _).mono ?_
          rintro e_ v_ ⟨rfl, hbl⟩
          have sc := s2.more hbl
          clear cT cX s2 hbl hch
          have cT := (sc.pick 3).cells
          have cX := (sc.pick 1).cells
          have heq := eq_tok y t
          by_cases hyt : y = t
          · rw [show decide (y = t) = true by simp [hyt]] at heq
            subst y
            have hbc : tellF f t ok t = tellF g t ok t := by unfold tellF; rw [hf, hg]
            cases ok with
            | true =>
              have hF : tellF f t true t = 0 := tellF_ok (by rw [hf]; exact hK)
              have hG : tellF g t true t = 0 := hbc ▸ hF
              clear hbc
              generalize tokE t = E at *
              have s3 : St w v_ [hz q b g, hz p (a + 1) (tellF f t true), Go.Proofs.Ytccehechhdndmaa.blk wr.heap.size #[.int .i64 t.a, .int .i64 t.b, .int .i64 t.c, .bool true, .bool false, .slice KA Kl.length Kc] 39, Go.Proofs.Ytccehechhdndmaa.blk w.heap.size #[.int .i64 t.a, .int .i64 t.b, .int .i64 t.c] 32] := sc.pick 2
              clear sc
              have cX := (s3.pick 2).cells
              go_wp2_with fail
              refine (tell_s t true s3 ht (by omega)).mono ?_
              rintro e_ v4 ⟨rfl, q_⟩
              have s4 : St w v4 [hz q (b + 1) (tellF g t true), hz p (a + 1) (tellF f t true), Go.Proofs.Ytccehechhdndmaa.blk wr.heap.size #[.int .i64 t.a, .int .i64 t.b, .int .i64 t.c, .bool true, .bool false, .slice KA Kl.length Kc] 39, Go.Proofs.Ytccehechhdndmaa.blk w.heap.size #[.int .i64 t.a, .int .i64 t.b, .int .i64 t.c] 32] := q_
              clear q_ cT s3
              have cT := (s4.pick 3).cells
              clear cX
              have cX := (s4.pick 2).cells
              generalize tellF f t true = F at *
              generalize tellF g t true = G at *
              go_wp2_with fail
              clear cX
              have s5 : St w v4 [Go.Proofs.Ytccehechhdndmaa.blk wr.heap.size #[.int .i64 t.a, .int .i64 t.b, .int .i64 t.c, .bool true, .bool false, .slice KA Kl.length Kc] 39, hz q (b + 1) G, hz p (a + 1) F, Go.Proofs.Ytccehechhdndmaa.blk w.heap.size #[.int .i64 t.a, .int .i64 t.b, .int .i64 t.c] 32] := s4.pick 2
              clear s4
              have s6 : St w v4 [hz q (b + 1) G, hz p (a + 1) F, Go.Proofs.Ytccehechhdndmaa.blk w.heap.size #[.int .i64 t.a, .int .i64 t.b, .int .i64 t.c] 32] := s5.drop
              clear cT s5
              have cT := (s6.pick 2).cells
              have s7 : St w v4 [hz p (a + 1) F, hz q (b + 1) G, Go.Proofs.Ytccehechhdndmaa.blk w.heap.size #[.int .i64 t.a, .int .i64 t.b, .int .i64 t.c] 32] := s6.pick 1
              clear s6
              go_wp2_with fail
              refine (fails_s t s7 ht).mono ?_
              rintro e_ v8 ⟨rfl, q_⟩
              have s8 : St w v8 [hz p (a + 1) F, hz q (b + 1) G, Go.Proofs.Ytccehechhdndmaa.blk w.heap.size #[.int .i64 t.a, .int .i64 t.b, .int .i64 t.c] 32] := q_
              clear q_ cT s7
              have cT := (s8.pick 2).cells
              rw [hF, show ((0 : Nat) : Int) = 0 from rfl]
              have s9 : St w v8 [hz q (b + 1) G, hz p (a + 1) F, Go.Proofs.Ytccehechhdndmaa.blk w.heap.size #[.int .i64 t.a, .int .i64 t.b, .int .i64 t.c] 32] := s8.pick 1
              clear s8
              go_wp2_with fail
              refine (fails_s t s9 ht).mono ?_
              rintro e_ v10 ⟨rfl, q_⟩
              have s10 : St w v10 [hz q (b + 1) G, hz p (a + 1) F, Go.Proofs.Ytccehechhdndmaa.blk w.heap.size #[.int .i64 t.a, .int .i64 t.b, .int .i64 t.c] 32] := q_
              clear q_ cT s9
              have cT := (s10.pick 2).cells
              rw [hG, show ((0 : Nat) : Int) = 0 from rfl]
              have s11 : St w v10 [hz p (a + 1) F, hz q (b + 1) G, Go.Proofs.Ytccehechhdndmaa.blk w.heap.size #[.int .i64 t.a, .int .i64 t.b, .int .i64 t.c] 32] := s10.pick 1
              clear s10
              go_wp2_with fail
              refine (sick_s t 0 s11 ht).mono ?_
              rintro e_ v12 ⟨rfl, q_⟩
              have s12 : St w v12 [hz p (a + 1) F, hz q (b + 1) G, Go.Proofs.Ytccehechhdndmaa.blk w.heap.size #[.int .i64 t.a, .int .i64 t.b, .int .i64 t.c] 32] := q_
              clear q_ cT s11
              have cT := (s12.pick 2).cells
              rw [hF, sick_00]
              go_wp2_with fail
              refine (sick_s t 1 s12 ht).mono ?_
              rintro e_ v13 ⟨rfl, q_⟩
              have s13 : St w v13 [hz p (a + 1) F, hz q (b + 1) G, Go.Proofs.Ytccehechhdndmaa.blk w.heap.size #[.int .i64 t.a, .int .i64 t.b, .int .i64 t.c] 32] := q_
              clear q_ cT s12
              have cT := (s13.pick 2).cells
              rw [hF, sick_01]
              have s14 : St w v13 [hz q (b + 1) G, hz p (a + 1) F, Go.Proofs.Ytccehechhdndmaa.blk w.heap.size #[.int .i64 t.a, .int .i64 t.b, .int .i64 t.c] 32] := s13.pick 1
              clear s13
              have s15 : St w v13 [hz p (a + 1) F, hz q (b + 1) G, Go.Proofs.Ytccehechhdndmaa.blk w.heap.size #[.int .i64 t.a, .int .i64 t.b, .int .i64 t.c] 32] := s14.pick 1
              clear s14
              go_wp2
              all_goals go_roundw
              all_goals first | exact ⟨N + 1, 0, a + 1, b + 1, _, _, by first | rfl | simp, by go_num, by omega, by omega, by omega, by omega, hF, hG, (fun _ => rfl), s15⟩ | (simp [intOf]; omega)
            | false =>
              have s3 : St w v_ [hz q b g, hz p (a + 1) (tellF f t false), Go.Proofs.Ytccehechhdndmaa.blk wr.heap.size #[.int .i64 t.a, .int .i64 t.b, .int .i64 t.c, .bool false, .bool false, .slice KA Kl.length Kc] 39, Go.Proofs.Ytccehechhdndmaa.blk w.heap.size #[.int .i64 t.a, .int .i64 t.b, .int .i64 t.c] 32] := sc.pick 2
              clear sc
              have cX := (s3.pick 2).cells
              go_wp2_with fail
              refine (tell_s t false s3 ht (by omega)).mono ?_
              rintro e_ v4 ⟨rfl, q_⟩
              have s4 : St w v4 [hz q (b + 1) (tellF g t false), hz p (a + 1) (tellF f t false), Go.Proofs.Ytccehechhdndmaa.blk wr.heap.size #[.int .i64 t.a, .int .i64 t.b, .int .i64 t.c, .bool false, .bool false, .slice KA Kl.length Kc] 39, Go.Proofs.Ytccehechhdndmaa.blk w.heap.size #[.int .i64 t.a, .int .i64 t.b, .int .i64 t.c] 32] := q_
              clear q_ cT s3
              have cT := (s4.pick 3).cells
              clear cX
              have cX := (s4.pick 2).cells
              by_cases hto : tokOk t = true
              · have hF : tellF f t false t = K + 1 := by rw [tellF_fail hto, hf]
                have hG : tellF g t false t = K + 1 := hbc ▸ hF
                have hK2 : tokOk t = false → K + 1 = 0 := fun q => by rw [hto] at q; cases q
                clear hbc
                rw [show tokE t = 0 by unfold tokE; rw [if_pos hto]]
                generalize tellF f t false = F at *
                generalize tellF g t false = G at *
                go_wp2_with fail
                clear cX
                have s5 : St w v4 [Go.Proofs.Ytccehechhdndmaa.blk wr.heap.size #[.int .i64 t.a, .int .i64 t.b, .int .i64 t.c, .bool false, .bool false, .slice KA Kl.length Kc] 39, hz q (b + 1) G, hz p (a + 1) F, Go.Proofs.Ytccehechhdndmaa.blk w.heap.size #[.int .i64 t.a, .int .i64 t.b, .int .i64 t.c] 32] := s4.pick 2
                clear s4
                have s6 : St w v4 [hz q (b + 1) G, hz p (a + 1) F, Go.Proofs.Ytccehechhdndmaa.blk w.heap.size #[.int .i64 t.a, .int .i64 t.b, .int .i64 t.c] 32] := s5.drop
                clear cT s5
                have cT := (s6.pick 2).cells
                have s7 : St w v4 [hz p (a + 1) F, hz q (b + 1) G, Go.Proofs.Ytccehechhdndmaa.blk w.heap.size #[.int .i64 t.a, .int .i64 t.b, .int .i64 t.c] 32] := s6.pick 1
                clear s6
                go_wp2_with fail
                refine (fails_s t s7 ht).mono ?_
                rintro e_ v8 ⟨rfl, q_⟩
                have s8 : St w v8 [hz p (a + 1) F, hz q (b + 1) G, Go.Proofs.Ytccehechhdndmaa.blk w.heap.size #[.int .i64 t.a, .int .i64 t.b, .int .i64 t.c] 32] := q_
                clear q_ cT s7
                have cT := (s8.pick 2).cells
                rw [hF, show ((K + 1 : Nat) : Int) = (K : Int) + 1 from rfl]
                have s9 : St w v8 [hz q (b + 1) G, hz p (a + 1) F, Go.Proofs.Ytccehechhdndmaa.blk w.heap.size #[.int .i64 t.a, .int .i64 t.b, .int .i64 t.c] 32] := s8.pick 1
                clear s8
                go_wp2_with fail
                refine (fails_s t s9 ht).mono ?_
                rintro e_ v10 ⟨rfl, q_⟩
                have s10 : St w v10 [hz q (b + 1) G, hz p (a + 1) F, Go.Proofs.Ytccehechhdndmaa.blk w.heap.size #[.int .i64 t.a, .int .i64 t.b, .int .i64 t.c] 32] := q_
                clear q_ cT s9
                have cT := (s10.pick 2).cells
                rw [hG, show ((K + 1 : Nat) : Int) = (K : Int) + 1 from rfl]
                have s11 : St w v10 [hz p (a + 1) F, hz q (b + 1) G, Go.Proofs.Ytccehechhdndmaa.blk w.heap.size #[.int .i64 t.a, .int .i64 t.b, .int .i64 t.c] 32] := s10.pick 1
                clear s10
                go_wp2_with fail
                refine (sick_s t ((K : Int) + 1) s11 ht).mono ?_
                rintro e_ v12 ⟨rfl, q_⟩
                have s12 : St w v12 [hz p (a + 1) F, hz q (b + 1) G, Go.Proofs.Ytccehechhdndmaa.blk w.heap.size #[.int .i64 t.a, .int .i64 t.b, .int .i64 t.c] 32] := q_
                clear q_ cT s11
                have cT := (s12.pick 2).cells
                rw [hF, sick_same1]
                go_wp2_with fail
                refine (sick_s t ((K : Int) + 1 + 1) s12 ht).mono ?_
                rintro e_ v13 ⟨rfl, q_⟩
                have s13 : St w v13 [hz p (a + 1) F, hz q (b + 1) G, Go.Proofs.Ytccehechhdndmaa.blk w.heap.size #[.int .i64 t.a, .int .i64 t.b, .int .i64 t.c] 32] := q_
                clear q_ cT s12
                have cT := (s13.pick 2).cells
                rw [hF, sick_more1]
                have s14 : St w v13 [hz q (b + 1) G, hz p (a + 1) F, Go.Proofs.Ytccehechhdndmaa.blk w.heap.size #[.int .i64 t.a, .int .i64 t.b, .int .i64 t.c] 32] := s13.pick 1
                clear s13
                have s15 : St w v13 [hz p (a + 1) F, hz q (b + 1) G, Go.Proofs.Ytccehechhdndmaa.blk w.heap.size #[.int .i64 t.a, .int .i64 t.b, .int .i64 t.c] 32] := s14.pick 1
                clear s14
                go_wp2
                all_goals go_roundw
                all_goals first | exact ⟨N + 1, K + 1, a + 1, b + 1, _, _, by first | rfl | simp, by go_num, by omega, by omega, by omega, by omega, hF, hG, hK2, s15⟩ | (simp [intOf]; omega)
              · have hto : tokOk t = false := by simpa using hto
                have hF : tellF f t false t = 0 := by rw [tellF_bad _ hto, hf]; exact hK hto
                have hG : tellF g t false t = 0 := hbc ▸ hF
                clear hbc
                rw [show tokE t = 3 by unfold tokE; rw [hto]; rfl]
                generalize tellF f t false = F at *
                generalize tellF g t false = G at *
                go_wp2_with fail
                clear cX
                have s5 : St w v4 [Go.Proofs.Ytccehechhdndmaa.blk wr.heap.size #[.int .i64 t.a, .int .i64 t.b, .int .i64 t.c, .bool false, .bool false, .slice KA Kl.length Kc] 39, hz q (b + 1) G, hz p (a + 1) F, Go.Proofs.Ytccehechhdndmaa.blk w.heap.size #[.int .i64 t.a, .int .i64 t.b, .int .i64 t.c] 32] := s4.pick 2
                clear s4
                have s6 : St w v4 [hz q (b + 1) G, hz p (a + 1) F, Go.Proofs.Ytccehechhdndmaa.blk w.heap.size #[.int .i64 t.a, .int .i64 t.b, .int .i64 t.c] 32] := s5.drop
                clear cT s5
                have cT := (s6.pick 2).cells
                have s7 : St w v4 [hz p (a + 1) F, hz q (b + 1) G, Go.Proofs.Ytccehechhdndmaa.blk w.heap.size #[.int .i64 t.a, .int .i64 t.b, .int .i64 t.c] 32] := s6.pick 1
                clear s6
                go_wp2_with fail
                refine (fails_s t s7 ht).mono ?_
                rintro e_ v8 ⟨rfl, q_⟩
                have s8 : St w v8 [hz p (a + 1) F, hz q (b + 1) G, Go.Proofs.Ytccehechhdndmaa.blk w.heap.size #[.int .i64 t.a, .int .i64 t.b, .int .i64 t.c] 32] := q_
                clear q_ cT s7
                have cT := (s8.pick 2).cells
                rw [hF, show ((0 : Nat) : Int) = 0 from rfl]
                have s9 : St w v8 [hz q (b + 1) G, hz p (a + 1) F, Go.Proofs.Ytccehechhdndmaa.blk w.heap.size #[.int .i64 t.a, .int .i64 t.b, .int .i64 t.c] 32] := s8.pick 1
                clear s8
                go_wp2_with fail
                refine (fails_s t s9 ht).mono ?_
                rintro e_ v10 ⟨rfl, q_⟩
                have s10 : St w v10 [hz q (b + 1) G, hz p (a + 1) F, Go.Proofs.Ytccehechhdndmaa.blk w.heap.size #[.int .i64 t.a, .int .i64 t.b, .int .i64 t.c] 32] := q_
                clear q_ cT s9
                have cT := (s10.pick 2).cells
                rw [hG, show ((0 : Nat) : Int) = 0 from rfl]
                have s11 : St w v10 [hz p (a + 1) F, hz q (b + 1) G, Go.Proofs.Ytccehechhdndmaa.blk w.heap.size #[.int .i64 t.a, .int .i64 t.b, .int .i64 t.c] 32] := s10.pick 1
                clear s10
                go_wp2_with fail
                refine (sick_s t 0 s11 ht).mono ?_
                rintro e_ v12 ⟨rfl, q_⟩
                have s12 : St w v12 [hz p (a + 1) F, hz q (b + 1) G, Go.Proofs.Ytccehechhdndmaa.blk w.heap.size #[.int .i64 t.a, .int .i64 t.b, .int .i64 t.c] 32] := q_
                clear q_ cT s11
                have cT := (s12.pick 2).cells
                rw [hF, sick_00]
                go_wp2_with fail
                refine (sick_s t 1 s12 ht).mono ?_
                rintro e_ v13 ⟨rfl, q_⟩
                have s13 : St w v13 [hz p (a + 1) F, hz q (b + 1) G, Go.Proofs.Ytccehechhdndmaa.blk w.heap.size #[.int .i64 t.a, .int .i64 t.b, .int .i64 t.c] 32] := q_
                clear q_ cT s12
                have cT := (s13.pick 2).cells
                rw [hF, sick_01]
                have s14 : St w v13 [hz q (b + 1) G, hz p (a + 1) F, Go.Proofs.Ytccehechhdndmaa.blk w.heap.size #[.int .i64 t.a, .int .i64 t.b, .int .i64 t.c] 32] := s13.pick 1
                clear s13
                have s15 : St w v13 [hz p (a + 1) F, hz q (b + 1) G, Go.Proofs.Ytccehechhdndmaa.blk w.heap.size #[.int .i64 t.a, .int .i64 t.b, .int .i64 t.c] 32] := s14.pick 1
                clear s14
                go_wp2
                all_goals go_roundw
                all_goals first | exact ⟨N + 1, 0, a + 1, b + 1, _, _, by first | rfl | simp, by go_num, by omega, by omega, by omega, by omega, hF, hG, (fun _ => rfl), s15⟩ | (simp [intOf]; omega)
          · rw [show decide (y = t) = false by simp [hyt]] at heq
            have hF : tellF f y ok t = K := by rw [tellF_ne ok hyt, hf]
            have hG := hg
            have hK2 := hK
            generalize tokE y = E at *
            generalize tellF f y ok = F at *
            go_wp2_with fail
            clear cX
            have s3 : St w v_ [Go.Proofs.Ytccehechhdndmaa.blk wr.heap.size #[.int .i64 y.a, .int .i64 y.b, .int .i64 y.c, .bool ok, .bool false, .slice KA Kl.length Kc] 39, hz p (a + 1) F, hz q b g, Go.Proofs.Ytccehechhdndmaa.blk w.heap.size #[.int .i64 t.a, .int .i64 t.b, .int .i64 t.c] 32] := sc.pick 1
            clear sc
            have s4 : St w v_ [hz p (a + 1) F, hz q b g, Go.Proofs.Ytccehechhdndmaa.blk w.heap.size #[.int .i64 t.a, .int .i64 t.b, .int .i64 t.c] 32] := s3.drop
            clear cT s3
            have cT := (s4.pick 2).cells
            have s5 : St w v_ [hz p (a + 1) F, hz q b g, Go.Proofs.Ytccehechhdndmaa.blk w.heap.size #[.int .i64 t.a, .int .i64 t.b, .int .i64 t.c] 32] := s4.pick 0
            clear s4
            go_wp2_with fail
            refine (fails_s t s5 ht).mono ?_
            rintro e_ v6 ⟨rfl, q_⟩
            have s6 : St w v6 [hz p (a + 1) F, hz q b g, Go.Proofs.Ytccehechhdndmaa.blk w.heap.size #[.int .i64 t.a, .int .i64 t.b, .int .i64 t.c] 32] := q_
            clear q_ cT s5
            have cT := (s6.pick 2).cells
            rw [hF]
            have s7 : St w v6 [hz q b g, hz p (a + 1) F, Go.Proofs.Ytccehechhdndmaa.blk w.heap.size #[.int .i64 t.a, .int .i64 t.b, .int .i64 t.c] 32] := s6.pick 1
            clear s6
            go_wp2_with fail
            refine (fails_s t s7 ht).mono ?_
            rintro e_ v8 ⟨rfl, q_⟩
            have s8 : St w v8 [hz q b g, hz p (a + 1) F, Go.Proofs.Ytccehechhdndmaa.blk w.heap.size #[.int .i64 t.a, .int .i64 t.b, .int .i64 t.c] 32] := q_
            clear q_ cT s7
            have cT := (s8.pick 2).cells
            rw [hG]
            have s9 : St w v8 [hz p (a + 1) F, hz q b g, Go.Proofs.Ytccehechhdndmaa.blk w.heap.size #[.int .i64 t.a, .int .i64 t.b, .int .i64 t.c] 32] := s8.pick 1
            clear s8
            go_wp2_with fail
            refine (sick_s t (K : Int) s9 ht).mono ?_
            rintro e_ v10 ⟨rfl, q_⟩
            have s10 : St w v10 [hz p (a + 1) F, hz q b g, Go.Proofs.Ytccehechhdndmaa.blk w.heap.size #[.int .i64 t.a, .int .i64 t.b, .int .i64 t.c] 32] := q_
            clear q_ cT s9
            have cT := (s10.pick 2).cells
            rw [hF, sick_same]
            go_wp2_with fail
            refine (sick_s t ((K : Int) + 1) s10 ht).mono ?_
            rintro e_ v11 ⟨rfl, q_⟩
            have s11 : St w v11 [hz p (a + 1) F, hz q b g, Go.Proofs.Ytccehechhdndmaa.blk w.heap.size #[.int .i64 t.a, .int .i64 t.b, .int .i64 t.c] 32] := q_
            clear q_ cT s10
            have cT := (s11.pick 2).cells
            rw [hF, sick_more]
            have s12 : St w v11 [hz q b g, hz p (a + 1) F, Go.Proofs.Ytccehechhdndmaa.blk w.heap.size #[.int .i64 t.a, .int .i64 t.b, .int .i64 t.c] 32] := s11.pick 1
            clear s11
            have s13 : St w v11 [hz p (a + 1) F, hz q b g, Go.Proofs.Ytccehechhdndmaa.blk w.heap.size #[.int .i64 t.a, .int .i64 t.b, .int .i64 t.c] 32] := s12.pick 1
            clear s12
            go_wp2
            all_goals go_roundw
            all_goals first | exact ⟨N + 1, K, a + 1, b, _, _, by first | rfl | simp, by go_num, by omega, by omega, by omega, by omega, hF, hG, hK2, s13⟩ | (simp [intOf]; omega)
        | true =>
          have cT := (hX.pick 3).cells
          have s1 : St w (wr.alloc (.cells #[.int .i64 y.a, .int .i64 y.b, .int .i64 y.c, .bool ok, .bool true, .slice KA Kl.length Kc] 39)) [hz p a f, Go.Proofs.Ytccehechhdndmaa.blk wr.heap.size #[.int .i64 y.a, .int .i64 y.b, .int .i64 y.c, .bool ok, .bool true, .slice KA Kl.length Kc] 39, hz q b g, Go.Proofs.Ytccehechhdndmaa.blk w.heap.size #[.int .i64 t.a, .int .i64 t.b, .int .i64 t.c] 32] := hX.pick 1
          clear hX
          have cX := (s1.pick 1).cells
          have hkc : (Kl.length : Int) ≤ (Kc : Int) := by have := x6.1; omega
          by_cases hm : Kl.length ≤ 20
          · have hmi : (Kl.length : Int) ≤ 20 := by omega
            have hS : SL37 w KA Kc Kl := x6
            obtain ⟨M, hM⟩ : ∃ M : List E32, M = Kl := ⟨_, rfl⟩
            have hML : M.length = Kl.length := by rw [hM]
            have hM20 : M.length ≤ 20 := by omega
            rw [← hM] at hS
            clear hM x6
            go_wp2_with fail
            clear cX
            refine (keep_s2 KA Kc M Kl.length hML s1 hS).mono ?_
            rintro e_ v2 ⟨rfl, q_⟩
            have s2 : St w v2 [hz p a (keepF f (M.map tk)), Go.Proofs.Ytccehechhdndmaa.blk wr.heap.size #[.int .i64 y.a, .int .i64 y.b, .int .i64 y.c, .bool ok, .bool true, .slice KA Kl.length Kc] 39, hz q b g, Go.Proofs.Ytccehechhdndmaa.blk w.heap.size #[.int .i64 t.a, .int .i64 t.b, .int .i64 t.c] 32] := q_
            clear q_ cT s1
            have cT := (s2.pick 3).cells
            have s3 : St w v2 [Go.Proofs.Ytccehechhdndmaa.blk wr.heap.size #[.int .i64 y.a, .int .i64 y.b, .int .i64 y.c, .bool ok, .bool true, .slice KA Kl.length Kc] 39, hz p a (keepF f (M.map tk)), hz q b g, Go.Proofs.Ytccehechhdndmaa.blk w.heap.size #[.int .i64 t.a, .int .i64 t.b, .int .i64 t.c] 32] := s2.pick 1
            clear s2
            have s4 : St w v2 [hz p a (keepF f (M.map tk)), hz q b g, Go.Proofs.Ytccehechhdndmaa.blk w.heap.size #[.int .i64 t.a, .int .i64 t.b, .int .i64 t.c] 32] := s3.drop
            clear cT s3
            have cT := (s4.pick 2).cells
            go_wp2_with fail
            go_loopw [12, 13] (fun v i wq => ∃ k : Nat, v = .bool (decide (t ∈ (M.take k).map tk)) ∧ i = .int .i64 k ∧ k ≤ M.length ∧ St w wq [hz p a (keepF f (M.map tk)), hz q b g, Go.Proofs.Ytccehechhdndmaa.blk w.heap.size #[.int .i64 t.a, .int .i64 t.b, .int .i64 t.c] 32]) (fun _ i _ => 20 - (intOf i).toNat)
            case atStart => exact ⟨0, by simp, rfl, by omega, s4⟩
            case round =>
              clear cT s4
              obtain ⟨k, rfl, rfl, hk, i0⟩ := hrel
              have cT := (i0.pick 2).cells
              by_cases mk : k < M.length
              · obtain ⟨KB, ko, rfl, hKB, hkcells⟩ : ∃ b off, KA = some ⟨b, off, none⟩ ∧ b < w.heap.size ∧ _ := hS.2.2.resolve_left (by rintro rfl; simp at mk)
                obtain ⟨y0, -, y1, -, y2, -⟩ := hkcells k mk
                have zz0 : wr.cell? ⟨KB, ko + k * 3, none⟩ = _ := (i0.bel.cell hKB).trans y0
                have zz1 : wr.cell? ⟨KB, ko + k * 3 + 1, none⟩ = _ := (i0.bel.cell hKB).trans y1
                have zz2 : wr.cell? ⟨KB, ko + k * 3 + 2, none⟩ = _ := (i0.bel.cell hKB).trans y2
                rw [rd_get M k mk] at zz0 zz1 zz2
                have hx : M.take (k + 1) = M.take k ++ [M[k]] := by rw [List.take_succ_eq_append_getElem mk]
                generalize M[k] = v at *
                clear y0 y1 y2 hkcells
                have kk0 : (0 : Int) ≤ (k : Int) := by omega
                have kk1 : (k : Int) < (Kl.length : Int) := by omega
                have heq := eq_tok (tk v) t
                have hin : decide (t ∈ (M.take (k + 1)).map tk) = (decide (t ∈ (M.take k).map tk) || decide (tk v = t)) := by rw [hx]; simp [eq_comm]
                clear hx
                by_cases hi : t ∈ (M.take k).map tk
                · rw [show decide (t ∈ (M.take k).map tk) = true by simp only [hi, decide_true, decide_false]] at hin ⊢
                  simp only [Bool.true_or] at hin
                  simp only [tk] at heq hin
                  go_wp2
                  go_quiet (fail)
                  have i1 := i0.more (below_drewN (Below.refl _ _) nq)
                  clear cT i0
                  go_wp2
                  all_goals go_roundw
                  all_goals first | exact ⟨k + 1, by rw [hin], by go_num, by omega, i1⟩ | (simp [intOf]; omega)
                · rw [show decide (t ∈ (M.take k).map tk) = false by simp only [hi, decide_true, decide_false]] at hin ⊢
                  simp only [Bool.false_or] at hin
                  simp only [tk] at heq hin
                  go_wp2
                  go_quiet (fail)
                  have i1 := i0.more (below_drewN (Below.refl _ _) nq)
                  clear cT i0
                  go_wp2
                  all_goals go_roundw
                  all_goals first | exact ⟨k + 1, by rw [hin], by go_num, by omega, i1⟩ | (simp [intOf]; omega)
              · obtain rfl : k = M.length := by omega
                rw [List.take_length]
                by_cases hi : t ∈ M.map tk
                · rw [show decide (t ∈ M.map tk) = true by simp only [hi, decide_true]]
                  have hF : keepF (keepF f (M.map tk)) (M.map tk) t = K := by unfold keepF; rw [if_pos hi, if_pos hi, hf]
                  have hG := hg
                  have hK2 := hK
                  have s1 : St w wr [hz p a (keepF f (M.map tk)), hz q b g, Go.Proofs.Ytccehechhdndmaa.blk w.heap.size #[.int .i64 t.a, .int .i64 t.b, .int .i64 t.c] 32] := i0.pick 0
                  clear i0
                  go_wp2_with fail
                  refine (keep_s2 KA Kc M Kl.length hML s1 hS).mono ?_
                  rintro e_ v2 ⟨rfl, q_⟩
                  have s2 : St w v2 [hz p a (keepF (keepF f (M.map tk)) (M.map tk)), hz q b g, Go.Proofs.Ytccehechhdndmaa.blk w.heap.size #[.int .i64 t.a, .int .i64 t.b, .int .i64 t.c] 32] := q_
                  clear q_ cT s1
                  have cT := (s2.pick 2).cells
                  generalize keepF (keepF f (M.map tk)) (M.map tk) = F at *
                  have s3 : St w v2 [hz p a F, hz q b g, Go.Proofs.Ytccehechhdndmaa.blk w.heap.size #[.int .i64 t.a, .int .i64 t.b, .int .i64 t.c] 32] := s2.pick 0
                  clear s2
                  go_wp2_with fail
                  refine (fails_s t s3 ht).mono ?_
                  rintro e_ v4 ⟨rfl, q_⟩
                  have s4 : St w v4 [hz p a F, hz q b g, Go.Proofs.Ytccehechhdndmaa.blk w.heap.size #[.int .i64 t.a, .int .i64 t.b, .int .i64 t.c] 32] := q_
                  clear q_ cT s3
                  have cT := (s4.pick 2).cells
                  rw [hF]
                  have s5 : St w v4 [hz q b g, hz p a F, Go.Proofs.Ytccehechhdndmaa.blk w.heap.size #[.int .i64 t.a, .int .i64 t.b, .int .i64 t.c] 32] := s4.pick 1
                  clear s4
                  go_wp2_with fail
                  refine (fails_s t s5 ht).mono ?_
                  rintro e_ v6 ⟨rfl, q_⟩
                  have s6 : St w v6 [hz q b g, hz p a F, Go.Proofs.Ytccehechhdndmaa.blk w.heap.size #[.int .i64 t.a, .int .i64 t.b, .int .i64 t.c] 32] := q_
                  clear q_ cT s5
                  have cT := (s6.pick 2).cells
                  rw [hG]
                  have s7 : St w v6 [hz p a F, hz q b g, Go.Proofs.Ytccehechhdndmaa.blk w.heap.size #[.int .i64 t.a, .int .i64 t.b, .int .i64 t.c] 32] := s6.pick 1
                  clear s6
                  go_wp2_with fail
                  refine (sick_s t (K : Int) s7 ht).mono ?_
                  rintro e_ v8 ⟨rfl, q_⟩
                  have s8 : St w v8 [hz p a F, hz q b g, Go.Proofs.Ytccehechhdndmaa.blk w.heap.size #[.int .i64 t.a, .int .i64 t.b, .int .i64 t.c] 32] := q_
                  clear q_ cT s7
                  have cT := (s8.pick 2).cells
                  rw [hF, sick_same]
                  go_wp2_with fail
                  refine (sick_s t ((K : Int) + 1) s8 ht).mono ?_
                  rintro e_ v9 ⟨rfl, q_⟩
                  have s9 : St w v9 [hz p a F, hz q b g, Go.Proofs.Ytccehechhdndmaa.blk w.heap.size #[.int .i64 t.a, .int .i64 t.b, .int .i64 t.c] 32] := q_
                  clear q_ cT s8
                  have cT := (s9.pick 2).cells
                  rw [hF, sick_more]
                  have s10 : St w v9 [hz q b g, hz p a F, Go.Proofs.Ytccehechhdndmaa.blk w.heap.size #[.int .i64 t.a, .int .i64 t.b, .int .i64 t.c] 32] := s9.pick 1
                  clear s9
                  have s11 : St w v9 [hz p a F, hz q b g, Go.Proofs.Ytccehechhdndmaa.blk w.heap.size #[.int .i64 t.a, .int .i64 t.b, .int .i64 t.c] 32] := s10.pick 1
                  clear s10
                  go_wp2
                  all_goals go_roundw
                  all_goals first | exact ⟨N + 1, K, a, b, _, _, by first | rfl | simp, by go_num, by omega, by omega, by omega, by omega, hF, hG, hK2, s11⟩ | (simp [intOf]; omega)
                · rw [show decide (t ∈ M.map tk) = false by simp only [hi, decide_false]]
                  have hF : keepF (keepF f (M.map tk)) (M.map tk) t = 0 := by unfold keepF; rw [if_neg hi]
                  have s1 : St w wr [hz q b g, hz p a (keepF f (M.map tk)), Go.Proofs.Ytccehechhdndmaa.blk w.heap.size #[.int .i64 t.a, .int .i64 t.b, .int .i64 t.c] 32] := i0.pick 1
                  clear i0
                  go_wp2_with fail
                  refine (keep_nil s1).mono ?_
                  rintro e_ v2 ⟨rfl, q_⟩
                  have s2 : St w v2 [hz q b (fun _ => 0), hz p a (keepF f (M.map tk)), Go.Proofs.Ytccehechhdndmaa.blk w.heap.size #[.int .i64 t.a, .int .i64 t.b, .int .i64 t.c] 32] := q_
                  clear q_ cT s1
                  have cT := (s2.pick 2).cells
                  obtain ⟨G, hG, s3⟩ : ∃ G : Tok → Nat, G t = 0 ∧ St w v2 [hz q b G, hz p a (keepF f (M.map tk)), Go.Proofs.Ytccehechhdndmaa.blk w.heap.size #[.int .i64 t.a, .int .i64 t.b, .int .i64 t.c] 32] := ⟨_, rfl, s2⟩
                  clear cT s2
                  have cT := (s3.pick 2).cells
                  have s4 : St w v2 [hz p a (keepF f (M.map tk)), hz q b G, Go.Proofs.Ytccehechhdndmaa.blk w.heap.size #[.int .i64 t.a, .int .i64 t.b, .int .i64 t.c] 32] := s3.pick 1
                  clear s3
                  go_wp2_with fail
                  refine (keep_s2 KA Kc M Kl.length hML s4 hS).mono ?_
                  rintro e_ v5 ⟨rfl, q_⟩
                  have s5 : St w v5 [hz p a (keepF (keepF f (M.map tk)) (M.map tk)), hz q b G, Go.Proofs.Ytccehechhdndmaa.blk w.heap.size #[.int .i64 t.a, .int .i64 t.b, .int .i64 t.c] 32] := q_
                  clear q_ cT s4
                  have cT := (s5.pick 2).cells
                  generalize keepF (keepF f (M.map tk)) (M.map tk) = F at *
                  have s6 : St w v5 [hz p a F, hz q b G, Go.Proofs.Ytccehechhdndmaa.blk w.heap.size #[.int .i64 t.a, .int .i64 t.b, .int .i64 t.c] 32] := s5.pick 0
                  clear s5
                  go_wp2_with fail
                  refine (fails_s t s6 ht).mono ?_
                  rintro e_ v7 ⟨rfl, q_⟩
                  have s7 : St w v7 [hz p a F, hz q b G, Go.Proofs.Ytccehechhdndmaa.blk w.heap.size #[.int .i64 t.a, .int .i64 t.b, .int .i64 t.c] 32] := q_
                  clear q_ cT s6
                  have cT := (s7.pick 2).cells
                  rw [hF, show ((0 : Nat) : Int) = 0 from rfl]
                  have s8 : St w v7 [hz q b G, hz p a F, Go.Proofs.Ytccehechhdndmaa.blk w.heap.size #[.int .i64 t.a, .int .i64 t.b, .int .i64 t.c] 32] := s7.pick 1
                  clear s7
                  go_wp2_with fail
                  refine (fails_s t s8 ht).mono ?_
                  rintro e_ v9 ⟨rfl, q_⟩
                  have s9 : St w v9 [hz q b G, hz p a F, Go.Proofs.Ytccehechhdndmaa.blk w.heap.size #[.int .i64 t.a, .int .i64 t.b, .int .i64 t.c] 32] := q_
                  clear q_ cT s8
                  have cT := (s9.pick 2).cells
                  rw [hG, show ((0 : Nat) : Int) = 0 from rfl]
                  have s10 : St w v9 [hz p a F, hz q b G, Go.Proofs.Ytccehechhdndmaa.blk w.heap.size #[.int .i64 t.a, .int .i64 t.b, .int .i64 t.c] 32] := s9.pick 1
                  clear s9
                  go_wp2_with fail
                  refine (sick_s t 0 s10 ht).mono ?_
                  rintro e_ v11 ⟨rfl, q_⟩
                  have s11 : St w v11 [hz p a F, hz q b G, Go.Proofs.Ytccehechhdndmaa.blk w.heap.size #[.int .i64 t.a, .int .i64 t.b, .int .i64 t.c] 32] := q_
                  clear q_ cT s10
                  have cT := (s11.pick 2).cells
                  rw [hF, sick_00]
                  go_wp2_with fail
                  refine (sick_s t 1 s11 ht).mono ?_
                  rintro e_ v12 ⟨rfl, q_⟩
                  have s12 : St w v12 [hz p a F, hz q b G, Go.Proofs.Ytccehechhdndmaa.blk w.heap.size #[.int .i64 t.a, .int .i64 t.b, .int .i64 t.c] 32] := q_
                  clear q_ cT s11
                  have cT := (s12.pick 2).cells
                  rw [hF, sick_01]
                  have s13 : St w v12 [hz q b G, hz p a F, Go.Proofs.Ytccehechhdndmaa.blk w.heap.size #[.int .i64 t.a, .int .i64 t.b, .int .i64 t.c] 32] := s12.pick 1
                  clear s12
                  have s14 : St w v12 [hz p a F, hz q b G, Go.Proofs.Ytccehechhdndmaa.blk w.heap.size #[.int .i64 t.a, .int .i64 t.b, .int .i64 t.c] 32] := s13.pick 1
                  clear s13
                  go_wp2
                  all_goals go_roundw
                  all_goals first | exact ⟨N + 1, 0, a, b, _, _, by first | rfl | simp, by go_num, by omega, by omega, by omega, by omega, hF, hG, (fun _ => rfl), s14⟩ | (simp [intOf]; omega)
          · have hmi : (20 : Int) < (Kl.length : Int) := by omega
            have hkc2 : (20 : Int) ≤ (Kc : Int) := by omega
            have hS : SL37 w KA Kc (Kl.take 20) := sl_take x6 20
            obtain ⟨M, hM⟩ : ∃ M : List E32, M = (Kl.take 20) := ⟨_, rfl⟩
            have hML : M.length = 20 := by rw [hM]; simp; omega
            have hM20 : M.length ≤ 20 := by omega
            rw [← hM] at hS
            clear hM x6
            go_wp2_with fail
            clear cX
            refine (keep_s2 KA Kc M 20 hML s1 hS).mono ?_
            rintro e_ v2 ⟨rfl, q_⟩
            have s2 : St w v2 [hz p a (keepF f (M.map tk)), Go.Proofs.Ytccehechhdndmaa.blk wr.heap.size #[.int .i64 y.a, .int .i64 y.b, .int .i64 y.c, .bool ok, .bool true, .slice KA Kl.length Kc] 39, hz q b g, Go.Proofs.Ytccehechhdndmaa.blk w.heap.size #[.int .i64 t.a, .int .i64 t.b, .int .i64 t.c] 32] := q_
            clear q_ cT s1
            have cT := (s2.pick 3).cells
            have s3 : St w v2 [Go.Proofs.Ytccehechhdndmaa.blk wr.heap.size #[.int .i64 y.a, .int .i64 y.b, .int .i64 y.c, .bool ok, .bool true, .slice KA Kl.length Kc] 39, hz p a (keepF f (M.map tk)), hz q b g, Go.Proofs.Ytccehechhdndmaa.blk w.heap.size #[.int .i64 t.a, .int .i64 t.b, .int .i64 t.c] 32] := s2.pick 1
            clear s2
            have s4 : St w v2 [hz p a (keepF f (M.map tk)), hz q b g, Go.Proofs.Ytccehechhdndmaa.blk w.heap.size #[.int .i64 t.a, .int .i64 t.b, .int .i64 t.c] 32] := s3.drop
            clear cT s3
            have cT := (s4.pick 2).cells
            go_wp2_with fail
            go_loopw [12, 13] (fun v i wq => ∃ k : Nat, v = .bool (decide (t ∈ (M.take k).map tk)) ∧ i = .int .i64 k ∧ k ≤ M.length ∧ St w wq [hz p a (keepF f (M.map tk)), hz q b g, Go.Proofs.Ytccehechhdndmaa.blk w.heap.size #[.int .i64 t.a, .int .i64 t.b, .int .i64 t.c] 32]) (fun _ i _ => 20 - (intOf i).toNat)
            case atStart => exact ⟨0, by simp, rfl, by omega, s4⟩
            case round =>
              clear cT s4
              obtain ⟨k, rfl, rfl, hk, i0⟩ := hrel
              have cT := (i0.pick 2).cells
              by_cases mk : k < M.length
              · obtain ⟨KB, ko, rfl, hKB, hkcells⟩ : ∃ b off, KA = some ⟨b, off, none⟩ ∧ b < w.heap.size ∧ _ := hS.2.2.resolve_left (by rintro rfl; simp at mk)
                obtain ⟨y0, -, y1, -, y2, -⟩ := hkcells k mk
                have zz0 : wr.cell? ⟨KB, ko + k * 3, none⟩ = _ := (i0.bel.cell hKB).trans y0
                have zz1 : wr.cell? ⟨KB, ko + k * 3 + 1, none⟩ = _ := (i0.bel.cell hKB).trans y1
                have zz2 : wr.cell? ⟨KB, ko + k * 3 + 2, none⟩ = _ := (i0.bel.cell hKB).trans y2
                rw [rd_get M k mk] at zz0 zz1 zz2
                have hx : M.take (k + 1) = M.take k ++ [M[k]] := by rw [List.take_succ_eq_append_getElem mk]
                generalize M[k] = v at *
                clear y0 y1 y2 hkcells
                have kk0 : (0 : Int) ≤ (k : Int) := by omega
                have kk1 : (k : Int) < 20 := by omega
                have heq := eq_tok (tk v) t
                have hin : decide (t ∈ (M.take (k + 1)).map tk) = (decide (t ∈ (M.take k).map tk) || decide (tk v = t)) := by rw [hx]; simp [eq_comm]
                clear hx
                by_cases hi : t ∈ (M.take k).map tk
                · rw [show decide (t ∈ (M.take k).map tk) = true by simp only [hi, decide_true, decide_false]] at hin ⊢
                  simp only [Bool.true_or] at hin
                  simp only [tk] at heq hin
                  go_wp2
                  go_quiet (fail)
                  have i1 := i0.more (below_drewN (Below.refl _ _) nq)
                  clear cT i0
                  go_wp2
                  all_goals go_roundw
                  all_goals first | exact ⟨k + 1, by rw [hin], by go_num, by omega, i1⟩ | (simp [intOf]; omega)
                · rw [show decide (t ∈ (M.take k).map tk) = false by simp only [hi, decide_true, decide_false]] at hin ⊢
                  simp only [Bool.false_or] at hin
                  simp only [tk] at heq hin
                  go_wp2
                  go_quiet (fail)
                  have i1 := i0.more (below_drewN (Below.refl _ _) nq)
                  clear cT i0
                  go_wp2
                  all_goals go_roundw
                  all_goals first | exact ⟨k + 1, by rw [hin], by go_num, by omega, i1⟩ | (simp [intOf]; omega)
              · obtain rfl : k = M.length := by omega
                rw [List.take_length]
                by_cases hi : t ∈ M.map tk
                · rw [show decide (t ∈ M.map tk) = true by simp only [hi, decide_true]]
                  have hF : keepF (keepF f (M.map tk)) (M.map tk) t = K := by unfold keepF; rw [if_pos hi, if_pos hi, hf]
                  have hG := hg
                  have hK2 := hK
                  have s1 : St w wr [hz p a (keepF f (M.map tk)), hz q b g, Go.Proofs.Ytccehechhdndmaa.blk w.heap.size #[.int .i64 t.a, .int .i64 t.b, .int .i64 t.c] 32] := i0.pick 0
                  clear i0
                  go_wp2_with fail
                  refine (keep_s2 KA Kc M 20 hML s1 hS).mono ?_
                  rintro e_ v2 ⟨rfl, q_⟩
                  have s2 : St w v2 [hz p a (keepF (keepF f (M.map tk)) (M.map tk)), hz q b g, Go.Proofs.Ytccehechhdndmaa.blk w.heap.size #[.int .i64 t.a, .int .i64 t.b, .int .i64 t.c] 32] := q_
                  clear q_ cT s1
                  have cT := (s2.pick 2).cells
                  generalize keepF (keepF f (M.map tk)) (M.map tk) = F at *
                  have s3 : St w v2 [hz p a F, hz q b g, Go.Proofs.Ytccehechhdndmaa.blk w.heap.size #[.int .i64 t.a, .int .i64 t.b, .int .i64 t.c] 32] := s2.pick 0
                  clear s2
                  go_wp2_with fail
                  refine (fails_s t s3 ht).mono ?_
                  rintro e_ v4 ⟨rfl, q_⟩
                  have s4 : St w v4 [hz p a F, hz q b g, Go.Proofs.Ytccehechhdndmaa.blk w.heap.size #[.int .i64 t.a, .int .i64 t.b, .int .i64 t.c] 32] := q_
                  clear q_ cT s3
                  have cT := (s4.pick 2).cells
                  rw [hF]
                  have s5 : St w v4 [hz q b g, hz p a F, Go.Proofs.Ytccehechhdndmaa.blk w.heap.size #[.int .i64 t.a, .int .i64 t.b, .int .i64 t.c] 32] := s4.pick 1
                  clear s4
                  go_wp2_with fail
                  refine (fails_s t s5 ht).mono ?_
                  rintro e_ v6 ⟨rfl, q_⟩
                  have s6 : St w v6 [hz q b g, hz p a F, Go.Proofs.Ytccehechhdndmaa.blk w.heap.size #[.int .i64 t.a, .int .i64 t.b, .int .i64 t.c] 32] := q_
                  clear q_ cT s5
                  have cT := (s6.pick 2).cells
                  rw [hG]
                  have s7 : St w v6 [hz p a F, hz q b g, Go.Proofs.Ytccehechhdndmaa.blk w.heap.size #[.int .i64 t.a, .int .i64 t.b, .int .i64 t.c] 32] := s6.pick 1
                  clear s6
                  go_wp2_with fail
                  refine (sick_s t (K : Int) s7 ht).mono ?_
                  rintro e_ v8 ⟨rfl, q_⟩
                  have s8 : St w v8 [hz p a F, hz q b g, Go.Proofs.Ytccehechhdndmaa.blk w.heap.size #[.int .i64 t.a, .int .i64 t.b, .int .i64 t.c] 32] := q_
                  clear q_ cT s7
                  have cT := (s8.pick 2).cells
                  rw [hF, sick_same]
                  go_wp2_with fail
                  refine (sick_s t ((K : Int) + 1) s8 ht).mono ?_
                  rintro e_ v9 ⟨rfl, q_⟩
                  have s9 : St w v9 [hz p a F, hz q b g, Go.Proofs.Ytccehechhdndmaa.blk w.heap.size #[.int .i64 t.a, .int .i64 t.b, .int .i64 t.c] 32] := q_
                  clear q_ cT s8
                  have cT := (s9.pick 2).cells
                  rw [hF, sick_more]
                  have s10 : St w v9 [hz q b g, hz p a F, Go.Proofs.Ytccehechhdndmaa.blk w.heap.size #[.int .i64 t.a, .int .i64 t.b, .int .i64 t.c] 32] := s9.pick 1
                  clear s9
                  have s11 : St w v9 [hz p a F, hz q b g, Go.Proofs.Ytccehechhdndmaa.blk w.heap.size #[.int .i64 t.a, .int .i64 t.b, .int .i64 t.c] 32] := s10.pick 1
                  clear s10
                  go_wp2
                  all_goals go_roundw
                  all_goals first | exact ⟨N + 1, K, a, b, _, _, by first | rfl | simp, by go_num, by omega, by omega, by omega, by omega, hF, hG, hK2, s11⟩ | (simp [intOf]; omega)
                · rw [show decide (t ∈ M.map tk) = false by simp only [hi, decide_false]]
                  have hF : keepF (keepF f (M.map tk)) (M.map tk) t = 0 := by unfold keepF; rw [if_neg hi]
                  have s1 : St w wr [hz q b g, hz p a (keepF f (M.map tk)), Go.Proofs.Ytccehechhdndmaa.blk w.heap.size #[.int .i64 t.a, .int .i64 t.b, .int .i64 t.c] 32] := i0.pick 1
                  clear i0
                  go_wp2_with fail
                  refine (keep_nil s1).mono ?_
                  rintro e_ v2 ⟨rfl, q_⟩
                  have s2 : St w v2 [hz q b (fun _ => 0), hz p a (keepF f (M.map tk)), Go.Proofs.Ytccehechhdndmaa.blk w.heap.size #[.int .i64 t.a, .int .i64 t.b, .int .i64 t.c] 32] := q_
                  clear q_ cT s1
                  have cT := (s2.pick 2).cells
                  obtain ⟨G, hG, s3⟩ : ∃ G : Tok → Nat, G t = 0 ∧ St w v2 [hz q b G, hz p a (keepF f (M.map tk)), Go.Proofs.Ytccehechhdndmaa.blk w.heap.size #[.int .i64 t.a, .int .i64 t.b, .int .i64 t.c] 32] := ⟨_, rfl, s2⟩
                  clear cT s2
                  have cT := (s3.pick 2).cells
                  have s4 : St w v2 [hz p a (keepF f (M.map tk)), hz q b G, Go.Proofs.Ytccehechhdndmaa.blk w.heap.size #[.int .i64 t.a, .int .i64 t.b, .int .i64 t.c] 32] := s3.pick 1
                  clear s3
                  go_wp2_with fail
                  refine (keep_s2 KA Kc M 20 hML s4 hS).mono ?_
                  rintro e_ v5 ⟨rfl, q_⟩
                  have s5 : St w v5 [hz p a (keepF (keepF f (M.map tk)) (M.map tk)), hz q b G, Go.Proofs.Ytccehechhdndmaa.blk w.heap.size #[.int .i64 t.a, .int .i64 t.b, .int .i64 t.c] 32] := q_
                  clear q_ cT s4
                  have cT := (s5.pick 2).cells
                  generalize keepF (keepF f (M.map tk)) (M.map tk) = F at *
                  have s6 : St w v5 [hz p a F, hz q b G, Go.Proofs.Ytccehechhdndmaa.blk w.heap.size #[.int .i64 t.a, .int .i64 t.b, .int .i64 t.c] 32] := s5.pick 0
                  clear s5
                  go_wp2_with fail
                  refine (fails_s t s6 ht).mono ?_
                  rintro e_ v7 ⟨rfl, q_⟩
                  have s7 : St w v7 [hz p a F, hz q b G, Go.Proofs.Ytccehechhdndmaa.blk w.heap.size #[.int .i64 t.a, .int .i64 t.b, .int .i64 t.c] 32] := q_
                  clear q_ cT s6
                  have cT := (s7.pick 2).cells
                  rw [hF, show ((0 : Nat) : Int) = 0 from rfl]
                  have s8 : St w v7 [hz q b G, hz p a F, Go.Proofs.Ytccehechhdndmaa.blk w.heap.size #[.int .i64 t.a, .int .i64 t.b, .int .i64 t.c] 32] := s7.pick 1
                  clear s7
                  go_wp2_with fail
                  refine (fails_s t s8 ht).mono ?_
                  rintro e_ v9 ⟨rfl, q_⟩
                  have s9 : St w v9 [hz q b G, hz p a F, Go.Proofs.Ytccehechhdndmaa.blk w.heap.size #[.int .i64 t.a, .int .i64 t.b, .int .i64 t.c] 32] := q_
                  clear q_ cT s8
                  have cT := (s9.pick 2).cells
                  rw [hG, show ((0 : Nat) : Int) = 0 from rfl]
                  have s10 : St w v9 [hz p a F, hz q b G, Go.Proofs.Ytccehechhdndmaa.blk w.heap.size #[.int .i64 t.a, .int .i64 t.b, .int .i64 t.c] 32] := s9.pick 1
                  clear s9
                  go_wp2_with fail
                  refine (sick_s t 0 s10 ht).mono ?_
                  rintro e_ v11 ⟨rfl, q_⟩
                  have s11 : St w v11 [hz p a F, hz q b G, Go.Proofs.Ytccehechhdndmaa.blk w.heap.size #[.int .i64 t.a, .int .i64 t.b, .int .i64 t.c] 32] := q_
                  clear q_ cT s10
                  have cT := (s11.pick 2).cells
                  rw [hF, sick_00]
                  go_wp2_with fail
                  refine (sick_s t 1 s11 ht).mono ?_
                  rintro e_ v12 ⟨rfl, q_⟩
                  have s12 : St w v12 [hz p a F, hz q b G, Go.Proofs.Ytccehechhdndmaa.blk w.heap.size #[.int .i64 t.a, .int .i64 t.b, .int .i64 t.c] 32] := q_
                  clear q_ cT s11
                  have cT := (s12.pick 2).cells
                  rw [hF, sick_01]
                  have s13 : St w v12 [hz q b G, hz p a F, Go.Proofs.Ytccehechhdndmaa.blk w.heap.size #[.int .i64 t.a, .int .i64 t.b, .int .i64 t.c] 32] := s12.pick 1
                  clear s12
                  have s14 : St w v12 [hz p a F, hz q b G, Go.Proofs.Ytccehechhdndmaa.blk w.heap.size #[.int .i64 t.a, .int .i64 t.b, .int .i64 t.c] 32] := s13.pick 1
                  clear s13
                  go_wp2
                  all_goals go_roundw
                  all_goals first | exact ⟨N + 1, 0, a, b, _, _, by first | rfl | simp, by go_num, by omega, by omega, by omega, by omega, hF, hG, (fun _ => rfl), s14⟩ | (simp [intOf]; omega)
      · skip
        go_wp2_with fail
        refine (awake_s _).mono ?_
        rintro e_ w9 ⟨rfl, hb9⟩
        have hB9 := below_then h0.bel hb9
        clear h0
        go_wp2
        go_returns
        exact ⟨rfl, hB9⟩
    · skip
      go_wp2_with fail
      refine (awake_s _).mono ?_
      rintro e_ w9 ⟨rfl, hb9⟩
      have hB9 := below_then h0.bel hb9
      clear h0
      go_wp2
      go_returns
      exact ⟨rfl, hB9⟩
theorem walk_ProbeAlone (w : World) (A : Option Addr) (c : Nat) (l : List E39) (hl : SL30 w A c l) (t0 t1 t2 : Int) (h0 : (Lit.int .i64 t0).wf = true) (h1 : (Lit.int .i64 t1).wf = true) (h2 : (Lit.int .i64 t2).wf = true) :
    Calls Try.prog 6 #[.slice A l.length c, .agg #[.int .i64 t0, .int .i64 t1, .int .i64 t2]] w fun e w' => e = .returned (.bool true) ∧ Below w.heap.size w w' := alone_w w A c l hl ⟨t0, t1, t2⟩ ⟨h0, h1, h2⟩
end Go.Proofs.Ytccehechhdndmaa
