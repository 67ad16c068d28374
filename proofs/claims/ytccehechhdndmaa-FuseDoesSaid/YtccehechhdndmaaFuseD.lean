/- The law FuseDoes. -/
import Derived.Test.YtccehechhdndmaaBase
import Derived.Test.YtccehechhdndmaaBut
import Derived.Test.YtccehechhdndmaaFuse
import Derived.Test.YtccehechhdndmaaFuseR
import Derived.Test.YtccehechhdndmaaFuseL
import Derived.Test.YtccehechhdndmaaOpen
import Derived.Test.YtccehechhdndmaaProg
import Derived.Lib.Hide
import Derived.Deep.RegionWith
namespace Go.Proofs.Ytccehechhdndmaa
open Go.RowKit
set_option linter.unusedSimpArgs false
set_option linter.unusedVariables false

/-- What a round knows. -/
structure FD (w : World) (bf br : Nat) (s l : Int) (wr : World) : Prop where
  f : FZ wr bf s l
  r : RF wr br s l
  ne : bf ≠ br
  mf : w.heap.size ≤ bf
  mr : w.heap.size ≤ br
  b : Below w.heap.size w wr

set_option maxHeartbeats 8000000 in
theorem walk_FuseDoes (w : World) (A : Option Addr) (c : Nat) (l : List E71) (hl : SL66 w A c l) :
    Calls Try.prog 12 #[.slice A l.length c] w fun e w' => e = .returned (.bool true) ∧ Below w.heap.size w w' := by
  obtain ⟨h1, h2, h3⟩ := hl
  by_cases hlong : ((300 : Int) < l.length)
  · clear h1 h2 h3
    go_enter Try.func12, Try.ntmps12
    go_wp2_with fail
    refine (known_c _).mono ?_
    rintro e_ w1 ⟨rfl, B1⟩
    go_wp2
    go_ret
    exact ⟨rfl, B1⟩
  · go_enter Try.func12, Try.ntmps12
    have H3 := Lib.hid h3
    clear h3
    go_wp2_with fail
    refine (new_c _).mono ?_
    rintro e_ w1 ⟨bf, rfl, hnf, zf1, B1⟩
    go_wp2_with fail
    go_loopw [3, 5] (fun v i wr => ∃ (k : Nat) (b : Nat) (s l' : Int), k ≤ l.length ∧ v = .pointer (some ⟨b, 0, none⟩) ∧ i = .int .i64 k ∧ FD w b w1.heap.size s l' wr) (fun _ i _ => l.length - (intOf i).toNat)
    case atStart => 
      have hz := zf1.lt
      have hz2 := B1.size
      refine ⟨0, bf, 0, 0, by omega, rfl, rfl, ⟨by exact valloc zf1, ⟨false, 0, vnew, Or.inl ⟨rfl, rfl⟩⟩, by omega, hnf, by omega, by go_grown⟩⟩
    case round =>
      obtain ⟨k, b, s, l', hk, rfl, rfl, ⟨zf, zr, ne, mf, mr, B⟩⟩ := hrel
      by_cases hlt : k < l.length
      · obtain ⟨a, off, rfl, ha, hcells⟩ : ∃ b off, A = some ⟨b, off, none⟩ ∧ b < w.heap.size ∧ _ := H3.out.resolve_left (by rintro rfl; simp at hlt)
        obtain ⟨x0, d1, x1, d2⟩ := hcells k hlt
        clear hcells H3
        have y0 : wr.cell? ⟨a, off + k * 2, none⟩ = some (.int .u8 (rdE71 l k).f0) := (B.cell ha).trans x0
        have y1 : wr.cell? ⟨a, off + k * 2 + 1, none⟩ = some (.int .i64 (rdE71 l k).f1) := (B.cell ha).trans x1
        clear x0 x1 zf1 B1
        generalize (rdE71 l k).f0 = d at *
        generalize (rdE71 l k).f1 = K at *
        generalize w1.heap.size = br at *
        have dd := u8_bd d1
        have hK : K ≤ 9223372036854775807 := by simp [Lit.wf, IntKind.min, IntKind.max, IntKind.bits, IntKind.signed] at d2; omega
        have HK := Lib.hid hK
        clear d1 d2 hK
        have hk0 : (0 : Int) ≤ (k : Int) := by omega
        have hk1 : (k : Int) < (l.length : Int) := by omega
        have hd : d % 4 = 0 ∨ d % 4 = 1 ∨ d % 4 = 2 ∨ d % 4 = 3 := by omega
        have ne' := Ne.symm ne
        have hab : a ≠ b := by omega
        have har : a ≠ br := by omega
        rcases hd with hd | hd | hd | hd
        · go_wp2_with fail
          refine (burn_f b br s l' _ _ zf zr).mono ?_
          rintro e_ w2 ⟨rfl, zf2, kb⟩
          have zr2 := zr.o kb ne'
          have B2 := below_but B kb mf (Nat.le_refl _)
          clear kb B zf zr y0 y1
          go_wp2_with fail
          refine (rburn_f br s l' _ zr2).mono ?_
          rintro e_ w3 ⟨rfl, zr3, kb⟩
          have zf3 := zf2.o kb ne
          have B3 := below_but B2 kb mr (Nat.le_refl _)
          clear kb B2 zf2 zr2
          go_wp2_with fail
          obtain ⟨ar, le, hz, R⟩ := zr3
          have hcz := vcell hz
          have RR := Lib.hid R
          clear R
          go_wp2_with fail
          go_region_with (go_at_call 17; refine (blown_c _ _ _ _ (vdrew zf3)).mono ?_; rintro e_ w9 ⟨rfl, rfl⟩)
          all_goals go_wp2
          all_goals go_roundw
          all_goals first | exact ⟨k + 1, b, _, _, by omega, rfl, by go_num, ⟨vdrew zf3, ⟨ar, le, vdrew hz, RR.out⟩, ne, mf, mr, B3.drew⟩⟩ | (simp [intOf]; omega)
        · go_wp2_with fail
          have hsz := B.size
          go_region_held3 (fun w' => w'.cell? ⟨a, off + k * 2 + 1, none⟩ = some (.int .i64 K)) (first | exact y3 | exact y2 | exact y1) (first
            | (go_at_call 18; refine (arm_t b s l' K _ (by first | exact zf | exact vdrew zf)).mono ?_; rintro e_ w2 ⟨rfl, zf2, kb⟩; have y2 : w2.cell? ⟨a, off + k * 2 + 1, none⟩ = some (.int .i64 K) := (But.cell kb hab (Nat.lt_of_lt_of_le ha hsz)).trans y1; have zr2 : RF w2 br s l' := RF.o (by first | exact zr | exact RF.d zr) kb ne'; have B2 : Below w.heap.size w w2 := below_but (by first | exact B | exact B.drew) kb mf (Nat.le_refl _); have hsz2 := B2.size)
            | (go_at_call 45; refine (rarm_f br s l' K _ (by first | exact zr2 | exact RF.d zr2) HK.out).mono ?_; rintro e_ w3 ⟨rfl, zr3, kb2⟩; have y3 : w3.cell? ⟨a, off + k * 2 + 1, none⟩ = some (.int .i64 K) := (But.cell kb2 har (Nat.lt_of_lt_of_le ha hsz2)).trans y2; have zf3 : FZ w3 b _ _ := FZ.o (by first | exact zf2 | exact vdrew zf2) kb2 ne; have B3 : Below w.heap.size w w3 := below_but (by first | exact B2 | exact B2.drew) kb2 mr (Nat.le_refl _)))
          all_goals (
            clear kb kb2 B B2 zf zf2 zr zr2 y0 y1 y2 y3
            go_wp2_with fail)
          obtain ⟨ar, le, hz, R⟩ := zr3
          have hcz := vcell hz
          have RR := Lib.hid R
          clear R
          go_wp2_with fail
          go_region_with (go_at_call 17; refine (blown_c _ _ _ _ (vdrew zf3)).mono ?_; rintro e_ w9 ⟨rfl, rfl⟩)
          all_goals go_wp2
          all_goals go_roundw
          all_goals first | exact ⟨k + 1, b, _, _, by omega, rfl, by go_num, ⟨vdrew zf3, ⟨ar, le, vdrew hz, RR.out⟩, ne, mf, mr, B3.drew⟩⟩ | (simp [intOf]; omega)
        · go_wp2_with fail
          refine (reset_c b s l' _ zf).mono ?_
          rintro e_ w2 ⟨rfl, zf2, kb⟩
          have zr2 := zr.o kb ne'
          have B2 := below_but B kb mf (Nat.le_refl _)
          clear kb B zf zr y0 y1
          go_wp2_with fail
          refine (rreset_f br s l' _ zr2).mono ?_
          rintro e_ w3 ⟨rfl, zr3, kb⟩
          have zf3 := zf2.o kb ne
          have B3 := below_but B2 kb mr (Nat.le_refl _)
          clear kb B2 zf2 zr2
          go_wp2_with fail
          obtain ⟨ar, le, hz, R⟩ := zr3
          have hcz := vcell hz
          have RR := Lib.hid R
          clear R
          go_wp2_with fail
          go_region_with (go_at_call 17; refine (blown_c _ _ _ _ (vdrew zf3)).mono ?_; rintro e_ w9 ⟨rfl, rfl⟩)
          all_goals go_wp2
          all_goals go_roundw
          all_goals first | exact ⟨k + 1, b, _, _, by omega, rfl, by go_num, ⟨vdrew zf3, ⟨ar, le, vdrew hz, RR.out⟩, ne, mf, mr, B3.drew⟩⟩ | (simp [intOf]; omega)
        · go_wp2_with fail
          refine (copy_c b s l' _ zf).mono ?_
          rintro e_ w2 ⟨b2, rfl, hn2, zg2, kb⟩
          have zf2 := zf.b kb
          have zr2 := zr.b kb
          have hbl := zf.lt
          have hrl := zr.lt
          have n2 : b2 ≠ b := by omega
          have n2' : b ≠ b2 := by omega
          have n3 : b2 ≠ br := by omega
          have B2 := below_then B kb
          have m2 : w.heap.size ≤ b2 := Nat.le_trans B.size hn2
          clear kb B zf zr y0 y1 hbl hrl
          go_wp2_with fail
          refine (arm_t b s l' 0 _ zf2).mono ?_
          rintro e_ w3 ⟨rfl, zf3, kb⟩
          have zr3 := zr2.o kb ne'
          have zg3 := zg2.o kb n2
          have B3 := below_but B2 kb mf (Nat.le_refl _)
          clear kb B2 zf2 zr2 zg2
          go_wp2_with fail
          refine (burn_dead b _ _ _ zf3 (by unfold arS arL; by_cases hs : s = 2 <;> simp [hs])).mono ?_
          rintro e_ w4 ⟨rfl, zf4, kb⟩
          have zr4 := zr3.o kb ne'
          have zg4 := zg3.o kb n2
          have B4 := below_but B3 kb mf (Nat.le_refl _)
          clear kb B3 zf3 zr3 zg3
          go_wp2_with fail
          obtain ⟨ar, le, hz, R⟩ := zr4
          have hcz := vcell hz
          have RR := Lib.hid R
          clear R
          go_wp2_with fail
          go_region_with (go_at_call 17; refine (blown_c _ _ _ _ (vdrew zg4)).mono ?_; rintro e_ w9 ⟨rfl, rfl⟩)
          all_goals go_wp2
          all_goals go_roundw
          all_goals first | exact ⟨k + 1, b2, _, _, by omega, rfl, by go_num, ⟨vdrew zg4, ⟨ar, le, vdrew hz, RR.out⟩, n3, m2, mr, B4.drew⟩⟩ | (simp [intOf]; omega)
      · go_wp2_with fail
        refine (known_c _).mono ?_
        rintro e_ w2 ⟨rfl, B2⟩
        go_wp2
        go_ret
        exact ⟨rfl, below_then B B2⟩
end Go.Proofs.Ytccehechhdndmaa
