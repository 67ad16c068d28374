/- The laws of fuses. Printed by gen/fuse.py. -/
import Derived.Test.YtccehechhdndmaaBase
import Derived.Test.YtccehechhdndmaaBut
import Derived.Test.YtccehechhdndmaaFuse
import Derived.Test.YtccehechhdndmaaProg
import Derived.Lib.Hide
namespace Go.Proofs.Ytccehechhdndmaa
open Go.RowKit
set_option linter.unusedSimpArgs false
set_option linter.unusedVariables false


theorem u16_bd {p : Int} (h : (Lit.int .u16 p).wf = true) : 0 ≤ p ∧ p ≤ 65535 := by
  simp [Lit.wf, IntKind.min, IntKind.max, IntKind.bits, IntKind.signed] at h; omega
theorem u8_bd {p : Int} (h : (Lit.int .u8 p).wf = true) : 0 ≤ p ∧ p ≤ 255 := by
  simp [Lit.wf, IntKind.min, IntKind.max, IntKind.bits, IntKind.signed] at h; omega

set_option maxHeartbeats 1000000 in
theorem known_c (w : World) : Calls Try.prog 20 #[] w fun e w' => e = .returned (.bool true) ∧ Below w.heap.size w w' := by
  go_enter Try.func20, Try.ntmps20
  go_wp2_with fail
  refine (new_c _).mono ?_
  rintro e_ w1 ⟨bf, rfl, hnf, zf1, kb⟩
  have B1 := kb
  have hmf := hnf
  clear kb
  go_wp2_with fail
  refine (arm_c bf _ _ 1 _ zf1 (by decide) (by omega)).mono ?_
  rintro e_ w2 ⟨rfl, zf2, kb⟩
  have B2 := below_but B1 kb hmf (Nat.le_refl _)
  clear zf1 B1 kb
  go_wp2_with fail
  refine (burn_armed bf _ _ zf2 (by omega) (by omega)).mono ?_
  rintro e_ w3 ⟨rfl, zf3, kb⟩
  have B3 := below_but B2 kb hmf (Nat.le_refl _)
  clear zf2 B2 kb
  go_wp2_with fail
  refine (burn_dead bf _ _ _ zf3 (by omega)).mono ?_
  rintro e_ w4 ⟨rfl, zf4, kb⟩
  have B4 := below_but B3 kb hmf (Nat.le_refl _)
  clear zf3 B3 kb
  go_wp2_with fail
  refine (blown_c bf _ _ _ zf4).mono ?_
  rintro e_ w5 ⟨rfl, rfl⟩
  go_wp2
  go_ret
  exact ⟨rfl, B4⟩

set_option maxHeartbeats 4000000 in
theorem walk_FuseExamples (w : World) : Calls Try.prog 13 #[] w fun e w' => e = .returned (.bool true) ∧ Below w.heap.size w w' := by
  go_enter Try.func13, Try.ntmps13
  go_wp2_with fail
  refine (new_c _).mono ?_
  rintro e_ w1 ⟨bf, rfl, hnf, zf1, kb⟩
  have B1 := kb
  have hmf := hnf
  clear kb
  go_wp2_with fail
  refine (burn_idle bf _ _ zf1).mono ?_
  rintro e_ w2 ⟨rfl, rfl⟩
  go_wp2_with fail
  refine (arm_c bf _ _ 1 _ zf1 (by decide) (by omega)).mono ?_
  rintro e_ w3 ⟨rfl, zf3, kb⟩
  have B3 := below_but B1 kb hmf (Nat.le_refl _)
  clear zf1 B1 kb
  go_wp2_with fail
  refine (burn_armed bf _ _ zf3 (by omega) (by omega)).mono ?_
  rintro e_ w4 ⟨rfl, zf4, kb⟩
  have B4 := below_but B3 kb hmf (Nat.le_refl _)
  clear zf3 B3 kb
  go_wp2_with fail
  refine (blown_c bf _ _ _ zf4).mono ?_
  rintro e_ w5 ⟨rfl, rfl⟩
  go_wp2_with fail
  refine (burn_dead bf _ _ _ zf4 (by omega)).mono ?_
  rintro e_ w6 ⟨rfl, zf6, kb⟩
  have B6 := below_but B4 kb hmf (Nat.le_refl _)
  clear zf4 B4 kb
  go_wp2_with fail
  refine (burn_dead bf _ _ _ zf6 (by omega)).mono ?_
  rintro e_ w7 ⟨rfl, zf7, kb⟩
  have B7 := below_but B6 kb hmf (Nat.le_refl _)
  clear zf6 B6 kb
  go_wp2_with fail
  refine (blown_c bf _ _ _ zf7).mono ?_
  rintro e_ w8 ⟨rfl, rfl⟩
  go_wp2_with fail
  refine (arm_no bf _ _ 0 _ zf7 (by omega)).mono ?_
  rintro e_ w9 ⟨rfl, rfl⟩
  go_wp2_with fail
  refine (arm_no bf _ _ (-1) _ zf7 (by omega)).mono ?_
  rintro e_ w10 ⟨rfl, rfl⟩
  go_wp2_with fail
  refine (reset_c bf _ _ _ zf7).mono ?_
  rintro e_ w11 ⟨rfl, zf11, kb⟩
  have B11 := below_but B7 kb hmf (Nat.le_refl _)
  clear zf7 B7 kb
  go_wp2_with fail
  refine (burn_idle bf _ _ zf11).mono ?_
  rintro e_ w12 ⟨rfl, rfl⟩
  go_wp2_with fail
  refine (arm_no bf _ _ (-1) _ zf11 (by omega)).mono ?_
  rintro e_ w13 ⟨rfl, rfl⟩
  go_wp2_with fail
  refine (arm_c bf _ _ 5 _ zf11 (by decide) (by omega)).mono ?_
  rintro e_ w14 ⟨rfl, zf14, kb⟩
  have B14 := below_but B11 kb hmf (Nat.le_refl _)
  clear zf11 B11 kb
  go_wp2_with fail
  refine (arm_c bf _ _ 0 _ zf14 (by decide) (by omega)).mono ?_
  rintro e_ w15 ⟨rfl, zf15, kb⟩
  have B15 := below_but B14 kb hmf (Nat.le_refl _)
  clear zf14 B14 kb
  go_wp2_with fail
  refine (burn_dead bf _ _ _ zf15 (by omega)).mono ?_
  rintro e_ w16 ⟨rfl, zf16, kb⟩
  have B16 := below_but B15 kb hmf (Nat.le_refl _)
  clear zf15 B15 kb
  go_wp2_with fail
  refine (reset_nil _).mono ?_
  rintro e_ w17 ⟨rfl, rfl⟩
  go_wp2_with fail
  refine (arm_nil _ _).mono ?_
  rintro e_ w18 ⟨rfl, rfl⟩
  go_wp2_with fail
  refine (burn_nil _).mono ?_
  rintro e_ w19 ⟨rfl, rfl⟩
  go_wp2_with fail
  refine (blown_nil _).mono ?_
  rintro e_ w20 ⟨rfl, rfl⟩
  go_wp2_with fail
  refine (copy_nil _).mono ?_
  rintro e_ w21 ⟨rfl, rfl⟩
  go_wp2
  go_ret
  exact ⟨rfl, B16⟩

set_option maxHeartbeats 4000000 in
theorem counts_c (p q r : Int) (w : World) (hp : 0 ≤ p ∧ p ≤ 65535) (hq : 0 ≤ q ∧ q ≤ 65535) (hr : 0 ≤ r ∧ r ≤ 65535) :
    Calls Try.prog 3 #[.int .u16 p, .int .u16 q, .int .u16 r] w fun e w' => e = .returned (.bool true) ∧ Below w.heap.size w w' := by
  have hp3 : 0 ≤ p % 300 ∧ p % 300 < 300 := by omega
  have hq3 : 0 ≤ q % 300 ∧ q % 300 < 300 := by omega
  have hr3 : 0 ≤ r % 300 ∧ r % 300 < 300 := by omega
  go_enter Try.func3, Try.ntmps3
  go_wp2_with fail
  refine (new_c _).mono ?_
  rintro e_ w1 ⟨bf, rfl, hnf, zf1, kb⟩
  have B1 := kb
  have hmf := hnf
  clear kb
  go_wp2_with fail
  go_loopw [8] (fun i wr => ∃ k : Nat, (k : Int) ≤ p % 300 ∧ i = .int .i64 k ∧ FZ wr bf 0 0 ∧ Below w.heap.size w wr) (fun i _ => 300 - (intOf i).toNat)
  case atStart => exact ⟨0, by omega, rfl, zf1, B1⟩
  case round =>
    clear zf1 B1
    obtain ⟨k, hk, rfl, zf1, B1⟩ := hrel
    by_cases hlt : ((k : Int) < p % 300)
    · skip
      go_wp2_with fail
      refine (burn_idle bf _ _ zf1).mono ?_
      rintro e_ w2 ⟨rfl, rfl⟩
      go_wp2_with fail
      refine (blown_c bf _ _ _ zf1).mono ?_
      rintro e_ w3 ⟨rfl, rfl⟩
      go_wp2_with fail
      all_goals go_roundw
      all_goals first | exact ⟨k + 1, by omega, by go_num, zf1, B1⟩ | (simp [intOf]; omega)
    · skip
      go_wp2_with fail
      refine (arm_c bf _ _ (q % 300) _ zf1 (by decide) (by omega)).mono ?_
      rintro e_ w2 ⟨rfl, zf2, kb⟩
      have B2 := below_but B1 kb hmf (Nat.le_refl _)
      clear zf1 B1 kb
      go_wp2_with fail
      go_loopw [11] (fun i wr => ∃ k : Nat, (k : Int) ≤ q % 300 / 2 ∧ i = .int .i64 k ∧ FZ wr bf 1 (q % 300 - k) ∧ Below w.heap.size w wr) (fun i _ => 300 - (intOf i).toNat)
      case atStart => exact ⟨0, by omega, rfl, by simpa using zf2, B2⟩
      case round =>
        clear zf2 B2 hlt hk
        obtain ⟨k, hk, rfl, zf2, B2⟩ := hrel
        by_cases hlt : ((k : Int) < q % 300 / 2)
        · skip
          go_wp2_with fail
          refine (burn_armed bf _ _ zf2 (by omega) (by omega)).mono ?_
          rintro e_ w3 ⟨rfl, zf3, kb⟩
          have B3 := below_but B2 kb hmf (Nat.le_refl _)
          clear zf2 B2 kb
          go_wp2_with fail
          all_goals go_roundw
          all_goals first | exact ⟨k + 1, by omega, by go_num, by rw [show q % 300 - ((k + 1 : Nat) : Int) = q % 300 - (k : Int) - 1 by omega]; exact zf3, B3⟩ | (simp [intOf]; omega)
        · skip
          go_wp2_with fail
          refine (arm_c bf _ _ (r % 300) _ zf2 (by decide) (by omega)).mono ?_
          rintro e_ w3 ⟨rfl, zf3, kb⟩
          have B3 := below_but B2 kb hmf (Nat.le_refl _)
          clear zf2 B2 kb
          go_wp2_with fail
          go_loopw [12] (fun i wr => ∃ k : Nat, (k : Int) ≤ r % 300 ∧ i = .int .i64 k ∧ FZ wr bf 1 (r % 300 - k) ∧ Below w.heap.size w wr) (fun i _ => 300 - (intOf i).toNat)
          case atStart => exact ⟨0, by omega, rfl, by simpa using zf3, B3⟩
          case round =>
            clear zf3 B3 hlt hk
            obtain ⟨k, hk, rfl, zf3, B3⟩ := hrel
            by_cases hlt : ((k : Int) < r % 300)
            · skip
              go_wp2_with fail
              refine (burn_armed bf _ _ zf3 (by omega) (by omega)).mono ?_
              rintro e_ w4 ⟨rfl, zf4, kb⟩
              have B4 := below_but B3 kb hmf (Nat.le_refl _)
              clear zf3 B3 kb
              go_wp2_with fail
              refine (blown_c bf _ _ _ zf4).mono ?_
              rintro e_ w5 ⟨rfl, rfl⟩
              go_wp2_with fail
              all_goals go_roundw
              all_goals first | exact ⟨k + 1, by omega, by go_num, by rw [show r % 300 - ((k + 1 : Nat) : Int) = r % 300 - (k : Int) - 1 by omega]; exact zf4, B4⟩ | (simp [intOf]; omega)
            · skip
              go_wp2_with fail
              go_loopw [13] (fun i wr => ∃ (k : Nat) (s l : Int), k ≤ 3 ∧ i = .int .i64 k ∧ (s = 2 ∨ (s = 1 ∧ l = 0)) ∧ FZ wr bf s l ∧ Below w.heap.size w wr) (fun i _ => 3 - (intOf i).toNat)
              case atStart => exact ⟨0, 1, r % 300 - k, by omega, rfl, by omega, zf3, B3⟩
              case round =>
                clear zf3 B3 hlt hk
                obtain ⟨k, s, l, hk, rfl, hs, zf3, B3⟩ := hrel
                have HS := Lib.hid hs
                clear hs
                by_cases hlt : (k < 3)
                · have hlt' : (k : Int) < 3 := by omega
                  go_wp2_with fail
                  refine (burn_dead bf _ _ _ zf3 HS.out).mono ?_
                  rintro e_ w4 ⟨rfl, zf4, kb⟩
                  have B4 := below_but B3 kb hmf (Nat.le_refl _)
                  clear zf3 B3 kb
                  go_wp2_with fail
                  refine (blown_c bf _ _ _ zf4).mono ?_
                  rintro e_ w5 ⟨rfl, rfl⟩
                  go_wp2_with fail
                  refine (arm_no bf _ _ (r % 300) _ zf4 (by omega)).mono ?_
                  rintro e_ w6 ⟨rfl, rfl⟩
                  rw [if_neg (by omega)]
                  go_wp2_with fail
                  all_goals go_roundw
                  all_goals first | exact ⟨k + 1, 2, 0, by omega, by go_num, Or.inl rfl, zf4, B4⟩ | (simp [intOf]; omega)
                · have hlt' : ¬ (k : Int) < 3 := by omega
                  go_wp2_with fail
                  refine (reset_c bf _ _ _ zf3).mono ?_
                  rintro e_ w4 ⟨rfl, zf4, kb⟩
                  have B4 := below_but B3 kb hmf (Nat.le_refl _)
                  clear zf3 B3 kb
                  go_wp2_with fail
                  refine (blown_c bf _ _ _ zf4).mono ?_
                  rintro e_ w5 ⟨rfl, rfl⟩
                  go_wp2_with fail
                  refine (burn_idle bf _ _ zf4).mono ?_
                  rintro e_ w6 ⟨rfl, rfl⟩
                  go_wp2_with fail
                  refine (known_c _).mono ?_
                  rintro e_ w7 ⟨rfl, kb⟩
                  have zf7 := FZ.b zf4 kb
                  have B7 := below_then B4 kb
                  clear zf4 B4 kb
                  go_wp2
                  go_ret
                  exact ⟨rfl, B7⟩

theorem walk_FuseCounts (w : World) (p : Int) (hp : (Lit.int .u16 p).wf = true) (q : Int) (hq : (Lit.int .u16 q).wf = true) (r : Int) (hr : (Lit.int .u16 r).wf = true) :
    Calls Try.prog 3 #[.int .u16 p, .int .u16 q, .int .u16 r] w fun e w' => e = .returned (.bool true) ∧ Below w.heap.size w w' :=
  counts_c p q r w (u16_bd hp) (u16_bd hq) (u16_bd hr)
end Go.Proofs.Ytccehechhdndmaa
