/- The law FuseCopies. Printed by gen/fusem.py. -/
import Derived.Test.YtccehechhdndmaaBase
import Derived.Test.YtccehechhdndmaaBut
import Derived.Test.YtccehechhdndmaaFuse
import Derived.Test.YtccehechhdndmaaFuseL
import Derived.Test.YtccehechhdndmaaProg
import Derived.Lib.Hide
namespace Go.Proofs.Ytccehechhdndmaa
open Go.RowKit
set_option linter.unusedSimpArgs false
set_option linter.unusedVariables false

/-- The fuse that was armed with n (if A), behind j operations. -/
def stS (A : Bool) (n j : Int) : Int := if A then (if j ≤ n then 1 else 2) else 0
def stL (A : Bool) (n j : Int) : Int := if A then (if j ≤ n then n - j else 0) else 0
def stE (A : Bool) (n j : Int) : Int := if A then (if n ≤ j then 10 else 0) else 0
theorem burn_st (A : Bool) (n j : Int) (b : Nat) (w : World) (z : FZ w b (stS A n j) (stL A n j)) (hn : 0 ≤ n ∧ n ≤ 1000) (hj : 0 ≤ j) :
    Calls Try.prog 16 #[.pointer (some ⟨b, 0, none⟩)] w fun e w' => e = .returned (.int .i64 (stE A n j)) ∧ FZ w' b (stS A n (j + 1)) (stL A n (j + 1)) ∧ But b w w' := by
  cases A with
  | false => exact (burn_idle b _ w z).mono fun e w' ⟨h1, h2⟩ => by subst h2; exact ⟨h1, z, But.refl _ _⟩
  | true =>
    simp only [stS, stL, stE, if_true] at *
    by_cases h1 : j < n
    · rw [if_pos (by omega), if_pos (by omega)] at z
      rw [if_neg (by omega), if_pos (by omega), if_pos (by omega), show n - (j + 1) = n - j - 1 by omega]
      exact burn_armed b _ w z (by omega) (by omega)
    · rw [if_pos (by omega), if_neg (by omega), if_neg (by omega)]
      by_cases h2 : j ≤ n
      · rw [if_pos h2, if_pos h2] at z
        exact burn_dead b _ _ w z (by omega)
      · rw [if_neg h2, if_neg h2] at z
        exact burn_dead b _ _ w z (by omega)

set_option maxHeartbeats 8000000 in
theorem copies_c (p q r : Int) (A : Bool) (w : World) (hp : 0 ≤ p ∧ p ≤ 255) (hq : 0 ≤ q ∧ q ≤ 255) (hr : 0 ≤ r ∧ r ≤ 255) :
    Calls Try.prog 14 #[.int .u8 p, .int .u8 q, .int .u8 r, .bool A] w fun e w' => e = .returned (.bool true) ∧ Below w.heap.size w w' := by
  have hp3 : 0 ≤ p % 60 ∧ p % 60 < 60 := by omega
  have hq3 : 0 ≤ q % 60 ∧ q % 60 < 60 := by omega
  have hr3 : 0 ≤ r % 60 ∧ r % 60 < 60 := by omega
  cases A
  case false =>
    go_enter Try.func14, Try.ntmps14
    go_wp2_with fail
    refine (new_c _).mono ?_
    rintro e_ w1 ⟨bf, rfl, hnf, zf1, kb⟩
    have B1 := kb
    have hmf := hnf
    clear kb
    go_wp2_with fail
    have z0 : FZ w1 bf (stS false (p % 60) 0) (stL false (p % 60) 0) := zf1
    go_loopw [13] (fun i wr => ∃ k : Nat, (k : Int) ≤ (q % 60) ∧ i = .int .i64 k ∧ FZ wr bf (stS false (p % 60) k) (stL false (p % 60) k) ∧ Below w.heap.size w wr) (fun i _ => 100 - (intOf i).toNat)
    case atStart => exact ⟨0, by omega, rfl, z0, B1⟩
    case round =>
      clear zf1 B1 z0
      obtain ⟨k, hk, rfl, zf1, B1⟩ := hrel
      by_cases hlt : ((k : Int) < (q % 60))
      · skip
        go_wp2_with fail
        refine (burn_st false (p % 60) _ bf _ zf1 (by omega) (by omega)).mono ?_
        rintro e_ w2 ⟨rfl, zf2, kb⟩
        have B2 := below_but B1 kb hmf (Nat.le_refl _)
        clear zf1 B1 kb
        go_wp2_with fail
        all_goals go_roundw
        all_goals first | exact ⟨k + 1, by omega, by go_num, by simpa using zf2, B2⟩ | (simp [intOf]; omega)
      · obtain hkq : (k : Int) = (q % 60) := by omega
        rw [hkq] at zf1
        go_wp2_with fail
        refine (copy_c _ _ _ _ zf1).mono ?_
        rintro e_ w2 ⟨bc, rfl, hnc, zc2, kb⟩
        have zf2 := FZ.b zf1 kb
        have nefc : bf < bc := Nat.lt_of_lt_of_le (FZ.lt zf1) hnc
        have B2 := below_then B1 kb
        have hmc : w.heap.size ≤ bc := Nat.le_trans B1.size hnc
        clear zf1 B1 kb
        go_wp2_with fail
        refine (copy_c _ _ _ _ zf2).mono ?_
        rintro e_ w3 ⟨bd, rfl, hnd, zd3, kb⟩
        have zf3 := FZ.b zf2 kb
        have zc3 := FZ.b zc2 kb
        have nefd : bf < bd := Nat.lt_of_lt_of_le (FZ.lt zf2) hnd
        have necd : bc < bd := Nat.lt_of_lt_of_le (FZ.lt zc2) hnd
        have B3 := below_then B2 kb
        have hmd : w.heap.size ≤ bd := Nat.le_trans B2.size hnd
        clear zf2 zc2 B2 kb
        go_wp2_with fail
        refine (blown_c bc _ _ _ zc3).mono ?_
        rintro e_ w4 ⟨rfl, rfl⟩
        go_wp2_with fail
        refine (blown_c bf _ _ _ zf3).mono ?_
        rintro e_ w5 ⟨rfl, rfl⟩
        go_wp2_with fail
        refine (reset_c bd _ _ _ zd3).mono ?_
        rintro e_ w6 ⟨rfl, zd6, kb⟩
        have zf6 := FZ.o zf3 kb (by omega)
        have zc6 := FZ.o zc3 kb (by omega)
        have B6 := below_but B3 kb hmd (Nat.le_refl _)
        clear zf3 zc3 zd3 B3 kb
        go_wp2_with fail
        refine (arm_c bd _ _ 0 _ zd6 (by decide) (by omega)).mono ?_
        rintro e_ w7 ⟨rfl, zd7, kb⟩
        have zf7 := FZ.o zf6 kb (by omega)
        have zc7 := FZ.o zc6 kb (by omega)
        have B7 := below_but B6 kb hmd (Nat.le_refl _)
        clear zf6 zc6 zd6 B6 kb
        go_wp2_with fail
        refine (burn_dead bd _ _ _ zd7 (by omega)).mono ?_
        rintro e_ w8 ⟨rfl, zd8, kb⟩
        have zf8 := FZ.o zf7 kb (by omega)
        have zc8 := FZ.o zc7 kb (by omega)
        have B8 := below_but B7 kb hmd (Nat.le_refl _)
        clear zf7 zc7 zd7 B7 kb
        go_wp2_with fail
        refine (blown_c bc _ _ _ zc8).mono ?_
        rintro e_ w9 ⟨rfl, rfl⟩
        go_wp2_with fail
        refine (blown_c bf _ _ _ zf8).mono ?_
        rintro e_ w10 ⟨rfl, rfl⟩
        go_wp2_with fail
        clear hlt hkq hk
        go_loopw [16] (fun i wr => ∃ k : Nat, (k : Int) ≤ (r % 60) ∧ i = .int .i64 k ∧ FZ wr bc (stS false (p % 60) ((q % 60) + k)) (stL false (p % 60) ((q % 60) + k)) ∧ FZ wr bf (stS false (p % 60) (q % 60)) (stL false (p % 60) (q % 60)) ∧ Below w.heap.size w wr) (fun i _ => 100 - (intOf i).toNat)
        case atStart => exact ⟨0, by omega, rfl, by simpa using zc8, zf8, B8⟩
        case round =>
          clear zc8 zf8 zd8 B8
          obtain ⟨k, hk, rfl, zc8, zf8, B8⟩ := hrel
          by_cases hlt : ((k : Int) < (r % 60))
          · skip
            have cb := burn_st false (p % 60) _ _ _ zc8 (by omega) (by omega)
            rw [show stE false (p % 60) ((q % 60) + k) = 0 by simp only [stE, if_true]; rfl] at cb
            have CB := Lib.hid cb
            clear cb
            go_wp2_with fail
            refine (CB.out).mono ?_
            rintro e_ w11 ⟨rfl, zc11, kb⟩
            have zf11 := FZ.o zf8 kb (by omega)
            have B11 := below_but B8 kb hmc (Nat.le_refl _)
            clear zf8 zc8 B8 kb
            have cb := blown_c _ _ _ _ zc11
            rw [show (stS false (p % 60) ((q % 60) + k + 1) == 2) = false by simp only [stS, if_true]; rfl] at cb
            have CB2 := Lib.hid cb
            clear cb
            go_wp2_with fail
            refine (CB2.out).mono ?_
            rintro e_ w12 ⟨rfl, rfl⟩
            go_wp2_with fail
            all_goals go_roundw
            all_goals first | exact ⟨k + 1, by omega, by go_num, by rw [show (q % 60) + ((k + 1 : Nat) : Int) = (q % 60) + k + 1 by omega]; exact zc11, zf11, B11⟩ | (simp [intOf]; omega)
          · skip
            go_wp2_with fail
            clear hlt hk
            clear zc8
            go_loopw [18] (fun i wr => ∃ k : Nat, (k : Int) ≤ (r % 60) ∧ i = .int .i64 k ∧ FZ wr bf (stS false (p % 60) ((q % 60) + k)) (stL false (p % 60) ((q % 60) + k)) ∧ Below w.heap.size w wr) (fun i _ => 100 - (intOf i).toNat)
            case atStart => exact ⟨0, by omega, rfl, by simpa using zf8, B8⟩
            case round =>
              clear zf8 B8
              obtain ⟨k, hk, rfl, zf8, B8⟩ := hrel
              by_cases hlt : ((k : Int) < (r % 60))
              · skip
                have cb := burn_st false (p % 60) _ _ _ zf8 (by omega) (by omega)
                rw [show stE false (p % 60) ((q % 60) + k) = 0 by simp only [stE, if_true]; rfl] at cb
                have CB := Lib.hid cb
                clear cb
                go_wp2_with fail
                refine (CB.out).mono ?_
                rintro e_ w11 ⟨rfl, zf11, kb⟩
                have B11 := below_but B8 kb hmf (Nat.le_refl _)
                clear zf8 B8 kb
                go_wp2_with fail
                all_goals go_roundw
                all_goals first | exact ⟨k + 1, by omega, by go_num, by rw [show (q % 60) + ((k + 1 : Nat) : Int) = (q % 60) + k + 1 by omega]; exact zf11, B11⟩ | (simp [intOf]; omega)
              · skip
                go_wp2_with fail
                refine (known_c _).mono ?_
                rintro e_ w11 ⟨rfl, kb⟩
                have B11 := below_then B8 kb
                clear B8 kb
                go_wp2
                go_ret
                exact ⟨rfl, B11⟩
  case true =>
    go_enter Try.func14, Try.ntmps14
    go_wp2_with fail
    refine (new_c _).mono ?_
    rintro e_ w1 ⟨bf, rfl, hnf, zf1, kb⟩
    have B1 := kb
    have hmf := hnf
    clear kb
    go_wp2_with fail
    refine (arm_c bf _ _ (p % 60) _ zf1 (by decide) (by omega)).mono ?_
    rintro e_ w2 ⟨rfl, zf2, kb⟩
    have B2 := below_but B1 kb hmf (Nat.le_refl _)
    clear zf1 B1 kb
    go_wp2_with fail
    have z0 : FZ w2 bf (stS true (p % 60) 0) (stL true (p % 60) 0) := by simp only [stS, stL, if_true]; rw [if_pos (by omega), if_pos (by omega)]; simpa using zf2
    go_loopw [13] (fun i wr => ∃ k : Nat, (k : Int) ≤ (q % 60) ∧ i = .int .i64 k ∧ FZ wr bf (stS true (p % 60) k) (stL true (p % 60) k) ∧ Below w.heap.size w wr) (fun i _ => 100 - (intOf i).toNat)
    case atStart => exact ⟨0, by omega, rfl, z0, B2⟩
    case round =>
      clear zf2 B2 z0
      obtain ⟨k, hk, rfl, zf2, B2⟩ := hrel
      by_cases hlt : ((k : Int) < (q % 60))
      · skip
        go_wp2_with fail
        refine (burn_st true (p % 60) _ bf _ zf2 (by omega) (by omega)).mono ?_
        rintro e_ w3 ⟨rfl, zf3, kb⟩
        have B3 := below_but B2 kb hmf (Nat.le_refl _)
        clear zf2 B2 kb
        go_wp2_with fail
        all_goals go_roundw
        all_goals first | exact ⟨k + 1, by omega, by go_num, by simpa using zf3, B3⟩ | (simp [intOf]; omega)
      · obtain hkq : (k : Int) = (q % 60) := by omega
        rw [hkq] at zf2
        go_wp2_with fail
        refine (copy_c _ _ _ _ zf2).mono ?_
        rintro e_ w3 ⟨bc, rfl, hnc, zc3, kb⟩
        have zf3 := FZ.b zf2 kb
        have nefc : bf < bc := Nat.lt_of_lt_of_le (FZ.lt zf2) hnc
        have B3 := below_then B2 kb
        have hmc : w.heap.size ≤ bc := Nat.le_trans B2.size hnc
        clear zf2 B2 kb
        go_wp2_with fail
        refine (copy_c _ _ _ _ zf3).mono ?_
        rintro e_ w4 ⟨bd, rfl, hnd, zd4, kb⟩
        have zf4 := FZ.b zf3 kb
        have zc4 := FZ.b zc3 kb
        have nefd : bf < bd := Nat.lt_of_lt_of_le (FZ.lt zf3) hnd
        have necd : bc < bd := Nat.lt_of_lt_of_le (FZ.lt zc3) hnd
        have B4 := below_then B3 kb
        have hmd : w.heap.size ≤ bd := Nat.le_trans B3.size hnd
        clear zf3 zc3 B3 kb
        go_wp2_with fail
        refine (blown_c bc _ _ _ zc4).mono ?_
        rintro e_ w5 ⟨rfl, rfl⟩
        go_wp2_with fail
        refine (blown_c bf _ _ _ zf4).mono ?_
        rintro e_ w6 ⟨rfl, rfl⟩
        go_wp2_with fail
        refine (reset_c bd _ _ _ zd4).mono ?_
        rintro e_ w7 ⟨rfl, zd7, kb⟩
        have zf7 := FZ.o zf4 kb (by omega)
        have zc7 := FZ.o zc4 kb (by omega)
        have B7 := below_but B4 kb hmd (Nat.le_refl _)
        clear zf4 zc4 zd4 B4 kb
        go_wp2_with fail
        refine (arm_c bd _ _ 0 _ zd7 (by decide) (by omega)).mono ?_
        rintro e_ w8 ⟨rfl, zd8, kb⟩
        have zf8 := FZ.o zf7 kb (by omega)
        have zc8 := FZ.o zc7 kb (by omega)
        have B8 := below_but B7 kb hmd (Nat.le_refl _)
        clear zf7 zc7 zd7 B7 kb
        go_wp2_with fail
        refine (burn_dead bd _ _ _ zd8 (by omega)).mono ?_
        rintro e_ w9 ⟨rfl, zd9, kb⟩
        have zf9 := FZ.o zf8 kb (by omega)
        have zc9 := FZ.o zc8 kb (by omega)
        have B9 := below_but B8 kb hmd (Nat.le_refl _)
        clear zf8 zc8 zd8 B8 kb
        go_wp2_with fail
        refine (blown_c bc _ _ _ zc9).mono ?_
        rintro e_ w10 ⟨rfl, rfl⟩
        go_wp2_with fail
        refine (blown_c bf _ _ _ zf9).mono ?_
        rintro e_ w11 ⟨rfl, rfl⟩
        go_wp2_with fail
        clear hlt hkq hk
        go_loopw [16] (fun i wr => ∃ k : Nat, (k : Int) ≤ (r % 60) ∧ i = .int .i64 k ∧ FZ wr bc (stS true (p % 60) ((q % 60) + k)) (stL true (p % 60) ((q % 60) + k)) ∧ FZ wr bf (stS true (p % 60) (q % 60)) (stL true (p % 60) (q % 60)) ∧ Below w.heap.size w wr) (fun i _ => 100 - (intOf i).toNat)
        case atStart => exact ⟨0, by omega, rfl, by simpa using zc9, zf9, B9⟩
        case round =>
          clear zc9 zf9 zd9 B9
          obtain ⟨k, hk, rfl, zc9, zf9, B9⟩ := hrel
          by_cases hlt : ((k : Int) < (r % 60))
          · skip
            by_cases hge : ((p % 60) ≤ (q % 60) + k)
            · skip
              have cb := burn_st true (p % 60) _ _ _ zc9 (by omega) (by omega)
              rw [show stE true (p % 60) ((q % 60) + k) = 10 by simp only [stE, if_true]; rw [if_pos (by omega)]] at cb
              have CB := Lib.hid cb
              clear cb
              go_wp2_with fail
              refine (CB.out).mono ?_
              rintro e_ w12 ⟨rfl, zc12, kb⟩
              have zf12 := FZ.o zf9 kb (by omega)
              have B12 := below_but B9 kb hmc (Nat.le_refl _)
              clear zf9 zc9 B9 kb
              have cb := blown_c _ _ _ _ zc12
              rw [show (stS true (p % 60) ((q % 60) + k + 1) == 2) = true by simp only [stS, if_true]; rw [if_neg (by omega)]; rfl] at cb
              have CB2 := Lib.hid cb
              clear cb
              go_wp2_with fail
              refine (CB2.out).mono ?_
              rintro e_ w13 ⟨rfl, rfl⟩
              go_wp2_with fail
              all_goals go_roundw
              all_goals first | exact ⟨k + 1, by omega, by go_num, by rw [show (q % 60) + ((k + 1 : Nat) : Int) = (q % 60) + k + 1 by omega]; exact zc12, zf12, B12⟩ | (simp [intOf]; omega)
            · skip
              have cb := burn_st true (p % 60) _ _ _ zc9 (by omega) (by omega)
              rw [show stE true (p % 60) ((q % 60) + k) = 0 by simp only [stE, if_true]; rw [if_neg (by omega)]] at cb
              have CB := Lib.hid cb
              clear cb
              go_wp2_with fail
              refine (CB.out).mono ?_
              rintro e_ w12 ⟨rfl, zc12, kb⟩
              have zf12 := FZ.o zf9 kb (by omega)
              have B12 := below_but B9 kb hmc (Nat.le_refl _)
              clear zf9 zc9 B9 kb
              have cb := blown_c _ _ _ _ zc12
              rw [show (stS true (p % 60) ((q % 60) + k + 1) == 2) = false by simp only [stS, if_true]; rw [if_pos (by omega)]; rfl] at cb
              have CB2 := Lib.hid cb
              clear cb
              go_wp2_with fail
              refine (CB2.out).mono ?_
              rintro e_ w13 ⟨rfl, rfl⟩
              go_wp2_with fail
              all_goals go_roundw
              all_goals first | exact ⟨k + 1, by omega, by go_num, by rw [show (q % 60) + ((k + 1 : Nat) : Int) = (q % 60) + k + 1 by omega]; exact zc12, zf12, B12⟩ | (simp [intOf]; omega)
          · skip
            go_wp2_with fail
            clear hlt hk
            clear zc9
            go_loopw [18] (fun i wr => ∃ k : Nat, (k : Int) ≤ (r % 60) ∧ i = .int .i64 k ∧ FZ wr bf (stS true (p % 60) ((q % 60) + k)) (stL true (p % 60) ((q % 60) + k)) ∧ Below w.heap.size w wr) (fun i _ => 100 - (intOf i).toNat)
            case atStart => exact ⟨0, by omega, rfl, by simpa using zf9, B9⟩
            case round =>
              clear zf9 B9
              obtain ⟨k, hk, rfl, zf9, B9⟩ := hrel
              by_cases hlt : ((k : Int) < (r % 60))
              · skip
                by_cases hge : ((p % 60) ≤ (q % 60) + k)
                · skip
                  have cb := burn_st true (p % 60) _ _ _ zf9 (by omega) (by omega)
                  rw [show stE true (p % 60) ((q % 60) + k) = 10 by simp only [stE, if_true]; rw [if_pos (by omega)]] at cb
                  have CB := Lib.hid cb
                  clear cb
                  go_wp2_with fail
                  refine (CB.out).mono ?_
                  rintro e_ w12 ⟨rfl, zf12, kb⟩
                  have B12 := below_but B9 kb hmf (Nat.le_refl _)
                  clear zf9 B9 kb
                  go_wp2_with fail
                  all_goals go_roundw
                  all_goals first | exact ⟨k + 1, by omega, by go_num, by rw [show (q % 60) + ((k + 1 : Nat) : Int) = (q % 60) + k + 1 by omega]; exact zf12, B12⟩ | (simp [intOf]; omega)
                · skip
                  have cb := burn_st true (p % 60) _ _ _ zf9 (by omega) (by omega)
                  rw [show stE true (p % 60) ((q % 60) + k) = 0 by simp only [stE, if_true]; rw [if_neg (by omega)]] at cb
                  have CB := Lib.hid cb
                  clear cb
                  go_wp2_with fail
                  refine (CB.out).mono ?_
                  rintro e_ w12 ⟨rfl, zf12, kb⟩
                  have B12 := below_but B9 kb hmf (Nat.le_refl _)
                  clear zf9 B9 kb
                  go_wp2_with fail
                  all_goals go_roundw
                  all_goals first | exact ⟨k + 1, by omega, by go_num, by rw [show (q % 60) + ((k + 1 : Nat) : Int) = (q % 60) + k + 1 by omega]; exact zf12, B12⟩ | (simp [intOf]; omega)
              · skip
                go_wp2_with fail
                refine (known_c _).mono ?_
                rintro e_ w12 ⟨rfl, kb⟩
                have B12 := below_then B9 kb
                clear B9 kb
                go_wp2
                go_ret
                exact ⟨rfl, B12⟩
theorem walk_FuseCopies (w : World) (p : Int) (hp : (Lit.int .u8 p).wf = true) (q : Int) (hq : (Lit.int .u8 q).wf = true) (r : Int) (hr : (Lit.int .u8 r).wf = true) (A : Bool) :
    Calls Try.prog 14 #[.int .u8 p, .int .u8 q, .int .u8 r, .bool A] w fun e w' => e = .returned (.bool true) ∧ Below w.heap.size w w' :=
  copies_c p q r A w (u8_bd hp) (u8_bd hq) (u8_bd hr)
end Go.Proofs.Ytccehechhdndmaa
