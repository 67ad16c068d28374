/- SpecApart: its plain law and its walk. -/
import Derived.Test.YtldpmeaibkpojaaRB6
import Derived.Test.YtldpmeaibkpojaaRSpP
import Derived.Test.YtldpmeaibkpojaaRSpO
namespace Go.Proofs.YtldpmeaibkpojaaR
open Go.RowKit Go.Proofs.YtldpmeaibkpojaaR Go.Proofs.YtldpmeaibkpojaaR.Ext Go.Proofs.YtldpmeaibkpojaaR.B Go.Proofs.YtldpmeaibkpojaaR.PureS Go.Proofs.YtldpmeaibkpojaaR.Sp Go.Proofs.YtldpmeaibkpojaaRW.PrintWords Go.Proofs.YtldpmeaibkpojaaRW.PrintLast
set_option linter.unusedVariables false
set_option linter.unusedSimpArgs false

theorem j0_awake (k : Nat) (x5 x7 : ByteArray) (a b c d a' b' c' d' : Int) (l l' : List Int) (m m' : List (S49)) : sacristanlaw13_SpecApart.j0 (k + 1) x5 x7 true a b c d l m a' b' c' d' l' m' = some true := by
  simp only [sacristanlaw13_SpecApart.j0]
  rw [if_pos trivial]; rfl
theorem specApart_law (a b c d a' b' c' d' : Int) (l l' : List Int) (m m' : List (S49)) : sacristanlaw13_SpecApart.f 30 a b c d l m a' b' c' d' l' m' = some true := by
  unfold sacristanlaw13_SpecApart.f
  rw [few, few]
  simp only [Option.bind_some]
  have hl1 : (l.take 20).length ≤ 20 := by rw [List.length_take]; omega
  have hm1 : (m.take 10).length ≤ 10 := by rw [List.length_take]; omega
  have hX := spOf_eq a b c d a' b' c' d' (l.take 20) (l'.take 20) (m.take 10) (m'.take 10)
  unfold spec_Encode.f
  simp only [Option.bind_some]
  have q1 := sEqual 29 a b c d a' b' c' d' (l.take 20) (l'.take 20) (m.take 10) (m'.take 10) (by omega) (by omega) (by omega) (by omega)
  have q2 := eqSpec 29 a b c d a' b' c' d' (l.take 20) (l'.take 20) (m.take 10) (m'.take 10) (by omega) (by omega) (by omega) (by omega)
  generalize spOf a b c d (l.take 20) (m.take 10) = X at *
  generalize spOf a' b' c' d' (l'.take 20) (m'.take 10) = Y at *
  by_cases hx : specE X = 0
  · rw [if_pos hx]
    by_cases hy : specE Y = 0
    · have ex : encR X = encS X := by unfold encR; rw [if_pos hx]
      have ey : encR Y = encS Y := by unfold encR; rw [if_pos hy]
      have ox := okS_E.2 hx
      have oy := okS_E.2 hy
      have hyb : (specE Y != 0) = false := by simp [hy]
      rw [hyb, ex, ey]
      simp only [sacristanlaw13_SpecApart.j0]
      rw [if_neg (by simp), sz_mkB, sz_mkB, mn_nat, if_pos (by omega), if_pos (by omega), if_pos (by omega), q1]
      simp only [Option.bind_some, Int.toNat_natCast, ext_mkB, toList_mkB, List.drop_zero]
      have c1 : ((encS X).take (min (encS X).length (encS Y).length) == (encS Y).take (min (encS X).length (encS Y).length)) = decide (X = Y) := by
        rw [Bool.eq_iff_iff]
        simp only [beq_iff_eq, decide_eq_true_eq]
        constructor
        · intro h; exact decS_codec.head ox oy rfl h
        · intro h; rw [h]
      rw [c1, if_pos (by simp), q2]
      simp only [Option.bind_some]
      have c2 : (encS X == encS Y) = decide (X = Y) := by
        rw [Bool.eq_iff_iff]
        simp only [beq_iff_eq, decide_eq_true_eq]
        constructor
        · intro h; exact (decS_codec.apart ox oy (r := []) (s := []) (by rw [h])).1
        · intro h; rw [h]
      rw [c2, if_pos (by simp)]
      rfl
    · have hyb : (specE Y != 0) = true := by simp [hy]
      rw [hyb]
      exact j0_awake 29 _ _ _ _ _ _ _ _ _ _ _ _ _ _
  · rw [if_neg hx]
    exact j0_awake 29 _ _ _ _ _ _ _ _ _ _ _ _ _ _
set_option maxHeartbeats 400000 in
theorem walk_SpecApart (W : World) (a b c d : Int) (A4 : Option Addr) (c4 : Nat) (l4 : List Int) (A5 : Option Addr) (c5 : Nat) (l5 : List E49) (h0 : (Lit.int .i64 a).wf = true) (h1 : (Lit.int .i64 b).wf = true) (h2 : (Lit.int .i64 c).wf = true) (h3 : (Lit.int .i64 d).wf = true) (h4 : SL24 W A4 c4 l4) (h5 : SL25 W A5 c5 l5)
    (a' b' c' d' : Int) (A4' : Option Addr) (c4' : Nat) (l4' : List Int) (A5' : Option Addr) (c5' : Nat) (l5' : List E49) (h0' : (Lit.int .i64 a').wf = true) (h1' : (Lit.int .i64 b').wf = true) (h2' : (Lit.int .i64 c').wf = true) (h3' : (Lit.int .i64 d').wf = true) (h4' : SL24 W A4' c4' l4') (h5' : SL25 W A5' c5' l5') :
    Calls Try.prog 6 #[.agg #[.int .i64 a, .int .i64 b, .int .i64 c, .int .i64 d, .slice A4 l4.length c4, .slice A5 l5.length c5], .agg #[.int .i64 a', .int .i64 b', .int .i64 c', .int .i64 d', .slice A4' l4'.length c4', .slice A5' l5'.length c5']] W fun e w' => e = .returned (.bool true) ∧ Below W.heap.size W w' := by
  have q1 := readsT h5
  have q2 := readsT h5'
  have q := sacristanlaw13_SpecApart.calls 30 a b c d A4 c4 l4 A5 c5 (l5.map toE) a' b' c' d' A4' c4' l4' A5' c5' (l5'.map toE) true W (readsI h4).1 (readsI h4).2 q1.1 q1.2 (readsI h4').1 (readsI h4').2 q2.1 q2.2 (specApart_law _ _ _ _ _ _ _ _ _ _ _ _) rfl
  rw [List.length_map, List.length_map] at q
  exact q
end Go.Proofs.YtldpmeaibkpojaaR
