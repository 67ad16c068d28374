/- The plain law of ResOrder, and its walk. -/
import Derived.Test.YtcdlfnoagghpmaaResP
import Derived.Test.YtcdlfnoagghpmaaX8
namespace Go.Proofs.Ytcdlfnoagghpmaa.Pure
open Go.RowKit Go.Proofs.Ytcdlfnoagghpmaa Go.Proofs.Ytcdlfnoagghpmaa.Ext Go.Proofs.Ytcdlfnoagghpmaa.X Go.Proofs.YtcdlfnoagghpmaaW.PrintWords Go.Proofs.YtcdlfnoagghpmaaW.PrintLast
set_option linter.unusedVariables false
set_option linter.unusedSimpArgs false

def F (a b : R3) : Bool := fitsB a.c a.m a.d b.c b.m b.d
theorem F_iff (a b : R3) : F a b = true ↔ a.c ≤ b.c ∧ a.m ≤ b.m ∧ a.d ≤ b.d := fitsB_iff _ _ _ _ _ _
theorem okR3_iff2 (a : R3) : okR3 a = true ↔ (0 ≤ a.c ∧ a.c ≤ 1099511627776) ∧ (0 ≤ a.m ∧ a.m ≤ 1099511627776) ∧ (0 ≤ a.d ∧ a.d ≤ 1099511627776) := okR_iff _ _ _
theorem add2_true {a b : R3} (h : (add2 a b).2 = true) : okR3 a = true ∧ okR3 b = true ∧ okR3 (addR a b) = true ∧ add2 a b = (addR a b, true) := by
  rw [add2_eq'] at h ⊢
  split at h
  · rename_i h1; rw [if_pos h1]; exact ⟨h1.1, h1.2.1, h1.2.2, rfl⟩
  · cases h
theorem resOrder_j1 (k : Nat) (a b c : R3) : sacristanlaw09_ResOrder.j1 (k + 1) (add2 a c).2 (add2 b c).2 false a.c a.m a.d b.c b.m b.d = some true := by
  rw [sacristanlaw09_ResOrder.j1, if_neg (by simp)]
  by_cases h1 : (add2 b c).2 = true
  · rw [if_pos h1]
    simp only [res_Fits.f, Option.bind_some, res_Check.f]
    by_cases h2 : F a b = true
    · rw [if_pos (show fitsB _ _ _ _ _ _ = true from h2)]
      by_cases h3 : okR3 a = true
      · rw [if_pos ((errI0 (okR a.c a.m a.d)).2 h3)]
        obtain ⟨p, q, r, _⟩ := add2_true h1
        have f := (F_iff _ _).1 h2
        have p3 := (okR3_iff2 _).1 h3
        have q3 := (okR3_iff2 _).1 q
        have r3 := (okR3_iff2 _).1 r
        simp only [addR] at r3
        have : (add2 a c).2 = true := by
          rw [add2_eq', if_pos ⟨h3, q, (okR3_iff2 _).2 (by simp only [addR]; omega)⟩]
        rw [if_pos this]; rfl
      · rw [if_neg (fun h => h3 ((errI0 (okR a.c a.m a.d)).1 h))]; rfl
    · rw [if_neg (show ¬ fitsB _ _ _ _ _ _ = true from h2)]; rfl
  · rw [if_neg h1]; rfl
theorem resOrder_j0 (k : Nat) (a b c : R3) : sacristanlaw09_ResOrder.j0 (k + 2) false a.c a.m a.d b.c b.m b.d c.c c.m c.d = some true := by
  rw [sacristanlaw09_ResOrder.j0, if_neg (by simp)]
  simp only [res_Add.f, Option.bind_some, tup]
  have hj := resOrder_j1 k a b c
  by_cases h1 : (add2 a c).2 = true
  · rw [if_pos (show (add2 ⟨a.c, a.m, a.d⟩ ⟨c.c, c.m, c.d⟩).2 = true from h1)]
    by_cases h2 : (add2 b c).2 = true
    · rw [if_pos (show (add2 ⟨b.c, b.m, b.d⟩ ⟨c.c, c.m, c.d⟩).2 = true from h2)]
      simp only [res_Fits.f, Option.bind_some]
      obtain ⟨_, _, _, e1⟩ := add2_true h1
      obtain ⟨_, _, _, e2⟩ := add2_true h2
      have e : (fitsB (add2 a c).1.c (add2 a c).1.m (add2 a c).1.d (add2 b c).1.c (add2 b c).1.m (add2 b c).1.d != fitsB a.c a.m a.d b.c b.m b.d) = false := by
        rw [e1, e2]
        by_cases h : fitsB a.c a.m a.d b.c b.m b.d = true
        · have h' := (fitsB_iff _ _ _ _ _ _).1 h
          rw [h, (fitsB_iff _ _ _ _ _ _).2 (by simp only [addR]; omega)]; rfl
        · have h' : ¬ fitsB (addR a c).c (addR a c).m (addR a c).d (addR b c).c (addR b c).m (addR b c).d = true := fun x => h ((fitsB_iff _ _ _ _ _ _).2 (by
            have := (fitsB_iff _ _ _ _ _ _).1 x
            simp only [addR] at this
            omega))
          rw [Bool.not_eq_true] at h h'
          rw [h, h']; rfl
      show sacristanlaw09_ResOrder.j1 (k + 1) (add2 a c).2 (add2 b c).2 (fitsB (add2 a c).1.c (add2 a c).1.m (add2 a c).1.d (add2 b c).1.c (add2 b c).1.m (add2 b c).1.d != fitsB a.c a.m a.d b.c b.m b.d) a.c a.m a.d b.c b.m b.d = _
      rw [e]
      exact hj
    · rw [if_neg (show ¬ (add2 ⟨b.c, b.m, b.d⟩ ⟨c.c, c.m, c.d⟩).2 = true from h2)]; exact hj
  · rw [if_neg (show ¬ (add2 ⟨a.c, a.m, a.d⟩ ⟨c.c, c.m, c.d⟩).2 = true from h1)]; exact hj
theorem resOrder_eq (a b c : R3) : sacristanlaw09_ResOrder.f 10 a.c a.m a.d b.c b.m b.d c.c c.m c.d = some true := by
  unfold sacristanlaw09_ResOrder.f
  simp only [res_Fits.f, Option.bind_some]
  have hj := resOrder_j0 8 a b c
  have ht : fitsB a.c a.m a.d b.c b.m b.d = true → fitsB b.c b.m b.d c.c c.m c.d = true → (!fitsB a.c a.m a.d c.c c.m c.d) = false := fun h1 h2 => by
    have h1 := (fitsB_iff _ _ _ _ _ _).1 h1
    have h2 := (fitsB_iff _ _ _ _ _ _).1 h2
    rw [(fitsB_iff _ _ _ _ _ _).2 (by omega)]; rfl
  rw [if_pos ((fitsB_iff _ _ _ _ _ _).2 (by omega))]
  by_cases h1 : fitsB a.c a.m a.d b.c b.m b.d = true
  · simp only [if_pos h1]
    by_cases h2 : fitsB b.c b.m b.d c.c c.m c.d = true
    · simp only [if_pos h2, ht h1 h2]
      by_cases h3 : fitsB b.c b.m b.d a.c a.m a.d = true
      · simp only [if_pos h3]
        rw [if_neg, hj]
        have p := (fitsB_iff _ _ _ _ _ _).1 h1
        have q := (fitsB_iff _ _ _ _ _ _).1 h3
        rw [show a.c = b.c by omega, show a.m = b.m by omega, show a.d = b.d by omega]
        simp
      · simp only [if_neg h3, hj]
    · simp only [if_neg h2]
      by_cases h3 : fitsB b.c b.m b.d a.c a.m a.d = true
      · simp only [if_pos h3]
        rw [if_neg, hj]
        have p := (fitsB_iff _ _ _ _ _ _).1 h1
        have q := (fitsB_iff _ _ _ _ _ _).1 h3
        rw [show a.c = b.c by omega, show a.m = b.m by omega, show a.d = b.d by omega]
        simp
      · simp only [if_neg h3, hj]
  · simp only [if_neg h1, hj]
end Go.Proofs.Ytcdlfnoagghpmaa.Pure
namespace Go.Proofs.Ytcdlfnoagghpmaa
open Go.RowKit Go.Proofs.Ytcdlfnoagghpmaa.X
theorem walk_ResOrder (w : World) (a b c : Int) (_ : (Lit.int .i64 a).wf = true) (_ : (Lit.int .i64 b).wf = true) (_ : (Lit.int .i64 c).wf = true) (x y z : Int) (_ : (Lit.int .i64 x).wf = true) (_ : (Lit.int .i64 y).wf = true) (_ : (Lit.int .i64 z).wf = true) (p q r : Int) (_ : (Lit.int .i64 p).wf = true) (_ : (Lit.int .i64 q).wf = true) (_ : (Lit.int .i64 r).wf = true) : Calls Try.prog 13 #[.agg #[.int .i64 a, .int .i64 b, .int .i64 c], .agg #[.int .i64 x, .int .i64 y, .int .i64 z], .agg #[.int .i64 p, .int .i64 q, .int .i64 r]] w fun e w' => e = .returned (.bool true) ∧ Below w.heap.size w w' :=
  sacristanlaw09_ResOrder.calls 10 a b c x y z p q r true w (Pure.resOrder_eq ⟨a, b, c⟩ ⟨x, y, z⟩ ⟨p, q, r⟩) rfl
end Go.Proofs.Ytcdlfnoagghpmaa
