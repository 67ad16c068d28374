/- The plain law of ResBack, and its walk. -/
import Derived.Test.YtcdlfnoagghpmaaResP
import Derived.Test.YtcdlfnoagghpmaaX6
namespace Go.Proofs.Ytcdlfnoagghpmaa.Pure
open Go.RowKit Go.Proofs.Ytcdlfnoagghpmaa Go.Proofs.Ytcdlfnoagghpmaa.Ext Go.Proofs.Ytcdlfnoagghpmaa.X Go.Proofs.YtcdlfnoagghpmaaW.PrintWords Go.Proofs.YtcdlfnoagghpmaaW.PrintLast
set_option linter.unusedVariables false
set_option linter.unusedSimpArgs false

theorem addR_comm (a b : R3) : addR a b = addR b a := by unfold addR; congr 1 <;> omega
theorem add2_comm (a b : R3) : add2 a b = add2 b a := by
  rw [add2_eq', add2_eq', addR_comm b a]
  by_cases ha : okR3 a = true <;> by_cases hb : okR3 b = true <;> simp [ha, hb]
theorem okR3_iff (a : R3) : okR3 a = true ↔ (0 ≤ a.c ∧ a.c ≤ 1099511627776) ∧ (0 ≤ a.m ∧ a.m ≤ 1099511627776) ∧ (0 ≤ a.d ∧ a.d ≤ 1099511627776) := okR_iff _ _ _
theorem fits3_iff (a b : R3) : fits3 a b = true ↔ a.c ≤ b.c ∧ a.m ≤ b.m ∧ a.d ≤ b.d := fitsB_iff _ _ _ _ _ _
theorem add_then_sub (a b : R3) (h : (add2 a b).2 = true) : subF (add2 a b).1 b = (a, true) ∧ fits3 a (add2 a b).1 = true ∧ okR3 (add2 a b).1 = true := by
  rw [add2_eq'] at h ⊢
  by_cases hc : okR3 a = true ∧ okR3 b = true ∧ okR3 (addR a b) = true
  · rw [if_pos hc]
    have h1 := (okR3_iff _).1 hc.1
    have h2 := (okR3_iff _).1 hc.2.1
    refine ⟨?_, (fits3_iff _ _).2 (by simp [addR]; omega), hc.2.2⟩
    unfold subF
    rw [if_pos ⟨hc.2.2, hc.2.1, (fits3_iff _ _).2 (by simp [addR]; omega)⟩]
    simp [addR]
  · rw [if_neg hc] at h; cases h
theorem sub_then_add (a b : R3) (h : (subF a b).2 = true) : add2 (subF a b).1 b = (a, true) := by
  unfold subF at h ⊢
  by_cases hc : okR3 a = true ∧ okR3 b = true ∧ fits3 b a = true
  · rw [if_pos hc]
    have h1 := (okR3_iff _).1 hc.1
    have h2 := (okR3_iff _).1 hc.2.1
    have h3 := (fits3_iff _ _).1 hc.2.2
    have e : addR ⟨a.c - b.c, a.m - b.m, a.d - b.d⟩ b = a := by
      cases a; simp [addR]
    show add2 ⟨a.c - b.c, a.m - b.m, a.d - b.d⟩ b = _
    rw [add2_eq', e, if_pos ⟨(okR3_iff _).2 (by simp only; omega), hc.2.1, hc.1⟩]
  · rw [if_neg hc] at h; cases h
theorem resBack_j2 (k : Nat) (a b : R3) : sacristanlaw09_ResBack.j2 (k + 1) (subF a b).2 a.c a.m a.d b.c b.m b.d (subF a b).1.c (subF a b).1.m (subF a b).1.d = some true := by
  simp only [sacristanlaw09_ResBack.j2]
  split
  · rename_i h
    have := sub_then_add a b h
    simp only [res_Add.f, Option.bind_some, tup]
    rw [this]
    simp only [beq_self_eq_true, Bool.not_true, Bool.or_self]
    rw [if_neg (by simp), if_pos trivial]
    rfl
  · rfl
theorem resBack_j1 (k : Nat) (a b : R3) : sacristanlaw09_ResBack.j1 (k + 2) (add2 a b).2 (subF a b).2 false a.c a.m a.d b.c b.m b.d (add2 a b).1.c (add2 a b).1.m (add2 a b).1.d (subF a b).1.c (subF a b).1.m (subF a b).1.d = some true := by
  rw [sacristanlaw09_ResBack.j1]
  rw [if_neg (by simp)]
  split
  · rename_i h
    obtain ⟨h1, h2, h3⟩ := add_then_sub a b h
    simp only [res_Sub.f, Option.bind_some, tup]
    rw [h1]
    simp only [beq_self_eq_true, Bool.not_true, Bool.or_self]
    rw [if_neg (by simp), if_pos trivial]
    simp only [res_Fits.f, Option.bind_some]
    rw [if_pos (show fitsB _ _ _ _ _ _ = true from h2)]
    simp only [res_Check.f, Option.bind_some]
    rw [if_pos ((errI0 _).2 (show okR _ _ _ = true from h3))]
    exact resBack_j2 k a b
  · exact resBack_j2 k a b
theorem add2_no1 {a b : R3} (h : ¬ (okR3 a = true ∧ okR3 b = true)) : (add2 a b).2 = false := by
  rw [add2_eq', if_neg (fun x => h ⟨x.1, x.2.1⟩)]
theorem subF_no1 {a b : R3} (h : ¬ (okR3 a = true ∧ okR3 b = true)) : (subF a b).2 = false := by
  unfold subF
  rw [if_neg (fun x => h ⟨x.1, x.2.1⟩)]
theorem subF_ok {a b : R3} (ha : okR3 a = true) (hb : okR3 b = true) : (subF a b).2 = fits3 b a := by
  unfold subF
  by_cases h : fits3 b a = true
  · rw [if_pos ⟨ha, hb, h⟩, h]
  · rw [if_neg (fun x => h x.2.2)]; simpa using h
theorem resBack_j0 (k : Nat) (a b : R3) (v : Bool) (hv : v = (okR3 a && okR3 b)) : sacristanlaw09_ResBack.j0 (k + 3) (add2 a b).2 (add2 a b).2 (subF a b).2 v a.c a.m a.d b.c b.m b.d (add2 a b).1.c (add2 a b).1.m (add2 a b).1.d (add2 a b).1.c (add2 a b).1.m (add2 a b).1.d (subF a b).1.c (subF a b).1.m (subF a b).1.d = some true := by
  rw [sacristanlaw09_ResBack.j0]
  simp only [beq_self_eq_true, Bool.not_true, Bool.or_self, bne_self_eq_false]
  rw [if_neg (by simp), if_neg (by simp)]
  by_cases h : okR3 a = true ∧ okR3 b = true
  · have : v = true := by rw [hv, h.1, h.2]; rfl
    subst this
    rw [if_pos rfl]
    simp only [res_Fits.f, Option.bind_some]
    rw [show fitsB b.c b.m b.d a.c a.m a.d = (subF a b).2 from (subF_ok h.1 h.2).symm, bne_self_eq_false, if_neg (by simp)]
    simp only [Bool.not_true]
    split <;> exact resBack_j1 k a b
  · have : v = false := by
      rw [hv]
      cases h1 : okR3 a
      · rfl
      · cases h2 : okR3 b
        · rfl
        · exact absurd ⟨h1, h2⟩ h
    subst this
    rw [if_neg (by simp), show ((subF a b).2 != false) = false by rw [subF_no1 h]; rfl, if_neg (by simp), if_neg (by rw [add2_no1 h]; simp)]
    exact resBack_j1 k a b
theorem resBack_eq (a b : R3) : sacristanlaw09_ResBack.f 10 a.c a.m a.d b.c b.m b.d = some true := by
  unfold sacristanlaw09_ResBack.f
  simp only [res_Add.f, res_Sub.f, res_Check.f, Option.bind_some, tup]
  show (if errI (okR3 a) = 0 then sacristanlaw09_ResBack.j0 10 (add2 a b).2 (add2 b a).2 (subF a b).2 (errI (okR3 b) == 0) a.c a.m a.d b.c b.m b.d (add2 a b).1.c (add2 a b).1.m (add2 a b).1.d (add2 b a).1.c (add2 b a).1.m (add2 b a).1.d (subF a b).1.c (subF a b).1.m (subF a b).1.d else sacristanlaw09_ResBack.j0 10 (add2 a b).2 (add2 b a).2 (subF a b).2 false a.c a.m a.d b.c b.m b.d (add2 a b).1.c (add2 a b).1.m (add2 a b).1.d (add2 b a).1.c (add2 b a).1.m (add2 b a).1.d (subF a b).1.c (subF a b).1.m (subF a b).1.d) = _
  rw [add2_comm b a]
  by_cases h : okR3 a = true
  · rw [if_pos ((errI0 _).2 h)]
    refine resBack_j0 7 a b _ ?_
    rw [h]
    cases okR3 b <;> rfl
  · rw [if_neg (fun x => h ((errI0 _).1 x))]
    refine resBack_j0 7 a b _ ?_
    rw [Bool.not_eq_true] at h
    rw [h]; rfl
end Go.Proofs.Ytcdlfnoagghpmaa.Pure
namespace Go.Proofs.Ytcdlfnoagghpmaa
open Go.RowKit Go.Proofs.Ytcdlfnoagghpmaa.X
theorem walk_ResBack (w : World) (a b c : Int) (_ : (Lit.int .i64 a).wf = true) (_ : (Lit.int .i64 b).wf = true) (_ : (Lit.int .i64 c).wf = true) (x y z : Int) (_ : (Lit.int .i64 x).wf = true) (_ : (Lit.int .i64 y).wf = true) (_ : (Lit.int .i64 z).wf = true) : Calls Try.prog 11 #[.agg #[.int .i64 a, .int .i64 b, .int .i64 c], .agg #[.int .i64 x, .int .i64 y, .int .i64 z]] w fun e w' => e = .returned (.bool true) ∧ Below w.heap.size w w' :=
  sacristanlaw09_ResBack.calls 10 a b c x y z true w (Pure.resBack_eq ⟨a, b, c⟩ ⟨x, y, z⟩)
end Go.Proofs.Ytcdlfnoagghpmaa
