/- By hand: the functions that the printer does not take. -/
import Derived.Handy
import Derived.KernelRfl
import Derived.Lib.Hide
import Derived.Test.YtcdlfnoagghpmaaProg
import Derived.Test.YtcdlfnoagghpmaaBase
import Derived.Test.YtcdlfnoagghpmaaRes
import Derived.Test.YtcdlfnoagghpmaaSub
import Derived.Test.YtcdlfnoagghpmaaResAwake
import Derived.Test.YtcdlfnoagghpmaaDelay
import Derived.Test.YtcdlfnoagghpmaaWWords
import Derived.Test.YtcdlfnoagghpmaaWLast
import Derived.Test.YtcdlfnoagghpmaaWMore
namespace Go.Proofs.Ytcdlfnoagghpmaa.Ext
open Go.RowKit Go.Proofs.Ytcdlfnoagghpmaa Go.Proofs.YtcdlfnoagghpmaaW.PrintWords
set_option linter.unusedVariables false
set_option linter.unusedSimpArgs false

def res_Check.f (a0_0 a0_1 a0_2 : Int) : Option Int := some (errI (okR a0_0 a0_1 a0_2))
theorem res_Check.calls (a0_0 a0_1 a0_2 : Int) (r : Int) (w : World) (h : res_Check.f a0_0 a0_1 a0_2 = some r) :
    Calls Try.prog 22 #[.agg #[.int .i64 a0_0, .int .i64 a0_1, .int .i64 a0_2]] w fun e w' => e = .returned (.int .i64 r) ∧ Below w.heap.size w w' := by
  injection h with h
  subst h
  exact check_c _ _ _ _
def res_Fits.f (a0_0 a0_1 a0_2 a1_0 a1_1 a1_2 : Int) : Option Bool := some (fitsB a0_0 a0_1 a0_2 a1_0 a1_1 a1_2)
theorem res_Fits.calls (a0_0 a0_1 a0_2 a1_0 a1_1 a1_2 : Int) (r : Bool) (w : World) (h : res_Fits.f a0_0 a0_1 a0_2 a1_0 a1_1 a1_2 = some r) :
    Calls Try.prog 24 #[.agg #[.int .i64 a0_0, .int .i64 a0_1, .int .i64 a0_2], .agg #[.int .i64 a1_0, .int .i64 a1_1, .int .i64 a1_2]] w fun e w' => e = .returned (.bool r) ∧ Below w.heap.size w w' := by
  injection h with h
  subst h
  exact fits_c _ _ _ _ _ _ _
def tup (p : R3 × Bool) : Int × Int × Int × Bool := (p.1.c, p.1.m, p.1.d, p.2)
def res_Add.f (a0_0 a0_1 a0_2 a1_0 a1_1 a1_2 : Int) : Option (Int × Int × Int × Bool) := some (tup (add2 ⟨a0_0, a0_1, a0_2⟩ ⟨a1_0, a1_1, a1_2⟩))
theorem res_Add.calls (a0_0 a0_1 a0_2 a1_0 a1_1 a1_2 : Int) (r1 r2 r3 : Int) (r4 : Bool) (w : World) (h : res_Add.f a0_0 a0_1 a0_2 a1_0 a1_1 a1_2 = some (r1, r2, r3, r4)) :
    Calls Try.prog 20 #[.agg #[.int .i64 a0_0, .int .i64 a0_1, .int .i64 a0_2], .agg #[.int .i64 a1_0, .int .i64 a1_1, .int .i64 a1_2]] w fun e w' => e = .returned (.tuple #[.agg #[.int .i64 r1, .int .i64 r2, .int .i64 r3], .bool r4]) ∧ Below w.heap.size w w' := by
  have h := Option.some.inj h
  simp only [tup, Prod.mk.injEq] at h
  obtain ⟨rfl, rfl, rfl, rfl⟩ := h
  exact add_c _ _ _ _ _ _ _
def res_Sub.f (a0_0 a0_1 a0_2 a1_0 a1_1 a1_2 : Int) : Option (Int × Int × Int × Bool) := some (tup (subF ⟨a0_0, a0_1, a0_2⟩ ⟨a1_0, a1_1, a1_2⟩))
theorem res_Sub.calls (a0_0 a0_1 a0_2 a1_0 a1_1 a1_2 : Int) (r1 r2 r3 : Int) (r4 : Bool) (w : World) (h : res_Sub.f a0_0 a0_1 a0_2 a1_0 a1_1 a1_2 = some (r1, r2, r3, r4)) :
    Calls Try.prog 26 #[.agg #[.int .i64 a0_0, .int .i64 a0_1, .int .i64 a0_2], .agg #[.int .i64 a1_0, .int .i64 a1_1, .int .i64 a1_2]] w fun e w' => e = .returned (.tuple #[.agg #[.int .i64 r1, .int .i64 r2, .int .i64 r3], .bool r4]) ∧ Below w.heap.size w w' := by
  have h := Option.some.inj h
  simp only [tup, Prod.mk.injEq] at h
  obtain ⟨rfl, rfl, rfl, rfl⟩ := h
  exact sub_c ⟨_, _, _⟩ ⟨_, _, _⟩ _
def sacristanlaw09_awake.f : Option Bool := some true
theorem sacristanlaw09_awake.calls (r : Bool) (w : World) (h : sacristanlaw09_awake.f = some r) :
    Calls Try.prog 28 #[] w fun e w' => e = .returned (.bool r) ∧ Below w.heap.size w w' := by
  injection h with h
  subst h
  exact awake_c _
def delay_Check.f (a0_0 : Bool) (a0_1 a0_2 a0_3 a0_4 : Int) : Option Int := some (errP (okP a0_1 a0_2 a0_3 a0_4))
theorem delay_Check.calls (a0_0 : Bool) (a0_1 a0_2 a0_3 a0_4 : Int) (r : Int) (w : World) (h : delay_Check.f a0_0 a0_1 a0_2 a0_3 a0_4 = some r) :
    Calls Try.prog 16 #[.agg #[.bool a0_0, .int .i64 a0_1, .int .i64 a0_2, .int .i64 a0_3, .int .i64 a0_4]] w fun e w' => e = .returned (.int .i64 r) ∧ Below w.heap.size w w' := by
  injection h with h
  subst h
  exact dcheck_c _ _ _ _ _ _
def delay_After.f (a0_0 : Bool) (a0_1 a0_2 a0_3 a0_4 a1 : Int) : Option (Int × Int) := if a1 ≤ 9223372036854775807 then some (aftF a0_1 a0_2 a0_3 a0_4 a1) else none
theorem delay_After.calls (a0_0 : Bool) (a0_1 a0_2 a0_3 a0_4 a1 : Int) (r1 r2 : Int) (w : World) (h : delay_After.f a0_0 a0_1 a0_2 a0_3 a0_4 a1 = some (r1, r2)) :
    Calls Try.prog 14 #[.agg #[.bool a0_0, .int .i64 a0_1, .int .i64 a0_2, .int .i64 a0_3, .int .i64 a0_4], .int .i64 a1] w fun e w' => e = .returned (.tuple #[.int .i64 r1, .int .i64 r2]) ∧ Below w.heap.size w w' := by
  unfold delay_After.f at h
  split at h
  · rename_i hn
    have h := Option.some.inj h
    have h1 : (aftF a0_1 a0_2 a0_3 a0_4 a1).1 = r1 := by rw [h]
    have h2 : (aftF a0_1 a0_2 a0_3 a0_4 a1).2 = r2 := by rw [h]
    rw [← h1, ← h2]
    exact after_c _ _ _ _ _ _ _ hn
  · cases h
end Go.Proofs.Ytcdlfnoagghpmaa.Ext
