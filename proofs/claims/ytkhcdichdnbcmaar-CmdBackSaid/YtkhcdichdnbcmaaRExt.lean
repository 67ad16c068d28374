/- By hand: what the printed texts of Spec need. -/
import Derived.Handy
import Derived.KernelRfl
import Derived.Lib.Hide
import Derived.Lib.LazyBuf
import Derived.Test.YtkhcdichdnbcmaaRProg
import Derived.Test.YtkhcdichdnbcmaaRBase
import Derived.Test.YtkhcdichdnbcmaaRResC
import Derived.Test.YtkhcdichdnbcmaaRDelC
import Derived.Test.YtkhcdichdnbcmaaRPackU
import Derived.Test.YtkhcdichdnbcmaaRSpC
import Derived.Test.YtkhcdichdnbcmaaRSpD
import Derived.Test.YtkhcdichdnbcmaaRSpF
import Derived.Test.YtkhcdichdnbcmaaRSpG
import Derived.Test.YtkhcdichdnbcmaaRCm0
import Derived.Test.YtkhcdichdnbcmaaRRe0
import Derived.Test.YtkhcdichdnbcmaaRWWords
import Derived.Test.YtkhcdichdnbcmaaRWLast
import Derived.Test.YtkhcdichdnbcmaaRWMore
namespace Go.Proofs.YtkhcdichdnbcmaaR.Ext
open Go.RowKit Go.Proofs.YtkhcdichdnbcmaaR Go.Proofs.YtkhcdichdnbcmaaRW.PrintWords Go.Proofs.YtkhcdichdnbcmaaR.Sp
set_option linter.unusedVariables false
set_option linter.unusedSimpArgs false

def res_Check.f (a0_0 a0_1 a0_2 : Int) : Option Int := some (errI (okR a0_0 a0_1 a0_2))
theorem res_Check.calls (a0_0 a0_1 a0_2 : Int) (r : Int) (w : World) (h : res_Check.f a0_0 a0_1 a0_2 = some r) :
    Calls Try.prog 81 #[.agg #[.int .i64 a0_0, .int .i64 a0_1, .int .i64 a0_2]] w fun e w' => e = .returned (.int .i64 r) ∧ Below w.heap.size w w' := by
  injection h with h
  subst h
  exact check_c _ _ _ _
def delay_Check.f (a0_0 : Bool) (a0_1 a0_2 a0_3 a0_4 : Int) : Option Int := some (errP (okP a0_1 a0_2 a0_3 a0_4))
theorem delay_Check.calls (a0_0 : Bool) (a0_1 a0_2 a0_3 a0_4 : Int) (r : Int) (w : World) (h : delay_Check.f a0_0 a0_1 a0_2 a0_3 a0_4 = some r) :
    Calls Try.prog 86 #[.agg #[.bool a0_0, .int .i64 a0_1, .int .i64 a0_2, .int .i64 a0_3, .int .i64 a0_4]] w fun e w' => e = .returned (.int .i64 r) ∧ Below w.heap.size w w' := by
  injection h with h
  subst h
  exact dcheck_c _ _ _ _ _ _
def pack_number.f (a0 : ByteArray) : Option Int := if a0.size ≤ 8 then some (Pk.vl a0.data.toList : Int) else none
theorem pack_number.calls (a0 : ByteArray) (r : Int) (w : World) (h : pack_number.f a0 = some r) :
    Calls Try.prog 75 #[.string a0] w fun e w' => e = .returned (.int .u64 r) ∧ Drawn0 w w' := by
  unfold pack_number.f at h
  split at h
  case isFalse => cases h
  case isTrue hl =>
  injection h with h
  subst h
  exact (number_c a0 hl w).mono fun e w' q => ⟨q.1, by rw [q.2]; exact Drawn0.refl _⟩
def sacristankit_CopyInts.f (l0 : List Int) : Option (List Int) := if l0.length < 17592186044416 then some l0 else none
theorem sacristankit_CopyInts.calls (A0 : Option Addr) (c0 : Nat) (l0 : List Int) (r : List Int) (w : World) (hr0 : Kd.C (Kd.int .i64) w A0 l0.length l0) (hc0 : l0.length ≤ c0) (h : sacristankit_CopyInts.f l0 = some r) :
    Calls Try.prog 59 #[.slice A0 l0.length c0] w fun e w' => ∃ v0_ : Value, e = .returned (v0_) ∧ Kd.R (Kd.int .i64) 3 w' w.heap.size (fun _ => True) v0_ r ∧ Below w.heap.size w w' := by
  unfold sacristankit_CopyInts.f at h
  split at h
  case isFalse => cases h
  case isTrue hl =>
  injection h with h
  subst h
  go_enter Try.func59, Try.ntmps59
  go_wp2_with (at_builtin; refine Kd.R_append_row (Value.int .i64) (0 : Int) w.heap.size rfl _ _ 24 3 (.int .i64 0) 8 rfl Try.underlying24 info_int3 rfl (by decide) _ [] l0 A0 _ c0 (fun _ => True) rfl rfl (fun _ _ => trivial) (Kd.R_nil _ _ _ _ _) hr0 (Below.refl _ _) (Nat.le_refl _) (by simp; omega) ?_; intro v1 w1 hR hB hg hat)
  go_returns
  exact ⟨_, rfl, hR, hB⟩
end Go.Proofs.YtkhcdichdnbcmaaR.Ext
