/- By hand: what the printed texts of Spec need. -/
import Derived.Handy
import Derived.KernelRfl
import Derived.Lib.Hide
import Derived.Lib.LazyBuf
import Derived.Test.YtldpmeaibkpojaaRProg
import Derived.Test.YtldpmeaibkpojaaRBase
import Derived.Test.YtldpmeaibkpojaaRResC
import Derived.Test.YtldpmeaibkpojaaRDelC
import Derived.Test.YtldpmeaibkpojaaRConf
import Derived.Test.YtldpmeaibkpojaaRConfR
import Derived.Test.YtldpmeaibkpojaaRPackU
import Derived.Test.YtldpmeaibkpojaaRSpC
import Derived.Test.YtldpmeaibkpojaaRSpD
import Derived.Test.YtldpmeaibkpojaaRSpF
import Derived.Test.YtldpmeaibkpojaaRSpG
import Derived.Test.YtldpmeaibkpojaaRWWords
import Derived.Test.YtldpmeaibkpojaaRWLast
import Derived.Test.YtldpmeaibkpojaaRWMore
namespace Go.Proofs.YtldpmeaibkpojaaR.Ext
open Go.RowKit Go.Proofs.YtldpmeaibkpojaaR Go.Proofs.YtldpmeaibkpojaaRW.PrintWords Go.Proofs.YtldpmeaibkpojaaR.Sp
set_option linter.unusedVariables false
set_option linter.unusedSimpArgs false

def res_Check.f (a0_0 a0_1 a0_2 : Int) : Option Int := some (errI (okR a0_0 a0_1 a0_2))
theorem res_Check.calls (a0_0 a0_1 a0_2 : Int) (r : Int) (w : World) (h : res_Check.f a0_0 a0_1 a0_2 = some r) :
    Calls Try.prog 33 #[.agg #[.int .i64 a0_0, .int .i64 a0_1, .int .i64 a0_2]] w fun e w' => e = .returned (.int .i64 r) ∧ Below w.heap.size w w' := by
  injection h with h
  subst h
  exact check_c _ _ _ _
def delay_Check.f (a0_0 : Bool) (a0_1 a0_2 a0_3 a0_4 : Int) : Option Int := some (errP (okP a0_1 a0_2 a0_3 a0_4))
theorem delay_Check.calls (a0_0 : Bool) (a0_1 a0_2 a0_3 a0_4 : Int) (r : Int) (w : World) (h : delay_Check.f a0_0 a0_1 a0_2 a0_3 a0_4 = some r) :
    Calls Try.prog 55 #[.agg #[.bool a0_0, .int .i64 a0_1, .int .i64 a0_2, .int .i64 a0_3, .int .i64 a0_4]] w fun e w' => e = .returned (.int .i64 r) ∧ Below w.heap.size w w' := by
  injection h with h
  subst h
  exact dcheck_c _ _ _ _ _ _
def pack_number.f (a0 : ByteArray) : Option Int := if a0.size ≤ 8 then some (Pk.vl a0.data.toList : Int) else none
theorem pack_number.calls (a0 : ByteArray) (r : Int) (w : World) (h : pack_number.f a0 = some r) :
    Calls Try.prog 75 #[.string a0] w fun e w' => e = .returned (.int .u64 r) ∧ Drawn0 w w' := by
  unfold pack_number.f at h
  split at h
  case isFalse => cases h
  case isTrue hl =>
  injection h with h
  subst h
  exact (number_c a0 hl w).mono fun e w' q => ⟨q.1, by rw [q.2]; exact Drawn0.refl _⟩
def sacristankit_CopyInts.f (l0 : List Int) : Option (List Int) := if l0.length < 17592186044416 then some l0 else none
theorem sacristankit_CopyInts.calls (A0 : Option Addr) (c0 : Nat) (l0 : List Int) (r : List Int) (w : World) (hr0 : Kd.C (Kd.int .i64) w A0 l0.length l0) (hc0 : l0.length ≤ c0) (h : sacristankit_CopyInts.f l0 = some r) :
    Calls Try.prog 45 #[.slice A0 l0.length c0] w fun e w' => ∃ v0_ : Value, e = .returned (v0_) ∧ Kd.R (Kd.int .i64) 3 w' w.heap.size (fun _ => True) v0_ r ∧ Below w.heap.size w w' := by
  unfold sacristankit_CopyInts.f at h
  split at h
  case isFalse => cases h
  case isTrue hl =>
  injection h with h
  subst h
  go_enter Try.func45, Try.ntmps45
  go_wp2_with (at_builtin; refine Kd.R_append_row (Value.int .i64) (0 : Int) w.heap.size rfl _ _ 24 3 (.int .i64 0) 8 rfl Try.underlying24 info_int3 rfl (by decide) _ [] l0 A0 _ c0 (fun _ => True) rfl rfl (fun _ _ => trivial) (Kd.R_nil _ _ _ _ _) hr0 (Below.refl _ _) (Nat.le_refl _) (by simp; omega) ?_; intro v1 w1 hR hB hg hat)
  go_returns
  exact ⟨_, rfl, hR, hB⟩
def spec_Config.f (c0 c1 c2 c3 c4 c5 c6 c7 c8 c9 c10 : Int) : Option Int := some (errI (cfgB c0 c1 c2 c3 c4 c5 c6 c7 c8 c9 c10))
theorem spec_Config.calls (c0 c1 c2 c3 c4 c5 c6 c7 c8 c9 c10 : Int) (r : Int) (w : World) (h : spec_Config.f c0 c1 c2 c3 c4 c5 c6 c7 c8 c9 c10 = some r) :
    Calls Try.prog 13 #[.agg #[.int .i64 c0, .int .i64 c1, .int .i64 c2, .int .i64 c3, .int .i64 c4, .int .i64 c5, .int .i64 c6, .int .i64 c7, .int .i64 c8, .int .i64 c9, .int .i64 c10]] w fun e w' => e = .returned (.int .i64 r) ∧ Below w.heap.size w w' := by
  injection h with h
  subst h
  exact config_c _ _ _ _ _ _ _ _ _ _ _ _
def sacristanref13_Config.f (a0_0 a0_1 a0_2 a0_3 a0_4 a0_5 a0_6 a0_7 a0_8 a0_9 a0_10 : Int) : Option Int := some (errI (cfgB a0_0 a0_1 a0_2 a0_3 a0_4 a0_5 a0_6 a0_7 a0_8 a0_9 a0_10))
theorem sacristanref13_Config.calls (a0_0 a0_1 a0_2 a0_3 a0_4 a0_5 a0_6 a0_7 a0_8 a0_9 a0_10 : Int) (r : Int) (w : World) (h : sacristanref13_Config.f a0_0 a0_1 a0_2 a0_3 a0_4 a0_5 a0_6 a0_7 a0_8 a0_9 a0_10 = some r) :
    Calls Try.prog 14 #[.agg #[.int .i64 a0_0, .int .i64 a0_1, .int .i64 a0_2, .int .i64 a0_3, .int .i64 a0_4, .int .i64 a0_5, .int .i64 a0_6, .int .i64 a0_7, .int .i64 a0_8, .int .i64 a0_9, .int .i64 a0_10]] w fun e w' => e = .returned (.int .i64 r) ∧ Below w.heap.size w w' := by
  injection h with h
  subst h
  exact rconfig_c a0_0 a0_1 a0_2 a0_3 a0_4 a0_5 a0_6 a0_7 a0_8 a0_9 a0_10 _
def slices_Clone_int_int.f (l0 : List Int) : Option (List Int) := if l0.length < 17592186044416 then some l0 else none
set_option maxHeartbeats 1000000 in
theorem slices_Clone_int_int.calls (A0 : Option Addr) (c0 : Nat) (l0 : List Int) (r : List Int) (w : World) (hr0 : Kd.C (Kd.int .i64) w A0 l0.length l0) (hc0 : l0.length ≤ c0) (h : slices_Clone_int_int.f l0 = some r) :
    Calls Try.prog 61 #[.slice A0 l0.length c0] w fun e w' => ∃ v0_ : Value, e = .returned (v0_) ∧ Kd.R (Kd.int .i64) 3 w' w.heap.size (fun _ => True) v0_ r ∧ Below w.heap.size w w' := by
  unfold slices_Clone_int_int.f at h
  split at h
  case isFalse => cases h
  case isTrue hl =>
  injection h with h
  subst h
  cases A0 with
  | none =>
    obtain rfl : l0 = [] := by
      rcases Nat.eq_zero_or_pos l0.length with h0 | h0
      · exact List.eq_nil_of_length_eq_zero h0
      · obtain ⟨ad, e, _⟩ := (Kd.reads_of_C (d := (0 : Int)) hr0).2.2 h0; cases e
    clear hr0 hl
    have hq := fun (W : World) (a : Option Addr) (l c : Nat) => @Go.run_eql_slice_nil Try.prog W 24 3 a l c Try.underlying24
    go_enter Try.func61, Try.ntmps61
    go_wp2
    go_returns
    exact ⟨_, rfl, Kd.R_nil _ _ _ _ _, by go_grown⟩
  | some ad =>
    have HC := Lib.hid hr0
    clear hr0
    have hq := fun (W : World) (a : Option Addr) (l c : Nat) => @Go.run_eql_slice_nil Try.prog W 24 3 a l c Try.underlying24
    go_enter Try.func61, Try.ntmps61
    go_wp2_with (at_builtin; (refine Kd.R_append_row (Value.int .i64) (0 : Int) w.heap.size rfl _ _ 24 3 (.int .i64 0) 8 rfl Try.underlying24 info_int3 rfl (by decide) (.slice (some ⟨w.heap.size, 0, none⟩) 0 0) [] l0 (some ad) _ c0 (fun _ => True) rfl rfl (fun _ _ => trivial) (Kd.R_of_own (xs := []) (World.ownsRow_lit w #[] 0 (Nat.le_refl _) (by decide) rfl) (fun _ _ => trivial)) (Kd.C_alloc HC.out _) (by go_grown) (by simp) (by simp; omega) ?_); intro v1 w1 hR hB hg hat; clear hg hat)
    go_returns
    exact ⟨_, rfl, by rw [List.nil_append] at hR; exact hR, (below_alloc (Below.refl _ _) _).trans hB⟩
end Go.Proofs.YtldpmeaibkpojaaR.Ext
