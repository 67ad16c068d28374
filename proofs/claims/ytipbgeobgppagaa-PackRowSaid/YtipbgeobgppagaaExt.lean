/- By hand: the functions that the printer does not take: pack.bytes, window.first, window.Keep, CopyInts. -/
import Derived.Handy
import Derived.KernelRfl
import Derived.Lib.Hide
import Derived.Test.YtipbgeobgppagaaProg
import Derived.Test.YtipbgeobgppagaaPk0
import Derived.Test.YtipbgeobgppagaaBase
import Derived.Test.YtipbgeobgppagaaWWords
import Derived.Test.YtipbgeobgppagaaWLast
import Derived.Test.YtipbgeobgppagaaWMore
namespace Go.Proofs.Ytipbgeobgppagaa.Ext
open Go.RowKit Go.Proofs.YtipbgeobgppagaaW.PrintWords
set_option linter.unusedVariables false
set_option linter.unusedSimpArgs false

/-! ### CopyInts -/
def sacristankit_CopyInts.f (l0 : List Int) : Option (List Int) := if l0.length < 17592186044416 then some l0 else none
theorem info_int : (Try.prog.info? 3).map (fun i => (i.zero, i.size, i.bytes)) = some (some (.int .i64 0), 1, 8) := by kernel_rfl
theorem sacristankit_CopyInts.calls (A0 : Option Addr) (c0 : Nat) (l0 : List Int) (r : List Int) (w : World) (hr0 : Kd.C (Kd.int .i64) w A0 l0.length l0) (hc0 : l0.length ≤ c0) (h : sacristankit_CopyInts.f l0 = some r) :
    Calls Try.prog 15 #[.slice A0 l0.length c0] w fun e w' => ∃ v0_ : Value, e = .returned (v0_) ∧ Kd.R (Kd.int .i64) 3 w' w.heap.size (fun _ => True) v0_ r ∧ Below w.heap.size w w' := by
  unfold sacristankit_CopyInts.f at h
  split at h
  case isFalse => cases h
  case isTrue hl =>
  injection h with h
  subst h
  have hi := info_int
  go_enter Try.func15, Try.ntmps15
  go_wp2_with (at_builtin; refine Kd.R_append_row (Value.int .i64) (0 : Int) w.heap.size rfl _ _ 22 3 (.int .i64 0) 8 rfl Try.underlying22 info_int rfl (by decide) _ [] l0 A0 _ c0 (fun _ => True) rfl rfl (fun _ _ => trivial) (Kd.R_nil _ _ _ _ _) hr0 (Below.refl _ _) (Nat.le_refl _) (by simp; omega) ?_; intro v1 w1 hR hB hg hat)
  go_returns
  exact ⟨_, rfl, hR, hB⟩

/-! ### window.first -/
/-- How many of the first ones are at most `a`. -/
def upTo (a : Int) : List Int → Nat
  | [] => 0
  | x :: xs => if x ≤ a then upTo a xs + 1 else 0
theorem upTo_le (a : Int) (l : List Int) : upTo a l ≤ l.length := by
  induction l with
  | nil => simp [upTo]
  | cons x xs ih => simp only [upTo]; split <;> simp <;> omega
def window_first.f (l0 : List Int) (a1 : Int) : Option Int := some (upTo a1 l0 : Int)
theorem upTo_drop (a : Int) (l : List Int) (k : Nat) (hk : k < l.length) : upTo a (l.drop k) = if rd l k ≤ a then upTo a (l.drop (k + 1)) + 1 else 0 := by
  rw [List.drop_eq_getElem_cons hk]
  have : rd l k = l[k] := by simp [rd, hk]
  rw [this]
  rfl
set_option maxHeartbeats 1000000 in
theorem window_first.calls (A0 : Option Addr) (c0 : Nat) (l0 : List Int) (a1 : Int) (r : Int) (w : World) (hr0 : Kd.C (Kd.int .i64) w A0 l0.length l0) (hc0 : l0.length ≤ c0) (h : window_first.f l0 a1 = some r) :
    Calls Try.prog 48 #[.slice A0 l0.length c0, .int .i64 a1] w fun e w' => e = .returned (.int .i64 r) ∧ Drawn0 w w' := by
  injection h with h
  subst h
  have hlen : l0.length ≤ 9223372036854775807 := (Kd.reads_of_C (d := (0 : Int)) hr0).2.1
  have H0 := Lib.hid hr0
  clear hr0
  go_enter Try.func48, Try.ntmps48
  go_wp2
  go_step3
  go_wp2
  go_step3
  go_wp2
  go_loop [5] (fun i => ∃ k : Nat, k ≤ l0.length ∧ i = .int .i64 k ∧ Hid (upTo a1 l0 = k + upTo a1 (l0.drop k))) (fun i => l0.length - (intOf i).toNat)
  case atStart => exact ⟨0, Nat.zero_le _, rfl, Lib.hid (by simp)⟩
  case round =>
    obtain ⟨k, hk, rfl, hu⟩ := hrel
    by_cases hlt : k < l0.length
    · obtain ⟨ad, rfl, hc⟩ := (Kd.reads_of_C (d := (0 : Int)) H0.out).2.2 (by omega)
      have hx := hc k hlt
      have hrd : l0.getD k 0 = rd l0 k := by simp [rd]
      have hd := upTo_drop a1 l0 k hlt
      obtain ⟨b, off, sp⟩ := ad
      have hsp := World.cell?_spot hx
      have he : rd l0 k = l0[k] := by simp [rd, hlt]
      have HE := Lib.hid he
      have HD := Lib.hid hd
      clear he hd
      go_wp2
      · have hx1 : a1 < l0[k] := by assumption
        go_returns
        refine ⟨?_, Drawn0.refl _⟩
        rw [hu.out, HD.out, HE.out, if_neg (by omega)]
        simp
      · have hx1 : l0[k] ≤ a1 := by assumption
        refine ⟨⟨k + 1, by omega, by go_num, Lib.hid ?_⟩, by simp [intOf]; omega⟩
        rw [hu.out, HD.out, HE.out, if_pos hx1]
        omega
    · go_wp2
      go_returns
      refine ⟨?_, Drawn0.refl _⟩
      rw [hu.out, List.drop_eq_nil_of_le (by omega)]
      simp [upTo]

/-! ### pack.bytes -/
/-- The last `w` bytes of a number, the greatest first. -/
def beB : Nat → Int → List Int
  | 0, _ => []
  | w + 1, n => beB w (n / 256) ++ [n % 256]
def pack_bytes_uint64.f (a0 a1 : Int) : Option ByteArray := if 0 ≤ a1 ∧ a1 ≤ 8 ∧ 0 ≤ a0 ∧ a0 < 18446744073709551616 then some (strOfNums (beB a1.toNat a0)) else none
theorem bytes_str (a : List Int) (n : Nat) (hn : n ≤ a.length) (ha : a.length = 8) (w : World) :
    (convert 73 9 (.slice (some ⟨w.heap.size, 0, none⟩) n 8)).run Try.prog (w.alloc (.cells (a.map (Value.int .u8)).toArray 77)) = .ok (.string (strOfNums (a.take n))) (w.alloc (.cells (a.map (Value.int .u8)).toArray 77)) := by
  refine string_of_reads (e := 5) Try.underlying73 Try.underlying5 Try.underlying9 ⟨by simp; omega, by omega, fun _ => ⟨_, rfl, fun j hj => ?_⟩⟩
  rw [add_plain, World.cell?_alloc_new]
  have hj' : j < a.length := by omega
  simp [hj, hj', List.getElem?_eq_getElem]
set_option maxHeartbeats 4000000 in
theorem bytes_0 (a0 : Int) (w : World) (h0 : 0 ≤ a0) (h1 : a0 < 18446744073709551616) :
    Calls Try.prog 51 #[.int .u64 a0, .int .i64 0] w fun e w' => e = .returned (.string (strOfNums (beB 0 a0))) ∧ Below w.heap.size w w' := by
  have hc : (convert 73 9 (.slice (some ⟨w.heap.size, 0, none⟩) 0 8)).run Try.prog (w.alloc (.cells #[.int .u8 0, .int .u8 0, .int .u8 0, .int .u8 0, .int .u8 0, .int .u8 0, .int .u8 0, .int .u8 0] 77)) = .ok (.string (strOfNums (beB 0 a0))) (w.alloc (.cells #[.int .u8 0, .int .u8 0, .int .u8 0, .int .u8 0, .int .u8 0, .int .u8 0, .int .u8 0, .int .u8 0] 77)) := bytes_str [0, 0, 0, 0, 0, 0, 0, 0] 0 (by simp) rfl w
  go_enter Try.func51, Try.ntmps51
  go_wp2
  refine wp_loop_rounds 9 ?_
  repeat any_goals (rw [rounds_succ]; go_wp2_with fail)
  go_wp2
  go_returns
  exact ⟨rfl, by go_grown⟩
set_option maxHeartbeats 4000000 in
theorem bytes_1 (a0 : Int) (w : World) (h0 : 0 ≤ a0) (h1 : a0 < 18446744073709551616) :
    Calls Try.prog 51 #[.int .u64 a0, .int .i64 1] w fun e w' => e = .returned (.string (strOfNums (beB 1 a0))) ∧ Below w.heap.size w w' := by
  have hc : (convert 73 9 (.slice (some ⟨w.heap.size, 0, none⟩) 1 8)).run Try.prog (w.alloc (.cells #[.int .u8 (a0 % 256), .int .u8 0, .int .u8 0, .int .u8 0, .int .u8 0, .int .u8 0, .int .u8 0, .int .u8 0] 77)) = .ok (.string (strOfNums (beB 1 a0))) (w.alloc (.cells #[.int .u8 (a0 % 256), .int .u8 0, .int .u8 0, .int .u8 0, .int .u8 0, .int .u8 0, .int .u8 0, .int .u8 0] 77)) := bytes_str [a0 % 256, 0, 0, 0, 0, 0, 0, 0] 1 (by simp) rfl w
  go_enter Try.func51, Try.ntmps51
  go_wp2
  refine wp_loop_rounds 9 ?_
  repeat any_goals (rw [rounds_succ]; go_wp2_with fail)
  go_wp2
  go_returns
  exact ⟨rfl, by go_grown⟩
set_option maxHeartbeats 4000000 in
theorem bytes_2 (a0 : Int) (w : World) (h0 : 0 ≤ a0) (h1 : a0 < 18446744073709551616) :
    Calls Try.prog 51 #[.int .u64 a0, .int .i64 2] w fun e w' => e = .returned (.string (strOfNums (beB 2 a0))) ∧ Below w.heap.size w w' := by
  have hc : (convert 73 9 (.slice (some ⟨w.heap.size, 0, none⟩) 2 8)).run Try.prog (w.alloc (.cells #[.int .u8 (a0 / 256 % 256), .int .u8 (a0 % 256), .int .u8 0, .int .u8 0, .int .u8 0, .int .u8 0, .int .u8 0, .int .u8 0] 77)) = .ok (.string (strOfNums (beB 2 a0))) (w.alloc (.cells #[.int .u8 (a0 / 256 % 256), .int .u8 (a0 % 256), .int .u8 0, .int .u8 0, .int .u8 0, .int .u8 0, .int .u8 0, .int .u8 0] 77)) := bytes_str [a0 / 256 % 256, a0 % 256, 0, 0, 0, 0, 0, 0] 2 (by simp) rfl w
  go_enter Try.func51, Try.ntmps51
  go_wp2
  refine wp_loop_rounds 9 ?_
  repeat any_goals (rw [rounds_succ]; go_wp2_with fail)
  go_wp2
  go_returns
  exact ⟨rfl, by go_grown⟩
set_option maxHeartbeats 4000000 in
theorem bytes_3 (a0 : Int) (w : World) (h0 : 0 ≤ a0) (h1 : a0 < 18446744073709551616) :
    Calls Try.prog 51 #[.int .u64 a0, .int .i64 3] w fun e w' => e = .returned (.string (strOfNums (beB 3 a0))) ∧ Below w.heap.size w w' := by
  have hc : (convert 73 9 (.slice (some ⟨w.heap.size, 0, none⟩) 3 8)).run Try.prog (w.alloc (.cells #[.int .u8 (a0 / 256 / 256 % 256), .int .u8 (a0 / 256 % 256), .int .u8 (a0 % 256), .int .u8 0, .int .u8 0, .int .u8 0, .int .u8 0, .int .u8 0] 77)) = .ok (.string (strOfNums (beB 3 a0))) (w.alloc (.cells #[.int .u8 (a0 / 256 / 256 % 256), .int .u8 (a0 / 256 % 256), .int .u8 (a0 % 256), .int .u8 0, .int .u8 0, .int .u8 0, .int .u8 0, .int .u8 0] 77)) := bytes_str [a0 / 256 / 256 % 256, a0 / 256 % 256, a0 % 256, 0, 0, 0, 0, 0] 3 (by simp) rfl w
  go_enter Try.func51, Try.ntmps51
  go_wp2
  refine wp_loop_rounds 9 ?_
  repeat any_goals (rw [rounds_succ]; go_wp2_with fail)
  go_wp2
  go_returns
  exact ⟨rfl, by go_grown⟩
set_option maxHeartbeats 4000000 in
theorem bytes_4 (a0 : Int) (w : World) (h0 : 0 ≤ a0) (h1 : a0 < 18446744073709551616) :
    Calls Try.prog 51 #[.int .u64 a0, .int .i64 4] w fun e w' => e = .returned (.string (strOfNums (beB 4 a0))) ∧ Below w.heap.size w w' := by
  have hc : (convert 73 9 (.slice (some ⟨w.heap.size, 0, none⟩) 4 8)).run Try.prog (w.alloc (.cells #[.int .u8 (a0 / 256 / 256 / 256 % 256), .int .u8 (a0 / 256 / 256 % 256), .int .u8 (a0 / 256 % 256), .int .u8 (a0 % 256), .int .u8 0, .int .u8 0, .int .u8 0, .int .u8 0] 77)) = .ok (.string (strOfNums (beB 4 a0))) (w.alloc (.cells #[.int .u8 (a0 / 256 / 256 / 256 % 256), .int .u8 (a0 / 256 / 256 % 256), .int .u8 (a0 / 256 % 256), .int .u8 (a0 % 256), .int .u8 0, .int .u8 0, .int .u8 0, .int .u8 0] 77)) := bytes_str [a0 / 256 / 256 / 256 % 256, a0 / 256 / 256 % 256, a0 / 256 % 256, a0 % 256, 0, 0, 0, 0] 4 (by simp) rfl w
  go_enter Try.func51, Try.ntmps51
  go_wp2
  refine wp_loop_rounds 9 ?_
  repeat any_goals (rw [rounds_succ]; go_wp2_with fail)
  go_wp2
  go_returns
  exact ⟨rfl, by go_grown⟩
set_option maxHeartbeats 4000000 in
theorem bytes_5 (a0 : Int) (w : World) (h0 : 0 ≤ a0) (h1 : a0 < 18446744073709551616) :
    Calls Try.prog 51 #[.int .u64 a0, .int .i64 5] w fun e w' => e = .returned (.string (strOfNums (beB 5 a0))) ∧ Below w.heap.size w w' := by
  have hc : (convert 73 9 (.slice (some ⟨w.heap.size, 0, none⟩) 5 8)).run Try.prog (w.alloc (.cells #[.int .u8 (a0 / 256 / 256 / 256 / 256 % 256), .int .u8 (a0 / 256 / 256 / 256 % 256), .int .u8 (a0 / 256 / 256 % 256), .int .u8 (a0 / 256 % 256), .int .u8 (a0 % 256), .int .u8 0, .int .u8 0, .int .u8 0] 77)) = .ok (.string (strOfNums (beB 5 a0))) (w.alloc (.cells #[.int .u8 (a0 / 256 / 256 / 256 / 256 % 256), .int .u8 (a0 / 256 / 256 / 256 % 256), .int .u8 (a0 / 256 / 256 % 256), .int .u8 (a0 / 256 % 256), .int .u8 (a0 % 256), .int .u8 0, .int .u8 0, .int .u8 0] 77)) := bytes_str [a0 / 256 / 256 / 256 / 256 % 256, a0 / 256 / 256 / 256 % 256, a0 / 256 / 256 % 256, a0 / 256 % 256, a0 % 256, 0, 0, 0] 5 (by simp) rfl w
  go_enter Try.func51, Try.ntmps51
  go_wp2
  refine wp_loop_rounds 9 ?_
  repeat any_goals (rw [rounds_succ]; go_wp2_with fail)
  go_wp2
  go_returns
  exact ⟨rfl, by go_grown⟩
set_option maxHeartbeats 4000000 in
theorem bytes_6 (a0 : Int) (w : World) (h0 : 0 ≤ a0) (h1 : a0 < 18446744073709551616) :
    Calls Try.prog 51 #[.int .u64 a0, .int .i64 6] w fun e w' => e = .returned (.string (strOfNums (beB 6 a0))) ∧ Below w.heap.size w w' := by
  have hc : (convert 73 9 (.slice (some ⟨w.heap.size, 0, none⟩) 6 8)).run Try.prog (w.alloc (.cells #[.int .u8 (a0 / 256 / 256 / 256 / 256 / 256 % 256), .int .u8 (a0 / 256 / 256 / 256 / 256 % 256), .int .u8 (a0 / 256 / 256 / 256 % 256), .int .u8 (a0 / 256 / 256 % 256), .int .u8 (a0 / 256 % 256), .int .u8 (a0 % 256), .int .u8 0, .int .u8 0] 77)) = .ok (.string (strOfNums (beB 6 a0))) (w.alloc (.cells #[.int .u8 (a0 / 256 / 256 / 256 / 256 / 256 % 256), .int .u8 (a0 / 256 / 256 / 256 / 256 % 256), .int .u8 (a0 / 256 / 256 / 256 % 256), .int .u8 (a0 / 256 / 256 % 256), .int .u8 (a0 / 256 % 256), .int .u8 (a0 % 256), .int .u8 0, .int .u8 0] 77)) := bytes_str [a0 / 256 / 256 / 256 / 256 / 256 % 256, a0 / 256 / 256 / 256 / 256 % 256, a0 / 256 / 256 / 256 % 256, a0 / 256 / 256 % 256, a0 / 256 % 256, a0 % 256, 0, 0] 6 (by simp) rfl w
  go_enter Try.func51, Try.ntmps51
  go_wp2
  refine wp_loop_rounds 9 ?_
  repeat any_goals (rw [rounds_succ]; go_wp2_with fail)
  go_wp2
  go_returns
  exact ⟨rfl, by go_grown⟩
set_option maxHeartbeats 4000000 in
theorem bytes_7 (a0 : Int) (w : World) (h0 : 0 ≤ a0) (h1 : a0 < 18446744073709551616) :
    Calls Try.prog 51 #[.int .u64 a0, .int .i64 7] w fun e w' => e = .returned (.string (strOfNums (beB 7 a0))) ∧ Below w.heap.size w w' := by
  have hc : (convert 73 9 (.slice (some ⟨w.heap.size, 0, none⟩) 7 8)).run Try.prog (w.alloc (.cells #[.int .u8 (a0 / 256 / 256 / 256 / 256 / 256 / 256 % 256), .int .u8 (a0 / 256 / 256 / 256 / 256 / 256 % 256), .int .u8 (a0 / 256 / 256 / 256 / 256 % 256), .int .u8 (a0 / 256 / 256 / 256 % 256), .int .u8 (a0 / 256 / 256 % 256), .int .u8 (a0 / 256 % 256), .int .u8 (a0 % 256), .int .u8 0] 77)) = .ok (.string (strOfNums (beB 7 a0))) (w.alloc (.cells #[.int .u8 (a0 / 256 / 256 / 256 / 256 / 256 / 256 % 256), .int .u8 (a0 / 256 / 256 / 256 / 256 / 256 % 256), .int .u8 (a0 / 256 / 256 / 256 / 256 % 256), .int .u8 (a0 / 256 / 256 / 256 % 256), .int .u8 (a0 / 256 / 256 % 256), .int .u8 (a0 / 256 % 256), .int .u8 (a0 % 256), .int .u8 0] 77)) := bytes_str [a0 / 256 / 256 / 256 / 256 / 256 / 256 % 256, a0 / 256 / 256 / 256 / 256 / 256 % 256, a0 / 256 / 256 / 256 / 256 % 256, a0 / 256 / 256 / 256 % 256, a0 / 256 / 256 % 256, a0 / 256 % 256, a0 % 256, 0] 7 (by simp) rfl w
  go_enter Try.func51, Try.ntmps51
  go_wp2
  refine wp_loop_rounds 9 ?_
  repeat any_goals (rw [rounds_succ]; go_wp2_with fail)
  go_wp2
  go_returns
  exact ⟨rfl, by go_grown⟩
set_option maxHeartbeats 4000000 in
theorem bytes_8 (a0 : Int) (w : World) (h0 : 0 ≤ a0) (h1 : a0 < 18446744073709551616) :
    Calls Try.prog 51 #[.int .u64 a0, .int .i64 8] w fun e w' => e = .returned (.string (strOfNums (beB 8 a0))) ∧ Below w.heap.size w w' := by
  have he : a0 / 256 / 256 / 256 / 256 / 256 / 256 / 256 % 256 = a0 / 256 / 256 / 256 / 256 / 256 / 256 / 256 := by omega
  have hb : beB 8 a0 = [a0 / 256 / 256 / 256 / 256 / 256 / 256 / 256, a0 / 256 / 256 / 256 / 256 / 256 / 256 % 256, a0 / 256 / 256 / 256 / 256 / 256 % 256, a0 / 256 / 256 / 256 / 256 % 256, a0 / 256 / 256 / 256 % 256, a0 / 256 / 256 % 256, a0 / 256 % 256, a0 % 256] := by
    have : beB 8 a0 = [a0 / 256 / 256 / 256 / 256 / 256 / 256 / 256 % 256, a0 / 256 / 256 / 256 / 256 / 256 / 256 % 256, a0 / 256 / 256 / 256 / 256 / 256 % 256, a0 / 256 / 256 / 256 / 256 % 256, a0 / 256 / 256 / 256 % 256, a0 / 256 / 256 % 256, a0 / 256 % 256, a0 % 256] := rfl
    rw [this, he]
  have hc : (convert 73 9 (.slice (some ⟨w.heap.size, 0, none⟩) 8 8)).run Try.prog (w.alloc (.cells #[.int .u8 (a0 / 256 / 256 / 256 / 256 / 256 / 256 / 256), .int .u8 (a0 / 256 / 256 / 256 / 256 / 256 / 256 % 256), .int .u8 (a0 / 256 / 256 / 256 / 256 / 256 % 256), .int .u8 (a0 / 256 / 256 / 256 / 256 % 256), .int .u8 (a0 / 256 / 256 / 256 % 256), .int .u8 (a0 / 256 / 256 % 256), .int .u8 (a0 / 256 % 256), .int .u8 (a0 % 256)] 77)) = .ok (.string (strOfNums (beB 8 a0))) (w.alloc (.cells #[.int .u8 (a0 / 256 / 256 / 256 / 256 / 256 / 256 / 256), .int .u8 (a0 / 256 / 256 / 256 / 256 / 256 / 256 % 256), .int .u8 (a0 / 256 / 256 / 256 / 256 / 256 % 256), .int .u8 (a0 / 256 / 256 / 256 / 256 % 256), .int .u8 (a0 / 256 / 256 / 256 % 256), .int .u8 (a0 / 256 / 256 % 256), .int .u8 (a0 / 256 % 256), .int .u8 (a0 % 256)] 77)) := by
    rw [hb]; exact bytes_str [a0 / 256 / 256 / 256 / 256 / 256 / 256 / 256, a0 / 256 / 256 / 256 / 256 / 256 / 256 % 256, a0 / 256 / 256 / 256 / 256 / 256 % 256, a0 / 256 / 256 / 256 / 256 % 256, a0 / 256 / 256 / 256 % 256, a0 / 256 / 256 % 256, a0 / 256 % 256, a0 % 256] 8 (by simp) rfl w
  clear hb he
  go_enter Try.func51, Try.ntmps51
  go_wp2
  refine wp_loop_rounds 9 ?_
  repeat any_goals (rw [rounds_succ]; go_wp2_with fail)
  go_wp2
  go_returns
  exact ⟨rfl, by go_grown⟩
theorem pack_bytes_uint64.calls (a0 : Int) (a1 : Int) (r : ByteArray) (w : World) (h : pack_bytes_uint64.f a0 a1 = some r) :
    Calls Try.prog 51 #[.int .u64 a0, .int .i64 a1] w fun e w' => e = .returned (.string r) ∧ Below w.heap.size w w' := by
  unfold pack_bytes_uint64.f at h
  split at h
  case isFalse => cases h
  case isTrue hh =>
  injection h with h
  subst h
  obtain ⟨h0, h8, hn, hm⟩ := hh
  obtain ⟨k, rfl⟩ := Int.eq_ofNat_of_zero_le h0
  have hk : k = 0 ∨ k = 1 ∨ k = 2 ∨ k = 3 ∨ k = 4 ∨ k = 5 ∨ k = 6 ∨ k = 7 ∨ k = 8 := by omega
  rcases hk with rfl | rfl | rfl | rfl | rfl | rfl | rfl | rfl | rfl
  · exact bytes_0 a0 w hn hm
  · exact bytes_1 a0 w hn hm
  · exact bytes_2 a0 w hn hm
  · exact bytes_3 a0 w hn hm
  · exact bytes_4 a0 w hn hm
  · exact bytes_5 a0 w hn hm
  · exact bytes_6 a0 w hn hm
  · exact bytes_7 a0 w hn hm
  · exact bytes_8 a0 w hn hm

/-! ### pack.least -/
def pack_least.f (a0 : Int) : Option Int := if 0 ≤ a0 ∧ a0 < 18446744073709551616 then some (Pk.lw a0.toNat : Int) else none
set_option maxHeartbeats 1000000 in
theorem least_c (n : Nat) (hn : n < 18446744073709551616) (w : World) : Calls Try.prog 50 #[.int .u64 n] w fun e w' => e = .returned (.int .i64 (Pk.lw n)) ∧ w = w' := by
  have h8 := Pk.lw_le_8 hn
  go_enter Try.func50, Try.ntmps50
  go_wp2
  go_loop [0, 3] (fun v c => ∃ (m j : Nat), v = .int .u64 m ∧ c = .int .i64 j ∧ m < 18446744073709551616 ∧ Hid (Pk.lw n = j + Pk.lw m)) (fun v _ => (intOf v).toNat)
  case atStart => exact ⟨n, 0, rfl, rfl, hn, Lib.hid (by omega)⟩
  case round =>
    obtain ⟨m, j, rfl, rfl, hm, hu⟩ := hrel
    by_cases h0 : m = 0
    · subst h0
      go_wp2
      go_returns
      refine ⟨ret_int ?_, rfl⟩
      have := hu.out
      rw [Pk.lw_zero] at this
      omega
    · have hj : j ≤ 8 := by have := hu.out; omega
      have h1 : 0 < m := by omega
      clear h0
      go_wp2
      refine ⟨⟨m / 256, j + 1, by simp, by go_num, by omega, Lib.hid ?_⟩, by show ((m : Int) / 256).toNat < (m : Int).toNat; omega⟩
      have := hu.out
      rw [Pk.lw_pos (n := m) (by omega)] at this
      omega
theorem pack_least.calls (a0 : Int) (r : Int) (w : World) (h : pack_least.f a0 = some r) :
    Calls Try.prog 50 #[.int .u64 a0] w fun e w' => e = .returned (.int .i64 r) ∧ Drawn0 w w' := by
  unfold pack_least.f at h
  split at h
  case isFalse => cases h
  case isTrue hh =>
  injection h with h
  subst h
  obtain ⟨n, rfl⟩ := Int.eq_ofNat_of_zero_le hh.1
  refine (least_c n (by omega) w).mono ?_
  rintro e w' ⟨rfl, rfl⟩
  exact ⟨by simp, Drawn0.refl _⟩

/-! ### pack.Var -/
def mkB (l : List UInt8) : ByteArray := ⟨l.toArray⟩
theorem beB_eq (w n : Nat) : strOfNums (beB w n) = mkB (Pk.be w n) := by
  have : ∀ n : Nat, (beB w n).map (fun x => UInt8.ofNat x.toNat) = Pk.be w n := by
    induction w with
    | zero => intro n; rfl
    | succ w ih =>
      intro n
      rw [beB, List.map_append, Pk.be]
      have := ih (n / 256)
      rw [show ((n : Int) / 256) = ((n / 256 : Nat) : Int) by omega, this]
      congr 1
  simp only [strOfNums, mkB, this]
def pack_Var.f (a0 : Int) : Option ByteArray := if 0 ≤ a0 ∧ a0 < 18446744073709551616 then some (mkB (Pk.varL a0.toNat)) else none
theorem conv_one (x : Int) (W : World) (B : Nat) (hc : W.cell? ⟨B, 0, none⟩ = some (.int .u8 x)) :
    (convert 73 9 (.slice (some ⟨B, 0, none⟩) 1 1)).run Try.prog W = .ok (.string (strOfNums [x])) W := by
  refine string_of_reads (e := 5) Try.underlying73 Try.underlying5 Try.underlying9 ⟨rfl, by omega, fun _ => ⟨_, rfl, fun j hj => ?_⟩⟩
  obtain rfl : j = 0 := by omega
  rw [add_plain]
  exact hc
set_option maxHeartbeats 2000000 in
theorem var_c (n : Nat) (hn : n < 18446744073709551616) (w : World) : Calls Try.prog 27 #[.int .u64 n] w fun e w' => e = .returned (.string (mkB (Pk.varL n))) ∧ Below w.heap.size w w' := by
  have h8 := Pk.lw_le_8 hn
  by_cases hs : n < 248
  · have hconv := conv_one (n : Int)
    have hv : mkB (Pk.varL n) = strOfNums [(n : Int)] := by simp [Pk.varL, hs, mkB, strOfNums]
    rw [hv]
    clear hv hn h8
    have hsI : (n : Int) < 248 := by omega
    clear hs
    go_enter Try.func27, Try.ntmps27
    go_wp2
    go_returns
    exact ⟨rfl, by go_grown⟩
  · have hconv := conv_one (IntKind.u8.wrap (IntKind.i64.wrap (247 + (Pk.lw n : Int))))
    have hbytes : ∀ W : World, Calls Try.prog 51 #[.int .u64 n, .int .i64 (Pk.lw n)] W fun e w' => e = .returned (.string (strOfNums (beB (Pk.lw n) n))) ∧ Below W.heap.size W w' := fun W =>
      pack_bytes_uint64.calls (n : Int) (Pk.lw n : Int) (strOfNums (beB (Pk.lw n) n)) W (by unfold pack_bytes_uint64.f; rw [if_pos ⟨by omega, by omega, by omega, by omega⟩]; simp)
    have hsz : (strOfNums [IntKind.u8.wrap (IntKind.i64.wrap (247 + (Pk.lw n : Int)))]).size + (strOfNums (beB (Pk.lw n) n)).size ≤ 9223372036854775807 := by
      rw [beB_eq, strOfNums_size]
      have : (mkB (Pk.be (Pk.lw n) n)).size = Pk.lw n := by simp [mkB, ByteArray.size, Pk.be_length]
      rw [this]
      simp
      omega
    have hfin : strOfNums [IntKind.u8.wrap (IntKind.i64.wrap (247 + (Pk.lw n : Int)))] ++ strOfNums (beB (Pk.lw n) n) = mkB (Pk.varL n) := by
      have e : IntKind.u8.wrap (IntKind.i64.wrap (247 + (Pk.lw n : Int))) = 247 + (Pk.lw n : Int) := by
        rw [IntWalk.i64_in _ (by omega), IntKind.wrap_u8]
        omega
      have e2 : UInt8.ofNat (247 + (Pk.lw n : Int)).toNat = UInt8.ofNat (247 + Pk.lw n) := by congr 1
      rw [beB_eq, e, Pk.varL, if_neg hs]
      apply ByteArray.ext
      simp [strOfNums, mkB, ByteArray.data_append, e2]
    have HF := Lib.hid hfin
    clear hfin
    have hz1 := eq_true hsz
    have hz2 := eq_false (Nat.not_lt.2 hsz)
    have hz3 := decide_eq_true hsz
    clear hsz
    have HN := Lib.hid hn
    have HB := Lib.hid hbytes
    clear hn hbytes
    have hsI : ¬ (n : Int) < 248 := by omega
    have h8I : (Pk.lw n : Int) ≤ 8 := by omega
    clear hs h8
    go_enter Try.func27, Try.ntmps27
    go_wp2_with fail
    refine (least_c n HN.out _).mono ?_
    rintro e w1 ⟨rfl, rfl⟩
    go_wp2_with fail
    go_region_with (first | (go_at_call 51; refine (HB.out _).mono ?_; rintro e w2 ⟨rfl, hb⟩; have hB := below_then (w := w) (by go_grown) hb; obtain ⟨hc2, hf2⟩ := bcell hb; have hs2 := hB.size))
    all_goals go_wp2
    all_goals go_returns
    all_goals exact ⟨congrArg (fun s => Ending.returned (Value.string s)) HF.out, by go_grown⟩
theorem pack_Var.calls (a0 : Int) (r : ByteArray) (w : World) (h : pack_Var.f a0 = some r) :
    Calls Try.prog 27 #[.int .u64 a0] w fun e w' => e = .returned (.string r) ∧ Below w.heap.size w w' := by
  unfold pack_Var.f at h
  split at h
  case isFalse => cases h
  case isTrue hh =>
  injection h with h
  subst h
  obtain ⟨n, rfl⟩ := Int.eq_ofNat_of_zero_le hh.1
  exact var_c n (by omega) w
end Go.Proofs.Ytipbgeobgppagaa.Ext
