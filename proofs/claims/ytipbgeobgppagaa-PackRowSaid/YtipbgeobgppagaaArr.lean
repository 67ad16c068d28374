/- What an index into an array is. By a program of this session (wip/xprint.py). -/
import Derived.Handy
import Derived.KernelRfl
import Derived.Test.YtipbgeobgppagaaProg
namespace Go.Proofs.Ytipbgeobgppagaa.Ext
def ax (l : List Int) (i : Int) : Int := l.getD i.toNat 0
def axs (l : List ByteArray) (i : Int) : ByteArray := l.getD i.toNat ByteArray.empty
def axb (l : List Bool) (i : Int) : Bool := l.getD i.toNat false
theorem ix_35 (a0 a1 a2 a3 a4 a5 : Int) (w : World) (j : Int) (h0 : 0 ≤ j) (h1 : j < 6) : (Instr.index 35 (.agg #[.int .i64 a0, .int .i64 a1, .int .i64 a2, .int .i64 a3, .int .i64 a4, .int .i64 a5]) (.int .i64 j)).run Try.prog w = .ok (.int .i64 (ax [a0, a1, a2, a3, a4, a5] j)) w := by
  obtain rfl | rfl | rfl | rfl | rfl | rfl : j = 0 ∨ j = 1 ∨ j = 2 ∨ j = 3 ∨ j = 4 ∨ j = 5 := by omega
  all_goals kernel_rfl
theorem ix_37 (a0 a1 a2 : Int) (w : World) (j : Int) (h0 : 0 ≤ j) (h1 : j < 3) : (Instr.index 37 (.agg #[.int .i64 a0, .int .i64 a1, .int .i64 a2]) (.int .i64 j)).run Try.prog w = .ok (.int .i64 (ax [a0, a1, a2] j)) w := by
  obtain rfl | rfl | rfl : j = 0 ∨ j = 1 ∨ j = 2 := by omega
  all_goals kernel_rfl
theorem ix_38 (a0 a1 : Int) (w : World) (j : Int) (h0 : 0 ≤ j) (h1 : j < 2) : (Instr.index 38 (.agg #[.int .i64 a0, .int .i64 a1]) (.int .i64 j)).run Try.prog w = .ok (.int .i64 (ax [a0, a1] j)) w := by
  obtain rfl | rfl : j = 0 ∨ j = 1 := by omega
  all_goals kernel_rfl
theorem ix_60 (a0 a1 a2 : ByteArray) (w : World) (j : Int) (h0 : 0 ≤ j) (h1 : j < 3) : (Instr.index 60 (.agg #[.string a0, .string a1, .string a2]) (.int .i64 j)).run Try.prog w = .ok (.string (axs [a0, a1, a2] j)) w := by
  obtain rfl | rfl | rfl : j = 0 ∨ j = 1 ∨ j = 2 := by omega
  all_goals kernel_rfl
theorem ix_77 (a0 a1 a2 a3 a4 a5 a6 a7 : Int) (w : World) (j : Int) (h0 : 0 ≤ j) (h1 : j < 8) : (Instr.index 77 (.agg #[.int .u8 a0, .int .u8 a1, .int .u8 a2, .int .u8 a3, .int .u8 a4, .int .u8 a5, .int .u8 a6, .int .u8 a7]) (.int .i64 j)).run Try.prog w = .ok (.int .u8 (ax [a0, a1, a2, a3, a4, a5, a6, a7] j)) w := by
  obtain rfl | rfl | rfl | rfl | rfl | rfl | rfl | rfl : j = 0 ∨ j = 1 ∨ j = 2 ∨ j = 3 ∨ j = 4 ∨ j = 5 ∨ j = 6 ∨ j = 7 := by omega
  all_goals kernel_rfl
end Go.Proofs.Ytipbgeobgppagaa.Ext
