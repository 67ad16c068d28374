/- What an index into an array is. By a program of this session (wip/xprint.py). -/
import Derived.Handy
import Derived.KernelRfl
import Derived.Test.YtcdlfnoagghpmaaProg
namespace Go.Proofs.Ytcdlfnoagghpmaa.Ext
def ax (l : List Int) (i : Int) : Int := l.getD i.toNat 0
def axs (l : List ByteArray) (i : Int) : ByteArray := l.getD i.toNat ByteArray.empty
def axb (l : List Bool) (i : Int) : Bool := l.getD i.toNat false
theorem ix_33 (a0 a1 : Int) (w : World) (j : Int) (h0 : 0 ≤ j) (h1 : j < 2) : (Instr.index 33 (.agg #[.int .i64 a0, .int .i64 a1]) (.int .i64 j)).run Try.prog w = .ok (.int .i64 (ax [a0, a1] j)) w := by
  obtain rfl | rfl : j = 0 ∨ j = 1 := by omega
  all_goals kernel_rfl
theorem ix_46 (a0 a1 a2 : Int) (w : World) (j : Int) (h0 : 0 ≤ j) (h1 : j < 3) : (Instr.index 46 (.agg #[.int .i64 a0, .int .i64 a1, .int .i64 a2]) (.int .i64 j)).run Try.prog w = .ok (.int .i64 (ax [a0, a1, a2] j)) w := by
  obtain rfl | rfl | rfl : j = 0 ∨ j = 1 ∨ j = 2 := by omega
  all_goals kernel_rfl
theorem ix_51 (a0 a1 a2 a3 a4 a5 : Int) (w : World) (j : Int) (h0 : 0 ≤ j) (h1 : j < 6) : (Instr.index 51 (.agg #[.int .i64 a0, .int .i64 a1, .int .i64 a2, .int .i64 a3, .int .i64 a4, .int .i64 a5]) (.int .i64 j)).run Try.prog w = .ok (.int .i64 (ax [a0, a1, a2, a3, a4, a5] j)) w := by
  obtain rfl | rfl | rfl | rfl | rfl | rfl : j = 0 ∨ j = 1 ∨ j = 2 ∨ j = 3 ∨ j = 4 ∨ j = 5 := by omega
  all_goals kernel_rfl
end Go.Proofs.Ytcdlfnoagghpmaa.Ext
