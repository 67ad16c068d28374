/- What an index into an array is. By a program of this session (wip/xprint.py). -/
import Derived.Handy
import Derived.KernelRfl
import Derived.Test.YtccehechhdndmaaProg
namespace Go.Proofs.Ytccehechhdndmaa.Ext
def ax (l : List Int) (i : Int) : Int := l.getD i.toNat 0
def axs (l : List ByteArray) (i : Int) : ByteArray := l.getD i.toNat ByteArray.empty
def axb (l : List Bool) (i : Int) : Bool := l.getD i.toNat false
theorem ix_60 (a0 a1 a2 : Int) (w : World) (j : Int) (h0 : 0 ≤ j) (h1 : j < 3) : (Instr.index 60 (.agg #[.int .i64 a0, .int .i64 a1, .int .i64 a2]) (.int .i64 j)).run Try.prog w = .ok (.int .i64 (ax [a0, a1, a2] j)) w := by
  obtain rfl | rfl | rfl : j = 0 ∨ j = 1 ∨ j = 2 := by omega
  all_goals kernel_rfl
theorem ix_61 (a0 a1 : Int) (w : World) (j : Int) (h0 : 0 ≤ j) (h1 : j < 2) : (Instr.index 61 (.agg #[.int .i64 a0, .int .i64 a1]) (.int .i64 j)).run Try.prog w = .ok (.int .i64 (ax [a0, a1] j)) w := by
  obtain rfl | rfl : j = 0 ∨ j = 1 := by omega
  all_goals kernel_rfl
end Go.Proofs.Ytccehechhdndmaa.Ext
