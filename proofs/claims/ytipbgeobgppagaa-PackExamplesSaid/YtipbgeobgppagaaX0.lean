-- Printed by a program of this session (wip/xprint.py) out of the translation.
import Derived.Test.YtipbgeobgppagaaProg
import Derived.Test.YtipbgeobgppagaaExt
import Derived.Test.YtipbgeobgppagaaArr
import Derived.Below
import Derived.Deep.Draws
import Derived.Deep.AppendLies
import Derived.Maps.AppendAt
import Derived.OwnWalk
import Derived.Laws.BytesArg
import Derived.Laws.MakeOwn
import Derived.Laws.OwnMore
import Derived.Deep.OwnRows
import Derived.Tactics
import Derived.Lib.ConvBytes
import Derived.Laws.Slices
import Derived.WalkKit
import Derived.KernelRfl
import Derived.RowKit3
import Derived.Deep.LoopGhost
import Derived.Deep.QuietTactic
import Derived.BigQuiet
import Derived.WideLaws
import Derived.Deep.DeepCutAuto
import Derived.Deep.CutBlock
import Derived.Deep.RegionHeld3
import Derived.Laws.Rows
import Derived.Lib.AppendStr
import Derived.ArgAppend
import Derived.Laws.IdiomCopy
import Derived.OrdersHeld
import Derived.Laws.BitsLemmas
import Derived.RowKit
import Derived.Test.YtipbgeobgppagaaWWords
import Derived.Test.YtipbgeobgppagaaWLast
import Derived.Test.YtipbgeobgppagaaWTab
import Derived.Test.YtipbgeobgppagaaWFour
import Derived.Test.YtipbgeobgppagaaWQPut
import Derived.Test.YtipbgeobgppagaaWApart
import Derived.Test.YtipbgeobgppagaaWArr
import Derived.Test.YtipbgeobgppagaaWZeros
import Derived.Test.YtipbgeobgppagaaWFoot
import Derived.Test.YtipbgeobgppagaaWKept
import Derived.Test.YtipbgeobgppagaaWShare
import Derived.Test.YtipbgeobgppagaaWN
import Derived.Test.YtipbgeobgppagaaWFootNe
import Derived.Test.YtipbgeobgppagaaWAt
import Derived.Test.YtipbgeobgppagaaWEqStruct
import Derived.Test.YtipbgeobgppagaaWRepsOne
import Derived.Test.YtipbgeobgppagaaWInv
import Derived.Test.YtipbgeobgppagaaWInvWords
import Derived.Test.YtipbgeobgppagaaWGuard
import Derived.Test.YtipbgeobgppagaaWNEv
import Derived.Test.YtipbgeobgppagaaWMore
namespace Go.Proofs.Ytipbgeobgppagaa.X
open Go.RowKit Go.Proofs.Ytipbgeobgppagaa.Ext Go.Proofs.YtipbgeobgppagaaW.PrintWords Go.Proofs.YtipbgeobgppagaaW.PrintLast Go.Proofs.YtipbgeobgppagaaW.PrintMore
attribute [local go_sem] max2_int min2_int max_two min_two max_three min_three max_four min_four   -- for this text's walks alone
set_option linter.unusedVariables false
set_option linter.unusedSimpArgs false



def errW : Option Int → Value
  | none => .nilIface
  | some c => .iface 0 (.int .i64 c)
theorem errW_none : errW none = .nilIface := rfl
theorem errW_some (c : Int) : errW (some c) = .iface 0 (.int .i64 c) := rfl

theorem info5 : (Try.prog.info? 5).map (fun i => (i.zero, i.size, i.bytes)) = some (some (.int .u8 0), 1, 1) := by kernel_rfl
theorem info9 : (Try.prog.info? 9).map (fun i => (i.zero, i.size, i.bytes)) = some (some (.string ⟨#[]⟩), 1, 16) := by kernel_rfl
-- the values' own types

end Go.Proofs.Ytipbgeobgppagaa.X
