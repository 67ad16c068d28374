-- PRINTED BY print.sh 35421559b90ae4d0a3588c463048766b98c2df88dd9212a6774a882060cdf62d: not written by this session
import Derived.Test.YtecneikblkjgoaaProg
import Derived.Below
import Derived.Deep.Draws
import Derived.Deep.AppendLies
import Derived.Maps.AppendAt
import Derived.OwnWalk
import Derived.Laws.BytesArg
import Derived.Laws.MakeOwn
import Derived.Laws.OwnMore
import Derived.Deep.OwnRows
import Derived.Tactics
import Derived.Lib.ConvBytes
import Derived.Laws.Slices
import Derived.WalkKit
import Derived.KernelRfl
import Derived.RowKit3
import Derived.Deep.LoopGhost
import Derived.Deep.QuietTactic
import Derived.BigQuiet
import Derived.WideLaws
import Derived.Deep.DeepCutAuto
import Derived.Deep.CutBlock
import Derived.Deep.RegionHeld3
import Derived.Laws.Rows
import Derived.Lib.AppendStr
import Derived.ArgAppend
import Derived.Laws.IdiomCopy
import Derived.OrdersHeld
import Derived.Laws.BitsLemmas
import Derived.RowKit
import Derived.Test.YtecneikblkjgoaaWWords
import Derived.Test.YtecneikblkjgoaaWLast
import Derived.Test.YtecneikblkjgoaaWTab
import Derived.Test.YtecneikblkjgoaaWFour
import Derived.Test.YtecneikblkjgoaaWQPut
import Derived.Test.YtecneikblkjgoaaWApart
import Derived.Test.YtecneikblkjgoaaWArr
import Derived.Test.YtecneikblkjgoaaWZeros
import Derived.Test.YtecneikblkjgoaaWFoot
import Derived.Test.YtecneikblkjgoaaWKept
import Derived.Test.YtecneikblkjgoaaWShare
import Derived.Test.YtecneikblkjgoaaWN
import Derived.Test.YtecneikblkjgoaaWFootNe
import Derived.Test.YtecneikblkjgoaaWAt
import Derived.Test.YtecneikblkjgoaaWEqStruct
import Derived.Test.YtecneikblkjgoaaWRepsOne
import Derived.Test.YtecneikblkjgoaaWInv
import Derived.Test.YtecneikblkjgoaaWInvWords
import Derived.Test.YtecneikblkjgoaaWGuard
import Derived.Test.YtecneikblkjgoaaWNEv
import Derived.Test.YtecneikblkjgoaaWMore
namespace Go.Proofs.Ytecneikblkjgoaa.PBeatGrows
open Go.RowKit Go.Proofs.YtecneikblkjgoaaW.PrintWords Go.Proofs.YtecneikblkjgoaaW.PrintLast Go.Proofs.YtecneikblkjgoaaW.PrintMore
attribute [local go_sem] max2_int min2_int max_two min_two max_three min_three max_four min_four   -- for this text's walks alone
set_option linter.unusedVariables false
set_option linter.unusedSimpArgs false



def errW : Option Int → Value
  | none => .nilIface
  | some c => .iface 0 (.int .i64 c)
theorem errW_none : errW none = .nilIface := rfl
theorem errW_some (c : Int) : errW (some c) = .iface 0 (.int .i64 c) := rfl

-- the values' own types

end Go.Proofs.Ytecneikblkjgoaa.PBeatGrows
