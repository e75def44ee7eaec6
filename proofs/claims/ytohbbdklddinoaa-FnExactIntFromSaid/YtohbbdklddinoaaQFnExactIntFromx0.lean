-- Written by this session's program wip/ownprint.py.
import Derived.Test.YtohbbdklddinoaaProg
import Derived.Below
import Derived.Deep.Draws
import Derived.Deep.AppendLies
import Derived.Maps.AppendAt
import Derived.OwnWalk
import Derived.Laws.BytesArg
import Derived.Laws.MakeOwn
import Derived.Laws.OwnMore
import Derived.Deep.OwnRows
import Derived.Tactics
import Derived.Lib.ConvBytes
import Derived.Laws.Slices
import Derived.WalkKit
import Derived.KernelRfl
import Derived.RowKit3
import Derived.Deep.LoopGhost
import Derived.Deep.QuietTactic
import Derived.BigQuiet
import Derived.WideLaws
import Derived.Deep.DeepCutAuto
import Derived.Deep.CutBlock
import Derived.Deep.RegionHeld3
import Derived.Laws.Rows
import Derived.Lib.AppendStr
import Derived.ArgAppend
import Derived.Laws.IdiomCopy
import Derived.OrdersHeld
import Derived.Laws.BitsLemmas
import Derived.RowKit
import Derived.Test.YtohbbdklddinoaaWWords
import Derived.Test.YtohbbdklddinoaaWLast
import Derived.Test.YtohbbdklddinoaaWTab
import Derived.Test.YtohbbdklddinoaaWFour
import Derived.Test.YtohbbdklddinoaaWQPut
import Derived.Test.YtohbbdklddinoaaWApart
import Derived.Test.YtohbbdklddinoaaWArr
import Derived.Test.YtohbbdklddinoaaWZeros
import Derived.Test.YtohbbdklddinoaaWFoot
import Derived.Test.YtohbbdklddinoaaWKept
import Derived.Test.YtohbbdklddinoaaWShare
import Derived.Test.YtohbbdklddinoaaWN
import Derived.Test.YtohbbdklddinoaaWFootNe
import Derived.Test.YtohbbdklddinoaaWAt
import Derived.Test.YtohbbdklddinoaaWEqStruct
import Derived.Test.YtohbbdklddinoaaWRepsOne
import Derived.Test.YtohbbdklddinoaaWInv
import Derived.Test.YtohbbdklddinoaaWInvWords
import Derived.Test.YtohbbdklddinoaaWGuard
import Derived.Test.YtohbbdklddinoaaWNEv
import Derived.Test.YtohbbdklddinoaaWMore
namespace Go.Proofs.Ytohbbdklddinoaa.QFnExactIntFrom
open Go.RowKit Go.Proofs.YtohbbdklddinoaaW.PrintWords Go.Proofs.YtohbbdklddinoaaW.PrintLast Go.Proofs.YtohbbdklddinoaaW.PrintMore
attribute [local go_sem] max2_int min2_int max_two min_two max_three min_three max_four min_four   -- for this text's walks alone
set_option linter.unusedVariables false
set_option linter.unusedSimpArgs false



def errW : Option Int → Value
  | none => .nilIface
  | some c => .iface 0 (.int .i64 c)
theorem errW_none : errW none = .nilIface := rfl
theorem errW_some (c : Int) : errW (some c) = .iface 0 (.int .i64 c) := rfl

theorem info3 : (Try.prog.info? 3).map (fun i => (i.zero, i.size, i.bytes)) = some (some (.int .i64 0), 1, 8) := by kernel_rfl
-- the values' own types

end Go.Proofs.Ytohbbdklddinoaa.QFnExactIntFrom
