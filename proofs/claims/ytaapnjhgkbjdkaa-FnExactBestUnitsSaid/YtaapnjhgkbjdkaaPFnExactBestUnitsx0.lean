-- Written by wip/inject.py: a contract of each function that the law reaches; those of the stand-ins are proved in this seat's Hand texts
import Derived.Test.YtaapnjhgkbjdkaaProg
import Derived.Test.YtaapnjhgkbjdkaaHandU
import Derived.Below
import Derived.Deep.Draws
import Derived.Deep.AppendLies
import Derived.Maps.AppendAt
import Derived.OwnWalk
import Derived.Laws.BytesArg
import Derived.Laws.MakeOwn
import Derived.Laws.OwnMore
import Derived.Deep.OwnRows
import Derived.Tactics
import Derived.Lib.ConvBytes
import Derived.Laws.Slices
import Derived.WalkKit
import Derived.KernelRfl
import Derived.RowKit3
import Derived.Deep.LoopGhost
import Derived.Deep.QuietTactic
import Derived.BigQuiet
import Derived.WideLaws
import Derived.Deep.DeepCutAuto
import Derived.Deep.CutBlock
import Derived.Deep.RegionHeld3
import Derived.Laws.Rows
import Derived.Lib.AppendStr
import Derived.ArgAppend
import Derived.Laws.IdiomCopy
import Derived.OrdersHeld
import Derived.Laws.BitsLemmas
import Derived.RowKit
import Derived.Test.YtaapnjhgkbjdkaaWWords
import Derived.Test.YtaapnjhgkbjdkaaWLast
import Derived.Test.YtaapnjhgkbjdkaaWTab
import Derived.Test.YtaapnjhgkbjdkaaWFour
import Derived.Test.YtaapnjhgkbjdkaaWQPut
import Derived.Test.YtaapnjhgkbjdkaaWApart
import Derived.Test.YtaapnjhgkbjdkaaWArr
import Derived.Test.YtaapnjhgkbjdkaaWZeros
import Derived.Test.YtaapnjhgkbjdkaaWFoot
import Derived.Test.YtaapnjhgkbjdkaaWKept
import Derived.Test.YtaapnjhgkbjdkaaWShare
import Derived.Test.YtaapnjhgkbjdkaaWN
import Derived.Test.YtaapnjhgkbjdkaaWFootNe
import Derived.Test.YtaapnjhgkbjdkaaWAt
import Derived.Test.YtaapnjhgkbjdkaaWEqStruct
import Derived.Test.YtaapnjhgkbjdkaaWRepsOne
import Derived.Test.YtaapnjhgkbjdkaaWInv
import Derived.Test.YtaapnjhgkbjdkaaWInvWords
import Derived.Test.YtaapnjhgkbjdkaaWGuard
import Derived.Test.YtaapnjhgkbjdkaaWNEv
import Derived.Test.YtaapnjhgkbjdkaaWMore
namespace Go.Proofs.Ytaapnjhgkbjdkaa.PFnExactBestUnits
open Go.RowKit Go.Proofs.YtaapnjhgkbjdkaaW.PrintWords Go.Proofs.YtaapnjhgkbjdkaaW.PrintLast Go.Proofs.YtaapnjhgkbjdkaaW.PrintMore
attribute [local go_sem] max2_int min2_int max_two min_two max_three min_three max_four min_four   -- for this text's walks alone
set_option linter.unusedVariables false
set_option linter.unusedSimpArgs false



def errW : Option Int → Value
  | none => .nilIface
  | some c => .iface 0 (.int .i64 c)
theorem errW_none : errW none = .nilIface := rfl
theorem errW_some (c : Int) : errW (some c) = .iface 0 (.int .i64 c) := rfl

theorem info2 : (Try.prog.info? 2).map (fun i => (i.zero, i.size, i.bytes)) = some (some (.int .i64 0), 1, 8) := by kernel_rfl
-- the values' own types

end Go.Proofs.Ytaapnjhgkbjdkaa.PFnExactBestUnits
