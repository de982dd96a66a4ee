-- words of the print, cut down by wip/prunew.py to those that the texts of this claim use
import Derived.Test.YtdafddgmeidclaaGreatDoorWInv
import Derived.Test.YtdafddgmeidclaaGreatDoorWFootNe
namespace Go.Proofs.YtdafddgmeidclaaGreatDoorW.PrintWords
open Go.RowKit
end Go.Proofs.YtdafddgmeidclaaGreatDoorW.PrintWords
namespace Go.Proofs.YtdafddgmeidclaaGreatDoorW.PrintLast
section
variable {ops : Array Oper} {a : Act} {o og : Oper} {g : Nat} {t : Tmp} {u : Bool}
end
end Go.Proofs.YtdafddgmeidclaaGreatDoorW.PrintLast
