-- words of the print, cut down by wip/prunew.py to those that the texts of this claim use
import Derived.Test.YtaapnjhgkbjdkaaWInv
import Derived.Test.YtaapnjhgkbjdkaaWFootNe
namespace Go.Proofs.YtaapnjhgkbjdkaaW.PrintWords
open Go.RowKit
end Go.Proofs.YtaapnjhgkbjdkaaW.PrintWords
namespace Go.Proofs.YtaapnjhgkbjdkaaW.PrintLast
section
variable {ops : Array Oper} {a : Act} {o og : Oper} {g : Nat} {t : Tmp} {u : Bool}
end
end Go.Proofs.YtaapnjhgkbjdkaaW.PrintLast
