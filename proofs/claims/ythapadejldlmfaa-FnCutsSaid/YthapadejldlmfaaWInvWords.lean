-- words of the print, cut down by wip/prunew.py to those that the texts of this claim use
import Derived.Test.YthapadejldlmfaaWInv
import Derived.Test.YthapadejldlmfaaWFootNe
namespace Go.Proofs.YthapadejldlmfaaW.PrintWords
open Go.RowKit
end Go.Proofs.YthapadejldlmfaaW.PrintWords
namespace Go.Proofs.YthapadejldlmfaaW.PrintLast
section
variable {ops : Array Oper} {a : Act} {o og : Oper} {g : Nat} {t : Tmp} {u : Bool}
end
end Go.Proofs.YthapadejldlmfaaW.PrintLast
