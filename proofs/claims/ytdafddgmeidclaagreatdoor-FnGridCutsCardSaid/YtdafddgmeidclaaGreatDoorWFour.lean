-- words of the print, cut down by wip/prunew.py to those that the texts of this claim use
import Derived.Test.YtdafddgmeidclaaGreatDoorWTab
/-! ### 56. Four, five, six operations that may come up next, in any order -/
namespace Go.Proofs.YtdafddgmeidclaaGreatDoorW.PrintLast
section
variable {P : Program} {ops : Array Oper} {Q : Exit → Act → World → Prop} {md : Region.Mode} {S : World → Prop} {ds : List Nat} {T : Bool × List (List Nat × List Nat)}
end
end Go.Proofs.YtdafddgmeidclaaGreatDoorW.PrintLast
