-- words of the print, cut down by wip/prunew.py to those that the texts of this claim use
import Derived.Test.YtaapnjhgkbjdkaaWWords
/-! ### 58. A guarded operation whose guard is known to want it: the same goal without the guard -/
namespace Go.Proofs.YtaapnjhgkbjdkaaW.PrintWords
open Go.RowKit
section
variable {P : Program} {ops : Array Oper} {rest : List Oper} {o : Oper} {a : Act} {Q : Exit → Act → World → Prop} {W : World}
end
end Go.Proofs.YtaapnjhgkbjdkaaW.PrintWords
