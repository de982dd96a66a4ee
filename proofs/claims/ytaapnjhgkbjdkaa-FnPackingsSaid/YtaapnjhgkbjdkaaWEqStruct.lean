-- words of the print, cut down by wip/prunew.py to those that the texts of this claim use
import Derived.Test.YtaapnjhgkbjdkaaWWords
import Derived.Laws.StructEq
/-! ### 53. '==' of structs as_ one Bool -/
namespace Go.Proofs.YtaapnjhgkbjdkaaW.PrintWords
open Go.RowKit
section
variable {P : Program} {d : Nat} {xs ys : Array Value} {f : Field} {fs : List Field} {a b : Value} {r s : Bool} {w : World}
end
end Go.Proofs.YtaapnjhgkbjdkaaW.PrintWords
