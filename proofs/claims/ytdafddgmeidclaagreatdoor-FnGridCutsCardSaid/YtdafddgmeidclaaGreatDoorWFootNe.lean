-- words of the print, cut down by wip/prunew.py to those that the texts of this claim use
import Derived.Test.YtdafddgmeidclaaGreatDoorWN
/-! ### 52. A row that stays read whatever happens to a block (a set of blocks) doesn't lie there -/
namespace Go.Proofs.YtdafddgmeidclaaGreatDoorW.PrintWords
open Go.RowKit
namespace Kd
section
variable {α : Type} {d : Kd α} {W : World} {g n : Nat} {S ok : Nat → Prop} {A : Option Addr} {ad : Addr} {xs : List α}
end
end Kd
end Go.Proofs.YtdafddgmeidclaaGreatDoorW.PrintWords
