-- Written by wip/inject.py: a contract of each function that the law reaches; those of the stand-ins are proved in this seat's Hand texts
import Derived.Test.YthapadejldlmfaaProg
import Derived.Test.YthapadejldlmfaaHandU
import Derived.Below
import Derived.Deep.Draws
import Derived.Deep.AppendLies
import Derived.Maps.AppendAt
import Derived.OwnWalk
import Derived.Laws.BytesArg
import Derived.Laws.MakeOwn
import Derived.Laws.OwnMore
import Derived.Deep.OwnRows
import Derived.Tactics
import Derived.Lib.ConvBytes
import Derived.Laws.Slices
import Derived.WalkKit
import Derived.KernelRfl
import Derived.RowKit3
import Derived.Deep.LoopGhost
import Derived.Deep.QuietTactic
import Derived.BigQuiet
import Derived.WideLaws
import Derived.Deep.DeepCutAuto
import Derived.Deep.CutBlock
import Derived.Deep.RegionHeld3
import Derived.Laws.Rows
import Derived.Lib.AppendStr
import Derived.ArgAppend
import Derived.Laws.IdiomCopy
import Derived.OrdersHeld
import Derived.Laws.BitsLemmas
import Derived.RowKit
import Derived.Test.YthapadejldlmfaaWWords
import Derived.Test.YthapadejldlmfaaWLast
import Derived.Test.YthapadejldlmfaaWTab
import Derived.Test.YthapadejldlmfaaWFour
import Derived.Test.YthapadejldlmfaaWQPut
import Derived.Test.YthapadejldlmfaaWApart
import Derived.Test.YthapadejldlmfaaWArr
import Derived.Test.YthapadejldlmfaaWZeros
import Derived.Test.YthapadejldlmfaaWFoot
import Derived.Test.YthapadejldlmfaaWKept
import Derived.Test.YthapadejldlmfaaWShare
import Derived.Test.YthapadejldlmfaaWN
import Derived.Test.YthapadejldlmfaaWFootNe
import Derived.Test.YthapadejldlmfaaWAt
import Derived.Test.YthapadejldlmfaaWEqStruct
import Derived.Test.YthapadejldlmfaaWRepsOne
import Derived.Test.YthapadejldlmfaaWInv
import Derived.Test.YthapadejldlmfaaWInvWords
import Derived.Test.YthapadejldlmfaaWGuard
import Derived.Test.YthapadejldlmfaaWNEv
import Derived.Test.YthapadejldlmfaaWMore
namespace Go.Proofs.Ythapadejldlmfaa.PFnUnits
open Go.RowKit Go.Proofs.YthapadejldlmfaaW.PrintWords Go.Proofs.YthapadejldlmfaaW.PrintLast Go.Proofs.YthapadejldlmfaaW.PrintMore
attribute [local go_sem] max2_int min2_int max_two min_two max_three min_three max_four min_four   -- for this text's walks alone
set_option linter.unusedVariables false
set_option linter.unusedSimpArgs false



theorem bx_ {P Q : Prop} (h : P) (f : P → Q := by intro h_; (with_reducible repeat (first | refine blk_drewN ?_ _ | refine blk_drew ?_ | refine blk_alloc ?_ _ | refine blk_far ?_ (Aside0.out (by assumption)) _)); exact h_) : Q := f h
theorem rx_ {P Q : Prop} (h : P) (f : P → Q := by intro h_; (with_reducible repeat (first | apply Kd.R_alloc | apply Kd.R_drewN | apply Kd.R_drew)); exact h_) : Q := f h
theorem hx_ {n : Nat} {w W W' : World} (h : Below n w W) (f : Below n w W → Below n w W' := by intro h_; repeat (first | (with_reducible first | exact h_ | apply below_alloc | apply pw_below_drewN | apply below_drew1 | refine below_set ?_ (Aside0.out (by assumption)) | refine below_set ?_ (IsS142.ge (Aside0.out (by assumption)))) | exact h_)) : Below n w W' := f h
theorem kx_ {w W W' : World} {g : Nat} {row : Option Nat} (h : KeepBut w W g row) (f : KeepBut w W g row → KeepBut w W' g row := by intro h_; repeat (first | (with_reducible first | exact h_ | apply KeepBut.set_ | apply keep_drewN | apply keep_drew | apply keep_alloc | refine keep_far ?_ (Aside0.out (by assumption)) _) | exact h_)) : KeepBut w W' g row := f h
theorem ix_ {P Q : Prop} (h : P) (f : P → Q := by intro h_; repeat (first | (with_reducible first | exact h_ | apply IsS142.alloc | apply IsS142.drewN | apply IsS142.drew | apply IsS142.set_1 | apply IsS142.set_2 | refine IsS142.far ?_ (Aside0.out (by assumption)) _) | exact h_)) : Q := f h
def errW : Option Int → Value
  | none => .nilIface
  | some c => .iface 0 (.int .i64 c)
theorem errW_none : errW none = .nilIface := rfl
theorem errW_some (c : Int) : errW (some c) = .iface 0 (.int .i64 c) := rfl

theorem info2 : (Try.prog.info? 2).map (fun i => (i.zero, i.size, i.bytes)) = some (some (.int .i64 0), 1, 8) := by kernel_rfl
-- the values' own types

end Go.Proofs.Ythapadejldlmfaa.PFnUnits
