/- What impl.decimal and strings.Join return, by the guide's shelf: a number's decimal numeral, where the library's table of powers of ten holds what it should; the texts joined. -/
import Derived.Test.YtdafddgmeidclaaGreatDoorProg
import Derived.Test.YtdafddgmeidclaaGreatDoorShelfT
import Derived.Test.YtdafddgmeidclaaGreatDoorWMore
import Derived.Deep.LoopGhost
import Derived.Deep.QuietTactic
import Derived.BigQuiet
import Derived.WideLaws
import Derived.RowKit3
import Derived.WalkKit
import Derived.Lib.Walk
import Derived.Lib.LaidTab
import Derived.Lib.AppendIntMem
import Derived.Lib.ItoaLen
namespace Go.Proofs.YtdafddgmeidclaaGreatDoor.HandD
open Go.RowKit Go.Shelf Go.Lib Go.Proofs.YtdafddgmeidclaaGreatDoorW.PrintWords Go.Proofs.YtdafddgmeidclaaGreatDoorW.PrintLast Go.Proofs.YtdafddgmeidclaaGreatDoorW.PrintMore
set_option linter.unusedVariables false
set_option linter.unusedSimpArgs false
/-- The library's table of powers of ten holds the powers of ten. The variable's name is read off the laid facts. -/
def Env (w : World) : Prop := ∃ name, Tryz.prog.globalNamed name = some (Tryz.laysM173_ren.g 17) ∧ Lib.TabIs Tryz.prog w name .u64 Lib.pow10Tab
theorem Env.below {w w' : World} (h : Env w) (b : Below w.heap.size w w') : Env w' := by
  obtain ⟨name, hn, ht⟩ := h
  exact ⟨name, hn, Lib.tabBelow_of_tabIs ht _ b⟩
theorem decimal (n : Int) (h0 : -9223372036854775808 ≤ n) (h1 : n ≤ 9223372036854775807) (w : World) (henv : Env w) :
    Calls Tryz.prog 26 #[.int .i64 n] w fun e w' => e = .returned (.string ⟨(Lib.itoa n).toArray⟩) ∧ Below w.heap.size w w' := by
  obtain ⟨name, hn, ht⟩ := henv
  have hv : Lib.TabIs Tryz.prog w _ .u64 Lib.pow10Tab := (show Lib.TabIs Tryz.prog w _ .u64 Lib.pow10Tab from by
    unfold Lib.TabIs World.var? at ht ⊢
    rw [hn] at ht
    rw [Tryz.laysM173.m17]
    exact ht)
  go_enter Tryz.func26, Tryz.ntmps26
  go_wp2_with (go_at_call 43; refine (Any.strconv_FormatInt_10 Tryz.laysM173 n h0 h1 _ hv).mono ?_; rintro e w' ⟨rfl, k, os, rfl⟩)
  go_ret
  exact ⟨rfl, Lib.below_grow _ _ (Nat.le_refl _) _ _⟩
theorem join (A0 : Option Addr) (c0 : Nat) (l0 : List ByteArray) (a1 : ByteArray) (w : World) (hr0 : Kd.C Kd.string w A0 l0.length l0) (hc0 : l0.length ≤ c0)
    (hb : l0.length ≤ 140737488355328) (hl : (Lib.join (l0.map (·.data.toList)) a1.data.toList).length ≤ 140737488355328) :
    Calls Tryz.prog 28 #[.slice A0 l0.length c0, .string a1] w fun e w' => e = .returned (.string ⟨(Lib.join (l0.map (·.data.toList)) a1.data.toList).toArray⟩) ∧ Below w.heap.size w w' := by
  cases l0 with
  | nil => exact (Any.strings_Join_none Tryz.lays156 Tryz.Builder_Extra_156 A0 c0 a1 w).mono fun e w' ⟨he, hw⟩ => ⟨he, hw ▸ Below.refl _ _⟩
  | cons x r =>
    obtain ⟨ad, rfl, hx⟩ := Kd.at_string hr0 0 (Int.le_refl _) (by simp)
    have hs := World.cell?_spot hx
    obtain ⟨bk, o, sp⟩ := ad
    have hs' : sp = none := by simpa [Addr.add] using hs
    subst hs'
    refine Any.strings_Join Tryz.lays156 Tryz.Builder_Extra_156 bk o c0 (x :: r) a1 w ?_ (by have := World.block_lt_of_cell? _ _ hx; simpa [Addr.add] using this) hb hc0 hl
    intro j y hy
    have hj : j < (x :: r).length := (List.getElem?_eq_some_iff.1 hy).1
    obtain ⟨ad2, e2, hx2⟩ := Kd.at_string hr0 (j : Int) (by omega) (by omega)
    cases e2
    have h3 : rdOf ByteArray.empty (x :: r) (j : Int) = y := by
      unfold rdOf
      simp [List.getD, hy]
    rw [h3] at hx2
    rw [← hx2]
    simp only [Addr.add, Int.toNat_natCast]
    split
    · rename_i hz
      have : j = 0 := by simpa using hz
      subst this
      rfl
    · rfl
#print axioms decimal
#print axioms join
end Go.Proofs.YtdafddgmeidclaaGreatDoor.HandD
