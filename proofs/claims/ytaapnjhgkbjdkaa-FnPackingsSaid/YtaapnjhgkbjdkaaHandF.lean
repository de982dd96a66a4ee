/- What the literal of the program's firstFit answers, by a walk of its text: whether a strip has room beside what a roll holds. -/
import Derived.Test.YtaapnjhgkbjdkaaHandI
namespace Go.Proofs.Ytaapnjhgkbjdkaa.Hand
open Go.RowKit Go.Shelf Go.Proofs.YtaapnjhgkbjdkaaW.PrintWords Go.Proofs.YtaapnjhgkbjdkaaW.PrintLast Go.Proofs.YtaapnjhgkbjdkaaW.PrintMore
set_option linter.unusedVariables false
set_option linter.unusedSimpArgs false
set_option maxHeartbeats 2000000 in
theorem firstFit_pred (roll : Int) (A : Option Addr) (c : Nat) (l : List Int) (i : Int) (w : World) (B4 B10 B3 : Nat) (h4 : w.cell? ⟨B4, 0, none⟩ = some (.slice A l.length c)) (h10 : w.cell? ⟨B10, 0, none⟩ = some (.int .i64 i)) (h3 : w.cell? ⟨B3, 0, none⟩ = some (.int .i64 roll))
    (hr : Kd.C (Kd.int .i64) w A l.length l) (p0 : 0 ≤ i) (q0 : i < (l.length : Int)) :
    Pred 97 #[.pointer (some ⟨B4, 0, none⟩), .pointer (some ⟨B10, 0, none⟩), .pointer (some ⟨B3, 0, none⟩)] (Value.int .i64) (fun n => decide (wrap64 (n + rd l i) ≤ roll)) w := fun W x hb => by
  have c4 : W.cell? ⟨B4, 0, none⟩ = some (.slice A l.length c) := pw_cell_below hb h4
  have c10 : W.cell? ⟨B10, 0, none⟩ = some (.int .i64 i) := pw_cell_below hb h10
  have c3 : W.cell? ⟨B3, 0, none⟩ = some (.int .i64 roll) := pw_cell_below hb h3
  obtain ⟨ad, e, hx⟩ := Kd.at_int hr i p0 q0
  cases e
  have cx := pw_cell_below hb hx
  have HB := Aside0.mk hb
  clear h4 h10 h3 hb hx hr
  have p1 : decide (0 ≤ i) = true := decide_eq_true p0
  have q1 : decide (i < (l.length : Int)) = true := decide_eq_true q0
  replace p0 := eq_true p0
  replace q0 := eq_true q0
  show Calls Try.prog 97 #[.int .i64 x, .pointer (some ⟨B4, 0, none⟩), .pointer (some ⟨B10, 0, none⟩), .pointer (some ⟨B3, 0, none⟩)] W _
  go_enter Try.func97, Try.ntmps97
  go_wp2
  go_quiet (fail)
  go_wp2
  go_ret
  exact ⟨rfl, by repeat (first | exact HB.out | apply pw_below_drewN | apply below_drew1)⟩
end Go.Proofs.Ytaapnjhgkbjdkaa.Hand
