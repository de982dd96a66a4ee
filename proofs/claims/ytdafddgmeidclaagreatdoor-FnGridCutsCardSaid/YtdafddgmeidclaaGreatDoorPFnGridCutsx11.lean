-- Written by wip/inject.py: a contract of each function that the law reaches; those of the stand-ins are proved in this seat's Hand texts
import Derived.Test.YtdafddgmeidclaaGreatDoorPFnGridCutsx0
import Derived.Test.YtdafddgmeidclaaGreatDoorPFnGridCutsx5
import Derived.Test.YtdafddgmeidclaaGreatDoorPFnGridCutsx10
namespace Go.Proofs.YtdafddgmeidclaaGreatDoor.PFnGridCuts
open Go.RowKit Go.Proofs.YtdafddgmeidclaaGreatDoorW.PrintWords Go.Proofs.YtdafddgmeidclaaGreatDoorW.PrintLast Go.Proofs.YtdafddgmeidclaaGreatDoorW.PrintMore
attribute [local go_sem] max2_int min2_int max_two min_two max_three min_three max_four min_four   -- for this text's walks alone
set_option linter.unusedVariables false
set_option linter.unusedSimpArgs false

/-! ### spec_ProgramText: function 14 -/
mutual
def spec_ProgramText.l0 : Nat → List (S50) → ByteArray → Int → Option (ByteArray)
 | 0, _, _, _ => none
 | k + 1, x0, x3, x4 => if x4 < (x0.length : Int) then (if 0 ≤ x4 then ((spec_l01In.f ((rd_T50 x0 x4).f0) 0 20000).bind fun t375 => (if t375 = true then ((spec_l01In.f ((rd_T50 x0 x4).f2) 0 20000).bind fun t376 => (spec_ProgramText.j1 k x0 x3 x4 (!t376) ((rd_T50 x0 x4).f0) ((rd_T50 x0 x4).f1) ((rd_T50 x0 x4).f2))) else (spec_ProgramText.j1 k x0 x3 x4 true ((rd_T50 x0 x4).f0) ((rd_T50 x0 x4).f1) ((rd_T50 x0 x4).f2)))) else (none)) else (some x3)
def spec_ProgramText.j1 : Nat → List (S50) → ByteArray → Int → Bool → Int → Bool → Int → Option (ByteArray)
 | 0, _, _, _, _, _, _, _ => none
 | k + 1, x0, x3, x4, x28, x375000, x375001, x375002 => if x28 = true then (some (⟨#[]⟩ : ByteArray)) else (if x4 > 0 then (if x3.size + 1 ≤ 9223372036854775807 then (spec_ProgramText.j2 k x0 (x3 ++ (⟨#[32]⟩ : ByteArray)) x4 x375000 x375001 x375002) else (none)) else (spec_ProgramText.j2 k x0 x3 x4 x375000 x375001 x375002))
def spec_ProgramText.j2 : Nat → List (S50) → ByteArray → Int → Int → Bool → Int → Option (ByteArray)
 | 0, _, _, _, _, _, _ => none
 | k + 1, x0, x3, x4, x375000, x375001, x375002 => if x375001 = true then ((spec_l01Dec.f k x375000).bind fun t377 => (if x3.size + t377.size ≤ 9223372036854775807 then (if (x3 ++ t377).size + 1 ≤ 9223372036854775807 then ((spec_l01Dec.f k x375002).bind fun t378 => (if ((x3 ++ t377) ++ (⟨#[45]⟩ : ByteArray)).size + t378.size ≤ 9223372036854775807 then (spec_ProgramText.l0 k x0 (((x3 ++ t377) ++ (⟨#[45]⟩ : ByteArray)) ++ t378) (wrap64 (x4 + 1))) else (none))) else (none)) else (none))) else ((spec_l01Dec.f k x375000).bind fun t379 => (if x3.size + t379.size ≤ 9223372036854775807 then (if (x3 ++ t379).size + 1 ≤ 9223372036854775807 then ((spec_l01Dec.f k x375002).bind fun t380 => (if ((x3 ++ t379) ++ (⟨#[124]⟩ : ByteArray)).size + t380.size ≤ 9223372036854775807 then (spec_ProgramText.l0 k x0 (((x3 ++ t379) ++ (⟨#[124]⟩ : ByteArray)) ++ t380) (wrap64 (x4 + 1))) else (none))) else (none)) else (none)))
end
def spec_ProgramText.f (k : Nat) (l0 : List (S50)) : Option (ByteArray) := if (l0.length : Int) > 79 then (some (⟨#[]⟩ : ByteArray)) else (spec_ProgramText.l0 k l0 (⟨#[]⟩ : ByteArray) 0)
theorem spec_ProgramText.mono_l : ∀ k, (∀ y0 y1 y2, LeO (spec_ProgramText.l0 k y0 y1 y2) (spec_ProgramText.l0 (k + 1) y0 y1 y2)) ∧ (∀ y0 y1 y2 y3 y4 y5 y6, LeO (spec_ProgramText.j1 k y0 y1 y2 y3 y4 y5 y6) (spec_ProgramText.j1 (k + 1) y0 y1 y2 y3 y4 y5 y6)) ∧ (∀ y0 y1 y2 y3 y4 y5, LeO (spec_ProgramText.j2 k y0 y1 y2 y3 y4 y5) (spec_ProgramText.j2 (k + 1) y0 y1 y2 y3 y4 y5))
 | 0 => ⟨fun _ _ _ r h => by simp [spec_ProgramText.l0] at h, fun _ _ _ _ _ _ _ r h => by simp [spec_ProgramText.j1] at h, fun _ _ _ _ _ _ r h => by simp [spec_ProgramText.j2] at h⟩
 | k + 1 => by
  obtain ⟨ih0, ih1, ih2⟩ := spec_ProgramText.mono_l k
  refine ⟨?_, ?_, ?_⟩
  ·intro y0 y1 y2
   unfold spec_ProgramText.l0
   repeat' first
   | (with_reducible exact ih0 _ _ _)
   | (with_reducible exact ih1 _ _ _ _ _ _ _)
   | (with_reducible exact ih2 _ _ _ _ _ _)
   | (with_reducible exact spec_l01Dec.mono _ _)
   | (with_reducible exact LeO.refl _)
   | (with_reducible exact LeO.none _)
   | (with_reducible refine LeO.ite ?_ ?_)
   | (with_reducible refine LeO.bind ?_ (fun _ => ?_))
   | exact ih0 _ _ _
   | exact ih1 _ _ _ _ _ _ _
   | exact ih2 _ _ _ _ _ _
   | exact spec_l01Dec.mono _ _
   | exact LeO.none _
   | refine LeO.ite ?_ ?_
   | refine LeO.bind ?_ (fun _ => ?_)
  ·intro y0 y1 y2 y3 y4 y5 y6
   unfold spec_ProgramText.j1
   repeat' first
   | (with_reducible exact ih0 _ _ _)
   | (with_reducible exact ih1 _ _ _ _ _ _ _)
   | (with_reducible exact ih2 _ _ _ _ _ _)
   | (with_reducible exact spec_l01Dec.mono _ _)
   | (with_reducible exact LeO.refl _)
   | (with_reducible exact LeO.none _)
   | (with_reducible refine LeO.ite ?_ ?_)
   | (with_reducible refine LeO.bind ?_ (fun _ => ?_))
   | exact ih0 _ _ _
   | exact ih1 _ _ _ _ _ _ _
   | exact ih2 _ _ _ _ _ _
   | exact spec_l01Dec.mono _ _
   | exact LeO.none _
   | refine LeO.ite ?_ ?_
   | refine LeO.bind ?_ (fun _ => ?_)
  ·intro y0 y1 y2 y3 y4 y5
   unfold spec_ProgramText.j2
   repeat' first
   | (with_reducible exact ih0 _ _ _)
   | (with_reducible exact ih1 _ _ _ _ _ _ _)
   | (with_reducible exact ih2 _ _ _ _ _ _)
   | (with_reducible exact spec_l01Dec.mono _ _)
   | (with_reducible exact LeO.refl _)
   | (with_reducible exact LeO.none _)
   | (with_reducible refine LeO.ite ?_ ?_)
   | (with_reducible refine LeO.bind ?_ (fun _ => ?_))
   | exact ih0 _ _ _
   | exact ih1 _ _ _ _ _ _ _
   | exact ih2 _ _ _ _ _ _
   | exact spec_l01Dec.mono _ _
   | exact LeO.none _
   | refine LeO.ite ?_ ?_
   | refine LeO.bind ?_ (fun _ => ?_)
theorem spec_ProgramText.mono : ∀ a0 k, LeO (spec_ProgramText.f k a0) (spec_ProgramText.f (k + 1) a0) := by
 intro a0 k
 obtain ⟨ih0, ih1, ih2⟩ := spec_ProgramText.mono_l k
 unfold spec_ProgramText.f
 repeat' first
   | (with_reducible exact ih0 _ _ _)
   | (with_reducible exact ih1 _ _ _ _ _ _ _)
   | (with_reducible exact ih2 _ _ _ _ _ _)
   | (with_reducible exact spec_l01Dec.mono _ _)
   | (with_reducible exact LeO.refl _)
   | (with_reducible exact LeO.none _)
   | (with_reducible refine LeO.ite ?_ ?_)
   | (with_reducible refine LeO.bind ?_ (fun _ => ?_))
   | exact ih0 _ _ _
   | exact ih1 _ _ _ _ _ _ _
   | exact ih2 _ _ _ _ _ _
   | exact spec_l01Dec.mono _ _
   | exact LeO.none _
   | refine LeO.ite ?_ ?_
   | refine LeO.bind ?_ (fun _ => ?_)
def spec_ProgramText.T13 : Bool × List (List Nat × List Nat) := (true, [([], []), ([], []), ([1], [1]), ([2], [2]), ([0, 3], [0, 3]), ([4], [4]), ([], []), ([6], [6]), ([7, 3], [7]), ([5, 8], [5, 8]), ([9, 8, 0, 1, 2, 3, 4, 5, 6, 7, 8, 9], [0, 9])])
def spec_ProgramText.B13 : List Nat := [0, 0, 2, 6, 15, 31, 0, 64, 206, 511, 1023]
theorem spec_ProgramText.tab13 : rtab .any (opsOf Tryz.f14 13) = spec_ProgramText.T13 := by kernel_rfl
theorem spec_ProgramText.bits13 : waitsOk spec_ProgramText.T13.2 spec_ProgramText.B13 = true := by kernel_rfl
def spec_ProgramText.T14 : Bool × List (List Nat × List Nat) := (true, [([], []), ([], []), ([1], [1]), ([2], [2]), ([0, 3], [0, 3]), ([4], [4]), ([], []), ([6], [6]), ([7, 3], [7]), ([5, 8], [5, 8]), ([9, 8, 0, 1, 2, 3, 4, 5, 6, 7, 8, 9], [0, 9])])
def spec_ProgramText.B14 : List Nat := [0, 0, 2, 6, 15, 31, 0, 64, 206, 511, 1023]
theorem spec_ProgramText.tab14 : rtab .any (opsOf Tryz.f14 14) = spec_ProgramText.T14 := by kernel_rfl
theorem spec_ProgramText.bits14 : waitsOk spec_ProgramText.T14.2 spec_ProgramText.B14 = true := by kernel_rfl
set_option maxHeartbeats 8000000 in
set_option maxRecDepth 100000 in
theorem spec_ProgramText.calls (k : Nat) (A0 : Option Addr) (c0 : Nat) (l0 : List (S50)) (r : ByteArray) (w : World) (hr0 : Kd.C k50 w A0 l0.length l0) (hc0 : l0.length ≤ c0) (h : spec_ProgramText.f k l0 = some r) :
  Calls Tryz.prog 14 #[.slice A0 l0.length c0] w fun e w' => e = .returned (.string r) ∧ Below w.heap.size w w' := by
 have hu50 := Tryz.underlying50
 have HR0 := Aside0.mk hr0
 have HC0 := Aside0.mk hc0
 clear hr0 hc0
 have HB := Aside0.mk (Below.refl w.heap.size w)
 have H : (if (l0.length : Int) > 79 then (some (⟨#[]⟩ : ByteArray)) else (spec_ProgramText.l0 k l0 (⟨#[]⟩ : ByteArray) 0)) = some r := h
 clear h
 by_cases c2 : (l0.length : Int) > 79
 ·rw [if_pos c2] at H
  have c2b0 : decide (79 < (l0.length : Int)) = true := decide_eq_true c2
  have c2b1 : decide (79 < l0.length) = true := decide_eq_true (by omega)
  clear c2
  obtain rfl := Option.some.inj H
  go_enter Tryz.func14, Tryz.ntmps14
  go_wp2
  go_ret
  exact er_ (hx_ HB.out)
 ·rw [if_neg c2] at H
  have c2b0 : decide (79 < (l0.length : Int)) = false := decide_eq_false c2
  have c2b1 : decide (79 < l0.length) = false := decide_eq_false (by omega)
  clear c2
  have H' := Aside0.mk H
  clear H
  go_enter Tryz.func14, Tryz.ntmps14
  go_wp2
  go_loopg [3, 4] k (fun kq v3 v4 w' => ∃ (x3_1 : ByteArray) (x4_1 : Int), v3 = .string x3_1 ∧ v4 = .int .i64 x4_1 ∧ Aside0 (spec_ProgramText.l0 kq l0 x3_1 x4_1 = some r) ∧ Aside0 (kq ≤ k) ∧ Aside0 (Below w.heap.size w w'))
  case atStart => exact ⟨((⟨#[]⟩ : ByteArray)), (0), (by first | rfl | (simp; done) | (simp [*]; done)), (by first | rfl | (simp; done) | (simp [*]; done)), H', ⟨Nat.le_refl _⟩, ⟨hx_ HB.out⟩⟩
  case round =>
   clear H'
   (try clear c1); (try clear c2); (try clear c2b0); (try clear c2b1); (try clear p2)
   obtain ⟨x3_1, x4_1, rfl, rfl, HA, HK1, HB⟩ := hrel
   cases gk with
   | zero => exact absurd HA.out (by simp [spec_ProgramText.l0])
   | succ k1 =>
    have H := HA.out
    clear HA
    simp only [spec_ProgramText.l0] at H
    by_cases c3 : x4_1 < (l0.length : Int)
    ·rw [if_pos c3] at H
     have c3b0 : decide (x4_1 < (l0.length : Int)) = true := decide_eq_true c3
     clear c3
     by_cases c4 : 0 ≤ x4_1
     ·rw [if_pos c4] at H
      have c4b0 : decide (0 ≤ x4_1) = true := decide_eq_true c4
      clear c4
      have HC5 := Aside0.mk H
      clear H
      have p373 : 0 ≤ (x4_1 : Int) := of_decide_eq_true (by first | (with_reducible assumption) | assumption)
      have q373 : x4_1 < (l0.length : Int) := of_decide_eq_true (by first | (with_reducible assumption) | assumption)
      obtain ⟨ad373, e373, hx373_0, hx373_1, hx373_2⟩ := at_T50 HR0.out x4_1 p373 q373
      cases e373
      replace hx373_0 := (HB.out.cell (World.block_lt_of_cell? w _ hx373_0)).trans hx373_0
      replace hx373_1 := (HB.out.cell (World.block_lt_of_cell? w _ hx373_1)).trans hx373_1
      replace hx373_2 := (HB.out.cell (World.block_lt_of_cell? w _ hx373_2)).trans hx373_2
      replace p373 := eq_true p373
      replace q373 := eq_true q373
      go_upto_region 8 with (first | ((with_reducible refine gd_ 5 rfl ?_); refine be_ 5 #[.int .i64 0, .bool false, .int .i64 0] 50 rfl rfl ?_; intro gb374 hg w6 hbox hb; have BK374 := am_ hbox; have GW374 := gw_ hg HB; have GE374 := gw_ hg HB; replace HB := hs_ HB hb; clear hb hbox hg; have hcz7_0 : w6.cell? ⟨gb374, 0, none⟩ = some (.int .i64 0) := (blk_cell BK374.out 0).trans rfl; have hcz7_1 : w6.cell? ⟨gb374, 1, none⟩ = some (.bool false) := (blk_cell BK374.out 1).trans rfl; have hcz7_2 : w6.cell? ⟨gb374, 2, none⟩ = some (.int .i64 0) := (blk_cell BK374.out 2).trans rfl; have hfz7_0 := blk_frozen BK374.out 0; have hfz7_1 := blk_frozen BK374.out 1; have hfz7_2 := blk_frozen BK374.out 2))
      (try simp only [Act.put, List.setIfInBounds_toArray, List.set_cons_zero, List.set_cons_succ])
      go_cut [28] (fun v28 wc => ∃ (kq : Nat) (x28_4 : Bool), v28 = .bool x28_4 ∧ Aside0 (spec_ProgramText.j1 kq l0 x3_1 x4_1 x28_4 ((rd_T50 l0 x4_1).f0) ((rd_T50 l0 x4_1).f1) ((rd_T50 l0 x4_1).f2) = some r) ∧ Aside0 (kq ≤ k1) ∧ Aside0 (wc.heap[gb374]? = some (.cells #[.int .i64 ((rd_T50 l0 x4_1).f0), .bool ((rd_T50 l0 x4_1).f1), .int .i64 ((rd_T50 l0 x4_1).f2)] 50 (0, 0))) ∧ Aside0 (Below w.heap.size w wc))
      case first =>
       have H := HC5.out
       clear HC5
       replace H := Option.bind_eq_some_iff.mp H
       obtain ⟨t375, A80, H⟩ := H
       try dsimp only at H
       have A8 := Aside0.mk A80
       clear A80
       by_cases c9 : t375 = true
       ·subst c9
        have H1 : ((spec_l01In.f ((rd_T50 l0 x4_1).f2) 0 20000).bind fun t376 => (spec_ProgramText.j1 k1 l0 x3_1 x4_1 (!t376) ((rd_T50 l0 x4_1).f0) ((rd_T50 l0 x4_1).f1) ((rd_T50 l0 x4_1).f2))) = some r := by rw [if_pos rfl] at H; exact H
        clear H
        have H := H1
        clear H1
        replace H := Option.bind_eq_some_iff.mp H
        obtain ⟨t376, A100, H⟩ := H
        try dsimp only at H
        have A10 := Aside0.mk A100
        clear A100
        have H' := Aside0.mk H
        clear H
        have hcz11_0 : w6.cell? ⟨gb374, 0, none⟩ = some (.int .i64 0) := (blk_cell BK374.out 0).trans rfl
        have hcz11_1 : w6.cell? ⟨gb374, 1, none⟩ = some (.bool false) := (blk_cell BK374.out 1).trans rfl
        have hcz11_2 : w6.cell? ⟨gb374, 2, none⟩ = some (.int .i64 0) := (blk_cell BK374.out 2).trans rfl
        have hfz11_0 := blk_frozen BK374.out 0
        have hfz11_1 := blk_frozen BK374.out 1
        have hfz11_2 := blk_frozen BK374.out 2
        go_wp2_with (first | ((with_reducible refine gc_ 24 rfl ?_); refine gl_ (some 21) rfl rfl Tryz.func24 rfl #[.int .i64 ((rd_T50 l0 x4_1).f0), .int .i64 0, .int .i64 20000] rfl ?_; (with_reducible refine (spec_l01In.calls ((rd_T50 l0 x4_1).f0) 0 20000 true _ A8.out).mono ?_); rintro e w' ⟨rfl, ⟨nd, rfl⟩⟩; refine ⟨_, rfl, ?_⟩) | (go_at_call 24; (with_reducible refine (spec_l01In.calls ((rd_T50 l0 x4_1).f2) 0 20000 t376 _ A10.out).mono ?_); rintro e w' ⟨rfl, ⟨nd, rfl⟩⟩))
        go_meet
        case rel => exact ⟨_, (!t376), (by first | rfl | (simp; done) | (simp [*]; done)), H', ⟨by have := HK1.out; first | omega | exact Nat.le_refl _⟩, ⟨by (with_reducible repeat (first | refine blk_drewN ?_ _ | refine blk_drew ?_ | refine blk_alloc ?_ _)); refine blk_put (cs := #[.int .i64 ((rd_T50 l0 x4_1).f0), .bool ((rd_T50 l0 x4_1).f1), .int .i64 0]) ?_ 2 _ rfl; (with_reducible repeat (first | refine blk_drewN ?_ _ | refine blk_drew ?_ | refine blk_alloc ?_ _)); refine blk_put (cs := #[.int .i64 ((rd_T50 l0 x4_1).f0), .bool false, .int .i64 0]) ?_ 1 _ rfl; (with_reducible repeat (first | refine blk_drewN ?_ _ | refine blk_drew ?_ | refine blk_alloc ?_ _)); refine blk_put (cs := #[.int .i64 0, .bool false, .int .i64 0]) ?_ 0 _ rfl; (with_reducible repeat (first | refine blk_drewN ?_ _ | refine blk_drew ?_ | refine blk_alloc ?_ _)); exact BK374.out⟩, ⟨hx_ HB.out⟩⟩
       ·replace c9 := Bool.eq_false_iff.mpr c9
        subst c9
        have H1 : (spec_ProgramText.j1 k1 l0 x3_1 x4_1 true ((rd_T50 l0 x4_1).f0) ((rd_T50 l0 x4_1).f1) ((rd_T50 l0 x4_1).f2)) = some r := by rw [if_neg (show ¬ (false = true) by decide)] at H; exact H
        clear H
        have H := H1
        clear H1
        have H' := Aside0.mk H
        clear H
        have hcz12_0 : w6.cell? ⟨gb374, 0, none⟩ = some (.int .i64 0) := (blk_cell BK374.out 0).trans rfl
        have hcz12_1 : w6.cell? ⟨gb374, 1, none⟩ = some (.bool false) := (blk_cell BK374.out 1).trans rfl
        have hcz12_2 : w6.cell? ⟨gb374, 2, none⟩ = some (.int .i64 0) := (blk_cell BK374.out 2).trans rfl
        have hfz12_0 := blk_frozen BK374.out 0
        have hfz12_1 := blk_frozen BK374.out 1
        have hfz12_2 := blk_frozen BK374.out 2
        go_wp2_with (first | ((with_reducible refine gc_ 24 rfl ?_); refine gl_ (some 21) rfl rfl Tryz.func24 rfl #[.int .i64 ((rd_T50 l0 x4_1).f0), .int .i64 0, .int .i64 20000] rfl ?_; (with_reducible refine (spec_l01In.calls ((rd_T50 l0 x4_1).f0) 0 20000 false _ A8.out).mono ?_); rintro e w' ⟨rfl, ⟨nd, rfl⟩⟩; refine ⟨_, rfl, ?_⟩))
        go_meet
        case rel => exact ⟨_, (true), (by first | rfl | (simp; done) | (simp [*]; done)), H', ⟨by have := HK1.out; first | omega | exact Nat.le_refl _⟩, ⟨by (with_reducible repeat (first | refine blk_drewN ?_ _ | refine blk_drew ?_ | refine blk_alloc ?_ _)); refine blk_put (cs := #[.int .i64 ((rd_T50 l0 x4_1).f0), .bool ((rd_T50 l0 x4_1).f1), .int .i64 0]) ?_ 2 _ rfl; (with_reducible repeat (first | refine blk_drewN ?_ _ | refine blk_drew ?_ | refine blk_alloc ?_ _)); refine blk_put (cs := #[.int .i64 ((rd_T50 l0 x4_1).f0), .bool false, .int .i64 0]) ?_ 1 _ rfl; (with_reducible repeat (first | refine blk_drewN ?_ _ | refine blk_drew ?_ | refine blk_alloc ?_ _)); refine blk_put (cs := #[.int .i64 0, .bool false, .int .i64 0]) ?_ 0 _ rfl; (with_reducible repeat (first | refine blk_drewN ?_ _ | refine blk_drew ?_ | refine blk_alloc ?_ _)); exact BK374.out⟩, ⟨hx_ HB.out⟩⟩
      case rest =>
       clear HC5
       (try clear c1); (try clear c2); (try clear c2b0); (try clear c2b1); (try clear p2); (try clear c3); (try clear c3b0); (try clear p3); (try clear q3); (try clear hx3); (try clear c4); (try clear c4b0); (try clear c9); (try clear hcz11_0); (try clear hcz11_1); (try clear hcz11_2); (try clear hcz12_0); (try clear hcz12_1); (try clear hcz12_2); (try clear hcz7_0); (try clear hcz7_1); (try clear hcz7_2); (try clear hfz11_0); (try clear hfz11_1); (try clear hfz11_2); (try clear hfz12_0); (try clear hfz12_1); (try clear hfz12_2); (try clear hfz7_0); (try clear hfz7_1); (try clear hfz7_2); (try clear hx373_0); (try clear hx373_1); (try clear hx373_2); (try clear p2); (try clear p373); (try clear q373)
       obtain ⟨kq, x28_4, rfl, HA, HJ4, BK374, HB⟩ := hcut
       cases kq with
       | zero => exact absurd HA.out (by simp [spec_ProgramText.j1])
       | succ kj4 =>
        have H := HA.out
        clear HA
        simp only [spec_ProgramText.j1] at H
        by_cases c13 : x28_4 = true
        ·subst c13
         have H1 : (some (⟨#[]⟩ : ByteArray)) = some r := by rw [if_pos rfl] at H; exact H
         clear H
         have H := H1
         clear H1
         obtain rfl := Option.some.inj H
         go_wp2
         go_ret
         exact er_ (hx_ HB.out)
        ·replace c13 := Bool.eq_false_iff.mpr c13
         subst c13
         have H1 : (if x4_1 > 0 then (if x3_1.size + 1 ≤ 9223372036854775807 then (spec_ProgramText.j2 kj4 l0 (x3_1 ++ (⟨#[32]⟩ : ByteArray)) x4_1 ((rd_T50 l0 x4_1).f0) ((rd_T50 l0 x4_1).f1) ((rd_T50 l0 x4_1).f2)) else (none)) else (spec_ProgramText.j2 kj4 l0 x3_1 x4_1 ((rd_T50 l0 x4_1).f0) ((rd_T50 l0 x4_1).f1) ((rd_T50 l0 x4_1).f2))) = some r := by rw [if_neg (show ¬ (false = true) by decide)] at H; exact H
         clear H
         have H := H1
         clear H1
         have HC14 := Aside0.mk H
         clear H
         go_upto_if 30 with (fail)
         go_cut [3] (fun v3 wc => ∃ (kq : Nat) (x3_13 : ByteArray), v3 = .string x3_13 ∧ Aside0 (spec_ProgramText.j2 kq l0 x3_13 x4_1 ((rd_T50 l0 x4_1).f0) ((rd_T50 l0 x4_1).f1) ((rd_T50 l0 x4_1).f2) = some r) ∧ Aside0 (kq ≤ kj4) ∧ Aside0 (wc.heap[gb374]? = some (.cells #[.int .i64 ((rd_T50 l0 x4_1).f0), .bool ((rd_T50 l0 x4_1).f1), .int .i64 ((rd_T50 l0 x4_1).f2)] 50 (0, 0))) ∧ Aside0 (Below w.heap.size w wc))
         case first =>
          have H := HC14.out
          clear HC14
          by_cases c15 : x4_1 > 0
          ·rw [if_pos c15] at H
           have c15b0 : decide (0 < x4_1) = true := decide_eq_true c15
           clear c15
           (first | rw [c15b0] | (simp only [i64_w, i32_w]; rw [c15b0]) | skip)
           by_cases c16 : x3_1.size + 1 ≤ 9223372036854775807
           ·rw [if_pos c16] at H
            have c16b0 := eq_true c16
            have c16b1 : decide (x3_1.size + 1 ≤ 9223372036854775807) = true := decide_eq_true c16
            try have c16b2 : (9223372036854775807 < x3_1.size + 1) = False := eq_false (Nat.not_lt.2 c16)
            have H' := Aside0.mk H
            clear H
            go_wp2
            go_meet
            case rel => exact ⟨_, (x3_1 ++ (⟨#[32]⟩ : ByteArray)), (by first | rfl | (simp; done) | (simp [*]; done)), H', ⟨by have := HK1.out; have := HJ4.out; first | omega | exact Nat.le_refl _⟩, ⟨bx_ BK374.out⟩, ⟨hx_ HB.out⟩⟩
           ·rw [if_neg c16] at H
            exact absurd H (by simp)
          ·rw [if_neg c15] at H
           have c15b0 : decide (0 < x4_1) = false := decide_eq_false c15
           clear c15
           (first | rw [c15b0] | (simp only [i64_w, i32_w]; rw [c15b0]) | skip)
           have H' := Aside0.mk H
           clear H
           go_wp2
           go_meet
           case rel => exact ⟨_, (x3_1), (by first | rfl | (simp; done) | (simp [*]; done)), H', ⟨by have := HK1.out; have := HJ4.out; first | omega | exact Nat.le_refl _⟩, ⟨bx_ BK374.out⟩, ⟨hx_ HB.out⟩⟩
         case rest =>
          clear HC14
          (try clear c1); (try clear c2); (try clear c2b0); (try clear c2b1); (try clear p2); (try clear c3); (try clear c3b0); (try clear p3); (try clear q3); (try clear hx3); (try clear c4); (try clear c4b0); (try clear c9); (try clear c13); (try clear c14); (try clear c15); (try clear c15b0); (try clear c16); (try clear c16b0); (try clear c16b1); (try clear c16b2); (try clear hcz11_0); (try clear hcz11_1); (try clear hcz11_2); (try clear hcz12_0); (try clear hcz12_1); (try clear hcz12_2); (try clear hcz7_0); (try clear hcz7_1); (try clear hcz7_2); (try clear hfz11_0); (try clear hfz11_1); (try clear hfz11_2); (try clear hfz12_0); (try clear hfz12_1); (try clear hfz12_2); (try clear hfz7_0); (try clear hfz7_1); (try clear hfz7_2); (try clear hx373_0); (try clear hx373_1); (try clear hx373_2); (try clear p2); (try clear p3); (try clear p373); (try clear q3); (try clear q373)
          obtain ⟨kq, x3_13, rfl, HA, HJ13, BK374, HB⟩ := hcut
          cases kq with
          | zero => exact absurd HA.out (by simp [spec_ProgramText.j2])
          | succ kj13 =>
           have H := HA.out
           clear HA
           simp only [spec_ProgramText.j2] at H
           by_cases c17 : ((rd_T50 l0 x4_1).f1) = true
           ·rw [if_pos c17] at H
            have c17b0 : ((rd_T50 l0 x4_1).f1) = true := c17
            clear c17
            replace H := Option.bind_eq_some_iff.mp H
            obtain ⟨t377, A180, H⟩ := H
            try dsimp only at H
            have A18 := Aside0.mk A180
            clear A180
            by_cases c19 : x3_13.size + t377.size ≤ 9223372036854775807
            ·rw [if_pos c19] at H
             have c19b0 := eq_true c19
             have c19b1 : decide (x3_13.size + t377.size ≤ 9223372036854775807) = true := decide_eq_true c19
             try have c19b2 : (9223372036854775807 < x3_13.size + t377.size) = False := eq_false (Nat.not_lt.2 c19)
             by_cases c20 : (x3_13 ++ t377).size + 1 ≤ 9223372036854775807
             ·rw [if_pos c20] at H
              have c20b0 := eq_true c20
              have c20b1 : decide ((x3_13 ++ t377).size + 1 ≤ 9223372036854775807) = true := decide_eq_true c20
              try have c20b2 : (9223372036854775807 < (x3_13 ++ t377).size + 1) = False := eq_false (Nat.not_lt.2 c20)
              have c20b3 : (9223372036854775807 < x3_13.size + t377.size + 1) = False := eq_false (Nat.not_lt.2 (by have e_ := c20; simp only [ByteArray.size_append] at e_; first | exact e_ | omega))
              replace H := Option.bind_eq_some_iff.mp H
              obtain ⟨t378, A210, H⟩ := H
              try dsimp only at H
              have A21 := Aside0.mk A210
              clear A210
              by_cases c22 : ((x3_13 ++ t377) ++ (⟨#[45]⟩ : ByteArray)).size + t378.size ≤ 9223372036854775807
              ·rw [if_pos c22] at H
               have c22b0 := eq_true c22
               have c22b1 : decide (((x3_13 ++ t377) ++ (⟨#[45]⟩ : ByteArray)).size + t378.size ≤ 9223372036854775807) = true := decide_eq_true c22
               try have c22b2 : (9223372036854775807 < ((x3_13 ++ t377) ++ (⟨#[45]⟩ : ByteArray)).size + t378.size) = False := eq_false (Nat.not_lt.2 c22)
               have c22b3 : (9223372036854775807 < x3_13.size + t377.size + 1 + t378.size) = False := eq_false (Nat.not_lt.2 (by have e_ := c22; simp only [ByteArray.size_append] at e_; first | exact e_ | omega))
               have H' := Aside0.mk H
               clear H
               have hcz23_0 : wc.cell? ⟨gb374, 0, none⟩ = some (.int .i64 ((rd_T50 l0 x4_1).f0)) := (blk_cell BK374.out 0).trans rfl
               have hcz23_1 : wc.cell? ⟨gb374, 1, none⟩ = some (.bool ((rd_T50 l0 x4_1).f1)) := (blk_cell BK374.out 1).trans rfl
               have hcz23_2 : wc.cell? ⟨gb374, 2, none⟩ = some (.int .i64 ((rd_T50 l0 x4_1).f2)) := (blk_cell BK374.out 2).trans rfl
               have hfz23_0 := blk_frozen BK374.out 0
               have hfz23_1 := blk_frozen BK374.out 1
               have hfz23_2 := blk_frozen BK374.out 2
               try go_wp2
               replace BK374 := am_ (blk_drew BK374.out); replace HB := am_ (below_drew1 HB.out)
               refine start_ (n := 11) (S := fun w' => w'.cell? ⟨gb374, 0, none⟩ = some (.int .i64 ((rd_T50 l0 x4_1).f0)) ∧ w'.cell? ⟨gb374, 1, none⟩ = some (.bool ((rd_T50 l0 x4_1).f1)) ∧ w'.cell? ⟨gb374, 2, none⟩ = some (.int .i64 ((rd_T50 l0 x4_1).f2))) (ds := []) #[false, false, false, false, false, false, false, false, false, false, false] (by kernel_rfl) rfl rfl ⟨(blk_cell BK374.out 0).trans rfl, (blk_cell BK374.out 1).trans rfl, (blk_cell BK374.out 2).trans rfl⟩ (fun hHeld => ?_); refine with_tabW spec_ProgramText.tab13 spec_ProgramText.bits13 (fun HT_ HW_ => ?_)
               generalize wc.drew = w24 at BK374 HB hHeld ⊢
               refine pu_ 0 (some 35) #[true, false, false, false, false, false, false, false, false, false, false] HT_ ?_
               refine pu_ 1 (some 36) #[true, true, false, false, false, false, false, false, false, false, false] HT_ ?_
               refine pu_ 6 (some 41) #[true, true, false, false, false, false, true, false, false, false, false] HT_ ?_
               refine ta3_ 2 (some 37) #[true, true, true, false, false, false, true, false, false, false, false] HT_ HW_ hHeld ?_
               refine ta3_ 7 (some 42) #[true, true, true, false, false, false, true, true, false, false, false] HT_ HW_ hHeld ?_
               refine one_ (i := 3) (N := some 38) #[true, true, true, true, false, false, true, true, false, false, false] rfl rfl (one_of HT_.out (by kernel_rfl)) (by decide) (fun K hK => ?_)
               refine goes_ Tryz.func35 (by kernel_rfl) rfl #[.int .i64 ((rd_T50 l0 x4_1).f0)] (by rfl) rfl rfl (by (try simp only [List.map_toArray, List.map_cons, List.map_nil]); first | done | rfl | (simp only [List.length_drop, List.length_take]; rfl)) ?_
               with_reducible refine (spec_l01Dec.calls kj13 ((rd_T50 l0 x4_1).f0) t377 _ A18.out).mono ?_
               rintro e w25 ⟨rfl, hb⟩
               refine ⟨_, rfl, ?_⟩
               replace BK374 := bb_ BK374 hb; replace HB := hs_ HB hb
               (try clear hb)
               (try clear hb2)
               (try clear hk)
               (try clear hi)
               refine hK.out _ _ ⟨(blk_cell BK374.out 0).trans rfl, (blk_cell BK374.out 1).trans rfl, (blk_cell BK374.out 2).trans rfl⟩ (fun hHeld => ?_)
               clear hK K
               refine no_ (some 38) ?_
               refine pu_ 4 (some 39) #[true, true, true, true, true, false, true, true, false, false, false] HT_ ?_
               refine pu_ 5 (some 40) #[true, true, true, true, true, true, true, true, false, false, false] HT_ ?_
               refine one_ (i := 8) (N := some 43) #[true, true, true, true, true, true, true, true, true, false, false] rfl rfl (one_of HT_.out (by kernel_rfl)) (by decide) (fun K hK => ?_)
               refine goes_ Tryz.func35 (by kernel_rfl) rfl #[.int .i64 ((rd_T50 l0 x4_1).f2)] (by rfl) rfl rfl (by (try simp only [List.map_toArray, List.map_cons, List.map_nil]); first | done | rfl | (simp only [List.length_drop, List.length_take]; rfl)) ?_
               with_reducible refine (spec_l01Dec.calls kj13 ((rd_T50 l0 x4_1).f2) t378 _ A21.out).mono ?_
               rintro e w26 ⟨rfl, hb⟩
               refine ⟨_, rfl, ?_⟩
               replace BK374 := bb_ BK374 hb; replace HB := hs_ HB hb
               (try clear hb)
               (try clear hb2)
               (try clear hk)
               (try clear hi)
               refine hK.out _ _ ⟨(blk_cell BK374.out 0).trans rfl, (blk_cell BK374.out 1).trans rfl, (blk_cell BK374.out 2).trans rfl⟩ (fun hHeld => ?_)
               clear hK K
               refine no_ (some 43) ?_
               refine pu_ 9 (some 44) #[true, true, true, true, true, true, true, true, true, true, false] HT_ ?_
               refine pu_ 10 (some 3) #[true, true, true, true, true, true, true, true, true, true, true] HT_ ?_
               refine done_ (done_of HT_.out (by kernel_rfl)) ?_
               try go_wp2
               go_roundg kj13
               case measure => have := HK1.out; have := HJ4.out; have := HJ13.out; omega
               case rel => exact ⟨(((x3_13 ++ t377) ++ (⟨#[45]⟩ : ByteArray)) ++ t378), (wrap64 (x4_1 + 1)), (by first | rfl | (simp; done) | (simp [*]; done)), (by first | rfl | (simp; done) | (simp [*]; done)), H', ⟨by have := HK1.out; have := HJ4.out; have := HJ13.out; omega⟩, ⟨hx_ HB.out⟩⟩
              ·rw [if_neg c22] at H
               exact absurd H (by simp)
             ·rw [if_neg c20] at H
              exact absurd H (by simp)
            ·rw [if_neg c19] at H
             exact absurd H (by simp)
           ·rw [if_neg c17] at H
            have c17b0 : ((rd_T50 l0 x4_1).f1) = false := by simpa using c17
            clear c17
            replace H := Option.bind_eq_some_iff.mp H
            obtain ⟨t379, A270, H⟩ := H
            try dsimp only at H
            have A27 := Aside0.mk A270
            clear A270
            by_cases c28 : x3_13.size + t379.size ≤ 9223372036854775807
            ·rw [if_pos c28] at H
             have c28b0 := eq_true c28
             have c28b1 : decide (x3_13.size + t379.size ≤ 9223372036854775807) = true := decide_eq_true c28
             try have c28b2 : (9223372036854775807 < x3_13.size + t379.size) = False := eq_false (Nat.not_lt.2 c28)
             by_cases c29 : (x3_13 ++ t379).size + 1 ≤ 9223372036854775807
             ·rw [if_pos c29] at H
              have c29b0 := eq_true c29
              have c29b1 : decide ((x3_13 ++ t379).size + 1 ≤ 9223372036854775807) = true := decide_eq_true c29
              try have c29b2 : (9223372036854775807 < (x3_13 ++ t379).size + 1) = False := eq_false (Nat.not_lt.2 c29)
              have c29b3 : (9223372036854775807 < x3_13.size + t379.size + 1) = False := eq_false (Nat.not_lt.2 (by have e_ := c29; simp only [ByteArray.size_append] at e_; first | exact e_ | omega))
              replace H := Option.bind_eq_some_iff.mp H
              obtain ⟨t380, A300, H⟩ := H
              try dsimp only at H
              have A30 := Aside0.mk A300
              clear A300
              by_cases c31 : ((x3_13 ++ t379) ++ (⟨#[124]⟩ : ByteArray)).size + t380.size ≤ 9223372036854775807
              ·rw [if_pos c31] at H
               have c31b0 := eq_true c31
               have c31b1 : decide (((x3_13 ++ t379) ++ (⟨#[124]⟩ : ByteArray)).size + t380.size ≤ 9223372036854775807) = true := decide_eq_true c31
               try have c31b2 : (9223372036854775807 < ((x3_13 ++ t379) ++ (⟨#[124]⟩ : ByteArray)).size + t380.size) = False := eq_false (Nat.not_lt.2 c31)
               have c31b3 : (9223372036854775807 < x3_13.size + t379.size + 1 + t380.size) = False := eq_false (Nat.not_lt.2 (by have e_ := c31; simp only [ByteArray.size_append] at e_; first | exact e_ | omega))
               have H' := Aside0.mk H
               clear H
               have hcz32_0 : wc.cell? ⟨gb374, 0, none⟩ = some (.int .i64 ((rd_T50 l0 x4_1).f0)) := (blk_cell BK374.out 0).trans rfl
               have hcz32_1 : wc.cell? ⟨gb374, 1, none⟩ = some (.bool ((rd_T50 l0 x4_1).f1)) := (blk_cell BK374.out 1).trans rfl
               have hcz32_2 : wc.cell? ⟨gb374, 2, none⟩ = some (.int .i64 ((rd_T50 l0 x4_1).f2)) := (blk_cell BK374.out 2).trans rfl
               have hfz32_0 := blk_frozen BK374.out 0
               have hfz32_1 := blk_frozen BK374.out 1
               have hfz32_2 := blk_frozen BK374.out 2
               try go_wp2
               replace BK374 := am_ (blk_drew BK374.out); replace HB := am_ (below_drew1 HB.out)
               refine start_ (n := 11) (S := fun w' => w'.cell? ⟨gb374, 0, none⟩ = some (.int .i64 ((rd_T50 l0 x4_1).f0)) ∧ w'.cell? ⟨gb374, 1, none⟩ = some (.bool ((rd_T50 l0 x4_1).f1)) ∧ w'.cell? ⟨gb374, 2, none⟩ = some (.int .i64 ((rd_T50 l0 x4_1).f2))) (ds := []) #[false, false, false, false, false, false, false, false, false, false, false] (by kernel_rfl) rfl rfl ⟨(blk_cell BK374.out 0).trans rfl, (blk_cell BK374.out 1).trans rfl, (blk_cell BK374.out 2).trans rfl⟩ (fun hHeld => ?_); refine with_tabW spec_ProgramText.tab14 spec_ProgramText.bits14 (fun HT_ HW_ => ?_)
               generalize wc.drew = w33 at BK374 HB hHeld ⊢
               refine pu_ 0 (some 45) #[true, false, false, false, false, false, false, false, false, false, false] HT_ ?_
               refine pu_ 1 (some 46) #[true, true, false, false, false, false, false, false, false, false, false] HT_ ?_
               refine pu_ 6 (some 51) #[true, true, false, false, false, false, true, false, false, false, false] HT_ ?_
               refine ta3_ 2 (some 47) #[true, true, true, false, false, false, true, false, false, false, false] HT_ HW_ hHeld ?_
               refine ta3_ 7 (some 52) #[true, true, true, false, false, false, true, true, false, false, false] HT_ HW_ hHeld ?_
               refine one_ (i := 3) (N := some 48) #[true, true, true, true, false, false, true, true, false, false, false] rfl rfl (one_of HT_.out (by kernel_rfl)) (by decide) (fun K hK => ?_)
               refine goes_ Tryz.func35 (by kernel_rfl) rfl #[.int .i64 ((rd_T50 l0 x4_1).f0)] (by rfl) rfl rfl (by (try simp only [List.map_toArray, List.map_cons, List.map_nil]); first | done | rfl | (simp only [List.length_drop, List.length_take]; rfl)) ?_
               with_reducible refine (spec_l01Dec.calls kj13 ((rd_T50 l0 x4_1).f0) t379 _ A27.out).mono ?_
               rintro e w34 ⟨rfl, hb⟩
               refine ⟨_, rfl, ?_⟩
               replace BK374 := bb_ BK374 hb; replace HB := hs_ HB hb
               (try clear hb)
               (try clear hb2)
               (try clear hk)
               (try clear hi)
               refine hK.out _ _ ⟨(blk_cell BK374.out 0).trans rfl, (blk_cell BK374.out 1).trans rfl, (blk_cell BK374.out 2).trans rfl⟩ (fun hHeld => ?_)
               clear hK K
               refine no_ (some 48) ?_
               refine pu_ 4 (some 49) #[true, true, true, true, true, false, true, true, false, false, false] HT_ ?_
               refine pu_ 5 (some 50) #[true, true, true, true, true, true, true, true, false, false, false] HT_ ?_
               refine one_ (i := 8) (N := some 53) #[true, true, true, true, true, true, true, true, true, false, false] rfl rfl (one_of HT_.out (by kernel_rfl)) (by decide) (fun K hK => ?_)
               refine goes_ Tryz.func35 (by kernel_rfl) rfl #[.int .i64 ((rd_T50 l0 x4_1).f2)] (by rfl) rfl rfl (by (try simp only [List.map_toArray, List.map_cons, List.map_nil]); first | done | rfl | (simp only [List.length_drop, List.length_take]; rfl)) ?_
               with_reducible refine (spec_l01Dec.calls kj13 ((rd_T50 l0 x4_1).f2) t380 _ A30.out).mono ?_
               rintro e w35 ⟨rfl, hb⟩
               refine ⟨_, rfl, ?_⟩
               replace BK374 := bb_ BK374 hb; replace HB := hs_ HB hb
               (try clear hb)
               (try clear hb2)
               (try clear hk)
               (try clear hi)
               refine hK.out _ _ ⟨(blk_cell BK374.out 0).trans rfl, (blk_cell BK374.out 1).trans rfl, (blk_cell BK374.out 2).trans rfl⟩ (fun hHeld => ?_)
               clear hK K
               refine no_ (some 53) ?_
               refine pu_ 9 (some 54) #[true, true, true, true, true, true, true, true, true, true, false] HT_ ?_
               refine pu_ 10 (some 3) #[true, true, true, true, true, true, true, true, true, true, true] HT_ ?_
               refine done_ (done_of HT_.out (by kernel_rfl)) ?_
               try go_wp2
               go_roundg kj13
               case measure => have := HK1.out; have := HJ4.out; have := HJ13.out; omega
               case rel => exact ⟨(((x3_13 ++ t379) ++ (⟨#[124]⟩ : ByteArray)) ++ t380), (wrap64 (x4_1 + 1)), (by first | rfl | (simp; done) | (simp [*]; done)), (by first | rfl | (simp; done) | (simp [*]; done)), H', ⟨by have := HK1.out; have := HJ4.out; have := HJ13.out; omega⟩, ⟨hx_ HB.out⟩⟩
              ·rw [if_neg c31] at H
               exact absurd H (by simp)
             ·rw [if_neg c29] at H
              exact absurd H (by simp)
            ·rw [if_neg c28] at H
             exact absurd H (by simp)
     ·rw [if_neg c4] at H
      exact absurd H (by simp)
    ·rw [if_neg c3] at H
     have c3b0 : decide (x4_1 < (l0.length : Int)) = false := decide_eq_false c3
     clear c3
     obtain rfl := Option.some.inj H
     go_wp2
     go_ret
     exact er_ (hx_ HB.out)

end Go.Proofs.YtdafddgmeidclaaGreatDoor.PFnGridCuts
