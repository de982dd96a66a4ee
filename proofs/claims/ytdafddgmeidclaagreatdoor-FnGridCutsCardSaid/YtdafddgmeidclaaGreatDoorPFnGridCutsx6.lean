-- Written by wip/inject.py: a contract of each function that the law reaches; those of the stand-ins are proved in this seat's Hand texts
import Derived.Test.YtdafddgmeidclaaGreatDoorPFnGridCutsx0
import Derived.Test.YtdafddgmeidclaaGreatDoorPFnGridCutsx5
namespace Go.Proofs.YtdafddgmeidclaaGreatDoor.PFnGridCuts
open Go.RowKit Go.Proofs.YtdafddgmeidclaaGreatDoorW.PrintWords Go.Proofs.YtdafddgmeidclaaGreatDoorW.PrintLast Go.Proofs.YtdafddgmeidclaaGreatDoorW.PrintMore
attribute [local go_sem] max2_int min2_int max_two min_two max_three min_three max_four min_four   -- for this text's walks alone
set_option linter.unusedVariables false
set_option linter.unusedSimpArgs false

/-! ### spec_GridCuts: function 7 -/
mutual
def spec_GridCuts.j0 : Nat → Int → Int → Bool → Int → Int → Int → Int → Option ((List (S50)) × Int)
 | 0, _, _, _, _, _, _, _ => none
 | k + 1, x1, x2, x16, x192000, x192001, x193000, x193001 => if x16 = true then (some (([] : List (S50)), 1)) else ((spec_l01In.f x1 1 80).bind fun t195 => (if t195 = true then ((spec_l01In.f x2 1 80).bind fun t196 => (if t196 = true then (if (wrap64 (x1 * x193000)) < x192000 then (spec_GridCuts.j1 k x1 x2 (wrap64 ((wrap64 (x1 - 1)) + 1)) (wrap64 (x2 - 1)) x192000 x192001 x193000 x193001) else (spec_GridCuts.j1 k x1 x2 (wrap64 (x1 - 1)) (wrap64 (x2 - 1)) x192000 x192001 x193000 x193001)) else (some (([] : List (S50)), 2)))) else (some (([] : List (S50)), 2))))
def spec_GridCuts.j1 : Nat → Int → Int → Int → Int → Int → Int → Int → Int → Option ((List (S50)) × Int)
 | 0, _, _, _, _, _, _, _, _ => none
 | k + 1, x1, x2, x10, x11, x192000, x192001, x193000, x193001 => if (wrap64 (x2 * x193001)) < x192001 then (spec_GridCuts.j2 k x1 x2 x10 (wrap64 (x11 + 1)) x192000 x192001 x193000 x193001) else (spec_GridCuts.j2 k x1 x2 x10 x11 x192000 x192001 x193000 x193001)
def spec_GridCuts.j2 : Nat → Int → Int → Int → Int → Int → Int → Int → Int → Option ((List (S50)) × Int)
 | 0, _, _, _, _, _, _, _, _ => none
 | k + 1, x1, x2, x10, x11, x192000, x192001, x193000, x193001 => if (wrap64 (x10 + (wrap64 (x1 * x11)))) > 79 then (some (([] : List (S50)), 3)) else (if (wrap64 (x1 * x193000)) > x192000 then (some (([] : List (S50)), 5)) else (if (wrap64 (x2 * x193001)) > x192001 then (some (([] : List (S50)), 5)) else (spec_GridCuts.l0 k x1 x10 x11 (([] : List (S50))) 0 x193000 x193001)))
def spec_GridCuts.l0 : Nat → Int → Int → Int → List (S50) → Int → Int → Int → Option ((List (S50)) × Int)
 | 0, _, _, _, _, _, _, _ => none
 | k + 1, x1, x10, x11, x12, x13, x193000, x193001 => if x13 < x10 then (if x12.length < 5864062014805 then (spec_GridCuts.l0 k x1 x10 x11 (x12 ++ [(⟨x13, false, x193000⟩ : S50)]) (wrap64 (x13 + 1)) x193000 x193001) else (none)) else (spec_GridCuts.l1 k x1 x11 x12 0 x193000 x193001)
def spec_GridCuts.l1 : Nat → Int → Int → List (S50) → Int → Int → Int → Option ((List (S50)) × Int)
 | 0, _, _, _, _, _, _ => none
 | k + 1, x1, x11, x12, x14, x193000, x193001 => if x14 < x1 then (spec_GridCuts.l2 k x1 x11 x12 x14 0 x193000 x193001) else (some (x12, 0))
def spec_GridCuts.l2 : Nat → Int → Int → List (S50) → Int → Int → Int → Int → Option ((List (S50)) × Int)
 | 0, _, _, _, _, _, _, _ => none
 | k + 1, x1, x11, x12, x14, x15, x193000, x193001 => if x15 < x11 then (if x12.length < 5864062014805 then (spec_GridCuts.l2 k x1 x11 (x12 ++ [(⟨wrap64 ((wrap64 (x14 * (wrap64 (x11 + 1)))) + x15), true, x193001⟩ : S50)]) x14 (wrap64 (x15 + 1)) x193000 x193001) else (none)) else (spec_GridCuts.l1 k x1 x11 x12 (wrap64 (x14 + 1)) x193000 x193001)
end
def spec_GridCuts.f (k : Nat) (a0_0 : Int) (a0_1 : Int) (a1 : Int) (a2 : Int) (a3_0 : Int) (a3_1 : Int) : Option ((List (S50)) × Int) := (spec_IsPiece.f a0_0 a0_1).bind fun t193 => (if t193 = true then ((spec_IsPiece.f a3_0 a3_1).bind fun t194 => (spec_GridCuts.j0 k a1 a2 (!t194) a0_0 a0_1 a3_0 a3_1)) else (spec_GridCuts.j0 k a1 a2 true a0_0 a0_1 a3_0 a3_1))
theorem spec_GridCuts.mono_l : ∀ k, (∀ y0 y1 y2 y3 y4 y5 y6, LeO (spec_GridCuts.j0 k y0 y1 y2 y3 y4 y5 y6) (spec_GridCuts.j0 (k + 1) y0 y1 y2 y3 y4 y5 y6)) ∧ (∀ y0 y1 y2 y3 y4 y5 y6 y7, LeO (spec_GridCuts.j1 k y0 y1 y2 y3 y4 y5 y6 y7) (spec_GridCuts.j1 (k + 1) y0 y1 y2 y3 y4 y5 y6 y7)) ∧ (∀ y0 y1 y2 y3 y4 y5 y6 y7, LeO (spec_GridCuts.j2 k y0 y1 y2 y3 y4 y5 y6 y7) (spec_GridCuts.j2 (k + 1) y0 y1 y2 y3 y4 y5 y6 y7)) ∧ (∀ y0 y1 y2 y3 y4 y5 y6, LeO (spec_GridCuts.l0 k y0 y1 y2 y3 y4 y5 y6) (spec_GridCuts.l0 (k + 1) y0 y1 y2 y3 y4 y5 y6)) ∧ (∀ y0 y1 y2 y3 y4 y5, LeO (spec_GridCuts.l1 k y0 y1 y2 y3 y4 y5) (spec_GridCuts.l1 (k + 1) y0 y1 y2 y3 y4 y5)) ∧ (∀ y0 y1 y2 y3 y4 y5 y6, LeO (spec_GridCuts.l2 k y0 y1 y2 y3 y4 y5 y6) (spec_GridCuts.l2 (k + 1) y0 y1 y2 y3 y4 y5 y6))
 | 0 => ⟨fun _ _ _ _ _ _ _ r h => by simp [spec_GridCuts.j0] at h, fun _ _ _ _ _ _ _ _ r h => by simp [spec_GridCuts.j1] at h, fun _ _ _ _ _ _ _ _ r h => by simp [spec_GridCuts.j2] at h, fun _ _ _ _ _ _ _ r h => by simp [spec_GridCuts.l0] at h, fun _ _ _ _ _ _ r h => by simp [spec_GridCuts.l1] at h, fun _ _ _ _ _ _ _ r h => by simp [spec_GridCuts.l2] at h⟩
 | k + 1 => by
  obtain ⟨ih0, ih1, ih2, ih3, ih4, ih5⟩ := spec_GridCuts.mono_l k
  refine ⟨?_, ?_, ?_, ?_, ?_, ?_⟩
  ·intro y0 y1 y2 y3 y4 y5 y6
   unfold spec_GridCuts.j0
   repeat' first
   | (with_reducible exact ih0 _ _ _ _ _ _ _)
   | (with_reducible exact ih1 _ _ _ _ _ _ _ _)
   | (with_reducible exact ih2 _ _ _ _ _ _ _ _)
   | (with_reducible exact ih3 _ _ _ _ _ _ _)
   | (with_reducible exact ih4 _ _ _ _ _ _)
   | (with_reducible exact ih5 _ _ _ _ _ _ _)
   | (with_reducible exact LeO.refl _)
   | (with_reducible exact LeO.none _)
   | (with_reducible refine LeO.ite ?_ ?_)
   | (with_reducible refine LeO.bind ?_ (fun _ => ?_))
   | exact ih0 _ _ _ _ _ _ _
   | exact ih1 _ _ _ _ _ _ _ _
   | exact ih2 _ _ _ _ _ _ _ _
   | exact ih3 _ _ _ _ _ _ _
   | exact ih4 _ _ _ _ _ _
   | exact ih5 _ _ _ _ _ _ _
   | exact LeO.none _
   | refine LeO.ite ?_ ?_
   | refine LeO.bind ?_ (fun _ => ?_)
  ·intro y0 y1 y2 y3 y4 y5 y6 y7
   unfold spec_GridCuts.j1
   repeat' first
   | (with_reducible exact ih0 _ _ _ _ _ _ _)
   | (with_reducible exact ih1 _ _ _ _ _ _ _ _)
   | (with_reducible exact ih2 _ _ _ _ _ _ _ _)
   | (with_reducible exact ih3 _ _ _ _ _ _ _)
   | (with_reducible exact ih4 _ _ _ _ _ _)
   | (with_reducible exact ih5 _ _ _ _ _ _ _)
   | (with_reducible exact LeO.refl _)
   | (with_reducible exact LeO.none _)
   | (with_reducible refine LeO.ite ?_ ?_)
   | (with_reducible refine LeO.bind ?_ (fun _ => ?_))
   | exact ih0 _ _ _ _ _ _ _
   | exact ih1 _ _ _ _ _ _ _ _
   | exact ih2 _ _ _ _ _ _ _ _
   | exact ih3 _ _ _ _ _ _ _
   | exact ih4 _ _ _ _ _ _
   | exact ih5 _ _ _ _ _ _ _
   | exact LeO.none _
   | refine LeO.ite ?_ ?_
   | refine LeO.bind ?_ (fun _ => ?_)
  ·intro y0 y1 y2 y3 y4 y5 y6 y7
   unfold spec_GridCuts.j2
   repeat' first
   | (with_reducible exact ih0 _ _ _ _ _ _ _)
   | (with_reducible exact ih1 _ _ _ _ _ _ _ _)
   | (with_reducible exact ih2 _ _ _ _ _ _ _ _)
   | (with_reducible exact ih3 _ _ _ _ _ _ _)
   | (with_reducible exact ih4 _ _ _ _ _ _)
   | (with_reducible exact ih5 _ _ _ _ _ _ _)
   | (with_reducible exact LeO.refl _)
   | (with_reducible exact LeO.none _)
   | (with_reducible refine LeO.ite ?_ ?_)
   | (with_reducible refine LeO.bind ?_ (fun _ => ?_))
   | exact ih0 _ _ _ _ _ _ _
   | exact ih1 _ _ _ _ _ _ _ _
   | exact ih2 _ _ _ _ _ _ _ _
   | exact ih3 _ _ _ _ _ _ _
   | exact ih4 _ _ _ _ _ _
   | exact ih5 _ _ _ _ _ _ _
   | exact LeO.none _
   | refine LeO.ite ?_ ?_
   | refine LeO.bind ?_ (fun _ => ?_)
  ·intro y0 y1 y2 y3 y4 y5 y6
   unfold spec_GridCuts.l0
   repeat' first
   | (with_reducible exact ih0 _ _ _ _ _ _ _)
   | (with_reducible exact ih1 _ _ _ _ _ _ _ _)
   | (with_reducible exact ih2 _ _ _ _ _ _ _ _)
   | (with_reducible exact ih3 _ _ _ _ _ _ _)
   | (with_reducible exact ih4 _ _ _ _ _ _)
   | (with_reducible exact ih5 _ _ _ _ _ _ _)
   | (with_reducible exact LeO.refl _)
   | (with_reducible exact LeO.none _)
   | (with_reducible refine LeO.ite ?_ ?_)
   | (with_reducible refine LeO.bind ?_ (fun _ => ?_))
   | exact ih0 _ _ _ _ _ _ _
   | exact ih1 _ _ _ _ _ _ _ _
   | exact ih2 _ _ _ _ _ _ _ _
   | exact ih3 _ _ _ _ _ _ _
   | exact ih4 _ _ _ _ _ _
   | exact ih5 _ _ _ _ _ _ _
   | exact LeO.none _
   | refine LeO.ite ?_ ?_
   | refine LeO.bind ?_ (fun _ => ?_)
  ·intro y0 y1 y2 y3 y4 y5
   unfold spec_GridCuts.l1
   repeat' first
   | (with_reducible exact ih0 _ _ _ _ _ _ _)
   | (with_reducible exact ih1 _ _ _ _ _ _ _ _)
   | (with_reducible exact ih2 _ _ _ _ _ _ _ _)
   | (with_reducible exact ih3 _ _ _ _ _ _ _)
   | (with_reducible exact ih4 _ _ _ _ _ _)
   | (with_reducible exact ih5 _ _ _ _ _ _ _)
   | (with_reducible exact LeO.refl _)
   | (with_reducible exact LeO.none _)
   | (with_reducible refine LeO.ite ?_ ?_)
   | (with_reducible refine LeO.bind ?_ (fun _ => ?_))
   | exact ih0 _ _ _ _ _ _ _
   | exact ih1 _ _ _ _ _ _ _ _
   | exact ih2 _ _ _ _ _ _ _ _
   | exact ih3 _ _ _ _ _ _ _
   | exact ih4 _ _ _ _ _ _
   | exact ih5 _ _ _ _ _ _ _
   | exact LeO.none _
   | refine LeO.ite ?_ ?_
   | refine LeO.bind ?_ (fun _ => ?_)
  ·intro y0 y1 y2 y3 y4 y5 y6
   unfold spec_GridCuts.l2
   repeat' first
   | (with_reducible exact ih0 _ _ _ _ _ _ _)
   | (with_reducible exact ih1 _ _ _ _ _ _ _ _)
   | (with_reducible exact ih2 _ _ _ _ _ _ _ _)
   | (with_reducible exact ih3 _ _ _ _ _ _ _)
   | (with_reducible exact ih4 _ _ _ _ _ _)
   | (with_reducible exact ih5 _ _ _ _ _ _ _)
   | (with_reducible exact LeO.refl _)
   | (with_reducible exact LeO.none _)
   | (with_reducible refine LeO.ite ?_ ?_)
   | (with_reducible refine LeO.bind ?_ (fun _ => ?_))
   | exact ih0 _ _ _ _ _ _ _
   | exact ih1 _ _ _ _ _ _ _ _
   | exact ih2 _ _ _ _ _ _ _ _
   | exact ih3 _ _ _ _ _ _ _
   | exact ih4 _ _ _ _ _ _
   | exact ih5 _ _ _ _ _ _ _
   | exact LeO.none _
   | refine LeO.ite ?_ ?_
   | refine LeO.bind ?_ (fun _ => ?_)
theorem spec_GridCuts.mono : ∀ a0 a1 a2 a3 a4 a5 k, LeO (spec_GridCuts.f k a0 a1 a2 a3 a4 a5) (spec_GridCuts.f (k + 1) a0 a1 a2 a3 a4 a5) := by
 intro a0 a1 a2 a3 a4 a5 k
 obtain ⟨ih0, ih1, ih2, ih3, ih4, ih5⟩ := spec_GridCuts.mono_l k
 unfold spec_GridCuts.f
 repeat' first
   | (with_reducible exact ih0 _ _ _ _ _ _ _)
   | (with_reducible exact ih1 _ _ _ _ _ _ _ _)
   | (with_reducible exact ih2 _ _ _ _ _ _ _ _)
   | (with_reducible exact ih3 _ _ _ _ _ _ _)
   | (with_reducible exact ih4 _ _ _ _ _ _)
   | (with_reducible exact ih5 _ _ _ _ _ _ _)
   | (with_reducible exact LeO.refl _)
   | (with_reducible exact LeO.none _)
   | (with_reducible refine LeO.ite ?_ ?_)
   | (with_reducible refine LeO.bind ?_ (fun _ => ?_))
   | exact ih0 _ _ _ _ _ _ _
   | exact ih1 _ _ _ _ _ _ _ _
   | exact ih2 _ _ _ _ _ _ _ _
   | exact ih3 _ _ _ _ _ _ _
   | exact ih4 _ _ _ _ _ _
   | exact ih5 _ _ _ _ _ _ _
   | exact LeO.none _
   | refine LeO.ite ?_ ?_
   | refine LeO.bind ?_ (fun _ => ?_)
set_option maxHeartbeats 8000000 in
set_option maxRecDepth 100000 in
theorem spec_GridCuts.calls (k : Nat) (a0_0 : Int) (a0_1 : Int) (a1 : Int) (a2 : Int) (a3_0 : Int) (a3_1 : Int) (r1 : List (S50)) (r2 : Int) (w : World) (h : spec_GridCuts.f k a0_0 a0_1 a1 a2 a3_0 a3_1 = some (r1, r2)) :
  Calls Tryz.prog 7 #[.agg #[.int .i64 a0_0, .int .i64 a0_1], .int .i64 a1, .int .i64 a2, .agg #[.int .i64 a3_0, .int .i64 a3_1]] w fun e w' => ∃ v0_ : Value, e = .returned (.tuple #[v0_, .int .i64 r2]) ∧ Kd.R k50 50 w' w.heap.size (fun _ => True) v0_ r1 ∧ Below w.heap.size w w' := by
 have hu25 := Tryz.underlying25
 have hu50 := Tryz.underlying50
 have HB := Aside0.mk (Below.refl w.heap.size w)
 have H : ((spec_IsPiece.f a0_0 a0_1).bind fun t193 => (if t193 = true then ((spec_IsPiece.f a3_0 a3_1).bind fun t194 => (spec_GridCuts.j0 k a1 a2 (!t194) a0_0 a0_1 a3_0 a3_1)) else (spec_GridCuts.j0 k a1 a2 true a0_0 a0_1 a3_0 a3_1))) = some (r1, r2) := h
 clear h
 have HC5 := Aside0.mk H
 clear H
 go_enter Tryz.func7, Tryz.ntmps7
 go_upto_region 1 with (first | ((with_reducible refine gd_ 4 rfl ?_); refine be_ 4 #[.int .i64 a0_0, .int .i64 a0_1] 25 rfl rfl ?_; intro gb191 hg w6 hbox hb; have BK191 := am_ hbox; have GW191 := gw_ hg HB; have GE191 := gw_ hg HB; replace HB := hs_ HB hb; clear hb hbox hg) | ((with_reducible refine gd_ 7 rfl ?_); refine be_ 7 #[.int .i64 a3_0, .int .i64 a3_1] 25 rfl rfl ?_; intro gb192 hg w7 hbox hb; have BK192 := am_ hbox; have GW192 := gw_ hg HB; have GE192 := gw_ hg HB; replace HB := hs_ HB hb; have NB191_192 := nl_ hg BK191; have NB192_191 := ng_ hg BK191; replace BK191 := bb_ BK191 hb; clear hb hbox hg))
 (try simp only [Act.put, List.setIfInBounds_toArray, List.set_cons_zero, List.set_cons_succ])
 go_cut [16] (fun v16 wc => ∃ (kq : Nat) (x16_4 : Bool), v16 = .bool x16_4 ∧ Aside0 (spec_GridCuts.j0 kq a1 a2 x16_4 a0_0 a0_1 a3_0 a3_1 = some (r1, r2)) ∧ Aside0 (kq ≤ k) ∧ Aside0 (wc.heap[gb191]? = some (.cells #[.int .i64 a0_0, .int .i64 a0_1] 25 (0, 0))) ∧ Aside0 (wc.heap[gb192]? = some (.cells #[.int .i64 a3_0, .int .i64 a3_1] 25 (0, 0))) ∧ Aside0 (Below w.heap.size w wc))
 case first =>
  have H := HC5.out
  clear HC5
  replace H := Option.bind_eq_some_iff.mp H
  obtain ⟨t193, A80, H⟩ := H
  try dsimp only at H
  have A8 := Aside0.mk A80
  clear A80
  by_cases c9 : t193 = true
  ·subst c9
   have H1 : ((spec_IsPiece.f a3_0 a3_1).bind fun t194 => (spec_GridCuts.j0 k a1 a2 (!t194) a0_0 a0_1 a3_0 a3_1)) = some (r1, r2) := by rw [if_pos rfl] at H; exact H
   clear H
   have H := H1
   clear H1
   replace H := Option.bind_eq_some_iff.mp H
   obtain ⟨t194, A100, H⟩ := H
   try dsimp only at H
   have A10 := Aside0.mk A100
   clear A100
   have H' := Aside0.mk H
   clear H
   have hnb11 := NB191_192.out
   have hnc11 := NB192_191.out
   have hcz12_0 : w7.cell? ⟨gb191, 0, none⟩ = some (.int .i64 a0_0) := (blk_cell BK191.out 0).trans rfl
   have hcz12_1 : w7.cell? ⟨gb191, 1, none⟩ = some (.int .i64 a0_1) := (blk_cell BK191.out 1).trans rfl
   have hfz12_0 := blk_frozen BK191.out 0
   have hfz12_1 := blk_frozen BK191.out 1
   go_wp2_with (first | ((with_reducible refine gc_ 23 rfl ?_); refine gl_ (some 18) rfl rfl Tryz.func23 rfl #[.agg #[.int .i64 a0_0, .int .i64 a0_1]] rfl ?_; (with_reducible refine (spec_IsPiece.calls a0_0 a0_1 true _ A8.out).mono ?_); rintro e w13 ⟨rfl, hb⟩; refine ⟨_, rfl, ?_⟩; replace BK191 := bb_ BK191 hb; replace BK192 := bb_ BK192 hb; replace HB := hs_ HB hb; (try clear hb); (try clear hb2); (try clear hk); (try clear hi); have hcz14_0 : w13.cell? ⟨gb192, 0, none⟩ = some (.int .i64 a3_0) := (blk_cell BK192.out 0).trans rfl; have hcz14_1 : w13.cell? ⟨gb192, 1, none⟩ = some (.int .i64 a3_1) := (blk_cell BK192.out 1).trans rfl; have hfz14_0 := blk_frozen BK192.out 0; have hfz14_1 := blk_frozen BK192.out 1) | (go_at_call 23; (with_reducible refine (spec_IsPiece.calls a3_0 a3_1 t194 _ A10.out).mono ?_); rintro e w15 ⟨rfl, hb⟩; replace BK191 := bb_ BK191 hb; replace BK192 := bb_ BK192 hb; replace HB := hs_ HB hb; (try clear hb); (try clear hb2); (try clear hk); (try clear hi)))
   go_meet
   case rel => exact ⟨_, (!t194), (by first | rfl | (simp; done) | (simp [*]; done)), H', ⟨by first | omega | exact Nat.le_refl _⟩, ⟨bx_ BK191.out⟩, ⟨bx_ BK192.out⟩, ⟨hx_ HB.out⟩⟩
  ·replace c9 := Bool.eq_false_iff.mpr c9
   subst c9
   have H1 : (spec_GridCuts.j0 k a1 a2 true a0_0 a0_1 a3_0 a3_1) = some (r1, r2) := by rw [if_neg (show ¬ (false = true) by decide)] at H; exact H
   clear H
   have H := H1
   clear H1
   have H' := Aside0.mk H
   clear H
   have hnb16 := NB191_192.out
   have hnc16 := NB192_191.out
   have hcz17_0 : w7.cell? ⟨gb191, 0, none⟩ = some (.int .i64 a0_0) := (blk_cell BK191.out 0).trans rfl
   have hcz17_1 : w7.cell? ⟨gb191, 1, none⟩ = some (.int .i64 a0_1) := (blk_cell BK191.out 1).trans rfl
   have hfz17_0 := blk_frozen BK191.out 0
   have hfz17_1 := blk_frozen BK191.out 1
   go_wp2_with (first | ((with_reducible refine gc_ 23 rfl ?_); refine gl_ (some 18) rfl rfl Tryz.func23 rfl #[.agg #[.int .i64 a0_0, .int .i64 a0_1]] rfl ?_; (with_reducible refine (spec_IsPiece.calls a0_0 a0_1 false _ A8.out).mono ?_); rintro e w18 ⟨rfl, hb⟩; refine ⟨_, rfl, ?_⟩; replace BK191 := bb_ BK191 hb; replace BK192 := bb_ BK192 hb; replace HB := hs_ HB hb; (try clear hb); (try clear hb2); (try clear hk); (try clear hi)))
   go_meet
   case rel => exact ⟨_, (true), (by first | rfl | (simp; done) | (simp [*]; done)), H', ⟨by first | omega | exact Nat.le_refl _⟩, ⟨bx_ BK191.out⟩, ⟨bx_ BK192.out⟩, ⟨hx_ HB.out⟩⟩
 case rest =>
  clear HC5
  (try clear c1); (try clear c2); (try clear p2); (try clear c7); (try clear c9); (try clear c11); (try clear c16); (try clear hcz12_0); (try clear hcz12_1); (try clear hcz14_0); (try clear hcz14_1); (try clear hcz17_0); (try clear hcz17_1); (try clear hfz12_0); (try clear hfz12_1); (try clear hfz14_0); (try clear hfz14_1); (try clear hfz17_0); (try clear hfz17_1)
  obtain ⟨kq, x16_4, rfl, HA, HJ4, BK191, BK192, HB⟩ := hcut
  cases kq with
  | zero => exact absurd HA.out (by simp [spec_GridCuts.j0])
  | succ kj4 =>
   have H := HA.out
   clear HA
   simp only [spec_GridCuts.j0] at H
   by_cases c19 : x16_4 = true
   ·subst c19
    have H1 : (some (([] : List (S50)), 1)) = some (r1, r2) := by rw [if_pos rfl] at H; exact H
    clear H
    have H := H1
    clear H1
    simp only [Option.some.injEq, Prod.mk.injEq] at H
    obtain ⟨rfl, rfl⟩ := H
    go_wp2
    go_ret2
    exact ⟨_, by first | rfl | (simp [errW_none, errW_some] <;> rfl) | (simp [*, errW_none, errW_some] <;> rfl), by first | exact Kd.R_nil _ _ _ _ _ | exact Kd.N_nil _ _ _ _ _ | exact Kd.V_nil _ _ _ _ _ | exact Kd.Q_nil _ _ _ _ _ | exact Kd.S_nil _ _ _ _ _, hx_ HB.out⟩
   ·replace c19 := Bool.eq_false_iff.mpr c19
    subst c19
    have H1 : ((spec_l01In.f a1 1 80).bind fun t195 => (if t195 = true then ((spec_l01In.f a2 1 80).bind fun t196 => (if t196 = true then (if (wrap64 (a1 * a3_0)) < a0_0 then (spec_GridCuts.j1 kj4 a1 a2 (wrap64 ((wrap64 (a1 - 1)) + 1)) (wrap64 (a2 - 1)) a0_0 a0_1 a3_0 a3_1) else (spec_GridCuts.j1 kj4 a1 a2 (wrap64 (a1 - 1)) (wrap64 (a2 - 1)) a0_0 a0_1 a3_0 a3_1)) else (some (([] : List (S50)), 2)))) else (some (([] : List (S50)), 2)))) = some (r1, r2) := by rw [if_neg (show ¬ (false = true) by decide)] at H; exact H
    clear H
    have H := H1
    clear H1
    replace H := Option.bind_eq_some_iff.mp H
    obtain ⟨t195, A200, H⟩ := H
    try dsimp only at H
    have A20 := Aside0.mk A200
    clear A200
    by_cases c21 : t195 = true
    ·subst c21
     have H1 : ((spec_l01In.f a2 1 80).bind fun t196 => (if t196 = true then (if (wrap64 (a1 * a3_0)) < a0_0 then (spec_GridCuts.j1 kj4 a1 a2 (wrap64 ((wrap64 (a1 - 1)) + 1)) (wrap64 (a2 - 1)) a0_0 a0_1 a3_0 a3_1) else (spec_GridCuts.j1 kj4 a1 a2 (wrap64 (a1 - 1)) (wrap64 (a2 - 1)) a0_0 a0_1 a3_0 a3_1)) else (some (([] : List (S50)), 2)))) = some (r1, r2) := by rw [if_pos rfl] at H; exact H
     clear H
     have H := H1
     clear H1
     replace H := Option.bind_eq_some_iff.mp H
     obtain ⟨t196, A220, H⟩ := H
     try dsimp only at H
     have A22 := Aside0.mk A220
     clear A220
     by_cases c23 : t196 = true
     ·subst c23
      have H1 : (if (wrap64 (a1 * a3_0)) < a0_0 then (spec_GridCuts.j1 kj4 a1 a2 (wrap64 ((wrap64 (a1 - 1)) + 1)) (wrap64 (a2 - 1)) a0_0 a0_1 a3_0 a3_1) else (spec_GridCuts.j1 kj4 a1 a2 (wrap64 (a1 - 1)) (wrap64 (a2 - 1)) a0_0 a0_1 a3_0 a3_1)) = some (r1, r2) := by rw [if_pos rfl] at H; exact H
      clear H
      have H := H1
      clear H1
      have HC24 := Aside0.mk H
      clear H
      go_upto_if 44 with (first | ((with_reducible refine gc_ 24 rfl ?_); refine gl_ (some 27) rfl rfl Tryz.func24 rfl #[.int .i64 a1, .int .i64 1, .int .i64 80] rfl ?_; (with_reducible refine (spec_l01In.calls a1 1 80 true _ A20.out).mono ?_); rintro e w' ⟨rfl, ⟨nd, rfl⟩⟩; refine ⟨_, rfl, ?_⟩) | (go_at_call 24; (with_reducible refine (spec_l01In.calls a2 1 80 true _ A22.out).mono ?_); rintro e w' ⟨rfl, ⟨nd, rfl⟩⟩; have hnb25 := NB192_191.out; have hnc25 := NB191_192.out; have hcz26_0 : wc.cell? ⟨gb192, 0, none⟩ = some (.int .i64 a3_0) := (blk_cell BK192.out 0).trans rfl; have hcz26_1 : wc.cell? ⟨gb192, 1, none⟩ = some (.int .i64 a3_1) := (blk_cell BK192.out 1).trans rfl; have hfz26_0 := blk_frozen BK192.out 0; have hfz26_1 := blk_frozen BK192.out 1; have hcz27_0 : wc.cell? ⟨gb191, 0, none⟩ = some (.int .i64 a0_0) := (blk_cell BK191.out 0).trans rfl; have hcz27_1 : wc.cell? ⟨gb191, 1, none⟩ = some (.int .i64 a0_1) := (blk_cell BK191.out 1).trans rfl; have hfz27_0 := blk_frozen BK191.out 0; have hfz27_1 := blk_frozen BK191.out 1))
      (try simp only [Act.put, List.setIfInBounds_toArray, List.set_cons_zero, List.set_cons_succ])
      go_cut [10] (fun v10 wc => ∃ (kq : Nat) (x10_23 : Int), v10 = .int .i64 x10_23 ∧ Aside0 (spec_GridCuts.j1 kq a1 a2 x10_23 (wrap64 (a2 - 1)) a0_0 a0_1 a3_0 a3_1 = some (r1, r2)) ∧ Aside0 (kq ≤ kj4) ∧ Aside0 (wc.heap[gb191]? = some (.cells #[.int .i64 a0_0, .int .i64 a0_1] 25 (0, 0))) ∧ Aside0 (wc.heap[gb192]? = some (.cells #[.int .i64 a3_0, .int .i64 a3_1] 25 (0, 0))) ∧ Aside0 (Below w.heap.size w wc))
      case first =>
       have H := HC24.out
       clear HC24
       by_cases c28 : (wrap64 (a1 * a3_0)) < a0_0
       ·rw [if_pos c28] at H
        have c28b0 : decide ((wrap64 (a1 * a3_0)) < a0_0) = true := decide_eq_true c28
        clear c28
        (first | rw [c28b0] | (simp only [i64_w, i32_w]; rw [c28b0]) | skip)
        have H' := Aside0.mk H
        clear H
        go_wp2
        go_meet
        case rel => exact ⟨_, (wrap64 ((wrap64 (a1 - 1)) + 1)), (by first | rfl | (simp; done) | (simp [*]; done)), H', ⟨by have := HJ4.out; first | omega | exact Nat.le_refl _⟩, ⟨bx_ BK191.out⟩, ⟨bx_ BK192.out⟩, ⟨hx_ HB.out⟩⟩
       ·rw [if_neg c28] at H
        have c28b0 : decide ((wrap64 (a1 * a3_0)) < a0_0) = false := decide_eq_false c28
        clear c28
        (first | rw [c28b0] | (simp only [i64_w, i32_w]; rw [c28b0]) | skip)
        have H' := Aside0.mk H
        clear H
        go_wp2
        go_meet
        case rel => exact ⟨_, (wrap64 (a1 - 1)), (by first | rfl | (simp; done) | (simp [*]; done)), H', ⟨by have := HJ4.out; first | omega | exact Nat.le_refl _⟩, ⟨bx_ BK191.out⟩, ⟨bx_ BK192.out⟩, ⟨hx_ HB.out⟩⟩
      case rest =>
       clear HC24
       (try clear c1); (try clear c2); (try clear p2); (try clear p6); (try clear c7); (try clear c9); (try clear c11); (try clear c16); (try clear c19); (try clear c21); (try clear c23); (try clear c24); (try clear c25); (try clear c28); (try clear c28b0); (try clear hcz12_0); (try clear hcz12_1); (try clear hcz14_0); (try clear hcz14_1); (try clear hcz17_0); (try clear hcz17_1); (try clear hcz26_0); (try clear hcz26_1); (try clear hcz27_0); (try clear hcz27_1); (try clear hfz12_0); (try clear hfz12_1); (try clear hfz14_0); (try clear hfz14_1); (try clear hfz17_0); (try clear hfz17_1); (try clear hfz26_0); (try clear hfz26_1); (try clear hfz27_0); (try clear hfz27_1); (try clear p2)
       obtain ⟨kq, x10_23, rfl, HA, HJ23, BK191, BK192, HB⟩ := hcut
       cases kq with
       | zero => exact absurd HA.out (by simp [spec_GridCuts.j1])
       | succ kj23 =>
        have H := HA.out
        clear HA
        simp only [spec_GridCuts.j1] at H
        have HC29 := Aside0.mk H
        clear H
        have hnb30 := NB192_191.out
        have hnc30 := NB191_192.out
        have hcz31_0 : wc.cell? ⟨gb192, 0, none⟩ = some (.int .i64 a3_0) := (blk_cell BK192.out 0).trans rfl
        have hcz31_1 : wc.cell? ⟨gb192, 1, none⟩ = some (.int .i64 a3_1) := (blk_cell BK192.out 1).trans rfl
        have hfz31_0 := blk_frozen BK192.out 0
        have hfz31_1 := blk_frozen BK192.out 1
        have hcz32_0 : wc.cell? ⟨gb191, 0, none⟩ = some (.int .i64 a0_0) := (blk_cell BK191.out 0).trans rfl
        have hcz32_1 : wc.cell? ⟨gb191, 1, none⟩ = some (.int .i64 a0_1) := (blk_cell BK191.out 1).trans rfl
        have hfz32_0 := blk_frozen BK191.out 0
        have hfz32_1 := blk_frozen BK191.out 1
        go_upto_if 53 with (fail)
        go_cut [11] (fun v11 wc => ∃ (kq : Nat) (x11_28 : Int), v11 = .int .i64 x11_28 ∧ Aside0 (spec_GridCuts.j2 kq a1 a2 x10_23 x11_28 a0_0 a0_1 a3_0 a3_1 = some (r1, r2)) ∧ Aside0 (kq ≤ kj23) ∧ Aside0 (wc.heap[gb191]? = some (.cells #[.int .i64 a0_0, .int .i64 a0_1] 25 (0, 0))) ∧ Aside0 (wc.heap[gb192]? = some (.cells #[.int .i64 a3_0, .int .i64 a3_1] 25 (0, 0))) ∧ Aside0 (Below w.heap.size w wc))
        case first =>
         have H := HC29.out
         clear HC29
         by_cases c33 : (wrap64 (a2 * a3_1)) < a0_1
         ·rw [if_pos c33] at H
          have c33b0 : decide ((wrap64 (a2 * a3_1)) < a0_1) = true := decide_eq_true c33
          clear c33
          (first | rw [c33b0] | (simp only [i64_w, i32_w]; rw [c33b0]) | skip)
          have H' := Aside0.mk H
          clear H
          go_wp2
          go_meet
          case rel => exact ⟨_, (wrap64 ((wrap64 (a2 - 1)) + 1)), (by first | rfl | (simp; done) | (simp [*]; done)), H', ⟨by have := HJ4.out; have := HJ23.out; first | omega | exact Nat.le_refl _⟩, ⟨bx_ BK191.out⟩, ⟨bx_ BK192.out⟩, ⟨hx_ HB.out⟩⟩
         ·rw [if_neg c33] at H
          have c33b0 : decide ((wrap64 (a2 * a3_1)) < a0_1) = false := decide_eq_false c33
          clear c33
          (first | rw [c33b0] | (simp only [i64_w, i32_w]; rw [c33b0]) | skip)
          have H' := Aside0.mk H
          clear H
          go_wp2
          go_meet
          case rel => exact ⟨_, ((wrap64 (a2 - 1))), (by first | rfl | (simp; done) | (simp [*]; done)), H', ⟨by have := HJ4.out; have := HJ23.out; first | omega | exact Nat.le_refl _⟩, ⟨bx_ BK191.out⟩, ⟨bx_ BK192.out⟩, ⟨hx_ HB.out⟩⟩
        case rest =>
         clear HC29
         (try clear c1); (try clear c2); (try clear p2); (try clear c3); (try clear p6); (try clear c7); (try clear c9); (try clear c11); (try clear c16); (try clear c19); (try clear c21); (try clear c23); (try clear c24); (try clear c25); (try clear c28); (try clear c28b0); (try clear c30); (try clear c33); (try clear c33b0); (try clear hcz12_0); (try clear hcz12_1); (try clear hcz14_0); (try clear hcz14_1); (try clear hcz17_0); (try clear hcz17_1); (try clear hcz26_0); (try clear hcz26_1); (try clear hcz27_0); (try clear hcz27_1); (try clear hcz31_0); (try clear hcz31_1); (try clear hcz32_0); (try clear hcz32_1); (try clear hfz12_0); (try clear hfz12_1); (try clear hfz14_0); (try clear hfz14_1); (try clear hfz17_0); (try clear hfz17_1); (try clear hfz26_0); (try clear hfz26_1); (try clear hfz27_0); (try clear hfz27_1); (try clear hfz31_0); (try clear hfz31_1); (try clear hfz32_0); (try clear hfz32_1); (try clear p2); (try clear p6)
         obtain ⟨kq, x11_28, rfl, HA, HJ28, BK191, BK192, HB⟩ := hcut
         cases kq with
         | zero => exact absurd HA.out (by simp [spec_GridCuts.j2])
         | succ kj28 =>
          have H := HA.out
          clear HA
          simp only [spec_GridCuts.j2] at H
          by_cases c34 : (wrap64 (x10_23 + (wrap64 (a1 * x11_28)))) > 79
          ·rw [if_pos c34] at H
           have c34b0 : decide (79 < (wrap64 (x10_23 + (wrap64 (a1 * x11_28))))) = true := decide_eq_true c34
           clear c34
           simp only [Option.some.injEq, Prod.mk.injEq] at H
           obtain ⟨rfl, rfl⟩ := H
           go_wp2
           go_ret2
           exact ⟨_, by first | rfl | (simp [errW_none, errW_some] <;> rfl) | (simp [*, errW_none, errW_some] <;> rfl), by first | exact Kd.R_nil _ _ _ _ _ | exact Kd.N_nil _ _ _ _ _ | exact Kd.V_nil _ _ _ _ _ | exact Kd.Q_nil _ _ _ _ _ | exact Kd.S_nil _ _ _ _ _, hx_ HB.out⟩
          ·rw [if_neg c34] at H
           have c34b0 : decide (79 < (wrap64 (x10_23 + (wrap64 (a1 * x11_28))))) = false := decide_eq_false c34
           clear c34
           by_cases c35 : (wrap64 (a1 * a3_0)) > a0_0
           ·rw [if_pos c35] at H
            have c35b0 : decide (a0_0 < (wrap64 (a1 * a3_0))) = true := decide_eq_true c35
            clear c35
            simp only [Option.some.injEq, Prod.mk.injEq] at H
            obtain ⟨rfl, rfl⟩ := H
            have hnb36 := NB192_191.out
            have hnc36 := NB191_192.out
            have hcz37_0 : wc.cell? ⟨gb192, 0, none⟩ = some (.int .i64 a3_0) := (blk_cell BK192.out 0).trans rfl
            have hcz37_1 : wc.cell? ⟨gb192, 1, none⟩ = some (.int .i64 a3_1) := (blk_cell BK192.out 1).trans rfl
            have hfz37_0 := blk_frozen BK192.out 0
            have hfz37_1 := blk_frozen BK192.out 1
            have hcz38_0 : wc.cell? ⟨gb191, 0, none⟩ = some (.int .i64 a0_0) := (blk_cell BK191.out 0).trans rfl
            have hcz38_1 : wc.cell? ⟨gb191, 1, none⟩ = some (.int .i64 a0_1) := (blk_cell BK191.out 1).trans rfl
            have hfz38_0 := blk_frozen BK191.out 0
            have hfz38_1 := blk_frozen BK191.out 1
            go_wp2
            go_ret2
            exact ⟨_, by first | rfl | (simp [errW_none, errW_some] <;> rfl) | (simp [*, errW_none, errW_some] <;> rfl), by first | exact Kd.R_nil _ _ _ _ _ | exact Kd.N_nil _ _ _ _ _ | exact Kd.V_nil _ _ _ _ _ | exact Kd.Q_nil _ _ _ _ _ | exact Kd.S_nil _ _ _ _ _, hx_ HB.out⟩
           ·rw [if_neg c35] at H
            have c35b0 : decide (a0_0 < (wrap64 (a1 * a3_0))) = false := decide_eq_false c35
            clear c35
            by_cases c39 : (wrap64 (a2 * a3_1)) > a0_1
            ·rw [if_pos c39] at H
             have c39b0 : decide (a0_1 < (wrap64 (a2 * a3_1))) = true := decide_eq_true c39
             clear c39
             simp only [Option.some.injEq, Prod.mk.injEq] at H
             obtain ⟨rfl, rfl⟩ := H
             have hnb40 := NB192_191.out
             have hnc40 := NB191_192.out
             have hcz41_0 : wc.cell? ⟨gb192, 0, none⟩ = some (.int .i64 a3_0) := (blk_cell BK192.out 0).trans rfl
             have hcz41_1 : wc.cell? ⟨gb192, 1, none⟩ = some (.int .i64 a3_1) := (blk_cell BK192.out 1).trans rfl
             have hfz41_0 := blk_frozen BK192.out 0
             have hfz41_1 := blk_frozen BK192.out 1
             have hcz42_0 : wc.cell? ⟨gb191, 0, none⟩ = some (.int .i64 a0_0) := (blk_cell BK191.out 0).trans rfl
             have hcz42_1 : wc.cell? ⟨gb191, 1, none⟩ = some (.int .i64 a0_1) := (blk_cell BK191.out 1).trans rfl
             have hfz42_0 := blk_frozen BK191.out 0
             have hfz42_1 := blk_frozen BK191.out 1
             go_wp2
             go_ret2
             exact ⟨_, by first | rfl | (simp [errW_none, errW_some] <;> rfl) | (simp [*, errW_none, errW_some] <;> rfl), by first | exact Kd.R_nil _ _ _ _ _ | exact Kd.N_nil _ _ _ _ _ | exact Kd.V_nil _ _ _ _ _ | exact Kd.Q_nil _ _ _ _ _ | exact Kd.S_nil _ _ _ _ _, hx_ HB.out⟩
            ·rw [if_neg c39] at H
             have c39b0 : decide (a0_1 < (wrap64 (a2 * a3_1))) = false := decide_eq_false c39
             clear c39
             obtain ⟨y197, hy197⟩ : ∃ y_ : List (S50), y_ = (([] : List (S50))) := ⟨_, rfl⟩
             replace H : (spec_GridCuts.l0 kj28 a1 x10_23 x11_28 y197 0 a3_0 a3_1) = some (r1, r2) := by first | (rw [hy197]; with_reducible exact H) | (have H2_ := (Option.bind_some _ _).symm.trans H; rw [hy197]; with_reducible exact H2_) | (have H2_ := (Option.bind_some _ _).symm.trans H; with_reducible exact H2_) | with_reducible exact H | (rw [hy197]; exact H) | exact H
             have Ny197 := Aside0.mk hy197
             clear hy197
             have H' := Aside0.mk H
             clear H
             have hnb43 := NB192_191.out
             have hnc43 := NB191_192.out
             have hcz44_0 : wc.cell? ⟨gb192, 0, none⟩ = some (.int .i64 a3_0) := (blk_cell BK192.out 0).trans rfl
             have hcz44_1 : wc.cell? ⟨gb192, 1, none⟩ = some (.int .i64 a3_1) := (blk_cell BK192.out 1).trans rfl
             have hfz44_0 := blk_frozen BK192.out 0
             have hfz44_1 := blk_frozen BK192.out 1
             have hcz45_0 : wc.cell? ⟨gb191, 0, none⟩ = some (.int .i64 a0_0) := (blk_cell BK191.out 0).trans rfl
             have hcz45_1 : wc.cell? ⟨gb191, 1, none⟩ = some (.int .i64 a0_1) := (blk_cell BK191.out 1).trans rfl
             have hfz45_0 := blk_frozen BK191.out 0
             have hfz45_1 := blk_frozen BK191.out 1
             go_wp2_with (first | ((with_reducible refine gd_ 80 rfl ?_); refine Kd.R_lit k50 _ 50 ?hg (N := 80) ?hd (xs := ([] : List (S50))) (inner := []) (ok := fun _ => True) (okp := fun _ => True) ?hr ?hp (fun _ hk => hk) trivial (Below.refl _ _) (Nat.le_refl _) (by simp) ?_; (case hd => rfl); (case hg => rfl); (case hr => first | (go_simp; done) | (go_simp; rfl)); (case hp => exact (Reps.none _ _)); intro v198 w46 ho47 hb hg_ hnew_; clear hg_ hnew_; (first | rw [← Ny197.out] at ho47 | (simp only [Int.reduceToNat] at ho47; rw [← Ny197.out] at ho47)); have HO199 := am_ (Kd.R_lower ho47 (below_size (hx_ HB.out))); replace BK191 := bb_ BK191 hb; replace BK192 := bb_ BK192 hb; replace HB := hs_ HB hb; clear hb ho47))
             go_loopg [12, 13] kj28 (fun kq v12 v13 w' => ∃ (x12_4 : List (S50)) (x13_4 : Int), v13 = .int .i64 x13_4 ∧ Aside0 (spec_GridCuts.l0 kq a1 x10_23 x11_28 x12_4 x13_4 a3_0 a3_1 = some (r1, r2)) ∧ Aside0 (kq ≤ kj28) ∧ Aside0 (Kd.R k50 50 w' w.heap.size (fun _ => True) v12 x12_4) ∧ Aside0 (w'.heap[gb191]? = some (.cells #[.int .i64 a0_0, .int .i64 a0_1] 25 (0, 0))) ∧ Aside0 (w'.heap[gb192]? = some (.cells #[.int .i64 a3_0, .int .i64 a3_1] 25 (0, 0))) ∧ Aside0 (Below w.heap.size w w'))
             case atStart => exact ⟨(y197), (0), (by first | rfl | (simp; done) | (simp [*]; done)), H', ⟨Nat.le_refl _⟩, ⟨rx_ HO199.out⟩, ⟨bx_ BK191.out⟩, ⟨bx_ BK192.out⟩, ⟨hx_ HB.out⟩⟩
             case round =>
              clear H'
              (try clear c1); (try clear c2); (try clear p2); (try clear c3); (try clear c4); (try clear p6); (try clear c7); (try clear c9); (try clear c11); (try clear c16); (try clear c19); (try clear c21); (try clear c23); (try clear c24); (try clear c25); (try clear c28); (try clear c28b0); (try clear c30); (try clear c33); (try clear c33b0); (try clear c34); (try clear c34b0); (try clear c35); (try clear c35b0); (try clear c36); (try clear c39); (try clear c39b0); (try clear c40); (try clear c43); (try clear hcz12_0); (try clear hcz12_1); (try clear hcz14_0); (try clear hcz14_1); (try clear hcz17_0); (try clear hcz17_1); (try clear hcz26_0); (try clear hcz26_1); (try clear hcz27_0); (try clear hcz27_1); (try clear hcz31_0); (try clear hcz31_1); (try clear hcz32_0); (try clear hcz32_1); (try clear hcz37_0); (try clear hcz37_1); (try clear hcz38_0); (try clear hcz38_1); (try clear hcz41_0); (try clear hcz41_1); (try clear hcz42_0); (try clear hcz42_1); (try clear hcz44_0); (try clear hcz44_1); (try clear hcz45_0); (try clear hcz45_1); (try clear hfz12_0); (try clear hfz12_1); (try clear hfz14_0); (try clear hfz14_1); (try clear hfz17_0); (try clear hfz17_1); (try clear hfz26_0); (try clear hfz26_1); (try clear hfz27_0); (try clear hfz27_1); (try clear hfz31_0); (try clear hfz31_1); (try clear hfz32_0); (try clear hfz32_1); (try clear hfz37_0); (try clear hfz37_1); (try clear hfz38_0); (try clear hfz38_1); (try clear hfz41_0); (try clear hfz41_1); (try clear hfz42_0); (try clear hfz42_1); (try clear hfz44_0); (try clear hfz44_1); (try clear hfz45_0); (try clear hfz45_1); (try clear p2); (try clear p6)
              obtain ⟨x12_4, x13_4, rfl, HA, HK4, HO_12, BK191, BK192, HB⟩ := hrel
              cases gk with
              | zero => exact absurd HA.out (by simp [spec_GridCuts.l0])
              | succ k4 =>
               have H := HA.out
               clear HA
               simp only [spec_GridCuts.l0] at H
               by_cases c48 : x13_4 < x10_23
               ·rw [if_pos c48] at H
                have c48b0 : decide (x13_4 < x10_23) = true := decide_eq_true c48
                clear c48
                by_cases c49 : x12_4.length < 5864062014805
                ·rw [if_pos c49] at H
                 have LMc49 := Aside0.mk c49
                 clear c49
                 obtain ⟨y200, hy200⟩ : ∃ y_ : List (S50), y_ = (x12_4 ++ [(⟨x13_4, false, a3_0⟩ : S50)]) := ⟨_, rfl⟩
                 replace H : (spec_GridCuts.l0 k4 a1 x10_23 x11_28 y200 (wrap64 (x13_4 + 1)) a3_0 a3_1) = some (r1, r2) := by first | (rw [hy200]; with_reducible exact H) | (have H2_ := (Option.bind_some _ _).symm.trans H; rw [hy200]; with_reducible exact H2_) | (have H2_ := (Option.bind_some _ _).symm.trans H; with_reducible exact H2_) | with_reducible exact H | (rw [hy200]; exact H) | exact H
                 have Ny200 := Aside0.mk hy200
                 clear hy200
                 have H' := Aside0.mk H
                 clear H
                 have hnb50 := NB192_191.out
                 have hnc50 := NB191_192.out
                 have hcz51_0 : wr.cell? ⟨gb192, 0, none⟩ = some (.int .i64 a3_0) := (blk_cell BK192.out 0).trans rfl
                 have hcz51_1 : wr.cell? ⟨gb192, 1, none⟩ = some (.int .i64 a3_1) := (blk_cell BK192.out 1).trans rfl
                 have hfz51_0 := blk_frozen BK192.out 0
                 have hfz51_1 := blk_frozen BK192.out 1
                 go_wp2_with (first | ((with_reducible refine gate_builtin (b := .append) (xs := #[.tmp 86, .tmp 91]) rfl ?_); at_builtin; refine Kd.R_append k50 (w0 := w) w.heap.size rfl (.tmp 86) (.tmp 91) 28 50 (.agg #[(.int .i64 0), (.bool false), (.int .i64 0)]) 24 rfl Tryz.underlying28 info50 rfl (by decide) (by omega) u12 x12_4 (⟨x13_4, false, a3_0⟩ : S50) [.int .i64 x13_4, .bool false, .int .i64 a3_0] (fun _ => True) (fun _ => False) rfl rfl ?aP (fun _ hk => hk.elim) ?aF ?aO ?aB ?aS ?aL ?_; (case aP => exact k50_mkM _ _ _ (⟨x13_4, false, a3_0⟩ : S50)); (case aB => exact (hx_ HB.out)); (case aF => exact (fun _ _ => trivial)); (case aO => exact (rx_ HO_12.out)); (case aS => exact (below_size (hx_ HB.out))); (case aL => have := LMc49.out; omega); intro v201 w52 ho hb hg hat; rw [← Ny200.out] at ho; replace BK191 := am_ (blk_grown (g := gb191) (o := .cells #[.int .i64 a0_0, .int .i64 a0_1] 25 (0, 0)) (bx_ BK191.out) hg (Kd.R_ne HO_12.out BK191.out (by decide))); replace BK192 := am_ (blk_grown (g := gb192) (o := .cells #[.int .i64 a3_0, .int .i64 a3_1] 25 (0, 0)) (bx_ BK192.out) hg (Kd.R_ne HO_12.out BK192.out (by decide))); replace HB := am_ hb; have HO202 := am_ ho; clear HO_12; clear ho hb hg hat))
                 go_roundg k4
                 case measure => have := HJ4.out; have := HJ23.out; have := HJ28.out; have := HK4.out; omega
                 case rel => exact ⟨(y200), (wrap64 (x13_4 + 1)), (by first | rfl | (simp; done) | (simp [*]; done)), H', ⟨by have := HJ4.out; have := HJ23.out; have := HJ28.out; have := HK4.out; omega⟩, ⟨rx_ HO202.out⟩, ⟨bx_ BK191.out⟩, ⟨bx_ BK192.out⟩, ⟨hx_ HB.out⟩⟩
                ·rw [if_neg c49] at H
                 exact absurd H (by simp)
               ·rw [if_neg c48] at H
                have c48b0 : decide (x13_4 < x10_23) = false := decide_eq_false c48
                clear c48
                have H' := Aside0.mk H
                clear H
                go_wp2
                go_loopg [12, 14] k4 (fun kq v12 v14 w' => ∃ (x12_5 : List (S50)) (x14_5 : Int), v14 = .int .i64 x14_5 ∧ Aside0 (spec_GridCuts.l1 kq a1 x11_28 x12_5 x14_5 a3_0 a3_1 = some (r1, r2)) ∧ Aside0 (kq ≤ k4) ∧ Aside0 (Kd.R k50 50 w' w.heap.size (fun _ => True) v12 x12_5) ∧ Aside0 (w'.heap[gb191]? = some (.cells #[.int .i64 a0_0, .int .i64 a0_1] 25 (0, 0))) ∧ Aside0 (w'.heap[gb192]? = some (.cells #[.int .i64 a3_0, .int .i64 a3_1] 25 (0, 0))) ∧ Aside0 (Below w.heap.size w w'))
                case atStart => exact ⟨(x12_4), (0), (by first | rfl | (simp; done) | (simp [*]; done)), H', ⟨Nat.le_refl _⟩, ⟨rx_ HO_12.out⟩, ⟨bx_ BK191.out⟩, ⟨bx_ BK192.out⟩, ⟨hx_ HB.out⟩⟩
                case round =>
                 clear H'
                 (try clear c1); (try clear c2); (try clear p2); (try clear c3); (try clear c4); (try clear c5); (try clear p6); (try clear c7); (try clear c9); (try clear c11); (try clear c16); (try clear c19); (try clear c21); (try clear c23); (try clear c24); (try clear c25); (try clear c28); (try clear c28b0); (try clear c30); (try clear c33); (try clear c33b0); (try clear c34); (try clear c34b0); (try clear c35); (try clear c35b0); (try clear c36); (try clear c39); (try clear c39b0); (try clear c40); (try clear c43); (try clear c48); (try clear c48b0); (try clear c49); (try clear c50); (try clear hcz12_0); (try clear hcz12_1); (try clear hcz14_0); (try clear hcz14_1); (try clear hcz17_0); (try clear hcz17_1); (try clear hcz26_0); (try clear hcz26_1); (try clear hcz27_0); (try clear hcz27_1); (try clear hcz31_0); (try clear hcz31_1); (try clear hcz32_0); (try clear hcz32_1); (try clear hcz37_0); (try clear hcz37_1); (try clear hcz38_0); (try clear hcz38_1); (try clear hcz41_0); (try clear hcz41_1); (try clear hcz42_0); (try clear hcz42_1); (try clear hcz44_0); (try clear hcz44_1); (try clear hcz45_0); (try clear hcz45_1); (try clear hcz51_0); (try clear hcz51_1); (try clear hfz12_0); (try clear hfz12_1); (try clear hfz14_0); (try clear hfz14_1); (try clear hfz17_0); (try clear hfz17_1); (try clear hfz26_0); (try clear hfz26_1); (try clear hfz27_0); (try clear hfz27_1); (try clear hfz31_0); (try clear hfz31_1); (try clear hfz32_0); (try clear hfz32_1); (try clear hfz37_0); (try clear hfz37_1); (try clear hfz38_0); (try clear hfz38_1); (try clear hfz41_0); (try clear hfz41_1); (try clear hfz42_0); (try clear hfz42_1); (try clear hfz44_0); (try clear hfz44_1); (try clear hfz45_0); (try clear hfz45_1); (try clear hfz51_0); (try clear hfz51_1); (try clear p2); (try clear p6)
                 obtain ⟨x12_5, x14_5, rfl, HA, HK5, HO_12, BK191, BK192, HB⟩ := hrel
                 cases gk with
                 | zero => exact absurd HA.out (by simp [spec_GridCuts.l1])
                 | succ k5 =>
                  have H := HA.out
                  clear HA
                  simp only [spec_GridCuts.l1] at H
                  by_cases c53 : x14_5 < a1
                  ·rw [if_pos c53] at H
                   have c53b0 : decide (x14_5 < a1) = true := decide_eq_true c53
                   clear c53
                   have H' := Aside0.mk H
                   clear H
                   go_wp2
                   go_loopg [12, 15] k5 (fun kq v12 v15 w' => ∃ (x12_6 : List (S50)) (x15_6 : Int), v15 = .int .i64 x15_6 ∧ Aside0 (spec_GridCuts.l2 kq a1 x11_28 x12_6 x14_5 x15_6 a3_0 a3_1 = some (r1, r2)) ∧ Aside0 (kq ≤ k5) ∧ Aside0 (Kd.R k50 50 w' w.heap.size (fun _ => True) v12 x12_6) ∧ Aside0 (w'.heap[gb191]? = some (.cells #[.int .i64 a0_0, .int .i64 a0_1] 25 (0, 0))) ∧ Aside0 (w'.heap[gb192]? = some (.cells #[.int .i64 a3_0, .int .i64 a3_1] 25 (0, 0))) ∧ Aside0 (Below w.heap.size w w'))
                   case atStart => exact ⟨(x12_5), (0), (by first | rfl | (simp; done) | (simp [*]; done)), H', ⟨Nat.le_refl _⟩, ⟨rx_ HO_12.out⟩, ⟨bx_ BK191.out⟩, ⟨bx_ BK192.out⟩, ⟨hx_ HB.out⟩⟩
                   case round =>
                    clear H'
                    (try clear c1); (try clear c2); (try clear p2); (try clear c3); (try clear c4); (try clear c5); (try clear p6); (try clear c7); (try clear c9); (try clear c11); (try clear c16); (try clear c19); (try clear c21); (try clear c23); (try clear c24); (try clear c25); (try clear c28); (try clear c28b0); (try clear c30); (try clear c33); (try clear c33b0); (try clear c34); (try clear c34b0); (try clear c35); (try clear c35b0); (try clear c36); (try clear c39); (try clear c39b0); (try clear c40); (try clear c43); (try clear c48); (try clear c48b0); (try clear c49); (try clear c50); (try clear c53); (try clear c53b0); (try clear hcz12_0); (try clear hcz12_1); (try clear hcz14_0); (try clear hcz14_1); (try clear hcz17_0); (try clear hcz17_1); (try clear hcz26_0); (try clear hcz26_1); (try clear hcz27_0); (try clear hcz27_1); (try clear hcz31_0); (try clear hcz31_1); (try clear hcz32_0); (try clear hcz32_1); (try clear hcz37_0); (try clear hcz37_1); (try clear hcz38_0); (try clear hcz38_1); (try clear hcz41_0); (try clear hcz41_1); (try clear hcz42_0); (try clear hcz42_1); (try clear hcz44_0); (try clear hcz44_1); (try clear hcz45_0); (try clear hcz45_1); (try clear hcz51_0); (try clear hcz51_1); (try clear hfz12_0); (try clear hfz12_1); (try clear hfz14_0); (try clear hfz14_1); (try clear hfz17_0); (try clear hfz17_1); (try clear hfz26_0); (try clear hfz26_1); (try clear hfz27_0); (try clear hfz27_1); (try clear hfz31_0); (try clear hfz31_1); (try clear hfz32_0); (try clear hfz32_1); (try clear hfz37_0); (try clear hfz37_1); (try clear hfz38_0); (try clear hfz38_1); (try clear hfz41_0); (try clear hfz41_1); (try clear hfz42_0); (try clear hfz42_1); (try clear hfz44_0); (try clear hfz44_1); (try clear hfz45_0); (try clear hfz45_1); (try clear hfz51_0); (try clear hfz51_1); (try clear p2); (try clear p6)
                    obtain ⟨x12_6, x15_6, rfl, HA, HK6, HO_12, BK191, BK192, HB⟩ := hrel
                    cases gk with
                    | zero => exact absurd HA.out (by simp [spec_GridCuts.l2])
                    | succ k6 =>
                     have H := HA.out
                     clear HA
                     simp only [spec_GridCuts.l2] at H
                     by_cases c54 : x15_6 < x11_28
                     ·rw [if_pos c54] at H
                      have c54b0 : decide (x15_6 < x11_28) = true := decide_eq_true c54
                      clear c54
                      by_cases c55 : x12_6.length < 5864062014805
                      ·rw [if_pos c55] at H
                       have LMc55 := Aside0.mk c55
                       clear c55
                       obtain ⟨y203, hy203⟩ : ∃ y_ : List (S50), y_ = (x12_6 ++ [(⟨wrap64 ((wrap64 (x14_5 * (wrap64 (x11_28 + 1)))) + x15_6), true, a3_1⟩ : S50)]) := ⟨_, rfl⟩
                       replace H : (spec_GridCuts.l2 k6 a1 x11_28 y203 x14_5 (wrap64 (x15_6 + 1)) a3_0 a3_1) = some (r1, r2) := by first | (rw [hy203]; with_reducible exact H) | (have H2_ := (Option.bind_some _ _).symm.trans H; rw [hy203]; with_reducible exact H2_) | (have H2_ := (Option.bind_some _ _).symm.trans H; with_reducible exact H2_) | with_reducible exact H | (rw [hy203]; exact H) | exact H
                       have Ny203 := Aside0.mk hy203
                       clear hy203
                       have H' := Aside0.mk H
                       clear H
                       have hnb56 := NB192_191.out
                       have hnc56 := NB191_192.out
                       have hcz57_0 : wr.cell? ⟨gb192, 0, none⟩ = some (.int .i64 a3_0) := (blk_cell BK192.out 0).trans rfl
                       have hcz57_1 : wr.cell? ⟨gb192, 1, none⟩ = some (.int .i64 a3_1) := (blk_cell BK192.out 1).trans rfl
                       have hfz57_0 := blk_frozen BK192.out 0
                       have hfz57_1 := blk_frozen BK192.out 1
                       go_wp2_with (first | ((with_reducible refine gate_builtin (b := .append) (xs := #[.tmp 103, .tmp 113]) rfl ?_); at_builtin; refine Kd.R_append k50 (w0 := w) w.heap.size rfl (.tmp 103) (.tmp 113) 28 50 (.agg #[(.int .i64 0), (.bool false), (.int .i64 0)]) 24 rfl Tryz.underlying28 info50 rfl (by decide) (by omega) u12 x12_6 (⟨wrap64 ((wrap64 (x14_5 * (wrap64 (x11_28 + 1)))) + x15_6), true, a3_1⟩ : S50) [.int .i64 (wrap64 ((wrap64 (x14_5 * (wrap64 (x11_28 + 1)))) + x15_6)), .bool true, .int .i64 a3_1] (fun _ => True) (fun _ => False) rfl rfl ?aP (fun _ hk => hk.elim) ?aF ?aO ?aB ?aS ?aL ?_; (case aP => exact k50_mkM _ _ _ (⟨wrap64 ((wrap64 (x14_5 * (wrap64 (x11_28 + 1)))) + x15_6), true, a3_1⟩ : S50)); (case aB => exact (hx_ HB.out)); (case aF => exact (fun _ _ => trivial)); (case aO => exact (rx_ HO_12.out)); (case aS => exact (below_size (hx_ HB.out))); (case aL => have := LMc55.out; omega); intro v204 w58 ho hb hg hat; rw [← Ny203.out] at ho; replace BK191 := am_ (blk_grown (g := gb191) (o := .cells #[.int .i64 a0_0, .int .i64 a0_1] 25 (0, 0)) (bx_ BK191.out) hg (Kd.R_ne HO_12.out BK191.out (by decide))); replace BK192 := am_ (blk_grown (g := gb192) (o := .cells #[.int .i64 a3_0, .int .i64 a3_1] 25 (0, 0)) (bx_ BK192.out) hg (Kd.R_ne HO_12.out BK192.out (by decide))); replace HB := am_ hb; have HO205 := am_ ho; clear HO_12; clear ho hb hg hat))
                       go_roundg k6
                       case measure => have := HJ4.out; have := HJ23.out; have := HJ28.out; have := HK4.out; have := HK5.out; have := HK6.out; omega
                       case rel => exact ⟨(y203), (wrap64 (x15_6 + 1)), (by first | rfl | (simp; done) | (simp [*]; done)), H', ⟨by have := HJ4.out; have := HJ23.out; have := HJ28.out; have := HK4.out; have := HK5.out; have := HK6.out; omega⟩, ⟨rx_ HO205.out⟩, ⟨bx_ BK191.out⟩, ⟨bx_ BK192.out⟩, ⟨hx_ HB.out⟩⟩
                      ·rw [if_neg c55] at H
                       exact absurd H (by simp)
                     ·rw [if_neg c54] at H
                      have c54b0 : decide (x15_6 < x11_28) = false := decide_eq_false c54
                      clear c54
                      have H' := Aside0.mk H
                      clear H
                      go_wp2
                      go_roundg k6
                      case measure => have := HJ4.out; have := HJ23.out; have := HJ28.out; have := HK4.out; have := HK5.out; have := HK6.out; omega
                      case rel => exact ⟨(x12_6), (wrap64 (x14_5 + 1)), (by first | rfl | (simp; done) | (simp [*]; done)), H', ⟨by have := HJ4.out; have := HJ23.out; have := HJ28.out; have := HK4.out; have := HK5.out; have := HK6.out; omega⟩, ⟨rx_ HO_12.out⟩, ⟨bx_ BK191.out⟩, ⟨bx_ BK192.out⟩, ⟨hx_ HB.out⟩⟩
                  ·rw [if_neg c53] at H
                   have c53b0 : decide (x14_5 < a1) = false := decide_eq_false c53
                   clear c53
                   simp only [Option.some.injEq, Prod.mk.injEq] at H
                   obtain ⟨rfl, rfl⟩ := H
                   go_wp2
                   go_ret2
                   exact ⟨_, by first | rfl | (simp [errW_none, errW_some] <;> rfl) | (simp [*, errW_none, errW_some] <;> rfl), rx_ HO_12.out, hx_ HB.out⟩
     ·replace c23 := Bool.eq_false_iff.mpr c23
      subst c23
      have H1 : (some (([] : List (S50)), 2)) = some (r1, r2) := by rw [if_neg (show ¬ (false = true) by decide)] at H; exact H
      clear H
      have H := H1
      clear H1
      simp only [Option.some.injEq, Prod.mk.injEq] at H
      obtain ⟨rfl, rfl⟩ := H
      go_wp2_with (first | ((with_reducible refine gc_ 24 rfl ?_); refine gl_ (some 27) rfl rfl Tryz.func24 rfl #[.int .i64 a1, .int .i64 1, .int .i64 80] rfl ?_; (with_reducible refine (spec_l01In.calls a1 1 80 true _ A20.out).mono ?_); rintro e w' ⟨rfl, ⟨nd, rfl⟩⟩; refine ⟨_, rfl, ?_⟩) | (go_at_call 24; (with_reducible refine (spec_l01In.calls a2 1 80 false _ A22.out).mono ?_); rintro e w' ⟨rfl, ⟨nd, rfl⟩⟩))
      go_ret2
      exact ⟨_, by first | rfl | (simp [errW_none, errW_some] <;> rfl) | (simp [*, errW_none, errW_some] <;> rfl), by first | exact Kd.R_nil _ _ _ _ _ | exact Kd.N_nil _ _ _ _ _ | exact Kd.V_nil _ _ _ _ _ | exact Kd.Q_nil _ _ _ _ _ | exact Kd.S_nil _ _ _ _ _, hx_ HB.out⟩
    ·replace c21 := Bool.eq_false_iff.mpr c21
     subst c21
     have H1 : (some (([] : List (S50)), 2)) = some (r1, r2) := by rw [if_neg (show ¬ (false = true) by decide)] at H; exact H
     clear H
     have H := H1
     clear H1
     simp only [Option.some.injEq, Prod.mk.injEq] at H
     obtain ⟨rfl, rfl⟩ := H
     go_wp2_with (first | ((with_reducible refine gc_ 24 rfl ?_); refine gl_ (some 27) rfl rfl Tryz.func24 rfl #[.int .i64 a1, .int .i64 1, .int .i64 80] rfl ?_; (with_reducible refine (spec_l01In.calls a1 1 80 false _ A20.out).mono ?_); rintro e w' ⟨rfl, ⟨nd, rfl⟩⟩; refine ⟨_, rfl, ?_⟩))
     go_ret2
     exact ⟨_, by first | rfl | (simp [errW_none, errW_some] <;> rfl) | (simp [*, errW_none, errW_some] <;> rfl), by first | exact Kd.R_nil _ _ _ _ _ | exact Kd.N_nil _ _ _ _ _ | exact Kd.V_nil _ _ _ _ _ | exact Kd.Q_nil _ _ _ _ _ | exact Kd.S_nil _ _ _ _ _, hx_ HB.out⟩

end Go.Proofs.YtdafddgmeidclaaGreatDoor.PFnGridCuts
