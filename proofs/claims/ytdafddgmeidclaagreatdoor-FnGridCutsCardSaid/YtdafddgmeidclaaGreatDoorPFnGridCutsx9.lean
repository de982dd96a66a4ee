-- Written by wip/inject.py: a contract of each function that the law reaches; those of the stand-ins are proved in this seat's Hand texts
import Derived.Test.YtdafddgmeidclaaGreatDoorPFnGridCutsx0
import Derived.Test.YtdafddgmeidclaaGreatDoorPFnGridCutsx3
import Derived.Test.YtdafddgmeidclaaGreatDoorPFnGridCutsx7
import Derived.Test.YtdafddgmeidclaaGreatDoorPFnGridCutsx8
namespace Go.Proofs.YtdafddgmeidclaaGreatDoor.PFnGridCuts
open Go.RowKit Go.Proofs.YtdafddgmeidclaaGreatDoorW.PrintWords Go.Proofs.YtdafddgmeidclaaGreatDoorW.PrintLast Go.Proofs.YtdafddgmeidclaaGreatDoorW.PrintMore
attribute [local go_sem] max2_int min2_int max_two min_two max_three min_three max_four min_four   -- for this text's walks alone
set_option linter.unusedVariables false
set_option linter.unusedSimpArgs false

/-! ### spec_DrawRunCuts: function 25 -/
mutual
def spec_DrawRunCuts.l0 : Nat → List (S50) → List (S25) → Int → List Int → Int → Int → Int → Int → Option (Int × Int × (List (S50)))
 | 0, _, _, _, _, _, _, _, _ => none
 | k + 1, x6, x7, x8, x298000, x298001, x298002, x303000, x303001 => if x8 > 0 then ((spec_l09DrawCut.f k x298000 x298001 x298002 x7).bind fun bt312 => ((spec_CanCut.f k x7 bt312.1 bt312.2.1 bt312.2.2.1).bind fun t318 => (if t318 = true then ((spec_l09Cut.f k x7 bt312.1 bt312.2.1 bt312.2.2.1).bind fun t319 => (spec_DrawRunCuts.j1 k x6 t319 x8 x298000 bt312.2.2.2.1 bt312.2.2.2.2 x303000 x303001 bt312.1 bt312.2.1 bt312.2.2.1)) else ((spec_l01Next.f x298000 bt312.2.2.2.1 bt312.2.2.2.2 5).bind fun bt322 => (if bt322.1 > 0 then (spec_DrawRunCuts.j2 k x6 x7 x8 x298000 bt322.2.1 bt322.2.2 x303000 x303001) else (spec_DrawRunCuts.j1 k x6 x7 x8 x298000 bt322.2.1 bt322.2.2 x303000 x303001 bt312.1 bt312.2.1 bt312.2.2.1)))))) else ((spec_l01Next.f x298000 x298001 x298002 40).bind fun bt328 => (if bt328.1 = 0 then ((spec_l01Next.f x298000 bt328.2.1 bt328.2.2 2).bind fun bt334 => (spec_DrawRunCuts.l1 k (([] : List (S50))) (wrap64 (79 + bt334.1)))) else (some (x303000, x303001, x6))))
def spec_DrawRunCuts.j2 : Nat → List (S50) → List (S25) → Int → List Int → Int → Int → Int → Int → Option (Int × Int × (List (S50)))
 | 0, _, _, _, _, _, _, _, _ => none
 | k + 1, x6, x7, x8, x298000, x298001, x298002, x303000, x303001 => spec_DrawRunCuts.l0 k x6 x7 (wrap64 (x8 - 1)) x298000 x298001 x298002 x303000 x303001
def spec_DrawRunCuts.j1 : Nat → List (S50) → List (S25) → Int → List Int → Int → Int → Int → Int → Int → Bool → Int → Option (Int × Int × (List (S50)))
 | 0, _, _, _, _, _, _, _, _, _, _, _ => none
 | k + 1, x6, x7, x8, x298000, x298001, x298002, x303000, x303001, x318000, x318001, x318002 => if x6.length < 5864062014805 then (spec_DrawRunCuts.j2 k (x6 ++ [(⟨x318000, x318001, x318002⟩ : S50)]) x7 x8 x298000 x298001 x298002 x303000 x303001) else (none)
def spec_DrawRunCuts.l1 : Nat → List (S50) → Int → Option (Int × Int × (List (S50)))
 | 0, _, _ => none
 | k + 1, x6, x10 => if x10 > 0 then (if x6.length < 5864062014805 then (spec_DrawRunCuts.l1 k (x6 ++ [(⟨0, false, x10⟩ : S50)]) (wrap64 (x10 - 1))) else (none)) else (some (500, 5, x6))
end
def spec_DrawRunCuts.f (k : Nat) (l0 : List Int) : Option (Int × Int × (List (S50))) := (spec_l01From.f k l0).bind fun bt294 => ((spec_l09DrawPiece.f bt294.1 bt294.2.1 bt294.2.2).bind fun bt298 => ((spec_l01Next.f bt294.1 bt298.2.2.1 bt298.2.2.2 9).bind fun bt309 => (spec_DrawRunCuts.l0 k (([] : List (S50))) (([(⟨bt298.1, bt298.2.1⟩ : S25)] : List (S25))) bt309.1 bt294.1 bt309.2.1 bt309.2.2 bt298.1 bt298.2.1)))
theorem spec_DrawRunCuts.mono_l : ∀ k, (∀ y0 y1 y2 y3 y4 y5 y6 y7, LeO (spec_DrawRunCuts.l0 k y0 y1 y2 y3 y4 y5 y6 y7) (spec_DrawRunCuts.l0 (k + 1) y0 y1 y2 y3 y4 y5 y6 y7)) ∧ (∀ y0 y1 y2 y3 y4 y5 y6 y7, LeO (spec_DrawRunCuts.j2 k y0 y1 y2 y3 y4 y5 y6 y7) (spec_DrawRunCuts.j2 (k + 1) y0 y1 y2 y3 y4 y5 y6 y7)) ∧ (∀ y0 y1 y2 y3 y4 y5 y6 y7 y8 y9 y10, LeO (spec_DrawRunCuts.j1 k y0 y1 y2 y3 y4 y5 y6 y7 y8 y9 y10) (spec_DrawRunCuts.j1 (k + 1) y0 y1 y2 y3 y4 y5 y6 y7 y8 y9 y10)) ∧ (∀ y0 y1, LeO (spec_DrawRunCuts.l1 k y0 y1) (spec_DrawRunCuts.l1 (k + 1) y0 y1))
 | 0 => ⟨fun _ _ _ _ _ _ _ _ r h => by simp [spec_DrawRunCuts.l0] at h, fun _ _ _ _ _ _ _ _ r h => by simp [spec_DrawRunCuts.j2] at h, fun _ _ _ _ _ _ _ _ _ _ _ r h => by simp [spec_DrawRunCuts.j1] at h, fun _ _ r h => by simp [spec_DrawRunCuts.l1] at h⟩
 | k + 1 => by
  obtain ⟨ih0, ih1, ih2, ih3⟩ := spec_DrawRunCuts.mono_l k
  refine ⟨?_, ?_, ?_, ?_⟩
  ·intro y0 y1 y2 y3 y4 y5 y6 y7
   unfold spec_DrawRunCuts.l0
   repeat' first
   | (with_reducible exact ih0 _ _ _ _ _ _ _ _)
   | (with_reducible exact ih1 _ _ _ _ _ _ _ _)
   | (with_reducible exact ih2 _ _ _ _ _ _ _ _ _ _ _)
   | (with_reducible exact ih3 _ _)
   | (with_reducible exact spec_CanCut.mono _ _ _ _ _)
   | (with_reducible exact spec_l01From.mono _ _)
   | (with_reducible exact spec_l09Cut.mono _ _ _ _ _)
   | (with_reducible exact spec_l09DrawCut.mono _ _ _ _ _)
   | (with_reducible exact LeO.refl _)
   | (with_reducible exact LeO.none _)
   | (with_reducible refine LeO.ite ?_ ?_)
   | (with_reducible refine LeO.bind ?_ (fun _ => ?_))
   | exact ih0 _ _ _ _ _ _ _ _
   | exact ih1 _ _ _ _ _ _ _ _
   | exact ih2 _ _ _ _ _ _ _ _ _ _ _
   | exact ih3 _ _
   | exact spec_CanCut.mono _ _ _ _ _
   | exact spec_l01From.mono _ _
   | exact spec_l09Cut.mono _ _ _ _ _
   | exact spec_l09DrawCut.mono _ _ _ _ _
   | exact LeO.none _
   | refine LeO.ite ?_ ?_
   | refine LeO.bind ?_ (fun _ => ?_)
  ·intro y0 y1 y2 y3 y4 y5 y6 y7
   unfold spec_DrawRunCuts.j2
   repeat' first
   | (with_reducible exact ih0 _ _ _ _ _ _ _ _)
   | (with_reducible exact ih1 _ _ _ _ _ _ _ _)
   | (with_reducible exact ih2 _ _ _ _ _ _ _ _ _ _ _)
   | (with_reducible exact ih3 _ _)
   | (with_reducible exact spec_CanCut.mono _ _ _ _ _)
   | (with_reducible exact spec_l01From.mono _ _)
   | (with_reducible exact spec_l09Cut.mono _ _ _ _ _)
   | (with_reducible exact spec_l09DrawCut.mono _ _ _ _ _)
   | (with_reducible exact LeO.refl _)
   | (with_reducible exact LeO.none _)
   | (with_reducible refine LeO.ite ?_ ?_)
   | (with_reducible refine LeO.bind ?_ (fun _ => ?_))
   | exact ih0 _ _ _ _ _ _ _ _
   | exact ih1 _ _ _ _ _ _ _ _
   | exact ih2 _ _ _ _ _ _ _ _ _ _ _
   | exact ih3 _ _
   | exact spec_CanCut.mono _ _ _ _ _
   | exact spec_l01From.mono _ _
   | exact spec_l09Cut.mono _ _ _ _ _
   | exact spec_l09DrawCut.mono _ _ _ _ _
   | exact LeO.none _
   | refine LeO.ite ?_ ?_
   | refine LeO.bind ?_ (fun _ => ?_)
  ·intro y0 y1 y2 y3 y4 y5 y6 y7 y8 y9 y10
   unfold spec_DrawRunCuts.j1
   repeat' first
   | (with_reducible exact ih0 _ _ _ _ _ _ _ _)
   | (with_reducible exact ih1 _ _ _ _ _ _ _ _)
   | (with_reducible exact ih2 _ _ _ _ _ _ _ _ _ _ _)
   | (with_reducible exact ih3 _ _)
   | (with_reducible exact spec_CanCut.mono _ _ _ _ _)
   | (with_reducible exact spec_l01From.mono _ _)
   | (with_reducible exact spec_l09Cut.mono _ _ _ _ _)
   | (with_reducible exact spec_l09DrawCut.mono _ _ _ _ _)
   | (with_reducible exact LeO.refl _)
   | (with_reducible exact LeO.none _)
   | (with_reducible refine LeO.ite ?_ ?_)
   | (with_reducible refine LeO.bind ?_ (fun _ => ?_))
   | exact ih0 _ _ _ _ _ _ _ _
   | exact ih1 _ _ _ _ _ _ _ _
   | exact ih2 _ _ _ _ _ _ _ _ _ _ _
   | exact ih3 _ _
   | exact spec_CanCut.mono _ _ _ _ _
   | exact spec_l01From.mono _ _
   | exact spec_l09Cut.mono _ _ _ _ _
   | exact spec_l09DrawCut.mono _ _ _ _ _
   | exact LeO.none _
   | refine LeO.ite ?_ ?_
   | refine LeO.bind ?_ (fun _ => ?_)
  ·intro y0 y1
   unfold spec_DrawRunCuts.l1
   repeat' first
   | (with_reducible exact ih0 _ _ _ _ _ _ _ _)
   | (with_reducible exact ih1 _ _ _ _ _ _ _ _)
   | (with_reducible exact ih2 _ _ _ _ _ _ _ _ _ _ _)
   | (with_reducible exact ih3 _ _)
   | (with_reducible exact spec_CanCut.mono _ _ _ _ _)
   | (with_reducible exact spec_l01From.mono _ _)
   | (with_reducible exact spec_l09Cut.mono _ _ _ _ _)
   | (with_reducible exact spec_l09DrawCut.mono _ _ _ _ _)
   | (with_reducible exact LeO.refl _)
   | (with_reducible exact LeO.none _)
   | (with_reducible refine LeO.ite ?_ ?_)
   | (with_reducible refine LeO.bind ?_ (fun _ => ?_))
   | exact ih0 _ _ _ _ _ _ _ _
   | exact ih1 _ _ _ _ _ _ _ _
   | exact ih2 _ _ _ _ _ _ _ _ _ _ _
   | exact ih3 _ _
   | exact spec_CanCut.mono _ _ _ _ _
   | exact spec_l01From.mono _ _
   | exact spec_l09Cut.mono _ _ _ _ _
   | exact spec_l09DrawCut.mono _ _ _ _ _
   | exact LeO.none _
   | refine LeO.ite ?_ ?_
   | refine LeO.bind ?_ (fun _ => ?_)
theorem spec_DrawRunCuts.mono : ∀ a0 k, LeO (spec_DrawRunCuts.f k a0) (spec_DrawRunCuts.f (k + 1) a0) := by
 intro a0 k
 obtain ⟨ih0, ih1, ih2, ih3⟩ := spec_DrawRunCuts.mono_l k
 unfold spec_DrawRunCuts.f
 repeat' first
   | (with_reducible exact ih0 _ _ _ _ _ _ _ _)
   | (with_reducible exact ih1 _ _ _ _ _ _ _ _)
   | (with_reducible exact ih2 _ _ _ _ _ _ _ _ _ _ _)
   | (with_reducible exact ih3 _ _)
   | (with_reducible exact spec_CanCut.mono _ _ _ _ _)
   | (with_reducible exact spec_l01From.mono _ _)
   | (with_reducible exact spec_l09Cut.mono _ _ _ _ _)
   | (with_reducible exact spec_l09DrawCut.mono _ _ _ _ _)
   | (with_reducible exact LeO.refl _)
   | (with_reducible exact LeO.none _)
   | (with_reducible refine LeO.ite ?_ ?_)
   | (with_reducible refine LeO.bind ?_ (fun _ => ?_))
   | exact ih0 _ _ _ _ _ _ _ _
   | exact ih1 _ _ _ _ _ _ _ _
   | exact ih2 _ _ _ _ _ _ _ _ _ _ _
   | exact ih3 _ _
   | exact spec_CanCut.mono _ _ _ _ _
   | exact spec_l01From.mono _ _
   | exact spec_l09Cut.mono _ _ _ _ _
   | exact spec_l09DrawCut.mono _ _ _ _ _
   | exact LeO.none _
   | refine LeO.ite ?_ ?_
   | refine LeO.bind ?_ (fun _ => ?_)
set_option maxHeartbeats 8000000 in
set_option maxRecDepth 100000 in
theorem spec_DrawRunCuts.calls (k : Nat) (A0 : Option Addr) (c0 : Nat) (l0 : List Int) (r1 : Int) (r2 : Int) (r3 : List (S50)) (w : World) (hr0 : Kd.C (Kd.int .u8) w A0 l0.length l0) (hc0 : l0.length ≤ c0) (h : spec_DrawRunCuts.f k l0 = some (r1, r2, r3)) :
  Calls Tryz.prog 25 #[.slice A0 l0.length c0] w fun e w' => ∃ v2_ : Value, e = .returned (.tuple #[.agg #[.int .i64 r1, .int .i64 r2], v2_]) ∧ Kd.R k50 50 w' w.heap.size (fun _ => True) v2_ r3 ∧ Below w.heap.size w w' := by
 have hu25 := Tryz.underlying25
 have hu50 := Tryz.underlying50
 have HR0 := Aside0.mk hr0
 have HC0 := Aside0.mk hc0
 clear hr0 hc0
 have HB := Aside0.mk (Below.refl w.heap.size w)
 have H : ((spec_l01From.f k l0).bind fun bt294 => ((spec_l09DrawPiece.f bt294.1 bt294.2.1 bt294.2.2).bind fun bt298 => ((spec_l01Next.f bt294.1 bt298.2.2.1 bt298.2.2.2 9).bind fun bt309 => (spec_DrawRunCuts.l0 k (([] : List (S50))) (([(⟨bt298.1, bt298.2.1⟩ : S25)] : List (S25))) bt309.1 bt294.1 bt309.2.1 bt309.2.2 bt298.1 bt298.2.1)))) = some (r1, r2, r3) := h
 clear h
 replace H := Option.bind_eq_some_iff.mp H
 obtain ⟨⟨t294, t295, t296⟩, A20, H⟩ := H
 try dsimp only at H
 have A2 := Aside0.mk A20
 clear A20
 replace H := Option.bind_eq_some_iff.mp H
 obtain ⟨⟨t298, t299, t300, t301⟩, A30, H⟩ := H
 try dsimp only at H
 have A3 := Aside0.mk A30
 clear A30
 obtain ⟨y303, hy303⟩ : ∃ y_ : List (S50), y_ = (([] : List (S50))) := ⟨_, rfl⟩
 replace H : ((spec_l01Next.f t294 t300 t301 9).bind fun bt309 => (spec_DrawRunCuts.l0 k y303 (([(⟨t298, t299⟩ : S25)] : List (S25))) bt309.1 t294 bt309.2.1 bt309.2.2 t298 t299)) = some (r1, r2, r3) := by first | (rw [hy303]; with_reducible exact H) | (have H2_ := (Option.bind_some _ _).symm.trans H; rw [hy303]; with_reducible exact H2_) | (have H2_ := (Option.bind_some _ _).symm.trans H; with_reducible exact H2_) | with_reducible exact H | (rw [hy303]; exact H) | exact H
 have Ny303 := Aside0.mk hy303
 clear hy303
 obtain ⟨y306, hy306⟩ : ∃ y_ : List (S25), y_ = (([(⟨t298, t299⟩ : S25)] : List (S25))) := ⟨_, rfl⟩
 replace H : ((spec_l01Next.f t294 t300 t301 9).bind fun bt309 => (spec_DrawRunCuts.l0 k y303 y306 bt309.1 t294 bt309.2.1 bt309.2.2 t298 t299)) = some (r1, r2, r3) := by first | (rw [hy306]; with_reducible exact H) | (have H2_ := (Option.bind_some _ _).symm.trans H; rw [hy306]; with_reducible exact H2_) | (have H2_ := (Option.bind_some _ _).symm.trans H; with_reducible exact H2_) | with_reducible exact H | (rw [hy306]; exact H) | exact H
 have Ny306 := Aside0.mk hy306
 clear hy306
 replace H := Option.bind_eq_some_iff.mp H
 obtain ⟨⟨t309, t310, t311⟩, A40, H⟩ := H
 try dsimp only at H
 have A4 := Aside0.mk A40
 clear A40
 have H' := Aside0.mk H
 clear H
 go_enter Tryz.func25, Tryz.ntmps25
 go_wp2_with (first | ((with_reducible refine gd_ 2 rfl ?_); refine be_ 2 #[.int .i64 0, .int .i64 0] 25 rfl rfl ?_; intro gb293 hg w5 hbox hb; have BK293 := am_ hbox; have GW293 := gw_ hg HB; have GE293 := gw_ hg HB; replace HB := hs_ HB hb; clear hb hbox hg) | ((with_reducible refine gc_ 17 rfl ?_); refine gl_ (some 12) rfl rfl Tryz.func17 rfl #[.slice A0 l0.length c0] rfl ?_; (with_reducible refine (spec_l01From.calls k _ _ l0 t294 t295 t296 w _ ?side1 ?side2 ?side3 A2.out).mono ?_); (case side1 => exact hx_ HB.out); (case side2 => exact HR0.out); (case side3 => exact HC0.out); rintro e w6 ⟨g297, rfl, hi, hb, hb2⟩; refine ⟨_, rfl, ?_⟩; replace HB := am_ hb; have HI297 := am_ hi; have NB297_293 := am_ (IsS70.ne_blk hi (blk_below (g := gb293) (o := .cells #[.int .i64 0, .int .i64 0] 25 (0, 0)) (bx_ BK293.out) hb2) (by decide)); have NB293_297 := am_ (Ne.symm (IsS70.ne_blk hi (blk_below (g := gb293) (o := .cells #[.int .i64 0, .int .i64 0] 25 (0, 0)) (bx_ BK293.out) hb2) (by decide))); replace BK293 := bb_ BK293 hb2; (try clear hb); (try clear hb2); (try clear hk); (try clear hi)) | ((with_reducible refine gc_ 39 rfl ?_); refine gl_ (some 14) rfl rfl Tryz.func39 rfl #[.pointer (some ⟨g297, 0, none⟩)] rfl ?_; (with_reducible refine (spec_l09DrawPiece.calls g297 t294 t295 t296 t298 t299 t300 t301 w _ ?side1 ?side2 A3.out).mono ?_); (case side1 => exact ix_ HI297.out); (case side2 => exact hx_ HB.out); rintro e w7 ⟨rfl, hi, hb, hk⟩; refine ⟨_, rfl, ?_⟩; replace BK293 := kb_ hk BK293 NB293_297.out; replace HB := am_ hb; replace HI297 := am_ hi; (try clear hb); (try clear hb2); (try clear hk); (try clear hi)) | ((with_reducible refine gd_ 5 rfl ?_); refine be_ 5 #[.int .i64 0, .int .i64 0] 25 rfl rfl ?_; intro gb302 hg w8 hbox hb; have BK302 := am_ hbox; have GW302 := gw_ hg HB; have GE302 := gw_ hg HB; replace HB := hs_ HB hb; have NB293_302 := nl_ hg BK293; have NB302_293 := ng_ hg BK293; replace BK293 := bb_ BK293 hb; have NB297_302 := am_ (by rw [hg]; exact Nat.ne_of_lt (IsS70.lt (show IsS70 w _ g297 t294 t300 t301 from ix_ HI297.out)) : g297 ≠ gb302); have NB302_297 := am_ (by rw [hg]; exact Nat.ne_of_gt (IsS70.lt (show IsS70 w _ g297 t294 t300 t301 from ix_ HI297.out)) : gb302 ≠ g297); replace HI297 := am_ (IsS70.below (ix_ HI297.out) hb); clear hb hbox hg; have hnb9 := NB302_293.out; have hnc9 := NB293_302.out; have hnb10 := NB302_297.out; have hnc10 := NB297_302.out; have hcz11_0 : w8.cell? ⟨gb302, 0, none⟩ = some (.int .i64 0) := (blk_cell BK302.out 0).trans rfl; have hcz11_1 : w8.cell? ⟨gb302, 1, none⟩ = some (.int .i64 0) := (blk_cell BK302.out 1).trans rfl; have hfz11_0 := blk_frozen BK302.out 0; have hfz11_1 := blk_frozen BK302.out 1) | ((with_reducible refine gd_ 15 rfl ?_); refine Kd.R_lit k50 _ 50 ?hg (N := 15) ?hd (xs := ([] : List (S50))) (inner := []) (ok := fun _ => True) (okp := fun _ => True) ?hr ?hp (fun _ hk => hk) trivial (Below.refl _ _) (Nat.le_refl _) (by simp) ?_; (case hd => rfl); (case hg => rfl); (case hr => first | (go_simp; done) | (go_simp; rfl)); (case hp => exact (Reps.none _ _)); intro v304 w12 ho13 hb hg_ hnew_; clear hg_ hnew_; (first | rw [← Ny303.out] at ho13 | (simp only [Int.reduceToNat] at ho13; rw [← Ny303.out] at ho13)); have HO305 := am_ (Kd.R_lower ho13 (below_size (hx_ HB.out))); replace BK293 := bb_ BK293 hb; replace HI297 := am_ (IsS70.below (show IsS70 w ((w8.setCell ⟨gb302, 0, none⟩ (.int .i64 t298)).setCell ⟨gb302, 1, none⟩ (.int .i64 t299)) g297 t294 t300 t301 from ix_ HI297.out) hb); replace BK302 := am_ (blk_below (g := gb302) (o := .cells #[.int .i64 t298, .int .i64 t299] 25 (0, 0)) (by (with_reducible repeat (first | refine blk_drewN ?_ _ | refine blk_drew ?_ | refine blk_alloc ?_ _)); refine blk_put (cs := #[.int .i64 t298, .int .i64 0]) ?_ 1 _ rfl; (with_reducible repeat (first | refine blk_drewN ?_ _ | refine blk_drew ?_ | refine blk_alloc ?_ _)); refine blk_put (cs := #[.int .i64 0, .int .i64 0]) ?_ 0 _ rfl; (with_reducible repeat (first | refine blk_drewN ?_ _ | refine blk_drew ?_ | refine blk_alloc ?_ _)); exact BK302.out) hb); replace HB := hs_ HB hb; clear hb ho13; have hcz14_0 : w12.cell? ⟨gb302, 0, none⟩ = some (.int .i64 t298) := (blk_cell BK302.out 0).trans rfl; have hcz14_1 : w12.cell? ⟨gb302, 1, none⟩ = some (.int .i64 t299) := (blk_cell BK302.out 1).trans rfl; have hfz14_0 := blk_frozen BK302.out 0; have hfz14_1 := blk_frozen BK302.out 1) | ((with_reducible refine gd_ 17 rfl ?_); refine Kd.R_lit k25 _ 25 ?hg (N := 17) ?hd (xs := ([(⟨t298, t299⟩ : S25)] : List (S25))) (inner := [.int .i64 t298, .int .i64 t299]) (ok := fun _ => True) (okp := fun _ => True) ?hr ?hp (fun _ hk => hk) trivial (Below.refl _ _) (Nat.le_refl _) (by simp) ?_; (case hd => rfl); (case hg => rfl); (case hr => first | (go_simp; done) | (go_simp; rfl)); (case hp => exact (Reps.c2 (show Kd.M k25 _ _ _ (⟨t298, t299⟩ : S25) [.int .i64 t298, .int .i64 t299] from (k25_mkM _ _ _ (⟨t298, t299⟩ : S25) )) (Reps.none _ _))); intro v307 w15 ho16 hb hg_ hnew_; clear hg_ hnew_; (first | rw [← Ny306.out] at ho16 | (simp only [Int.reduceToNat] at ho16; rw [← Ny306.out] at ho16)); replace HO305 := am_ (Kd.R_below (rx_ HO305.out) hb); have HO308 := am_ (Kd.R_lower (Kd.R_newB (Kd.R_newB ho16 (g := gb293) (o := .cells #[.int .i64 0, .int .i64 0] 25 (0, 0)) (bx_ BK293.out)) (g := gb302) (o := .cells #[.int .i64 t298, .int .i64 t299] 25 (0, 0)) (bx_ BK302.out)) (below_size (hx_ HB.out))); replace BK293 := bb_ BK293 hb; replace HI297 := am_ (IsS70.below (ix_ HI297.out) hb); replace BK302 := bb_ BK302 hb; replace HB := hs_ HB hb; clear hb ho16) | ((with_reducible refine gc_ 18 rfl ?_); refine gl_ (some 19) rfl rfl Tryz.func18 rfl #[.pointer (some ⟨g297, 0, none⟩), .int .i64 9] rfl ?_; (with_reducible refine (spec_l01Next.calls g297 t294 t300 t301 9 t309 t310 t311 w _ ?side1 ?side2 A4.out).mono ?_); (case side1 => exact ix_ HI297.out); (case side2 => exact hx_ HB.out); rintro e w17 ⟨rfl, hi, hb, hk⟩; refine ⟨_, rfl, ?_⟩; replace BK293 := kb_ hk BK293 NB293_297.out; replace BK302 := kb_ hk BK302 NB302_297.out; replace HO305 := am_ (Kd.R_mono (Kd.R_keep (IsS70.apart (show IsS70 w _ g297 t294 t300 t301 from ix_ HI297.out) (rx_ HO305.out) (by decide)) hk (fun _ h => h.2)) (fun _ h => h.1)); replace HO308 := am_ (Kd.R_mono (Kd.R_keep (IsS70.apart (show IsS70 w _ g297 t294 t300 t301 from ix_ HI297.out) (rx_ HO308.out) (by decide)) hk (fun _ h => h.2)) (fun _ h => h.1)); replace HB := am_ hb; replace HI297 := am_ hi; (try clear hb); (try clear hb2); (try clear hk); (try clear hi)))
 go_loopg [6, 7, 8] k (fun kq v6 v7 v8 w' => ∃ (x6_1 : List (S50)) (x7_1 : List (S25)) (x8_1 : Int) (x298001_1 : Int) (x298002_1 : Int), v8 = .int .i64 x8_1 ∧ Aside0 (spec_DrawRunCuts.l0 kq x6_1 x7_1 x8_1 t294 x298001_1 x298002_1 t298 t299 = some (r1, r2, r3)) ∧ Aside0 (kq ≤ k) ∧ Aside0 (Kd.R k50 50 w' w.heap.size (fun _ => True) v6 x6_1) ∧ Aside0 (Kd.R k25 25 w' w.heap.size (fun k_ => k_ ≠ gb293 ∧ k_ ≠ gb302) v7 x7_1) ∧ Aside0 (w'.heap[gb293]? = some (.cells #[.int .i64 0, .int .i64 0] 25 (0, 0))) ∧ Aside0 (w'.heap[gb302]? = some (.cells #[.int .i64 t298, .int .i64 t299] 25 (0, 0))) ∧ Aside0 (IsS70 w w' g297 t294 x298001_1 x298002_1) ∧ Aside0 (Below w.heap.size w w'))
 case atStart => exact ⟨(y303), (y306), (t309), (t310), (t311), (by first | rfl | (simp; done) | (simp [*]; done)), H', ⟨Nat.le_refl _⟩, ⟨rx_ HO305.out⟩, ⟨by (with_reducible repeat (first | apply Kd.R_alloc | apply Kd.R_drewN | apply Kd.R_drew)); exact Kd.R_mono HO308.out (fun _ hk => ⟨hk.1.2, hk.2⟩)⟩, ⟨bx_ BK293.out⟩, ⟨bx_ BK302.out⟩, ⟨ix_ HI297.out⟩, ⟨hx_ HB.out⟩⟩
 case round =>
  clear H'
  (try clear c1); (try clear c2); (try clear p2); (try clear c3); (try clear c9); (try clear c10); (try clear c17); (try clear hcz11_0); (try clear hcz11_1); (try clear hcz14_0); (try clear hcz14_1); (try clear hfz11_0); (try clear hfz11_1); (try clear hfz14_0); (try clear hfz14_1)
  obtain ⟨x6_1, x7_1, x8_1, x298001_1, x298002_1, rfl, HA, HK1, HO_6, HO_7, BK293, BK302, HI297, HB⟩ := hrel
  cases gk with
  | zero => exact absurd HA.out (by simp [spec_DrawRunCuts.l0])
  | succ k1 =>
   have H := HA.out
   clear HA
   simp only [spec_DrawRunCuts.l0] at H
   by_cases c18 : x8_1 > 0
   ·rw [if_pos c18] at H
    have c18b0 : decide (0 < x8_1) = true := decide_eq_true c18
    clear c18
    have HC19 := Aside0.mk H
    clear H
    go_upto_block 1 with (fail)
    go_cut [6, 7] (fun v6 v7 wc => ∃ (kq : Nat) (x6_18 : List (S50)) (x7_18 : List (S25)) (x298001_18 : Int) (x298002_18 : Int), Aside0 (spec_DrawRunCuts.j2 kq x6_18 x7_18 x8_1 t294 x298001_18 x298002_18 t298 t299 = some (r1, r2, r3)) ∧ Aside0 (kq ≤ k1) ∧ Aside0 (Kd.R k50 50 wc w.heap.size (fun _ => True) v6 x6_18) ∧ Aside0 (Kd.R k25 25 wc w.heap.size (fun k_ => k_ ≠ gb293 ∧ k_ ≠ gb302) v7 x7_18) ∧ Aside0 (wc.heap[gb293]? = some (.cells #[.int .i64 0, .int .i64 0] 25 (0, 0))) ∧ Aside0 (wc.heap[gb302]? = some (.cells #[.int .i64 t298, .int .i64 t299] 25 (0, 0))) ∧ Aside0 (IsS70 w wc g297 t294 x298001_18 x298002_18) ∧ Aside0 (Below w.heap.size w wc))
    case first =>
     have H := HC19.out
     clear HC19
     replace H := Option.bind_eq_some_iff.mp H
     obtain ⟨⟨t312, t313, t314, t315, t316⟩, A200, H⟩ := H
     try dsimp only at H
     have A20 := Aside0.mk A200
     clear A200
     replace H := Option.bind_eq_some_iff.mp H
     obtain ⟨t318, A210, H⟩ := H
     try dsimp only at H
     have A21 := Aside0.mk A210
     clear A210
     have HC22 := Aside0.mk H
     clear H
     obtain ⟨Ao23, co23, eo23⟩ := Kd.R_slice HO_7.out
     subst eo23
     go_upto_if 29 with (first | ((with_reducible refine gc_ 40 rfl ?_); refine gl_ (some 26) rfl rfl Tryz.func40 rfl #[.pointer (some ⟨g297, 0, none⟩), .slice Ao23 x7_1.length co23] rfl ?_; (with_reducible refine (spec_l09DrawCut.calls k1 g297 t294 x298001_1 x298002_1 _ _ x7_1 t312 t313 t314 t315 t316 w _ ?side1 ?side2 ?side3 ?side4 A20.out).mono ?_); (case side1 => exact ix_ HI297.out); (case side2 => exact hx_ HB.out); (case side3 => exact Kd.C_foot_own (IsS70.apart (show IsS70 w _ g297 t294 x298001_1 x298002_1 from ix_ HI297.out) (rx_ HO_7.out) (by decide)) (fun _ h_ => h_.2)); (case side4 => exact (Kd.R_reads' HO_7.out).2.1); rintro e w24 ⟨rfl, hi, hb, hk⟩; refine ⟨_, rfl, ?_⟩; replace HO_6 := am_ (Kd.R_mono (Kd.R_keep (IsS70.apart (show IsS70 w _ g297 t294 x298001_1 x298002_1 from ix_ HI297.out) (rx_ HO_6.out) (by decide)) hk (fun _ h => h.2)) (fun _ h => h.1)); replace HO_7 := am_ (Kd.R_mono (Kd.R_keep (IsS70.apart (show IsS70 w _ g297 t294 x298001_1 x298002_1 from ix_ HI297.out) (rx_ HO_7.out) (by decide)) hk (fun _ h => h.2)) (fun _ h => h.1)); replace BK293 := kb_ hk BK293 NB293_297.out; replace BK302 := kb_ hk BK302 NB302_297.out; replace HB := am_ hb; replace HI297 := am_ hi; (try clear hb); (try clear hb2); (try clear hk); (try clear hi)) | ((with_reducible refine gd_ 9 rfl ?_); refine be_ 9 #[.int .i64 0, .bool false, .int .i64 0] 50 rfl rfl ?_; intro gb317 hg w25 hbox hb; replace HO_6 := am_ (Kd.R_below (Kd.R_elderB (rx_ HO_6.out) gb317 (Nat.le_of_eq hg.symm)) hb); replace HO_7 := am_ (Kd.R_below (rx_ HO_7.out) hb); have BK317 := am_ hbox; have GW317 := gw_ hg HB; have GE317 := gw_ hg HB; replace HB := hs_ HB hb; have NB293_317 := nl_ hg BK293; have NB317_293 := ng_ hg BK293; replace BK293 := bb_ BK293 hb; have NB302_317 := nl_ hg BK302; have NB317_302 := ng_ hg BK302; replace BK302 := bb_ BK302 hb; have NB297_317 := am_ (by rw [hg]; exact Nat.ne_of_lt (IsS70.lt (show IsS70 w _ g297 t294 t315 t316 from ix_ HI297.out)) : g297 ≠ gb317); have NB317_297 := am_ (by rw [hg]; exact Nat.ne_of_gt (IsS70.lt (show IsS70 w _ g297 t294 t315 t316 from ix_ HI297.out)) : gb317 ≠ g297); replace HI297 := am_ (IsS70.below (ix_ HI297.out) hb); clear hb hbox hg; have hnb26 := NB317_293.out; have hnc26 := NB293_317.out; have hnb27 := NB317_302.out; have hnc27 := NB302_317.out; have hnb28 := NB317_297.out; have hnc28 := NB297_317.out; have hcz29_0 : w25.cell? ⟨gb317, 0, none⟩ = some (.int .i64 0) := (blk_cell BK317.out 0).trans rfl; have hcz29_1 : w25.cell? ⟨gb317, 1, none⟩ = some (.bool false) := (blk_cell BK317.out 1).trans rfl; have hcz29_2 : w25.cell? ⟨gb317, 2, none⟩ = some (.int .i64 0) := (blk_cell BK317.out 2).trans rfl; have hfz29_0 := blk_frozen BK317.out 0; have hfz29_1 := blk_frozen BK317.out 1; have hfz29_2 := blk_frozen BK317.out 2) | ((with_reducible refine gc_ 41 rfl ?_); refine gl_ (some 29) rfl rfl Tryz.func41 rfl #[.slice Ao23 x7_1.length co23, .agg #[.int .i64 t312, .bool t313, .int .i64 t314]] rfl ?_; (with_reducible refine (spec_CanCut.calls k1 _ _ x7_1 t312 t313 t314 t318 _ ?side1 ?side2 A21.out).mono ?_); (case side1 => refine (Kd.R_reads' (e := 25) (base := w.heap.size) (ok := fun k_ => (k_ ≠ gb293 ∧ k_ ≠ gb302)) (n := x7_1.length) (c := co23) ?_).2.2; exact (by (with_reducible repeat (first | apply Kd.R_alloc | apply Kd.R_drewN | apply Kd.R_drew)); exact (Kd.R_mono (Kd.R_far (p := ⟨gb317, 2, none⟩) (Kd.R_far (p := ⟨gb317, 1, none⟩) (Kd.R_far (p := ⟨gb317, 0, none⟩) (Kd.R_types HO_7.out BK317.out (by decide)) (fun _ hk => hk.2) (.int .i64 t312)) (fun _ hk => hk.2) (.bool t313)) (fun _ hk => hk.2) (.int .i64 t314)) (fun _ h_ => h_.1)))); (case side2 => exact (Kd.R_reads' HO_7.out).2.1); rintro e w30 ⟨rfl, hb⟩; refine ⟨_, rfl, ?_⟩; replace HO_6 := am_ (Kd.R_below (by (with_reducible repeat (first | apply Kd.R_alloc | apply Kd.R_drewN | apply Kd.R_drew)); exact (Kd.R_mono (Kd.R_far (p := ⟨gb317, 2, none⟩) (Kd.R_far (p := ⟨gb317, 1, none⟩) (Kd.R_far (p := ⟨gb317, 0, none⟩) (Kd.R_mono HO_6.out (fun k_ hk => (⟨hk, hk.2⟩ : _ ∧ k_ ≠ gb317))) (fun _ hk => hk.2) (.int .i64 t312)) (fun _ hk => hk.2) (.bool t313)) (fun _ hk => hk.2) (.int .i64 t314)) (fun _ h_ => h_.1))) hb); replace HO_7 := am_ (Kd.R_below (by (with_reducible repeat (first | apply Kd.R_alloc | apply Kd.R_drewN | apply Kd.R_drew)); exact (Kd.R_mono (Kd.R_far (p := ⟨gb317, 2, none⟩) (Kd.R_far (p := ⟨gb317, 1, none⟩) (Kd.R_far (p := ⟨gb317, 0, none⟩) (Kd.R_types HO_7.out BK317.out (by decide)) (fun _ hk => hk.2) (.int .i64 t312)) (fun _ hk => hk.2) (.bool t313)) (fun _ hk => hk.2) (.int .i64 t314)) (fun _ h_ => h_.1))) hb); replace BK293 := bb_ BK293 hb; replace BK302 := bb_ BK302 hb; replace HI297 := am_ (IsS70.below (show IsS70 w (((w25.setCell ⟨gb317, 0, none⟩ (.int .i64 t312)).setCell ⟨gb317, 1, none⟩ (.bool t313)).setCell ⟨gb317, 2, none⟩ (.int .i64 t314)) g297 t294 t315 t316 from ix_ HI297.out) hb); replace BK317 := am_ (blk_below (g := gb317) (o := .cells #[.int .i64 t312, .bool t313, .int .i64 t314] 50 (0, 0)) (by (with_reducible repeat (first | refine blk_drewN ?_ _ | refine blk_drew ?_ | refine blk_alloc ?_ _)); refine blk_put (cs := #[.int .i64 t312, .bool t313, .int .i64 0]) ?_ 2 _ rfl; (with_reducible repeat (first | refine blk_drewN ?_ _ | refine blk_drew ?_ | refine blk_alloc ?_ _)); refine blk_put (cs := #[.int .i64 t312, .bool false, .int .i64 0]) ?_ 1 _ rfl; (with_reducible repeat (first | refine blk_drewN ?_ _ | refine blk_drew ?_ | refine blk_alloc ?_ _)); refine blk_put (cs := #[.int .i64 0, .bool false, .int .i64 0]) ?_ 0 _ rfl; (with_reducible repeat (first | refine blk_drewN ?_ _ | refine blk_drew ?_ | refine blk_alloc ?_ _)); exact BK317.out) hb); replace HB := hs_ HB hb; (try clear hb); (try clear hb2); (try clear hk); (try clear hi)))
     (try simp only [Act.put, List.setIfInBounds_toArray, List.set_cons_zero, List.set_cons_succ])
     go_cut [7] (fun v7 wc => ∃ (kq : Nat) (x7_21 : List (S25)) (x298001_21 : Int) (x298002_21 : Int), Aside0 (spec_DrawRunCuts.j1 kq x6_1 x7_21 x8_1 t294 x298001_21 x298002_21 t298 t299 t312 t313 t314 = some (r1, r2, r3)) ∧ Aside0 (kq ≤ k1) ∧ Aside0 (Kd.R k50 50 wc w.heap.size (fun k_ => k_ ≠ gb317) u6 x6_1) ∧ Aside0 (Kd.R k25 25 wc w.heap.size (fun k_ => k_ ≠ gb293 ∧ k_ ≠ gb302) v7 x7_21) ∧ Aside0 (wc.heap[gb293]? = some (.cells #[.int .i64 0, .int .i64 0] 25 (0, 0))) ∧ Aside0 (wc.heap[gb302]? = some (.cells #[.int .i64 t298, .int .i64 t299] 25 (0, 0))) ∧ Aside0 (wc.heap[gb317]? = some (.cells #[.int .i64 t312, .bool t313, .int .i64 t314] 50 (0, 0))) ∧ Aside0 (IsS70 w wc g297 t294 x298001_21 x298002_21) ∧ Aside0 (Below w.heap.size w wc))
     case first =>
      have H := HC22.out
      clear HC22
      by_cases c31 : t318 = true
      ·subst c31
       have H1 : ((spec_l09Cut.f k1 x7_1 t312 t313 t314).bind fun t319 => (spec_DrawRunCuts.j1 k1 x6_1 t319 x8_1 t294 t315 t316 t298 t299 t312 t313 t314)) = some (r1, r2, r3) := by rw [if_pos rfl] at H; exact H
       clear H
       have H := H1
       clear H1
       replace H := Option.bind_eq_some_iff.mp H
       obtain ⟨t319, A320, H⟩ := H
       try dsimp only at H
       have A32 := Aside0.mk A320
       clear A320
       have H' := Aside0.mk H
       clear H
       have hnb33 := NB317_293.out
       have hnc33 := NB293_317.out
       have hnb34 := NB317_302.out
       have hnc34 := NB302_317.out
       have hnb35 := NB317_297.out
       have hnc35 := NB297_317.out
       have hcz36_0 : w30.cell? ⟨gb317, 0, none⟩ = some (.int .i64 t312) := (blk_cell BK317.out 0).trans rfl
       have hcz36_1 : w30.cell? ⟨gb317, 1, none⟩ = some (.bool t313) := (blk_cell BK317.out 1).trans rfl
       have hcz36_2 : w30.cell? ⟨gb317, 2, none⟩ = some (.int .i64 t314) := (blk_cell BK317.out 2).trans rfl
       have hfz36_0 := blk_frozen BK317.out 0
       have hfz36_1 := blk_frozen BK317.out 1
       have hfz36_2 := blk_frozen BK317.out 2
       go_wp2_with (first | ((with_reducible refine gc_ 42 rfl ?_); refine gl_ (some 32) rfl rfl Tryz.func42 rfl #[.slice Ao23 x7_1.length co23, .agg #[.int .i64 t312, .bool t313, .int .i64 t314]] rfl ?_; (with_reducible refine (spec_l09Cut.calls k1 _ _ x7_1 t312 t313 t314 t319 _ ?side1 ?side2 A32.out).mono ?_); (case side1 => repeat (first | exact (Kd.R_reads' HO_7.out).2.2 | (with_reducible refine Kd.C_alloc ?_ _) | (with_reducible refine Kd.C_drewN ?_ _) | (with_reducible refine Kd.C_drew ?_))); (case side2 => exact (Kd.R_reads' HO_7.out).2.1); rintro e w37 ⟨v320, rfl, ho0, hb⟩; refine ⟨_, rfl, ?_⟩; replace HO_6 := am_ (Kd.R_below (rx_ HO_6.out) hb); have HO321 := am_ (Kd.R_lower (Kd.R_newB (Kd.R_newB (Kd.R_new' ho0 (Kd.R_lt (rx_ HO_7.out))) (g := gb293) (o := .cells #[.int .i64 0, .int .i64 0] 25 (0, 0)) (bx_ BK293.out)) (g := gb302) (o := .cells #[.int .i64 t298, .int .i64 t299] 25 (0, 0)) (bx_ BK302.out)) (below_size (hx_ HB.out))); replace HO_7 := am_ (Kd.R_elder' (rx_ HO_7.out) (Kd.R_base ho0) hb); replace BK293 := bb_ BK293 hb; replace BK302 := bb_ BK302 hb; replace HI297 := am_ (IsS70.below (ix_ HI297.out) hb); replace BK317 := bb_ BK317 hb; replace HB := hs_ HB hb; (try clear hb); (try clear hb2); (try clear hk); (try clear hi); (try clear ho0)))
       go_meet
       case rel => exact ⟨_, (t319), (t315), (t316), H', ⟨by have := HK1.out; first | omega | exact Nat.le_refl _⟩, ⟨by (with_reducible repeat (first | apply Kd.R_alloc | apply Kd.R_drewN | apply Kd.R_drew)); exact Kd.R_mono HO_6.out (fun _ hk => hk.2)⟩, ⟨by (with_reducible repeat (first | apply Kd.R_alloc | apply Kd.R_drewN | apply Kd.R_drew)); exact Kd.R_mono HO321.out (fun _ hk => ⟨hk.1.2, hk.2⟩)⟩, ⟨bx_ BK293.out⟩, ⟨bx_ BK302.out⟩, ⟨bx_ BK317.out⟩, ⟨ix_ HI297.out⟩, ⟨hx_ HB.out⟩⟩
      ·replace c31 := Bool.eq_false_iff.mpr c31
       subst c31
       have H1 : ((spec_l01Next.f t294 t315 t316 5).bind fun bt322 => (if bt322.1 > 0 then (spec_DrawRunCuts.j2 k1 x6_1 x7_1 x8_1 t294 bt322.2.1 bt322.2.2 t298 t299) else (spec_DrawRunCuts.j1 k1 x6_1 x7_1 x8_1 t294 bt322.2.1 bt322.2.2 t298 t299 t312 t313 t314))) = some (r1, r2, r3) := by rw [if_neg (show ¬ (false = true) by decide)] at H; exact H
       clear H
       have H := H1
       clear H1
       replace H := Option.bind_eq_some_iff.mp H
       obtain ⟨⟨t322, t323, t324⟩, A380, H⟩ := H
       try dsimp only at H
       have A38 := Aside0.mk A380
       clear A380
       by_cases c39 : t322 > 0
       ·rw [if_pos c39] at H
        have c39b0 : decide (0 < t322) = true := decide_eq_true c39
        clear c39
        (first | rw [c39b0] | (simp only [i64_w, i32_w]; rw [c39b0]) | skip)
        have H' := Aside0.mk H
        clear H
        go_wp2_with (first | ((with_reducible refine gc_ 18 rfl ?_); refine gl_ (some 34) rfl rfl Tryz.func18 rfl #[.pointer (some ⟨g297, 0, none⟩), .int .i64 5] rfl ?_; (with_reducible refine (spec_l01Next.calls g297 t294 t315 t316 5 t322 t323 t324 w _ ?side1 ?side2 A38.out).mono ?_); (case side1 => exact ix_ HI297.out); (case side2 => exact hx_ HB.out); rintro e w40 ⟨rfl, hi, hb, hk⟩; refine ⟨_, rfl, ?_⟩; replace HO_6 := am_ (Kd.R_mono (Kd.R_keep (IsS70.apart (show IsS70 w _ g297 t294 t315 t316 from ix_ HI297.out) (rx_ HO_6.out) (by decide)) hk (fun _ h => h.2)) (fun _ h => h.1)); replace HO_7 := am_ (Kd.R_mono (Kd.R_keep (IsS70.apart (show IsS70 w _ g297 t294 t315 t316 from ix_ HI297.out) (rx_ HO_7.out) (by decide)) hk (fun _ h => h.2)) (fun _ h => h.1)); replace BK293 := kb_ hk BK293 NB293_297.out; replace BK302 := kb_ hk BK302 NB302_297.out; replace BK317 := kb_ hk BK317 NB317_297.out; replace HB := am_ hb; replace HI297 := am_ hi; (try clear hb); (try clear hb2); (try clear hk); (try clear hi)))
        go_meet
        case rel => exact ⟨_, (x6_1), (x7_1), (t323), (t324), H', ⟨by have := HK1.out; first | omega | exact Nat.le_refl _⟩, ⟨by (with_reducible repeat (first | apply Kd.R_alloc | apply Kd.R_drewN | apply Kd.R_drew)); exact Kd.R_mono HO_6.out (fun _ hk => trivial)⟩, ⟨rx_ HO_7.out⟩, ⟨bx_ BK293.out⟩, ⟨bx_ BK302.out⟩, ⟨ix_ HI297.out⟩, ⟨hx_ HB.out⟩⟩
       ·rw [if_neg c39] at H
        have c39b0 : decide (0 < t322) = false := decide_eq_false c39
        clear c39
        (first | rw [c39b0] | (simp only [i64_w, i32_w]; rw [c39b0]) | skip)
        have H' := Aside0.mk H
        clear H
        go_wp2_with (first | ((with_reducible refine gc_ 18 rfl ?_); refine gl_ (some 34) rfl rfl Tryz.func18 rfl #[.pointer (some ⟨g297, 0, none⟩), .int .i64 5] rfl ?_; (with_reducible refine (spec_l01Next.calls g297 t294 t315 t316 5 t322 t323 t324 w _ ?side1 ?side2 A38.out).mono ?_); (case side1 => exact ix_ HI297.out); (case side2 => exact hx_ HB.out); rintro e w41 ⟨rfl, hi, hb, hk⟩; refine ⟨_, rfl, ?_⟩; replace HO_6 := am_ (Kd.R_mono (Kd.R_keep (IsS70.apart (show IsS70 w _ g297 t294 t315 t316 from ix_ HI297.out) (rx_ HO_6.out) (by decide)) hk (fun _ h => h.2)) (fun _ h => h.1)); replace HO_7 := am_ (Kd.R_mono (Kd.R_keep (IsS70.apart (show IsS70 w _ g297 t294 t315 t316 from ix_ HI297.out) (rx_ HO_7.out) (by decide)) hk (fun _ h => h.2)) (fun _ h => h.1)); replace BK293 := kb_ hk BK293 NB293_297.out; replace BK302 := kb_ hk BK302 NB302_297.out; replace BK317 := kb_ hk BK317 NB317_297.out; replace HB := am_ hb; replace HI297 := am_ hi; (try clear hb); (try clear hb2); (try clear hk); (try clear hi)))
        go_meet
        case rel => exact ⟨_, (x7_1), (t323), (t324), H', ⟨by have := HK1.out; first | omega | exact Nat.le_refl _⟩, ⟨by (with_reducible repeat (first | apply Kd.R_alloc | apply Kd.R_drewN | apply Kd.R_drew)); exact Kd.R_mono HO_6.out (fun _ hk => hk.2)⟩, ⟨rx_ HO_7.out⟩, ⟨bx_ BK293.out⟩, ⟨bx_ BK302.out⟩, ⟨bx_ BK317.out⟩, ⟨ix_ HI297.out⟩, ⟨hx_ HB.out⟩⟩
     case rest =>
      clear HC22
      (try clear c1); (try clear c2); (try clear p2); (try clear c3); (try clear c4); (try clear c9); (try clear c10); (try clear c17); (try clear c18); (try clear c18b0); (try clear c25); (try clear c26); (try clear c27); (try clear c28); (try clear c31); (try clear c33); (try clear c34); (try clear c35); (try clear c39); (try clear c39b0); (try clear c40); (try clear c41); (try clear hcz11_0); (try clear hcz11_1); (try clear hcz14_0); (try clear hcz14_1); (try clear hcz29_0); (try clear hcz29_1); (try clear hcz29_2); (try clear hcz36_0); (try clear hcz36_1); (try clear hcz36_2); (try clear hfz11_0); (try clear hfz11_1); (try clear hfz14_0); (try clear hfz14_1); (try clear hfz29_0); (try clear hfz29_1); (try clear hfz29_2); (try clear hfz36_0); (try clear hfz36_1); (try clear hfz36_2); (try clear p2)
      obtain ⟨kq, x7_21, x298001_21, x298002_21, HA, HJ21, HO_6, HO_7, BK293, BK302, BK317, HI297, HB⟩ := hcut
      cases kq with
      | zero => exact absurd HA.out (by simp [spec_DrawRunCuts.j1])
      | succ kj21 =>
       have H := HA.out
       clear HA
       simp only [spec_DrawRunCuts.j1] at H
       by_cases c42 : x6_1.length < 5864062014805
       ·rw [if_pos c42] at H
        have LMc42 := Aside0.mk c42
        clear c42
        obtain ⟨y325, hy325⟩ : ∃ y_ : List (S50), y_ = (x6_1 ++ [(⟨t312, t313, t314⟩ : S50)]) := ⟨_, rfl⟩
        replace H : (spec_DrawRunCuts.j2 kj21 y325 x7_21 x8_1 t294 x298001_21 x298002_21 t298 t299) = some (r1, r2, r3) := by first | (rw [hy325]; with_reducible exact H) | (have H2_ := (Option.bind_some _ _).symm.trans H; rw [hy325]; with_reducible exact H2_) | (have H2_ := (Option.bind_some _ _).symm.trans H; with_reducible exact H2_) | with_reducible exact H | (rw [hy325]; exact H) | exact H
        have Ny325 := Aside0.mk hy325
        clear hy325
        have H' := Aside0.mk H
        clear H
        have hnb43 := NB317_293.out
        have hnc43 := NB293_317.out
        have hnb44 := NB317_302.out
        have hnc44 := NB302_317.out
        have hnb45 := NB317_297.out
        have hnc45 := NB297_317.out
        have hcz46_0 : wc.cell? ⟨gb317, 0, none⟩ = some (.int .i64 t312) := (blk_cell BK317.out 0).trans rfl
        have hcz46_1 : wc.cell? ⟨gb317, 1, none⟩ = some (.bool t313) := (blk_cell BK317.out 1).trans rfl
        have hcz46_2 : wc.cell? ⟨gb317, 2, none⟩ = some (.int .i64 t314) := (blk_cell BK317.out 2).trans rfl
        have hfz46_0 := blk_frozen BK317.out 0
        have hfz46_1 := blk_frozen BK317.out 1
        have hfz46_2 := blk_frozen BK317.out 2
        go_wp2_with (first | ((with_reducible refine gate_builtin (b := .append) (xs := #[.tmp 36, .tmp 38]) rfl ?_); at_builtin; refine Kd.R_append k50 (w0 := w) w.heap.size rfl (.tmp 36) (.tmp 38) 28 50 (.agg #[(.int .i64 0), (.bool false), (.int .i64 0)]) 24 rfl Tryz.underlying28 info50 rfl (by decide) (by omega) u6 x6_1 (⟨t312, t313, t314⟩ : S50) [.int .i64 t312, .bool t313, .int .i64 t314] (fun k_ => k_ ≠ gb317) (fun _ => False) rfl rfl ?aP (fun _ hk => hk.elim) ?aF ?aO ?aB ?aS ?aL ?_; (case aP => exact k50_mkM _ _ _ (⟨t312, t313, t314⟩ : S50)); (case aB => exact (hx_ HB.out)); (case aF => exact (fun k_ hk => Kd.freshB (g := gb317) (o := .cells #[.int .i64 t312, .bool t313, .int .i64 t314] 50 (0, 0)) (bx_ BK317.out) k_ hk)); (case aO => exact (rx_ HO_6.out)); (case aS => exact (below_size (hx_ HB.out))); (case aL => have := LMc42.out; omega); intro v326 w47 ho hb hg hat; rw [← Ny325.out] at ho; replace HO_7 := am_ (Kd.R_over' (rx_ HO_7.out) (Kd.R_typed (rx_ HO_6.out)) (by decide) hg); replace BK293 := am_ (blk_grown (g := gb293) (o := .cells #[.int .i64 0, .int .i64 0] 25 (0, 0)) (bx_ BK293.out) hg (Kd.R_ne HO_6.out BK293.out (by decide))); replace BK302 := am_ (blk_grown (g := gb302) (o := .cells #[.int .i64 t298, .int .i64 t299] 25 (0, 0)) (bx_ BK302.out) hg (Kd.R_ne HO_6.out BK302.out (by decide))); replace BK317 := am_ (blk_grown (g := gb317) (o := .cells #[.int .i64 t312, .bool t313, .int .i64 t314] 50 (0, 0)) (bx_ BK317.out) hg (Kd.R_away HO_6.out (fun _ hk => hk))); replace HI297 := am_ (IsS70.grown (ix_ HI297.out) hg (IsS70.own_ne HI297.out HO_6.out (by decide))); replace HB := am_ hb; have HO327 := am_ ho; clear HO_6; clear ho hb hg hat))
        go_meet
        case rel => exact ⟨_, (y325), (x7_21), (x298001_21), (x298002_21), H', ⟨by have := HK1.out; have := HJ21.out; first | omega | exact Nat.le_refl _⟩, ⟨by (with_reducible repeat (first | apply Kd.R_alloc | apply Kd.R_drewN | apply Kd.R_drew)); exact Kd.R_mono HO327.out (fun _ hk => trivial)⟩, ⟨rx_ HO_7.out⟩, ⟨bx_ BK293.out⟩, ⟨bx_ BK302.out⟩, ⟨ix_ HI297.out⟩, ⟨hx_ HB.out⟩⟩
       ·rw [if_neg c42] at H
        exact absurd H (by simp)
    case rest =>
     clear HC19
     (try clear c1); (try clear c2); (try clear p2); (try clear c3); (try clear c4); (try clear c9); (try clear c10); (try clear c17); (try clear c18); (try clear c18b0); (try clear c25); (try clear c26); (try clear c27); (try clear c28); (try clear c31); (try clear c33); (try clear c34); (try clear c35); (try clear c39); (try clear c39b0); (try clear c40); (try clear c41); (try clear c42); (try clear c43); (try clear c44); (try clear c45); (try clear hcz11_0); (try clear hcz11_1); (try clear hcz14_0); (try clear hcz14_1); (try clear hcz29_0); (try clear hcz29_1); (try clear hcz29_2); (try clear hcz36_0); (try clear hcz36_1); (try clear hcz36_2); (try clear hcz46_0); (try clear hcz46_1); (try clear hcz46_2); (try clear hfz11_0); (try clear hfz11_1); (try clear hfz14_0); (try clear hfz14_1); (try clear hfz29_0); (try clear hfz29_1); (try clear hfz29_2); (try clear hfz36_0); (try clear hfz36_1); (try clear hfz36_2); (try clear hfz46_0); (try clear hfz46_1); (try clear hfz46_2); (try clear p2)
     obtain ⟨kq, x6_18, x7_18, x298001_18, x298002_18, HA, HJ18, HO_6, HO_7, BK293, BK302, HI297, HB⟩ := hcut
     cases kq with
     | zero => exact absurd HA.out (by simp [spec_DrawRunCuts.j2])
     | succ kj18 =>
      have H := HA.out
      clear HA
      simp only [spec_DrawRunCuts.j2] at H
      have H' := Aside0.mk H
      clear H
      go_wp2
      go_roundg kj18
      case measure => have := HK1.out; have := HJ18.out; omega
      case rel => exact ⟨(x6_18), (x7_18), (wrap64 (x8_1 - 1)), (x298001_18), (x298002_18), (by first | rfl | (simp; done) | (simp [*]; done)), H', ⟨by have := HK1.out; have := HJ18.out; omega⟩, ⟨rx_ HO_6.out⟩, ⟨rx_ HO_7.out⟩, ⟨bx_ BK293.out⟩, ⟨bx_ BK302.out⟩, ⟨ix_ HI297.out⟩, ⟨hx_ HB.out⟩⟩
   ·rw [if_neg c18] at H
    have c18b0 : decide (0 < x8_1) = false := decide_eq_false c18
    clear c18
    replace H := Option.bind_eq_some_iff.mp H
    obtain ⟨⟨t328, t329, t330⟩, A480, H⟩ := H
    try dsimp only at H
    have A48 := Aside0.mk A480
    clear A480
    by_cases c49 : t328 = 0
    ·rw [if_pos c49] at H
     have c49b0 : (t328 == 0) = true := beq_iff_eq.mpr c49
     have c49b1 : (t328 != 0) = false := bne_eq_false_iff_eq.mpr c49
     clear c49
     obtain ⟨y331, hy331⟩ : ∃ y_ : List (S50), y_ = (([] : List (S50))) := ⟨_, rfl⟩
     replace H : ((spec_l01Next.f t294 t329 t330 2).bind fun bt334 => (spec_DrawRunCuts.l1 k1 y331 (wrap64 (79 + bt334.1)))) = some (r1, r2, r3) := by first | (rw [hy331]; with_reducible exact H) | (have H2_ := (Option.bind_some _ _).symm.trans H; rw [hy331]; with_reducible exact H2_) | (have H2_ := (Option.bind_some _ _).symm.trans H; with_reducible exact H2_) | with_reducible exact H | (rw [hy331]; exact H) | exact H
     have Ny331 := Aside0.mk hy331
     clear hy331
     replace H := Option.bind_eq_some_iff.mp H
     obtain ⟨⟨t334, t335, t336⟩, A500, H⟩ := H
     try dsimp only at H
     have A50 := Aside0.mk A500
     clear A500
     have H' := Aside0.mk H
     clear H
     go_wp2_with (first | ((with_reducible refine gc_ 18 rfl ?_); refine gl_ (some 41) rfl rfl Tryz.func18 rfl #[.pointer (some ⟨g297, 0, none⟩), .int .i64 40] rfl ?_; (with_reducible refine (spec_l01Next.calls g297 t294 x298001_1 x298002_1 40 t328 t329 t330 w _ ?side1 ?side2 A48.out).mono ?_); (case side1 => exact ix_ HI297.out); (case side2 => exact hx_ HB.out); rintro e w51 ⟨rfl, hi, hb, hk⟩; refine ⟨_, rfl, ?_⟩; replace HO_6 := am_ (Kd.R_mono (Kd.R_keep (IsS70.apart (show IsS70 w _ g297 t294 x298001_1 x298002_1 from ix_ HI297.out) (rx_ HO_6.out) (by decide)) hk (fun _ h => h.2)) (fun _ h => h.1)); replace HO_7 := am_ (Kd.R_mono (Kd.R_keep (IsS70.apart (show IsS70 w _ g297 t294 x298001_1 x298002_1 from ix_ HI297.out) (rx_ HO_7.out) (by decide)) hk (fun _ h => h.2)) (fun _ h => h.1)); replace BK293 := kb_ hk BK293 NB293_297.out; replace BK302 := kb_ hk BK302 NB302_297.out; replace HB := am_ hb; replace HI297 := am_ hi; (try clear hb); (try clear hb2); (try clear hk); (try clear hi)) | ((with_reducible refine gd_ 43 rfl ?_); refine Kd.R_lit k50 _ 50 ?hg (N := 43) ?hd (xs := ([] : List (S50))) (inner := []) (ok := fun _ => True) (okp := fun _ => True) ?hr ?hp (fun _ hk => hk) trivial (Below.refl _ _) (Nat.le_refl _) (by simp) ?_; (case hd => rfl); (case hg => rfl); (case hr => first | (go_simp; done) | (go_simp; rfl)); (case hp => exact (Reps.none _ _)); intro v332 w52 ho53 hb hg_ hnew_; clear hg_ hnew_; (first | rw [← Ny331.out] at ho53 | (simp only [Int.reduceToNat] at ho53; rw [← Ny331.out] at ho53)); replace HO_7 := am_ (Kd.R_below (rx_ HO_7.out) hb); have HO333 := am_ (Kd.R_lower (Kd.R_new' ho53 (Kd.R_lt (rx_ HO_6.out))) (below_size (hx_ HB.out))); replace HO_6 := am_ (Kd.R_elder' (rx_ HO_6.out) (Kd.R_base ho53) hb); replace BK293 := bb_ BK293 hb; replace BK302 := bb_ BK302 hb; replace HI297 := am_ (IsS70.below (ix_ HI297.out) hb); replace HB := hs_ HB hb; clear hb ho53) | ((with_reducible refine gc_ 18 rfl ?_); refine gl_ (some 45) rfl rfl Tryz.func18 rfl #[.pointer (some ⟨g297, 0, none⟩), .int .i64 2] rfl ?_; (with_reducible refine (spec_l01Next.calls g297 t294 t329 t330 2 t334 t335 t336 w _ ?side1 ?side2 A50.out).mono ?_); (case side1 => exact ix_ HI297.out); (case side2 => exact hx_ HB.out); rintro e w54 ⟨rfl, hi, hb, hk⟩; refine ⟨_, rfl, ?_⟩; replace HO_6 := am_ (Kd.R_mono (Kd.R_keep (IsS70.apart (show IsS70 w _ g297 t294 t329 t330 from ix_ HI297.out) (rx_ HO_6.out) (by decide)) hk (fun _ h => h.2)) (fun _ h => h.1)); replace HO_7 := am_ (Kd.R_mono (Kd.R_keep (IsS70.apart (show IsS70 w _ g297 t294 t329 t330 from ix_ HI297.out) (rx_ HO_7.out) (by decide)) hk (fun _ h => h.2)) (fun _ h => h.1)); replace BK293 := kb_ hk BK293 NB293_297.out; replace BK302 := kb_ hk BK302 NB302_297.out; replace HO333 := am_ (Kd.R_mono (Kd.R_keep (IsS70.apart (show IsS70 w _ g297 t294 t329 t330 from ix_ HI297.out) (rx_ HO333.out) (by decide)) hk (fun _ h => h.2)) (fun _ h => h.1)); replace HB := am_ hb; replace HI297 := am_ hi; (try clear hb); (try clear hb2); (try clear hk); (try clear hi)))
     go_loopg [6, 10] k1 (fun kq v6 v10 w' => ∃ (x6_2 : List (S50)) (x10_2 : Int), v10 = .int .i64 x10_2 ∧ Aside0 (spec_DrawRunCuts.l1 kq x6_2 x10_2 = some (r1, r2, r3)) ∧ Aside0 (kq ≤ k1) ∧ Aside0 (Kd.R k50 50 w' w.heap.size (fun _ => True) v6 x6_2) ∧ Aside0 (w'.heap[gb293]? = some (.cells #[.int .i64 0, .int .i64 0] 25 (0, 0))) ∧ Aside0 (w'.heap[gb302]? = some (.cells #[.int .i64 t298, .int .i64 t299] 25 (0, 0))) ∧ Aside0 (Below w.heap.size w w'))
     case atStart => exact ⟨(y331), (wrap64 (79 + t334)), (by first | rfl | (simp; done) | (simp [*]; done)), H', ⟨Nat.le_refl _⟩, ⟨by (with_reducible repeat (first | apply Kd.R_alloc | apply Kd.R_drewN | apply Kd.R_drew)); exact Kd.R_mono HO333.out (fun _ hk => trivial)⟩, ⟨bx_ BK293.out⟩, ⟨bx_ BK302.out⟩, ⟨hx_ HB.out⟩⟩
     case round =>
      clear H'
      (try clear c1); (try clear c2); (try clear p2); (try clear c3); (try clear c4); (try clear p6); (try clear c9); (try clear c10); (try clear c17); (try clear c18); (try clear c18b0); (try clear c25); (try clear c26); (try clear c27); (try clear c28); (try clear c31); (try clear c33); (try clear c34); (try clear c35); (try clear c39); (try clear c39b0); (try clear c40); (try clear c41); (try clear c42); (try clear c43); (try clear c44); (try clear c45); (try clear c49); (try clear c49b0); (try clear c49b1); (try clear hcz11_0); (try clear hcz11_1); (try clear hcz14_0); (try clear hcz14_1); (try clear hcz29_0); (try clear hcz29_1); (try clear hcz29_2); (try clear hcz36_0); (try clear hcz36_1); (try clear hcz36_2); (try clear hcz46_0); (try clear hcz46_1); (try clear hcz46_2); (try clear hfz11_0); (try clear hfz11_1); (try clear hfz14_0); (try clear hfz14_1); (try clear hfz29_0); (try clear hfz29_1); (try clear hfz29_2); (try clear hfz36_0); (try clear hfz36_1); (try clear hfz36_2); (try clear hfz46_0); (try clear hfz46_1); (try clear hfz46_2); (try clear p2)
      obtain ⟨x6_2, x10_2, rfl, HA, HK2, HO_6, BK293, BK302, HB⟩ := hrel
      cases gk with
      | zero => exact absurd HA.out (by simp [spec_DrawRunCuts.l1])
      | succ k2 =>
       have H := HA.out
       clear HA
       simp only [spec_DrawRunCuts.l1] at H
       by_cases c55 : x10_2 > 0
       ·rw [if_pos c55] at H
        have c55b0 : decide (0 < x10_2) = true := decide_eq_true c55
        clear c55
        by_cases c56 : x6_2.length < 5864062014805
        ·rw [if_pos c56] at H
         have LMc56 := Aside0.mk c56
         clear c56
         obtain ⟨y337, hy337⟩ : ∃ y_ : List (S50), y_ = (x6_2 ++ [(⟨0, false, x10_2⟩ : S50)]) := ⟨_, rfl⟩
         replace H : (spec_DrawRunCuts.l1 k2 y337 (wrap64 (x10_2 - 1))) = some (r1, r2, r3) := by first | (rw [hy337]; with_reducible exact H) | (have H2_ := (Option.bind_some _ _).symm.trans H; rw [hy337]; with_reducible exact H2_) | (have H2_ := (Option.bind_some _ _).symm.trans H; with_reducible exact H2_) | with_reducible exact H | (rw [hy337]; exact H) | exact H
         have Ny337 := Aside0.mk hy337
         clear hy337
         have H' := Aside0.mk H
         clear H
         go_wp2_with (first | ((with_reducible refine gate_builtin (b := .append) (xs := #[.tmp 51, .tmp 54]) rfl ?_); at_builtin; refine Kd.R_append k50 (w0 := w) w.heap.size rfl (.tmp 51) (.tmp 54) 28 50 (.agg #[(.int .i64 0), (.bool false), (.int .i64 0)]) 24 rfl Tryz.underlying28 info50 rfl (by decide) (by omega) u6 x6_2 (⟨0, false, x10_2⟩ : S50) [.int .i64 0, .bool false, .int .i64 x10_2] (fun _ => True) (fun _ => False) rfl rfl ?aP (fun _ hk => hk.elim) ?aF ?aO ?aB ?aS ?aL ?_; (case aP => exact k50_mkM _ _ _ (⟨0, false, x10_2⟩ : S50)); (case aB => exact (hx_ HB.out)); (case aF => exact (fun _ _ => trivial)); (case aO => exact (rx_ HO_6.out)); (case aS => exact (below_size (hx_ HB.out))); (case aL => have := LMc56.out; omega); intro v338 w57 ho hb hg hat; rw [← Ny337.out] at ho; replace BK293 := am_ (blk_grown (g := gb293) (o := .cells #[.int .i64 0, .int .i64 0] 25 (0, 0)) (bx_ BK293.out) hg (Kd.R_ne HO_6.out BK293.out (by decide))); replace BK302 := am_ (blk_grown (g := gb302) (o := .cells #[.int .i64 t298, .int .i64 t299] 25 (0, 0)) (bx_ BK302.out) hg (Kd.R_ne HO_6.out BK302.out (by decide))); replace HB := am_ hb; have HO339 := am_ ho; clear HO_6; clear ho hb hg hat))
         go_roundg k2
         case measure => have := HK1.out; have := HK2.out; omega
         case rel => exact ⟨(y337), (wrap64 (x10_2 - 1)), (by first | rfl | (simp; done) | (simp [*]; done)), H', ⟨by have := HK1.out; have := HK2.out; omega⟩, ⟨rx_ HO339.out⟩, ⟨bx_ BK293.out⟩, ⟨bx_ BK302.out⟩, ⟨hx_ HB.out⟩⟩
        ·rw [if_neg c56] at H
         exact absurd H (by simp)
       ·rw [if_neg c55] at H
        have c55b0 : decide (0 < x10_2) = false := decide_eq_false c55
        clear c55
        simp only [Option.some.injEq, Prod.mk.injEq] at H
        obtain ⟨rfl, rfl, rfl⟩ := H
        have hnb58 := NB293_302.out
        have hnc58 := NB302_293.out
        have hcz59_0 : wr.cell? ⟨gb293, 0, none⟩ = some (.int .i64 0) := (blk_cell BK293.out 0).trans rfl
        have hcz59_1 : wr.cell? ⟨gb293, 1, none⟩ = some (.int .i64 0) := (blk_cell BK293.out 1).trans rfl
        have hfz59_0 := blk_frozen BK293.out 0
        have hfz59_1 := blk_frozen BK293.out 1
        go_wp2
        refine bodyPost_ret (results_ct rfl _ _ gb293 25 #[.int .i64 500, .int .i64 5] (0, 0) _ rfl (by (with_reducible repeat (first | refine blk_drewN ?_ _ | refine blk_drew ?_ | refine blk_alloc ?_ _)); refine blk_put (cs := #[.int .i64 500, .int .i64 0]) ?_ 1 _ rfl; (with_reducible repeat (first | refine blk_drewN ?_ _ | refine blk_drew ?_ | refine blk_alloc ?_ _)); refine blk_put (cs := #[.int .i64 0, .int .i64 0]) ?_ 0 _ rfl; (with_reducible repeat (first | refine blk_drewN ?_ _ | refine blk_drew ?_ | refine blk_alloc ?_ _)); exact BK293.out) Tryz.underlying25 rfl (by kernel_rfl)) rfl ?_
        exact ⟨_, by first | rfl | (simp [errW_none, errW_some] <;> rfl) | (simp [*, errW_none, errW_some] <;> rfl), by (with_reducible repeat (first | apply Kd.R_alloc | apply Kd.R_drewN | apply Kd.R_drew)); exact Kd.R_mono (Kd.R_far (p := ⟨gb293, 1, none⟩) (Kd.R_far (p := ⟨gb293, 0, none⟩) (Kd.R_types HO_6.out BK293.out (by decide)) (fun _ hk => hk.2) (.int .i64 500)) (fun _ hk => hk.2) (.int .i64 5)) (fun _ hk => trivial), hx_ HB.out⟩
    ·rw [if_neg c49] at H
     have c49b0 : (t328 == 0) = false := beq_eq_false_iff_ne.mpr c49
     have c49b1 : (t328 != 0) = true := bne_iff_ne.mpr c49
     simp only [Option.some.injEq, Prod.mk.injEq] at H
     obtain ⟨rfl, rfl, rfl⟩ := H
     go_wp2_with (first | ((with_reducible refine gc_ 18 rfl ?_); refine gl_ (some 41) rfl rfl Tryz.func18 rfl #[.pointer (some ⟨g297, 0, none⟩), .int .i64 40] rfl ?_; (with_reducible refine (spec_l01Next.calls g297 t294 x298001_1 x298002_1 40 t328 t329 t330 w _ ?side1 ?side2 A48.out).mono ?_); (case side1 => exact ix_ HI297.out); (case side2 => exact hx_ HB.out); rintro e w60 ⟨rfl, hi, hb, hk⟩; refine ⟨_, rfl, ?_⟩; replace HO_6 := am_ (Kd.R_mono (Kd.R_keep (IsS70.apart (show IsS70 w _ g297 t294 x298001_1 x298002_1 from ix_ HI297.out) (rx_ HO_6.out) (by decide)) hk (fun _ h => h.2)) (fun _ h => h.1)); replace HO_7 := am_ (Kd.R_mono (Kd.R_keep (IsS70.apart (show IsS70 w _ g297 t294 x298001_1 x298002_1 from ix_ HI297.out) (rx_ HO_7.out) (by decide)) hk (fun _ h => h.2)) (fun _ h => h.1)); replace BK293 := kb_ hk BK293 NB293_297.out; replace BK302 := kb_ hk BK302 NB302_297.out; replace HB := am_ hb; replace HI297 := am_ hi; (try clear hb); (try clear hb2); (try clear hk); (try clear hi); have hnb61 := NB302_293.out; have hnc61 := NB293_302.out; have hnb62 := NB302_297.out; have hnc62 := NB297_302.out; have hcz63_0 : w60.cell? ⟨gb302, 0, none⟩ = some (.int .i64 t298) := (blk_cell BK302.out 0).trans rfl; have hcz63_1 : w60.cell? ⟨gb302, 1, none⟩ = some (.int .i64 t299) := (blk_cell BK302.out 1).trans rfl; have hfz63_0 := blk_frozen BK302.out 0; have hfz63_1 := blk_frozen BK302.out 1; have hnb64 := NB293_297.out; have hnc64 := NB297_293.out; have hcz65_0 : w60.cell? ⟨gb293, 0, none⟩ = some (.int .i64 0) := (blk_cell BK293.out 0).trans rfl; have hcz65_1 : w60.cell? ⟨gb293, 1, none⟩ = some (.int .i64 0) := (blk_cell BK293.out 1).trans rfl; have hfz65_0 := blk_frozen BK293.out 0; have hfz65_1 := blk_frozen BK293.out 1))
     refine bodyPost_ret (results_ct rfl _ _ gb293 25 #[.int .i64 t298, .int .i64 t299] (0, 0) _ rfl (by (with_reducible repeat (first | refine blk_drewN ?_ _ | refine blk_drew ?_ | refine blk_alloc ?_ _)); refine blk_put (cs := #[.int .i64 t298, .int .i64 0]) ?_ 1 _ rfl; (with_reducible repeat (first | refine blk_drewN ?_ _ | refine blk_drew ?_ | refine blk_alloc ?_ _)); refine blk_put (cs := #[.int .i64 0, .int .i64 0]) ?_ 0 _ rfl; (with_reducible repeat (first | refine blk_drewN ?_ _ | refine blk_drew ?_ | refine blk_alloc ?_ _)); exact BK293.out) Tryz.underlying25 rfl (by kernel_rfl)) rfl ?_
     exact ⟨_, by first | rfl | (simp [errW_none, errW_some] <;> rfl) | (simp [*, errW_none, errW_some] <;> rfl), by (with_reducible repeat (first | apply Kd.R_alloc | apply Kd.R_drewN | apply Kd.R_drew)); exact Kd.R_mono (Kd.R_far (p := ⟨gb293, 1, none⟩) (Kd.R_far (p := ⟨gb293, 0, none⟩) (Kd.R_types HO_6.out BK293.out (by decide)) (fun _ hk => hk.2) (.int .i64 t298)) (fun _ hk => hk.2) (.int .i64 t299)) (fun _ hk => trivial), hx_ HB.out⟩

/-! ### spec_DrawProgramText: function 8 -/
def spec_DrawProgramText.f (k : Nat) (l0 : List Int) : Option ((List (S50))) := (spec_DrawRunCuts.f k l0).bind fun bt340 => (some bt340.2.2)
theorem spec_DrawProgramText.mono : ∀ a0 k, LeO (spec_DrawProgramText.f k a0) (spec_DrawProgramText.f (k + 1) a0) := by
 intro a0 k
 unfold spec_DrawProgramText.f
 repeat' first
   | (with_reducible exact spec_DrawRunCuts.mono _ _)
   | (with_reducible exact LeO.refl _)
   | (with_reducible exact LeO.none _)
   | (with_reducible refine LeO.ite ?_ ?_)
   | (with_reducible refine LeO.bind ?_ (fun _ => ?_))
   | exact spec_DrawRunCuts.mono _ _
   | exact LeO.none _
   | refine LeO.ite ?_ ?_
   | refine LeO.bind ?_ (fun _ => ?_)
set_option maxHeartbeats 8000000 in
set_option maxRecDepth 100000 in
theorem spec_DrawProgramText.calls (k : Nat) (A0 : Option Addr) (c0 : Nat) (l0 : List Int) (r : List (S50)) (w : World) (hr0 : Kd.C (Kd.int .u8) w A0 l0.length l0) (hc0 : l0.length ≤ c0) (h : spec_DrawProgramText.f k l0 = some r) :
  Calls Tryz.prog 8 #[.slice A0 l0.length c0] w fun e w' => ∃ v0_ : Value, e = .returned (v0_) ∧ Kd.R k50 50 w' w.heap.size (fun _ => True) v0_ r ∧ Below w.heap.size w w' := by
 have hu25 := Tryz.underlying25
 have HR0 := Aside0.mk hr0
 have HC0 := Aside0.mk hc0
 clear hr0 hc0
 have HB := Aside0.mk (Below.refl w.heap.size w)
 have H : ((spec_DrawRunCuts.f k l0).bind fun bt340 => (some bt340.2.2)) = some r := h
 clear h
 replace H := Option.bind_eq_some_iff.mp H
 obtain ⟨⟨t340, t341, t342⟩, A20, H⟩ := H
 try dsimp only at H
 have A2 := Aside0.mk A20
 clear A20
 obtain rfl := Option.some.inj H
 go_enter Tryz.func8, Tryz.ntmps8
 go_wp2_with (first | ((with_reducible refine gc_ 25 rfl ?_); refine gl_ (some 7) rfl rfl Tryz.func25 rfl #[.slice A0 l0.length c0] rfl ?_; (with_reducible refine (spec_DrawRunCuts.calls k _ _ l0 t340 t341 t342 _ ?side1 ?side2 A2.out).mono ?_); (case side1 => repeat (first | exact HR0.out | (with_reducible refine Kd.C_alloc ?_ _) | (with_reducible refine Kd.C_drewN ?_ _) | (with_reducible refine Kd.C_drew ?_))); (case side2 => exact HC0.out); rintro e w3 ⟨v343, rfl, ho0, hb⟩; refine ⟨_, rfl, ?_⟩; have HO344 := am_ (Kd.R_lower ho0 (below_size (hx_ HB.out))); replace HB := hs_ HB hb; (try clear hb); (try clear hb2); (try clear hk); (try clear hi); (try clear ho0)) | ((with_reducible refine gd_ 3 rfl ?_); refine be_ 3 #[.int .i64 0, .int .i64 0] 25 rfl rfl ?_; intro gb345 hg w4 hbox hb; replace HO344 := am_ (Kd.R_below (rx_ HO344.out) hb); have BK345 := am_ hbox; have GW345 := gw_ hg HB; have GE345 := gw_ hg HB; replace HB := hs_ HB hb; clear hb hbox hg; have hcz5_0 : w4.cell? ⟨gb345, 0, none⟩ = some (.int .i64 0) := (blk_cell BK345.out 0).trans rfl; have hcz5_1 : w4.cell? ⟨gb345, 1, none⟩ = some (.int .i64 0) := (blk_cell BK345.out 1).trans rfl; have hfz5_0 := blk_frozen BK345.out 0; have hfz5_1 := blk_frozen BK345.out 1))
 go_ret
 exact ⟨_, by first | rfl | (simp [errW_none, errW_some] <;> rfl) | (simp [*, errW_none, errW_some] <;> rfl), by (with_reducible repeat (first | apply Kd.R_alloc | apply Kd.R_drewN | apply Kd.R_drew)); exact Kd.R_mono (Kd.R_far (p := ⟨gb345, 1, none⟩) (Kd.R_far (p := ⟨gb345, 0, none⟩) (Kd.R_types HO344.out BK345.out (by decide)) (fun _ hk => hk.2) (.int .i64 t340)) (fun _ hk => hk.2) (.int .i64 t341)) (fun _ hk => trivial), hx_ HB.out⟩

/-! ### impl_decimal: function 26 -/
def impl_decimal.f (a0 : Int) : Option (ByteArray) := if -9223372036854775808 ≤ a0 then (if a0 ≤ 9223372036854775807 then (some (⟨(Lib.itoa a0).toArray⟩ : ByteArray)) else (none)) else (none)
set_option maxHeartbeats 8000000 in
set_option maxRecDepth 100000 in
theorem impl_decimal.calls (a0 : Int) (r : ByteArray) (w : World) (h : impl_decimal.f a0 = some r) (henv : HandD.Env w) :
  Calls Tryz.prog 26 #[.int .i64 a0] w fun e w' => e = .returned (.string r) ∧ Below w.heap.size w w' := by
 unfold impl_decimal.f at h
 by_cases c0 : -9223372036854775808 ≤ a0
 ·rw [if_pos c0] at h
  by_cases c1 : a0 ≤ 9223372036854775807
  ·rw [if_pos c1] at h
   obtain rfl := Option.some.inj h
   exact HandD.decimal a0 c0 c1 w henv
  ·rw [if_neg c1] at h
   exact absurd h (by simp)
 ·rw [if_neg c0] at h
  exact absurd h (by simp)

/-! ### impl_cutMark: function 27 -/
def impl_cutMark.f (a0 : Bool) : Option (ByteArray) := if a0 = true then (some (⟨#[45]⟩ : ByteArray)) else (some (⟨#[124]⟩ : ByteArray))
set_option maxHeartbeats 8000000 in
set_option maxRecDepth 100000 in
theorem impl_cutMark.calls (a0 : Bool) (r : ByteArray) (w : World) (h : impl_cutMark.f a0 = some r) :
  Calls Tryz.prog 27 #[.bool a0] w fun e w' => e = .returned (.string r) ∧ Drawn0 w w' := by
 have H : (if a0 = true then (some (⟨#[45]⟩ : ByteArray)) else (some (⟨#[124]⟩ : ByteArray))) = some r := h
 clear h
 by_cases c2 : a0 = true
 ·subst c2
  have H1 : (some (⟨#[45]⟩ : ByteArray)) = some r := by rw [if_pos rfl] at H; exact H
  clear H
  have H := H1
  clear H1
  obtain rfl := Option.some.inj H
  go_enter Tryz.func27, Tryz.ntmps27
  go_wp2
  go_ret
  exact ⟨by first | rfl | (simp; done) | (simp [*]; done), by repeat (first | exact Drawn0.refl _ | apply Drawn0.step)⟩
 ·replace c2 := Bool.eq_false_iff.mpr c2
  subst c2
  have H1 : (some (⟨#[124]⟩ : ByteArray)) = some r := by rw [if_neg (show ¬ (false = true) by decide)] at H; exact H
  clear H
  have H := H1
  clear H1
  obtain rfl := Option.some.inj H
  go_enter Tryz.func27, Tryz.ntmps27
  go_wp2
  go_ret
  exact ⟨by first | rfl | (simp; done) | (simp [*]; done), by repeat (first | exact Drawn0.refl _ | apply Drawn0.step)⟩

/-! ### strings_Join: function 28 -/
def strings_Join.f (l0 : List ByteArray) (a1 : ByteArray) : Option (ByteArray) := if l0.length ≤ 140737488355328 then (if (Lib.join (l0.map (·.data.toList)) a1.data.toList).length ≤ 140737488355328 then (some (⟨(Lib.join (l0.map (·.data.toList)) a1.data.toList).toArray⟩ : ByteArray)) else (none)) else (none)
set_option maxHeartbeats 8000000 in
set_option maxRecDepth 100000 in
theorem strings_Join.calls (A0 : Option Addr) (c0 : Nat) (l0 : List ByteArray) (a1 : ByteArray) (r : ByteArray) (w : World) (hr0 : Kd.C Kd.string w A0 l0.length l0) (hc0 : l0.length ≤ c0) (h : strings_Join.f l0 a1 = some r) :
  Calls Tryz.prog 28 #[.slice A0 l0.length c0, .string a1] w fun e w' => e = .returned (.string r) ∧ Below w.heap.size w w' := by
 unfold strings_Join.f at h
 by_cases c0_ : l0.length ≤ 140737488355328
 ·rw [if_pos c0_] at h
  by_cases c1 : (Lib.join (l0.map (·.data.toList)) a1.data.toList).length ≤ 140737488355328
  ·rw [if_pos c1] at h
   obtain rfl := Option.some.inj h
   exact HandD.join A0 c0 l0 a1 w hr0 hc0 c0_ c1
  ·rw [if_neg c1] at h
   exact absurd h (by simp)
 ·rw [if_neg c0_] at h
  exact absurd h (by simp)

end Go.Proofs.YtdafddgmeidclaaGreatDoor.PFnGridCuts
