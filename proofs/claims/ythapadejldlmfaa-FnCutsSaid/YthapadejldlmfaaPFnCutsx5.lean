-- Written by wip/inject.py: a contract of each function that the law reaches; those of the stand-ins are proved in this seat's Hand texts
import Derived.Test.YthapadejldlmfaaPFnCutsx0
import Derived.Test.YthapadejldlmfaaPFnCutsx2
import Derived.Test.YthapadejldlmfaaPFnCutsx3
import Derived.Test.YthapadejldlmfaaPFnCutsx4
namespace Go.Proofs.Ythapadejldlmfaa.PFnCuts
open Go.RowKit Go.Proofs.YthapadejldlmfaaW.PrintWords Go.Proofs.YthapadejldlmfaaW.PrintLast Go.Proofs.YthapadejldlmfaaW.PrintMore
attribute [local go_sem] max2_int min2_int max_two min_two max_three min_three max_four min_four   -- for this text's walks alone
set_option linter.unusedVariables false
set_option linter.unusedSimpArgs false

/-! ### spec_DrawRunCuts: function 92 -/
mutual
def spec_DrawRunCuts.l0 : Nat → List (S85) → List (S77) → Int → List Int → Int → Int → Int → Int → Option (Int × Int × (List (S85)))
 | 0, _, _, _, _, _, _, _, _ => none
 | k + 1, x6, x7, x8, x227000, x227001, x227002, x232000, x232001 => if x8 > 0 then ((spec_l09DrawCut.f k x227000 x227001 x227002 x7).bind fun bt241 => ((spec_CanCut.f k x7 bt241.1 bt241.2.1 bt241.2.2.1).bind fun t247 => (if t247 = true then ((spec_l09Cut.f x7 bt241.1 bt241.2.1 bt241.2.2.1).bind fun t248 => (if x6.length < 5864062014805 then (spec_DrawRunCuts.l0 k (x6 ++ [(⟨bt241.1, bt241.2.1, bt241.2.2.1⟩ : S85)]) t248 (wrap64 (x8 - 1)) x227000 bt241.2.2.2.1 bt241.2.2.2.2 x232000 x232001) else (none))) else ((spec_l01Next.f x227000 bt241.2.2.2.1 bt241.2.2.2.2 5).bind fun bt254 => (if bt254.1 > 0 then (spec_DrawRunCuts.l0 k x6 x7 (wrap64 (x8 - 1)) x227000 bt254.2.1 bt254.2.2 x232000 x232001) else (if x6.length < 5864062014805 then (spec_DrawRunCuts.l0 k (x6 ++ [(⟨bt241.1, bt241.2.1, bt241.2.2.1⟩ : S85)]) x7 (wrap64 (x8 - 1)) x227000 bt254.2.1 bt254.2.2 x232000 x232001) else (none))))))) else ((spec_l01Next.f x227000 x227001 x227002 40).bind fun bt260 => (if bt260.1 = 0 then ((spec_l01Next.f x227000 bt260.2.1 bt260.2.2 2).bind fun bt266 => (spec_DrawRunCuts.l1 k (([] : List (S85))) (wrap64 (79 + bt266.1)))) else (some (x232000, x232001, x6))))
def spec_DrawRunCuts.l1 : Nat → List (S85) → Int → Option (Int × Int × (List (S85)))
 | 0, _, _ => none
 | k + 1, x6, x10 => if x10 > 0 then (if x6.length < 5864062014805 then (spec_DrawRunCuts.l1 k (x6 ++ [(⟨0, false, x10⟩ : S85)]) (wrap64 (x10 - 1))) else (none)) else (some (500, 5, x6))
end
def spec_DrawRunCuts.f (k : Nat) (l0 : List Int) : Option (Int × Int × (List (S85))) := (spec_l01From.f k l0).bind fun bt223 => ((spec_l09DrawPiece.f bt223.1 bt223.2.1 bt223.2.2).bind fun bt227 => ((spec_l01Next.f bt223.1 bt227.2.2.1 bt227.2.2.2 9).bind fun bt238 => (spec_DrawRunCuts.l0 k (([] : List (S85))) (([(⟨bt227.1, bt227.2.1⟩ : S77)] : List (S77))) bt238.1 bt223.1 bt238.2.1 bt238.2.2 bt227.1 bt227.2.1)))
theorem spec_DrawRunCuts.mono_l : ∀ k, (∀ y0 y1 y2 y3 y4 y5 y6 y7, LeO (spec_DrawRunCuts.l0 k y0 y1 y2 y3 y4 y5 y6 y7) (spec_DrawRunCuts.l0 (k + 1) y0 y1 y2 y3 y4 y5 y6 y7)) ∧ (∀ y0 y1, LeO (spec_DrawRunCuts.l1 k y0 y1) (spec_DrawRunCuts.l1 (k + 1) y0 y1))
 | 0 => ⟨fun _ _ _ _ _ _ _ _ r h => by simp [spec_DrawRunCuts.l0] at h, fun _ _ r h => by simp [spec_DrawRunCuts.l1] at h⟩
 | k + 1 => by
  obtain ⟨ih0, ih1⟩ := spec_DrawRunCuts.mono_l k
  refine ⟨?_, ?_⟩
  ·intro y0 y1 y2 y3 y4 y5 y6 y7
   unfold spec_DrawRunCuts.l0
   repeat' first
   | (with_reducible exact ih0 _ _ _ _ _ _ _ _)
   | (with_reducible exact ih1 _ _)
   | (with_reducible exact spec_CanCut.mono _ _ _ _ _)
   | (with_reducible exact spec_l01From.mono _ _)
   | (with_reducible exact spec_l09DrawCut.mono _ _ _ _ _)
   | (with_reducible exact LeO.refl _)
   | (with_reducible exact LeO.none _)
   | (with_reducible refine LeO.ite ?_ ?_)
   | (with_reducible refine LeO.bind ?_ (fun _ => ?_))
   | exact ih0 _ _ _ _ _ _ _ _
   | exact ih1 _ _
   | exact spec_CanCut.mono _ _ _ _ _
   | exact spec_l01From.mono _ _
   | exact spec_l09DrawCut.mono _ _ _ _ _
   | exact LeO.none _
   | refine LeO.ite ?_ ?_
   | refine LeO.bind ?_ (fun _ => ?_)
  ·intro y0 y1
   unfold spec_DrawRunCuts.l1
   repeat' first
   | (with_reducible exact ih0 _ _ _ _ _ _ _ _)
   | (with_reducible exact ih1 _ _)
   | (with_reducible exact spec_CanCut.mono _ _ _ _ _)
   | (with_reducible exact spec_l01From.mono _ _)
   | (with_reducible exact spec_l09DrawCut.mono _ _ _ _ _)
   | (with_reducible exact LeO.refl _)
   | (with_reducible exact LeO.none _)
   | (with_reducible refine LeO.ite ?_ ?_)
   | (with_reducible refine LeO.bind ?_ (fun _ => ?_))
   | exact ih0 _ _ _ _ _ _ _ _
   | exact ih1 _ _
   | exact spec_CanCut.mono _ _ _ _ _
   | exact spec_l01From.mono _ _
   | exact spec_l09DrawCut.mono _ _ _ _ _
   | exact LeO.none _
   | refine LeO.ite ?_ ?_
   | refine LeO.bind ?_ (fun _ => ?_)
theorem spec_DrawRunCuts.mono : ∀ a0 k, LeO (spec_DrawRunCuts.f k a0) (spec_DrawRunCuts.f (k + 1) a0) := by
 intro a0 k
 obtain ⟨ih0, ih1⟩ := spec_DrawRunCuts.mono_l k
 unfold spec_DrawRunCuts.f
 repeat' first
   | (with_reducible exact ih0 _ _ _ _ _ _ _ _)
   | (with_reducible exact ih1 _ _)
   | (with_reducible exact spec_CanCut.mono _ _ _ _ _)
   | (with_reducible exact spec_l01From.mono _ _)
   | (with_reducible exact spec_l09DrawCut.mono _ _ _ _ _)
   | (with_reducible exact LeO.refl _)
   | (with_reducible exact LeO.none _)
   | (with_reducible refine LeO.ite ?_ ?_)
   | (with_reducible refine LeO.bind ?_ (fun _ => ?_))
   | exact ih0 _ _ _ _ _ _ _ _
   | exact ih1 _ _
   | exact spec_CanCut.mono _ _ _ _ _
   | exact spec_l01From.mono _ _
   | exact spec_l09DrawCut.mono _ _ _ _ _
   | exact LeO.none _
   | refine LeO.ite ?_ ?_
   | refine LeO.bind ?_ (fun _ => ?_)
set_option maxHeartbeats 8000000 in
set_option maxRecDepth 100000 in
theorem spec_DrawRunCuts.calls (k : Nat) (A0 : Option Addr) (c0 : Nat) (l0 : List Int) (r1 : Int) (r2 : Int) (r3 : List (S85)) (w : World) (hr0 : Kd.C (Kd.int .u8) w A0 l0.length l0) (hc0 : l0.length ≤ c0) (h : spec_DrawRunCuts.f k l0 = some (r1, r2, r3)) :
  Calls Try.prog 92 #[.slice A0 l0.length c0] w fun e w' => ∃ v2_ : Value, e = .returned (.tuple #[.agg #[.int .i64 r1, .int .i64 r2], v2_]) ∧ Kd.R k85 85 w' w.heap.size (fun _ => True) v2_ r3 ∧ Below w.heap.size w w' := by
 have hu77 := Try.underlying77
 have hu85 := Try.underlying85
 have HR0 := Aside0.mk hr0
 have HC0 := Aside0.mk hc0
 clear hr0 hc0
 have HB := Aside0.mk (Below.refl w.heap.size w)
 have H : ((spec_l01From.f k l0).bind fun bt223 => ((spec_l09DrawPiece.f bt223.1 bt223.2.1 bt223.2.2).bind fun bt227 => ((spec_l01Next.f bt223.1 bt227.2.2.1 bt227.2.2.2 9).bind fun bt238 => (spec_DrawRunCuts.l0 k (([] : List (S85))) (([(⟨bt227.1, bt227.2.1⟩ : S77)] : List (S77))) bt238.1 bt223.1 bt238.2.1 bt238.2.2 bt227.1 bt227.2.1)))) = some (r1, r2, r3) := h
 clear h
 replace H := Option.bind_eq_some_iff.mp H
 obtain ⟨⟨t223, t224, t225⟩, A20, H⟩ := H
 replace H : ((spec_l09DrawPiece.f t223 t224 t225).bind fun bt227 => ((spec_l01Next.f t223 bt227.2.2.1 bt227.2.2.2 9).bind fun bt238 => (spec_DrawRunCuts.l0 k (([] : List (S85))) (([(⟨bt227.1, bt227.2.1⟩ : S77)] : List (S77))) bt238.1 t223 bt238.2.1 bt238.2.2 bt227.1 bt227.2.1))) = some (r1, r2, r3) := H
 have A2 := Aside0.mk A20
 clear A20
 replace H := Option.bind_eq_some_iff.mp H
 obtain ⟨⟨t227, t228, t229, t230⟩, A30, H⟩ := H
 replace H : ((spec_l01Next.f t223 t229 t230 9).bind fun bt238 => (spec_DrawRunCuts.l0 k (([] : List (S85))) (([(⟨t227, t228⟩ : S77)] : List (S77))) bt238.1 t223 bt238.2.1 bt238.2.2 t227 t228)) = some (r1, r2, r3) := H
 have A3 := Aside0.mk A30
 clear A30
 obtain ⟨y232, hy232⟩ : ∃ y_ : List (S85), y_ = (([] : List (S85))) := ⟨_, rfl⟩
 replace H : ((spec_l01Next.f t223 t229 t230 9).bind fun bt238 => (spec_DrawRunCuts.l0 k y232 (([(⟨t227, t228⟩ : S77)] : List (S77))) bt238.1 t223 bt238.2.1 bt238.2.2 t227 t228)) = some (r1, r2, r3) := by first | (rw [hy232]; with_reducible exact H) | (have H2_ := (Option.bind_some _ _).symm.trans H; rw [hy232]; with_reducible exact H2_) | (have H2_ := (Option.bind_some _ _).symm.trans H; with_reducible exact H2_) | with_reducible exact H | (rw [hy232]; exact H) | exact H
 have Ny232 := Aside0.mk hy232
 clear hy232
 obtain ⟨y235, hy235⟩ : ∃ y_ : List (S77), y_ = (([(⟨t227, t228⟩ : S77)] : List (S77))) := ⟨_, rfl⟩
 replace H : ((spec_l01Next.f t223 t229 t230 9).bind fun bt238 => (spec_DrawRunCuts.l0 k y232 y235 bt238.1 t223 bt238.2.1 bt238.2.2 t227 t228)) = some (r1, r2, r3) := by first | (rw [hy235]; with_reducible exact H) | (have H2_ := (Option.bind_some _ _).symm.trans H; rw [hy235]; with_reducible exact H2_) | (have H2_ := (Option.bind_some _ _).symm.trans H; with_reducible exact H2_) | with_reducible exact H | (rw [hy235]; exact H) | exact H
 have Ny235 := Aside0.mk hy235
 clear hy235
 replace H := Option.bind_eq_some_iff.mp H
 obtain ⟨⟨t238, t239, t240⟩, A40, H⟩ := H
 replace H : (spec_DrawRunCuts.l0 k y232 y235 t238 t223 t239 t240 t227 t228) = some (r1, r2, r3) := H
 have A4 := Aside0.mk A40
 clear A40
 have H' := Aside0.mk H
 clear H
 go_enter Try.func92, Try.ntmps92
 go_wp2_with (first | ((with_reducible refine gate_dst (N := 2) rfl ?_); refine box_event ?hg (N := 2) ?hd (cs := #[.int .i64 0, .int .i64 0]) (t := 77) ?hr ?_; (case hd => rfl); (case hg => rfl); (case hr => first | (go_simp; done) | (go_simp; rfl)); intro gb222 hg w5 hbox hb; have n0_ := Aside0.mk (below_step (hx_ HB.out) hb); have n1_ := Aside0.mk (hbox); have n2_ := Aside0.mk ((by rw [hg]; exact (below_size (hx_ HB.out)) : w.heap.size ≤ gb222)); have n3_ := Aside0.mk ((by rw [hg]; exact (below_size (hx_ HB.out)) : w.heap.size ≤ gb222)); clear HB; have HB := n0_; have BK222 := n1_; have GW222 := n2_; have GE222 := n3_; clear n0_ n1_ n2_ n3_; clear hb hbox hg) | ((with_reducible refine gate_callee (f := 113) rfl ?_); refine goesL_ (some 12) rfl rfl Try.func113 (by kernel_rfl) rfl #[.slice A0 l0.length c0] rfl (by (try simp only [List.map_toArray, List.map_cons, List.map_nil]); first | done | rfl | (simp only [List.length_drop, List.length_take]; rfl)) ?_; (with_reducible refine (spec_l01From.calls k _ _ l0 t223 t224 t225 w _ ?side1 ?side2 ?side3 A2.out).mono ?_); (case side1 => repeat (first | (with_reducible first | exact HB.out | apply below_alloc | apply pw_below_drewN | apply below_drew1 | refine below_set ?_ GE222.out) | exact HB.out)); (case side2 => exact HR0.out); (case side3 => exact HC0.out); rintro e w6 ⟨g226, rfl, hi, hb, hb2⟩; refine ⟨_, rfl, ?_⟩; have n0_ := Aside0.mk (blk_below (g := gb222) (o := .cells #[.int .i64 0, .int .i64 0] 77 (0, 0)) (bx_ BK222.out) hb2); have n1_ := Aside0.mk (hb); have n2_ := Aside0.mk (hi); have n3_ := Aside0.mk (IsS142.ne_blk hi (blk_below (g := gb222) (o := .cells #[.int .i64 0, .int .i64 0] 77 (0, 0)) (bx_ BK222.out) hb2) (by decide)); have n4_ := Aside0.mk (Ne.symm (IsS142.ne_blk hi (blk_below (g := gb222) (o := .cells #[.int .i64 0, .int .i64 0] 77 (0, 0)) (bx_ BK222.out) hb2) (by decide))); clear BK222; clear HB; have BK222 := n0_; have HB := n1_; have HI226 := n2_; have NB226_222 := n3_; have NB222_226 := n4_; clear n0_ n1_ n2_ n3_ n4_; (try clear hb); (try clear hb2); (try clear hk); (try clear hi)) | ((with_reducible refine gate_callee (f := 165) rfl ?_); refine goesL_ (some 14) rfl rfl Try.func165 (by kernel_rfl) rfl #[.pointer (some ⟨g226, 0, none⟩)] rfl (by (try simp only [List.map_toArray, List.map_cons, List.map_nil]); first | done | rfl | (simp only [List.length_drop, List.length_take]; rfl)) ?_; (with_reducible refine (spec_l09DrawPiece.calls g226 t223 t224 t225 t227 t228 t229 t230 w _ ?side1 ?side2 A3.out).mono ?_); (case side1 => repeat (first | (with_reducible first | exact HI226.out | apply IsS142.alloc | apply IsS142.drewN | apply IsS142.drew | apply IsS142.set_1 | apply IsS142.set_2 | refine IsS142.far ?_ NB226_222.out _) | exact HI226.out)); (case side2 => repeat (first | (with_reducible first | exact HB.out | apply below_alloc | apply pw_below_drewN | apply below_drew1 | refine below_set ?_ (IsS142.ge HI226.out) | refine below_set ?_ GE222.out) | exact HB.out)); rintro e w7 ⟨rfl, hi, hb, hk⟩; refine ⟨_, rfl, ?_⟩; have n0_ := Aside0.mk (KeepBut.blk hk (g' := gb222) (o := .cells #[.int .i64 0, .int .i64 0] 77 (0, 0)) (bx_ BK222.out) NB222_226.out (by simp)); have n1_ := Aside0.mk (hb); have n2_ := Aside0.mk (hi); clear BK222; clear HB; clear HI226; have BK222 := n0_; have HB := n1_; have HI226 := n2_; clear n0_ n1_ n2_; (try clear hb); (try clear hb2); (try clear hk); (try clear hi)) | ((with_reducible refine gate_dst (N := 5) rfl ?_); refine box_event ?hg (N := 5) ?hd (cs := #[.int .i64 0, .int .i64 0]) (t := 77) ?hr ?_; (case hd => rfl); (case hg => rfl); (case hr => first | (go_simp; done) | (go_simp; rfl)); intro gb231 hg w8 hbox hb; have n0_ := Aside0.mk (blk_below (g := gb222) (o := .cells #[.int .i64 0, .int .i64 0] 77 (0, 0)) (bx_ BK222.out) hb); have n1_ := Aside0.mk (IsS142.below (ix_ HI226.out) hb); have n2_ := Aside0.mk (below_step (hx_ HB.out) hb); have n3_ := Aside0.mk (hbox); have n4_ := Aside0.mk ((by rw [hg]; exact (below_size (hx_ HB.out)) : w.heap.size ≤ gb231)); have n5_ := Aside0.mk ((by rw [hg]; exact (below_size (hx_ HB.out)) : w.heap.size ≤ gb231)); have n6_ := Aside0.mk ((by rw [hg]; exact Nat.ne_of_lt (blk_lt (g := gb222) (o := .cells #[.int .i64 0, .int .i64 0] 77 (0, 0)) (bx_ BK222.out)) : gb222 ≠ gb231)); have n7_ := Aside0.mk ((by rw [hg]; exact Nat.ne_of_gt (blk_lt (g := gb222) (o := .cells #[.int .i64 0, .int .i64 0] 77 (0, 0)) (bx_ BK222.out)) : gb231 ≠ gb222)); have n8_ := Aside0.mk ((by rw [hg]; exact Nat.ne_of_lt (IsS142.lt (show IsS142 w _ g226 t223 t229 t230 from ix_ HI226.out)) : g226 ≠ gb231)); have n9_ := Aside0.mk ((by rw [hg]; exact Nat.ne_of_gt (IsS142.lt (show IsS142 w _ g226 t223 t229 t230 from ix_ HI226.out)) : gb231 ≠ g226)); clear BK222; clear HI226; clear HB; have BK222 := n0_; have HI226 := n1_; have HB := n2_; have BK231 := n3_; have GW231 := n4_; have GE231 := n5_; have NB222_231 := n6_; have NB231_222 := n7_; have NB226_231 := n8_; have NB231_226 := n9_; clear n0_ n1_ n2_ n3_ n4_ n5_ n6_ n7_ n8_ n9_; clear hb hbox hg; have hnb9 := NB231_222.out; have hnc9 := NB222_231.out; have hnb10 := NB231_226.out; have hnc10 := NB226_231.out; have hcz11_0 : w8.cell? ⟨gb231, 0, none⟩ = some (.int .i64 0) := (blk_cell BK231.out 0).trans rfl; have hcz11_1 : w8.cell? ⟨gb231, 1, none⟩ = some (.int .i64 0) := (blk_cell BK231.out 1).trans rfl; have hfz11_0 := blk_frozen BK231.out 0; have hfz11_1 := blk_frozen BK231.out 1) | ((with_reducible refine gate_dst (N := 15) rfl ?_); refine Kd.R_lit k85 _ 85 ?hg (N := 15) ?hd (xs := ([] : List (S85))) (inner := []) (ok := fun _ => True) (okp := fun _ => True) ?hr ?hp (fun _ hk => hk) trivial (Below.refl _ _) (Nat.le_refl _) (by simp) ?_; (case hd => rfl); (case hg => rfl); (case hr => first | (go_simp; done) | (go_simp; rfl)); (case hp => exact (Reps.none _ _)); intro v233 w12 ho13 hb hg_ hnew_; clear hg_ hnew_; (first | rw [← Ny232.out] at ho13 | (simp only [Int.reduceToNat] at ho13; rw [← Ny232.out] at ho13)); have n0_ := Aside0.mk (Kd.R_lower ho13 (below_size (hx_ HB.out))); have n1_ := Aside0.mk (blk_below (g := gb222) (o := .cells #[.int .i64 0, .int .i64 0] 77 (0, 0)) (bx_ BK222.out) hb); have n2_ := Aside0.mk (IsS142.below (show IsS142 w ((w8.setCell ⟨gb231, 0, none⟩ (.int .i64 t227)).setCell ⟨gb231, 1, none⟩ (.int .i64 t228)) g226 t223 t229 t230 from ix_ HI226.out) hb); have n3_ := Aside0.mk (blk_below (g := gb231) (o := .cells #[.int .i64 t227, .int .i64 t228] 77 (0, 0)) (by (with_reducible repeat (first | refine blk_drewN ?_ _ | refine blk_drew ?_ | refine blk_alloc ?_ _)); refine blk_put (cs := #[.int .i64 t227, .int .i64 0]) ?_ 1 _ rfl; (with_reducible repeat (first | refine blk_drewN ?_ _ | refine blk_drew ?_ | refine blk_alloc ?_ _)); refine blk_put (cs := #[.int .i64 0, .int .i64 0]) ?_ 0 _ rfl; (with_reducible repeat (first | refine blk_drewN ?_ _ | refine blk_drew ?_ | refine blk_alloc ?_ _)); exact BK231.out) hb); have n4_ := Aside0.mk (below_step (hx_ HB.out) hb); clear BK222; clear HI226; clear BK231; clear HB; have HO234 := n0_; have BK222 := n1_; have HI226 := n2_; have BK231 := n3_; have HB := n4_; clear n0_ n1_ n2_ n3_ n4_; clear hb ho13; have hcz14_0 : w12.cell? ⟨gb231, 0, none⟩ = some (.int .i64 t227) := (blk_cell BK231.out 0).trans rfl; have hcz14_1 : w12.cell? ⟨gb231, 1, none⟩ = some (.int .i64 t228) := (blk_cell BK231.out 1).trans rfl; have hfz14_0 := blk_frozen BK231.out 0; have hfz14_1 := blk_frozen BK231.out 1) | ((with_reducible refine gate_dst (N := 17) rfl ?_); refine Kd.R_lit k77 _ 77 ?hg (N := 17) ?hd (xs := ([(⟨t227, t228⟩ : S77)] : List (S77))) (inner := [.int .i64 t227, .int .i64 t228]) (ok := fun _ => True) (okp := fun _ => True) ?hr ?hp (fun _ hk => hk) trivial (Below.refl _ _) (Nat.le_refl _) (by simp) ?_; (case hd => rfl); (case hg => rfl); (case hr => first | (go_simp; done) | (go_simp; rfl)); (case hp => exact (Reps.c2 (show Kd.M k77 _ _ _ (⟨t227, t228⟩ : S77) [.int .i64 t227, .int .i64 t228] from (k77_mkM _ _ _ (⟨t227, t228⟩ : S77) )) (Reps.none _ _))); intro v236 w15 ho16 hb hg_ hnew_; clear hg_ hnew_; (first | rw [← Ny235.out] at ho16 | (simp only [Int.reduceToNat] at ho16; rw [← Ny235.out] at ho16)); have n0_ := Aside0.mk (Kd.R_below (rx_ HO234.out) hb); have n1_ := Aside0.mk (Kd.R_lower (Kd.R_newB (Kd.R_newB ho16 (g := gb222) (o := .cells #[.int .i64 0, .int .i64 0] 77 (0, 0)) (bx_ BK222.out)) (g := gb231) (o := .cells #[.int .i64 t227, .int .i64 t228] 77 (0, 0)) (bx_ BK231.out)) (below_size (hx_ HB.out))); have n2_ := Aside0.mk (blk_below (g := gb222) (o := .cells #[.int .i64 0, .int .i64 0] 77 (0, 0)) (bx_ BK222.out) hb); have n3_ := Aside0.mk (IsS142.below (ix_ HI226.out) hb); have n4_ := Aside0.mk (blk_below (g := gb231) (o := .cells #[.int .i64 t227, .int .i64 t228] 77 (0, 0)) (bx_ BK231.out) hb); have n5_ := Aside0.mk (below_step (hx_ HB.out) hb); clear HO234; clear BK222; clear HI226; clear BK231; clear HB; have HO234 := n0_; have HO237 := n1_; have BK222 := n2_; have HI226 := n3_; have BK231 := n4_; have HB := n5_; clear n0_ n1_ n2_ n3_ n4_ n5_; clear hb ho16) | ((with_reducible refine gate_callee (f := 115) rfl ?_); refine goesL_ (some 19) rfl rfl Try.func115 (by kernel_rfl) rfl #[.pointer (some ⟨g226, 0, none⟩), .int .i64 9] rfl (by (try simp only [List.map_toArray, List.map_cons, List.map_nil]); first | done | rfl | (simp only [List.length_drop, List.length_take]; rfl)) ?_; (with_reducible refine (spec_l01Next.calls g226 t223 t229 t230 9 t238 t239 t240 w _ ?side1 ?side2 A4.out).mono ?_); (case side1 => repeat (first | (with_reducible first | exact HI226.out | apply IsS142.alloc | apply IsS142.drewN | apply IsS142.drew | apply IsS142.set_1 | apply IsS142.set_2 | refine IsS142.far ?_ NB226_222.out _ | refine IsS142.far ?_ NB226_231.out _) | exact HI226.out)); (case side2 => repeat (first | (with_reducible first | exact HB.out | apply below_alloc | apply pw_below_drewN | apply below_drew1 | refine below_set ?_ (IsS142.ge HI226.out) | refine below_set ?_ GE222.out | refine below_set ?_ GE231.out) | exact HB.out)); rintro e w17 ⟨rfl, hi, hb, hk⟩; refine ⟨_, rfl, ?_⟩; have n0_ := Aside0.mk (KeepBut.blk hk (g' := gb222) (o := .cells #[.int .i64 0, .int .i64 0] 77 (0, 0)) (bx_ BK222.out) NB222_226.out (by simp)); have n1_ := Aside0.mk (KeepBut.blk hk (g' := gb231) (o := .cells #[.int .i64 t227, .int .i64 t228] 77 (0, 0)) (bx_ BK231.out) NB231_226.out (by simp)); have n2_ := Aside0.mk (Kd.R_mono (Kd.R_keep (IsS142.apart (show IsS142 w _ g226 t223 t229 t230 from ix_ HI226.out) (rx_ HO234.out) (by decide)) hk (fun _ h => h.2)) (fun _ h => h.1)); have n3_ := Aside0.mk (Kd.R_mono (Kd.R_keep (IsS142.apart (show IsS142 w _ g226 t223 t229 t230 from ix_ HI226.out) (rx_ HO237.out) (by decide)) hk (fun _ h => h.2)) (fun _ h => h.1)); have n4_ := Aside0.mk (hb); have n5_ := Aside0.mk (hi); clear BK222; clear BK231; clear HO234; clear HO237; clear HB; clear HI226; have BK222 := n0_; have BK231 := n1_; have HO234 := n2_; have HO237 := n3_; have HB := n4_; have HI226 := n5_; clear n0_ n1_ n2_ n3_ n4_ n5_; (try clear hb); (try clear hb2); (try clear hk); (try clear hi)))
 go_loopg [6, 7, 8] k (fun kq v6 v7 v8 w' => ∃ (x6_1 : List (S85)) (x7_1 : List (S77)) (x8_1 : Int) (x227001_1 : Int) (x227002_1 : Int), v8 = .int .i64 x8_1 ∧ Aside0 (spec_DrawRunCuts.l0 kq x6_1 x7_1 x8_1 t223 x227001_1 x227002_1 t227 t228 = some (r1, r2, r3)) ∧ Aside0 (kq ≤ k) ∧ Aside0 (Kd.R k85 85 w' w.heap.size (fun _ => True) v6 x6_1) ∧ Aside0 (Kd.R k77 77 w' w.heap.size (fun k_ => k_ ≠ gb222 ∧ k_ ≠ gb231) v7 x7_1) ∧ Aside0 (w'.heap[gb222]? = some (.cells #[.int .i64 0, .int .i64 0] 77 (0, 0))) ∧ Aside0 (w'.heap[gb231]? = some (.cells #[.int .i64 t227, .int .i64 t228] 77 (0, 0))) ∧ Aside0 (IsS142 w w' g226 t223 x227001_1 x227002_1) ∧ Aside0 (Below w.heap.size w w'))
 case atStart => exact ⟨(y232), (y235), (t238), (t239), (t240), (by first | rfl | (simp; done) | (simp [*]; done)), H', ⟨Nat.le_refl _⟩, ⟨rx_ HO234.out⟩, ⟨by (with_reducible repeat (first | apply Kd.R_alloc | apply Kd.R_drewN | apply Kd.R_drew)); exact Kd.R_mono HO237.out (fun _ hk => ⟨hk.1.2, hk.2⟩)⟩, ⟨bx_ BK222.out⟩, ⟨bx_ BK231.out⟩, ⟨ix_ HI226.out⟩, ⟨hx_ HB.out⟩⟩
 case round =>
  clear H'
  try clear c1
  try clear c2
  try clear p2
  try clear c9
  try clear c10
  try clear c11
  try clear c16
  try clear hcz11_0
  try clear hcz11_1
  try clear hcz14_0
  try clear hcz14_1
  try clear hfz11_0
  try clear hfz11_1
  try clear hfz14_0
  try clear hfz14_1
  obtain ⟨x6_1, x7_1, x8_1, x227001_1, x227002_1, rfl, HA, HK1, HO_6, HO_7, BK222, BK231, HI226, HB⟩ := hrel
  cases gk with
  | zero => exact absurd HA.out (by simp [spec_DrawRunCuts.l0])
  | succ k1 =>
   have H := HA.out
   clear HA
   simp only [spec_DrawRunCuts.l0] at H
   by_cases c18 : x8_1 > 0
   ·rw [if_pos c18] at H
    have c18b0 : decide (0 < x8_1) = true := decide_eq_true c18
    clear c18
    replace H := Option.bind_eq_some_iff.mp H
    obtain ⟨⟨t241, t242, t243, t244, t245⟩, A190, H⟩ := H
    replace H : ((spec_CanCut.f k1 x7_1 t241 t242 t243).bind fun t247 => (if t247 = true then ((spec_l09Cut.f x7_1 t241 t242 t243).bind fun t248 => (if x6_1.length < 5864062014805 then (spec_DrawRunCuts.l0 k1 (x6_1 ++ [(⟨t241, t242, t243⟩ : S85)]) t248 (wrap64 (x8_1 - 1)) t223 t244 t245 t227 t228) else (none))) else ((spec_l01Next.f t223 t244 t245 5).bind fun bt254 => (if bt254.1 > 0 then (spec_DrawRunCuts.l0 k1 x6_1 x7_1 (wrap64 (x8_1 - 1)) t223 bt254.2.1 bt254.2.2 t227 t228) else (if x6_1.length < 5864062014805 then (spec_DrawRunCuts.l0 k1 (x6_1 ++ [(⟨t241, t242, t243⟩ : S85)]) x7_1 (wrap64 (x8_1 - 1)) t223 bt254.2.1 bt254.2.2 t227 t228) else (none)))))) = some (r1, r2, r3) := H
    have A19 := Aside0.mk A190
    clear A190
    replace H := Option.bind_eq_some_iff.mp H
    obtain ⟨t247, A200, H⟩ := H
    replace H : (if t247 = true then ((spec_l09Cut.f x7_1 t241 t242 t243).bind fun t248 => (if x6_1.length < 5864062014805 then (spec_DrawRunCuts.l0 k1 (x6_1 ++ [(⟨t241, t242, t243⟩ : S85)]) t248 (wrap64 (x8_1 - 1)) t223 t244 t245 t227 t228) else (none))) else ((spec_l01Next.f t223 t244 t245 5).bind fun bt254 => (if bt254.1 > 0 then (spec_DrawRunCuts.l0 k1 x6_1 x7_1 (wrap64 (x8_1 - 1)) t223 bt254.2.1 bt254.2.2 t227 t228) else (if x6_1.length < 5864062014805 then (spec_DrawRunCuts.l0 k1 (x6_1 ++ [(⟨t241, t242, t243⟩ : S85)]) x7_1 (wrap64 (x8_1 - 1)) t223 bt254.2.1 bt254.2.2 t227 t228) else (none))))) = some (r1, r2, r3) := H
    have A20 := Aside0.mk A200
    clear A200
    by_cases c21 : t247 = true
    ·subst c21
     have H1 : ((spec_l09Cut.f x7_1 t241 t242 t243).bind fun t248 => (if x6_1.length < 5864062014805 then (spec_DrawRunCuts.l0 k1 (x6_1 ++ [(⟨t241, t242, t243⟩ : S85)]) t248 (wrap64 (x8_1 - 1)) t223 t244 t245 t227 t228) else (none))) = some (r1, r2, r3) := by rw [if_pos rfl] at H; exact H
     clear H
     have H := H1
     clear H1
     replace H := Option.bind_eq_some_iff.mp H
     obtain ⟨t248, A220, H⟩ := H
     replace H : (if x6_1.length < 5864062014805 then (spec_DrawRunCuts.l0 k1 (x6_1 ++ [(⟨t241, t242, t243⟩ : S85)]) t248 (wrap64 (x8_1 - 1)) t223 t244 t245 t227 t228) else (none)) = some (r1, r2, r3) := H
     have A22 := Aside0.mk A220
     clear A220
     by_cases c23 : x6_1.length < 5864062014805
     ·rw [if_pos c23] at H
      have LMc23 := Aside0.mk c23
      clear c23
      obtain ⟨y251, hy251⟩ : ∃ y_ : List (S85), y_ = (x6_1 ++ [(⟨t241, t242, t243⟩ : S85)]) := ⟨_, rfl⟩
      replace H : (spec_DrawRunCuts.l0 k1 y251 t248 (wrap64 (x8_1 - 1)) t223 t244 t245 t227 t228) = some (r1, r2, r3) := by first | (rw [hy251]; with_reducible exact H) | (have H2_ := (Option.bind_some _ _).symm.trans H; rw [hy251]; with_reducible exact H2_) | (have H2_ := (Option.bind_some _ _).symm.trans H; with_reducible exact H2_) | with_reducible exact H | (rw [hy251]; exact H) | exact H
      have Ny251 := Aside0.mk hy251
      clear hy251
      have H' := Aside0.mk H
      clear H
      obtain ⟨Ao24, co24, eo24⟩ := Kd.R_slice HO_7.out
      subst eo24
      go_wp2_with (first | ((with_reducible refine gate_callee (f := 166) rfl ?_); refine goesL_ (some 26) rfl rfl Try.func166 (by kernel_rfl) rfl #[.pointer (some ⟨g226, 0, none⟩), .slice Ao24 x7_1.length co24] rfl (by (try simp only [List.map_toArray, List.map_cons, List.map_nil]); first | done | rfl | (simp only [List.length_drop, List.length_take]; rfl)) ?_; (with_reducible refine (spec_l09DrawCut.calls k1 g226 t223 x227001_1 x227002_1 _ _ x7_1 t241 t242 t243 t244 t245 w _ ?side1 ?side2 ?side3 ?side4 A19.out).mono ?_); (case side1 => repeat (first | (with_reducible first | exact HI226.out | apply IsS142.alloc | apply IsS142.drewN | apply IsS142.drew | apply IsS142.set_1 | apply IsS142.set_2 | refine IsS142.far ?_ NB226_222.out _ | refine IsS142.far ?_ NB226_231.out _) | exact HI226.out)); (case side2 => repeat (first | (with_reducible first | exact HB.out | apply below_alloc | apply pw_below_drewN | apply below_drew1 | refine below_set ?_ (IsS142.ge HI226.out) | refine below_set ?_ GE222.out | refine below_set ?_ GE231.out) | exact HB.out)); (case side3 => exact Kd.C_foot_own (IsS142.apart (show IsS142 w _ g226 t223 x227001_1 x227002_1 from ix_ HI226.out) (rx_ HO_7.out) (by decide)) (fun _ h_ => h_.2)); (case side4 => exact (Kd.R_reads' HO_7.out).2.1); rintro e w25 ⟨rfl, hi, hb, hk⟩; refine ⟨_, rfl, ?_⟩; have n0_ := Aside0.mk (Kd.R_mono (Kd.R_keep (IsS142.apart (show IsS142 w _ g226 t223 x227001_1 x227002_1 from ix_ HI226.out) (rx_ HO_6.out) (by decide)) hk (fun _ h => h.2)) (fun _ h => h.1)); have n1_ := Aside0.mk (Kd.R_mono (Kd.R_keep (IsS142.apart (show IsS142 w _ g226 t223 x227001_1 x227002_1 from ix_ HI226.out) (rx_ HO_7.out) (by decide)) hk (fun _ h => h.2)) (fun _ h => h.1)); have n2_ := Aside0.mk (KeepBut.blk hk (g' := gb222) (o := .cells #[.int .i64 0, .int .i64 0] 77 (0, 0)) (bx_ BK222.out) NB222_226.out (by simp)); have n3_ := Aside0.mk (KeepBut.blk hk (g' := gb231) (o := .cells #[.int .i64 t227, .int .i64 t228] 77 (0, 0)) (bx_ BK231.out) NB231_226.out (by simp)); have n4_ := Aside0.mk (hb); have n5_ := Aside0.mk (hi); clear HO_6; clear HO_7; clear BK222; clear BK231; clear HB; clear HI226; have HO_6 := n0_; have HO_7 := n1_; have BK222 := n2_; have BK231 := n3_; have HB := n4_; have HI226 := n5_; clear n0_ n1_ n2_ n3_ n4_ n5_; (try clear hb); (try clear hb2); (try clear hk); (try clear hi)) | ((with_reducible refine gate_dst (N := 9) rfl ?_); refine box_event ?hg (N := 9) ?hd (cs := #[.int .i64 0, .bool false, .int .i64 0]) (t := 85) ?hr ?_; (case hd => rfl); (case hg => rfl); (case hr => first | (go_simp; done) | (go_simp; rfl)); intro gb246 hg w26 hbox hb; have n0_ := Aside0.mk (Kd.R_below (Kd.R_elderB (rx_ HO_6.out) gb246 (Nat.le_of_eq hg.symm)) hb); have n1_ := Aside0.mk (Kd.R_below (rx_ HO_7.out) hb); have n2_ := Aside0.mk (blk_below (g := gb222) (o := .cells #[.int .i64 0, .int .i64 0] 77 (0, 0)) (bx_ BK222.out) hb); have n3_ := Aside0.mk (blk_below (g := gb231) (o := .cells #[.int .i64 t227, .int .i64 t228] 77 (0, 0)) (bx_ BK231.out) hb); have n4_ := Aside0.mk (IsS142.below (ix_ HI226.out) hb); have n5_ := Aside0.mk (below_step (hx_ HB.out) hb); have n6_ := Aside0.mk (hbox); have n7_ := Aside0.mk ((by rw [hg]; exact (below_size (hx_ HB.out)) : w.heap.size ≤ gb246)); have n8_ := Aside0.mk ((by rw [hg]; exact (below_size (hx_ HB.out)) : w.heap.size ≤ gb246)); have n9_ := Aside0.mk ((by rw [hg]; exact Nat.ne_of_lt (blk_lt (g := gb222) (o := .cells #[.int .i64 0, .int .i64 0] 77 (0, 0)) (bx_ BK222.out)) : gb222 ≠ gb246)); have n10_ := Aside0.mk ((by rw [hg]; exact Nat.ne_of_gt (blk_lt (g := gb222) (o := .cells #[.int .i64 0, .int .i64 0] 77 (0, 0)) (bx_ BK222.out)) : gb246 ≠ gb222)); have n11_ := Aside0.mk ((by rw [hg]; exact Nat.ne_of_lt (blk_lt (g := gb231) (o := .cells #[.int .i64 t227, .int .i64 t228] 77 (0, 0)) (bx_ BK231.out)) : gb231 ≠ gb246)); have n12_ := Aside0.mk ((by rw [hg]; exact Nat.ne_of_gt (blk_lt (g := gb231) (o := .cells #[.int .i64 t227, .int .i64 t228] 77 (0, 0)) (bx_ BK231.out)) : gb246 ≠ gb231)); have n13_ := Aside0.mk ((by rw [hg]; exact Nat.ne_of_lt (IsS142.lt (show IsS142 w _ g226 t223 t244 t245 from ix_ HI226.out)) : g226 ≠ gb246)); have n14_ := Aside0.mk ((by rw [hg]; exact Nat.ne_of_gt (IsS142.lt (show IsS142 w _ g226 t223 t244 t245 from ix_ HI226.out)) : gb246 ≠ g226)); clear HO_6; clear HO_7; clear BK222; clear BK231; clear HI226; clear HB; have HO_6 := n0_; have HO_7 := n1_; have BK222 := n2_; have BK231 := n3_; have HI226 := n4_; have HB := n5_; have BK246 := n6_; have GW246 := n7_; have GE246 := n8_; have NB222_246 := n9_; have NB246_222 := n10_; have NB231_246 := n11_; have NB246_231 := n12_; have NB226_246 := n13_; have NB246_226 := n14_; clear n0_ n1_ n2_ n3_ n4_ n5_ n6_ n7_ n8_ n9_ n10_ n11_ n12_ n13_ n14_; clear hb hbox hg; have hnb27 := NB246_222.out; have hnc27 := NB222_246.out; have hnb28 := NB246_231.out; have hnc28 := NB231_246.out; have hnb29 := NB246_226.out; have hnc29 := NB226_246.out; have hcz30_0 : w26.cell? ⟨gb246, 0, none⟩ = some (.int .i64 0) := (blk_cell BK246.out 0).trans rfl; have hcz30_1 : w26.cell? ⟨gb246, 1, none⟩ = some (.bool false) := (blk_cell BK246.out 1).trans rfl; have hcz30_2 : w26.cell? ⟨gb246, 2, none⟩ = some (.int .i64 0) := (blk_cell BK246.out 2).trans rfl; have hfz30_0 := blk_frozen BK246.out 0; have hfz30_1 := blk_frozen BK246.out 1; have hfz30_2 := blk_frozen BK246.out 2) | ((with_reducible refine gate_callee (f := 167) rfl ?_); refine goesL_ (some 29) rfl rfl Try.func167 (by kernel_rfl) rfl #[.slice Ao24 x7_1.length co24, .agg #[.int .i64 t241, .bool t242, .int .i64 t243]] rfl (by (try simp only [List.map_toArray, List.map_cons, List.map_nil]); first | done | rfl | (simp only [List.length_drop, List.length_take]; rfl)) ?_; (with_reducible refine (spec_CanCut.calls k1 _ _ x7_1 t241 t242 t243 true _ ?side1 ?side2 A20.out).mono ?_); (case side1 => refine (Kd.R_reads' (e := 77) (base := w.heap.size) (ok := fun k_ => (k_ ≠ gb222 ∧ k_ ≠ gb231)) (n := x7_1.length) (c := co24) ?_).2.2; exact (by (with_reducible repeat (first | apply Kd.R_alloc | apply Kd.R_drewN | apply Kd.R_drew)); exact (Kd.R_mono (Kd.R_far (p := ⟨gb246, 2, none⟩) (Kd.R_far (p := ⟨gb246, 1, none⟩) (Kd.R_far (p := ⟨gb246, 0, none⟩) (Kd.R_types HO_7.out BK246.out (by decide)) (fun _ hk => hk.2) (.int .i64 t241)) (fun _ hk => hk.2) (.bool t242)) (fun _ hk => hk.2) (.int .i64 t243)) (fun _ h_ => h_.1)))); (case side2 => exact (Kd.R_reads' HO_7.out).2.1); rintro e w31 ⟨rfl, hb⟩; refine ⟨_, rfl, ?_⟩; have n0_ := Aside0.mk (Kd.R_below (by (with_reducible repeat (first | apply Kd.R_alloc | apply Kd.R_drewN | apply Kd.R_drew)); exact (Kd.R_mono (Kd.R_far (p := ⟨gb246, 2, none⟩) (Kd.R_far (p := ⟨gb246, 1, none⟩) (Kd.R_far (p := ⟨gb246, 0, none⟩) (Kd.R_mono HO_6.out (fun k_ hk => (⟨hk, hk.2⟩ : _ ∧ k_ ≠ gb246))) (fun _ hk => hk.2) (.int .i64 t241)) (fun _ hk => hk.2) (.bool t242)) (fun _ hk => hk.2) (.int .i64 t243)) (fun _ h_ => h_.1))) hb); have n1_ := Aside0.mk (Kd.R_below (by (with_reducible repeat (first | apply Kd.R_alloc | apply Kd.R_drewN | apply Kd.R_drew)); exact (Kd.R_mono (Kd.R_far (p := ⟨gb246, 2, none⟩) (Kd.R_far (p := ⟨gb246, 1, none⟩) (Kd.R_far (p := ⟨gb246, 0, none⟩) (Kd.R_types HO_7.out BK246.out (by decide)) (fun _ hk => hk.2) (.int .i64 t241)) (fun _ hk => hk.2) (.bool t242)) (fun _ hk => hk.2) (.int .i64 t243)) (fun _ h_ => h_.1))) hb); have n2_ := Aside0.mk (blk_below (g := gb222) (o := .cells #[.int .i64 0, .int .i64 0] 77 (0, 0)) (bx_ BK222.out) hb); have n3_ := Aside0.mk (blk_below (g := gb231) (o := .cells #[.int .i64 t227, .int .i64 t228] 77 (0, 0)) (bx_ BK231.out) hb); have n4_ := Aside0.mk (IsS142.below (show IsS142 w (((w26.setCell ⟨gb246, 0, none⟩ (.int .i64 t241)).setCell ⟨gb246, 1, none⟩ (.bool t242)).setCell ⟨gb246, 2, none⟩ (.int .i64 t243)) g226 t223 t244 t245 from ix_ HI226.out) hb); have n5_ := Aside0.mk (blk_below (g := gb246) (o := .cells #[.int .i64 t241, .bool t242, .int .i64 t243] 85 (0, 0)) (by (with_reducible repeat (first | refine blk_drewN ?_ _ | refine blk_drew ?_ | refine blk_alloc ?_ _)); refine blk_put (cs := #[.int .i64 t241, .bool t242, .int .i64 0]) ?_ 2 _ rfl; (with_reducible repeat (first | refine blk_drewN ?_ _ | refine blk_drew ?_ | refine blk_alloc ?_ _)); refine blk_put (cs := #[.int .i64 t241, .bool false, .int .i64 0]) ?_ 1 _ rfl; (with_reducible repeat (first | refine blk_drewN ?_ _ | refine blk_drew ?_ | refine blk_alloc ?_ _)); refine blk_put (cs := #[.int .i64 0, .bool false, .int .i64 0]) ?_ 0 _ rfl; (with_reducible repeat (first | refine blk_drewN ?_ _ | refine blk_drew ?_ | refine blk_alloc ?_ _)); exact BK246.out) hb); have n6_ := Aside0.mk (below_step (hx_ HB.out) hb); clear HO_6; clear HO_7; clear BK222; clear BK231; clear HI226; clear BK246; clear HB; have HO_6 := n0_; have HO_7 := n1_; have BK222 := n2_; have BK231 := n3_; have HI226 := n4_; have BK246 := n5_; have HB := n6_; clear n0_ n1_ n2_ n3_ n4_ n5_ n6_; (try clear hb); (try clear hb2); (try clear hk); (try clear hi); have hcz32_0 : w31.cell? ⟨gb246, 0, none⟩ = some (.int .i64 t241) := (blk_cell BK246.out 0).trans rfl; have hcz32_1 : w31.cell? ⟨gb246, 1, none⟩ = some (.bool t242) := (blk_cell BK246.out 1).trans rfl; have hcz32_2 : w31.cell? ⟨gb246, 2, none⟩ = some (.int .i64 t243) := (blk_cell BK246.out 2).trans rfl; have hfz32_0 := blk_frozen BK246.out 0; have hfz32_1 := blk_frozen BK246.out 1; have hfz32_2 := blk_frozen BK246.out 2) | ((with_reducible refine gate_callee (f := 168) rfl ?_); refine goesL_ (some 32) rfl rfl Try.func168 (by kernel_rfl) rfl #[.slice Ao24 x7_1.length co24, .agg #[.int .i64 t241, .bool t242, .int .i64 t243]] rfl (by (try simp only [List.map_toArray, List.map_cons, List.map_nil]); first | done | rfl | (simp only [List.length_drop, List.length_take]; rfl)) ?_; (with_reducible refine (spec_l09Cut.calls _ _ x7_1 t241 t242 t243 t248 _ ?side1 ?side2 A22.out).mono ?_); (case side1 => repeat (first | exact (Kd.R_reads' HO_7.out).2.2 | (with_reducible refine Kd.C_alloc ?_ _) | (with_reducible refine Kd.C_drewN ?_ _) | (with_reducible refine Kd.C_drew ?_))); (case side2 => exact (Kd.R_reads' HO_7.out).2.1); rintro e w33 ⟨v249, rfl, ho0, hb⟩; refine ⟨_, rfl, ?_⟩; have n0_ := Aside0.mk (Kd.R_below (rx_ HO_6.out) hb); have n1_ := Aside0.mk (Kd.R_elder' (rx_ HO_7.out) (Kd.R_base ho0) hb); have n2_ := Aside0.mk (Kd.R_lower (Kd.R_newB (Kd.R_newB (Kd.R_new' ho0 (Kd.R_lt (rx_ HO_7.out))) (g := gb222) (o := .cells #[.int .i64 0, .int .i64 0] 77 (0, 0)) (bx_ BK222.out)) (g := gb231) (o := .cells #[.int .i64 t227, .int .i64 t228] 77 (0, 0)) (bx_ BK231.out)) (below_size (hx_ HB.out))); have n3_ := Aside0.mk (blk_below (g := gb222) (o := .cells #[.int .i64 0, .int .i64 0] 77 (0, 0)) (bx_ BK222.out) hb); have n4_ := Aside0.mk (blk_below (g := gb231) (o := .cells #[.int .i64 t227, .int .i64 t228] 77 (0, 0)) (bx_ BK231.out) hb); have n5_ := Aside0.mk (IsS142.below (ix_ HI226.out) hb); have n6_ := Aside0.mk (blk_below (g := gb246) (o := .cells #[.int .i64 t241, .bool t242, .int .i64 t243] 85 (0, 0)) (bx_ BK246.out) hb); have n7_ := Aside0.mk (below_step (hx_ HB.out) hb); clear HO_6; clear HO_7; clear BK222; clear BK231; clear HI226; clear BK246; clear HB; have HO_6 := n0_; have HO_7 := n1_; have HO250 := n2_; have BK222 := n3_; have BK231 := n4_; have HI226 := n5_; have BK246 := n6_; have HB := n7_; clear n0_ n1_ n2_ n3_ n4_ n5_ n6_ n7_; (try clear hb); (try clear hb2); (try clear hk); (try clear hi); (try clear ho0); have hcz34_0 : w33.cell? ⟨gb246, 0, none⟩ = some (.int .i64 t241) := (blk_cell BK246.out 0).trans rfl; have hcz34_1 : w33.cell? ⟨gb246, 1, none⟩ = some (.bool t242) := (blk_cell BK246.out 1).trans rfl; have hcz34_2 : w33.cell? ⟨gb246, 2, none⟩ = some (.int .i64 t243) := (blk_cell BK246.out 2).trans rfl; have hfz34_0 := blk_frozen BK246.out 0; have hfz34_1 := blk_frozen BK246.out 1; have hfz34_2 := blk_frozen BK246.out 2) | ((with_reducible refine gate_builtin (b := .append) (xs := #[.tmp 36, .tmp 38]) rfl ?_); at_builtin; refine Kd.R_append k85 (w0 := w) w.heap.size rfl (.tmp 36) (.tmp 38) 78 85 (.agg #[(.int .i64 0), (.bool false), (.int .i64 0)]) 24 rfl Try.underlying78 info85 rfl (by decide) (by omega) u6 x6_1 (⟨t241, t242, t243⟩ : S85) [.int .i64 t241, .bool t242, .int .i64 t243] (fun k_ => k_ ≠ gb246) (fun _ => False) rfl rfl ?aP (fun _ hk => hk.elim) ?aF ?aO ?aB ?aS ?aL ?_; (case aP => exact k85_mkM _ _ _ (⟨t241, t242, t243⟩ : S85)); (case aB => exact (hx_ HB.out)); (case aF => exact (fun k_ hk => Kd.freshB (g := gb246) (o := .cells #[.int .i64 t241, .bool t242, .int .i64 t243] 85 (0, 0)) (bx_ BK246.out) k_ hk)); (case aO => exact (by (with_reducible repeat (first | apply Kd.R_alloc | apply Kd.R_drewN | apply Kd.R_drew)); exact Kd.R_mono HO_6.out (fun _ hk => hk.2))); (case aS => exact (below_size (hx_ HB.out))); (case aL => have := LMc23.out; omega); intro v252 w35 ho hb hg hat; rw [← Ny251.out] at ho; have n0_ := Aside0.mk (Kd.R_over' (rx_ HO_7.out) (Kd.R_typed (rx_ HO_6.out)) (by decide) hg); have n1_ := Aside0.mk (blk_grown (g := gb222) (o := .cells #[.int .i64 0, .int .i64 0] 77 (0, 0)) (bx_ BK222.out) hg (Kd.R_ne HO_6.out BK222.out (by decide))); have n2_ := Aside0.mk (blk_grown (g := gb231) (o := .cells #[.int .i64 t227, .int .i64 t228] 77 (0, 0)) (bx_ BK231.out) hg (Kd.R_ne HO_6.out BK231.out (by decide))); have n3_ := Aside0.mk (IsS142.grown (ix_ HI226.out) hg (IsS142.own_ne HI226.out HO_6.out (by decide))); have n4_ := Aside0.mk (blk_grown (g := gb246) (o := .cells #[.int .i64 t241, .bool t242, .int .i64 t243] 85 (0, 0)) (bx_ BK246.out) hg (Kd.R_away HO_6.out (fun _ hk => hk.2))); have n5_ := Aside0.mk (Kd.R_over' (rx_ HO250.out) (Kd.R_typed (rx_ HO_6.out)) (by decide) hg); have n6_ := Aside0.mk (hb); have n7_ := Aside0.mk (ho); clear HO_7; clear BK222; clear BK231; clear HI226; clear BK246; clear HO250; clear HB; clear HO_6; have HO_7 := n0_; have BK222 := n1_; have BK231 := n2_; have HI226 := n3_; have BK246 := n4_; have HO250 := n5_; have HB := n6_; have HO253 := n7_; clear n0_ n1_ n2_ n3_ n4_ n5_ n6_ n7_; clear ho hb hg hat))
      go_roundg k1
      case measure => have := HK1.out; omega
      case rel => exact ⟨(y251), (t248), (wrap64 (x8_1 - 1)), (t244), (t245), (by first | rfl | (simp; done) | (simp [*]; done)), H', ⟨by have := HK1.out; omega⟩, ⟨by (with_reducible repeat (first | apply Kd.R_alloc | apply Kd.R_drewN | apply Kd.R_drew)); exact Kd.R_mono HO253.out (fun _ hk => trivial)⟩, ⟨by (with_reducible repeat (first | apply Kd.R_alloc | apply Kd.R_drewN | apply Kd.R_drew)); exact Kd.R_mono HO250.out (fun _ hk => ⟨hk.1.2, hk.2⟩)⟩, ⟨bx_ BK222.out⟩, ⟨bx_ BK231.out⟩, ⟨ix_ HI226.out⟩, ⟨hx_ HB.out⟩⟩
     ·rw [if_neg c23] at H
      exact absurd H (by simp)
    ·replace c21 := Bool.eq_false_iff.mpr c21
     subst c21
     have H1 : ((spec_l01Next.f t223 t244 t245 5).bind fun bt254 => (if bt254.1 > 0 then (spec_DrawRunCuts.l0 k1 x6_1 x7_1 (wrap64 (x8_1 - 1)) t223 bt254.2.1 bt254.2.2 t227 t228) else (if x6_1.length < 5864062014805 then (spec_DrawRunCuts.l0 k1 (x6_1 ++ [(⟨t241, t242, t243⟩ : S85)]) x7_1 (wrap64 (x8_1 - 1)) t223 bt254.2.1 bt254.2.2 t227 t228) else (none)))) = some (r1, r2, r3) := by rw [if_neg (show ¬ (false = true) by decide)] at H; exact H
     clear H
     have H := H1
     clear H1
     replace H := Option.bind_eq_some_iff.mp H
     obtain ⟨⟨t254, t255, t256⟩, A360, H⟩ := H
     replace H : (if t254 > 0 then (spec_DrawRunCuts.l0 k1 x6_1 x7_1 (wrap64 (x8_1 - 1)) t223 t255 t256 t227 t228) else (if x6_1.length < 5864062014805 then (spec_DrawRunCuts.l0 k1 (x6_1 ++ [(⟨t241, t242, t243⟩ : S85)]) x7_1 (wrap64 (x8_1 - 1)) t223 t255 t256 t227 t228) else (none))) = some (r1, r2, r3) := H
     have A36 := Aside0.mk A360
     clear A360
     by_cases c37 : t254 > 0
     ·rw [if_pos c37] at H
      have c37b0 : decide (0 < t254) = true := decide_eq_true c37
      clear c37
      have H' := Aside0.mk H
      clear H
      obtain ⟨Ao38, co38, eo38⟩ := Kd.R_slice HO_7.out
      subst eo38
      go_wp2_with (first | ((with_reducible refine gate_callee (f := 166) rfl ?_); refine goesL_ (some 26) rfl rfl Try.func166 (by kernel_rfl) rfl #[.pointer (some ⟨g226, 0, none⟩), .slice Ao38 x7_1.length co38] rfl (by (try simp only [List.map_toArray, List.map_cons, List.map_nil]); first | done | rfl | (simp only [List.length_drop, List.length_take]; rfl)) ?_; (with_reducible refine (spec_l09DrawCut.calls k1 g226 t223 x227001_1 x227002_1 _ _ x7_1 t241 t242 t243 t244 t245 w _ ?side1 ?side2 ?side3 ?side4 A19.out).mono ?_); (case side1 => repeat (first | (with_reducible first | exact HI226.out | apply IsS142.alloc | apply IsS142.drewN | apply IsS142.drew | apply IsS142.set_1 | apply IsS142.set_2 | refine IsS142.far ?_ NB226_222.out _ | refine IsS142.far ?_ NB226_231.out _) | exact HI226.out)); (case side2 => repeat (first | (with_reducible first | exact HB.out | apply below_alloc | apply pw_below_drewN | apply below_drew1 | refine below_set ?_ (IsS142.ge HI226.out) | refine below_set ?_ GE222.out | refine below_set ?_ GE231.out) | exact HB.out)); (case side3 => exact Kd.C_foot_own (IsS142.apart (show IsS142 w _ g226 t223 x227001_1 x227002_1 from ix_ HI226.out) (rx_ HO_7.out) (by decide)) (fun _ h_ => h_.2)); (case side4 => exact (Kd.R_reads' HO_7.out).2.1); rintro e w39 ⟨rfl, hi, hb, hk⟩; refine ⟨_, rfl, ?_⟩; have n0_ := Aside0.mk (Kd.R_mono (Kd.R_keep (IsS142.apart (show IsS142 w _ g226 t223 x227001_1 x227002_1 from ix_ HI226.out) (rx_ HO_6.out) (by decide)) hk (fun _ h => h.2)) (fun _ h => h.1)); have n1_ := Aside0.mk (Kd.R_mono (Kd.R_keep (IsS142.apart (show IsS142 w _ g226 t223 x227001_1 x227002_1 from ix_ HI226.out) (rx_ HO_7.out) (by decide)) hk (fun _ h => h.2)) (fun _ h => h.1)); have n2_ := Aside0.mk (KeepBut.blk hk (g' := gb222) (o := .cells #[.int .i64 0, .int .i64 0] 77 (0, 0)) (bx_ BK222.out) NB222_226.out (by simp)); have n3_ := Aside0.mk (KeepBut.blk hk (g' := gb231) (o := .cells #[.int .i64 t227, .int .i64 t228] 77 (0, 0)) (bx_ BK231.out) NB231_226.out (by simp)); have n4_ := Aside0.mk (hb); have n5_ := Aside0.mk (hi); clear HO_6; clear HO_7; clear BK222; clear BK231; clear HB; clear HI226; have HO_6 := n0_; have HO_7 := n1_; have BK222 := n2_; have BK231 := n3_; have HB := n4_; have HI226 := n5_; clear n0_ n1_ n2_ n3_ n4_ n5_; (try clear hb); (try clear hb2); (try clear hk); (try clear hi)) | ((with_reducible refine gate_dst (N := 9) rfl ?_); refine box_event ?hg (N := 9) ?hd (cs := #[.int .i64 0, .bool false, .int .i64 0]) (t := 85) ?hr ?_; (case hd => rfl); (case hg => rfl); (case hr => first | (go_simp; done) | (go_simp; rfl)); intro gb246 hg w40 hbox hb; have n0_ := Aside0.mk (Kd.R_below (Kd.R_elderB (rx_ HO_6.out) gb246 (Nat.le_of_eq hg.symm)) hb); have n1_ := Aside0.mk (Kd.R_below (rx_ HO_7.out) hb); have n2_ := Aside0.mk (blk_below (g := gb222) (o := .cells #[.int .i64 0, .int .i64 0] 77 (0, 0)) (bx_ BK222.out) hb); have n3_ := Aside0.mk (blk_below (g := gb231) (o := .cells #[.int .i64 t227, .int .i64 t228] 77 (0, 0)) (bx_ BK231.out) hb); have n4_ := Aside0.mk (IsS142.below (ix_ HI226.out) hb); have n5_ := Aside0.mk (below_step (hx_ HB.out) hb); have n6_ := Aside0.mk (hbox); have n7_ := Aside0.mk ((by rw [hg]; exact (below_size (hx_ HB.out)) : w.heap.size ≤ gb246)); have n8_ := Aside0.mk ((by rw [hg]; exact (below_size (hx_ HB.out)) : w.heap.size ≤ gb246)); have n9_ := Aside0.mk ((by rw [hg]; exact Nat.ne_of_lt (blk_lt (g := gb222) (o := .cells #[.int .i64 0, .int .i64 0] 77 (0, 0)) (bx_ BK222.out)) : gb222 ≠ gb246)); have n10_ := Aside0.mk ((by rw [hg]; exact Nat.ne_of_gt (blk_lt (g := gb222) (o := .cells #[.int .i64 0, .int .i64 0] 77 (0, 0)) (bx_ BK222.out)) : gb246 ≠ gb222)); have n11_ := Aside0.mk ((by rw [hg]; exact Nat.ne_of_lt (blk_lt (g := gb231) (o := .cells #[.int .i64 t227, .int .i64 t228] 77 (0, 0)) (bx_ BK231.out)) : gb231 ≠ gb246)); have n12_ := Aside0.mk ((by rw [hg]; exact Nat.ne_of_gt (blk_lt (g := gb231) (o := .cells #[.int .i64 t227, .int .i64 t228] 77 (0, 0)) (bx_ BK231.out)) : gb246 ≠ gb231)); have n13_ := Aside0.mk ((by rw [hg]; exact Nat.ne_of_lt (IsS142.lt (show IsS142 w _ g226 t223 t244 t245 from ix_ HI226.out)) : g226 ≠ gb246)); have n14_ := Aside0.mk ((by rw [hg]; exact Nat.ne_of_gt (IsS142.lt (show IsS142 w _ g226 t223 t244 t245 from ix_ HI226.out)) : gb246 ≠ g226)); clear HO_6; clear HO_7; clear BK222; clear BK231; clear HI226; clear HB; have HO_6 := n0_; have HO_7 := n1_; have BK222 := n2_; have BK231 := n3_; have HI226 := n4_; have HB := n5_; have BK246 := n6_; have GW246 := n7_; have GE246 := n8_; have NB222_246 := n9_; have NB246_222 := n10_; have NB231_246 := n11_; have NB246_231 := n12_; have NB226_246 := n13_; have NB246_226 := n14_; clear n0_ n1_ n2_ n3_ n4_ n5_ n6_ n7_ n8_ n9_ n10_ n11_ n12_ n13_ n14_; clear hb hbox hg; have hnb41 := NB246_222.out; have hnc41 := NB222_246.out; have hnb42 := NB246_231.out; have hnc42 := NB231_246.out; have hnb43 := NB246_226.out; have hnc43 := NB226_246.out; have hcz44_0 : w40.cell? ⟨gb246, 0, none⟩ = some (.int .i64 0) := (blk_cell BK246.out 0).trans rfl; have hcz44_1 : w40.cell? ⟨gb246, 1, none⟩ = some (.bool false) := (blk_cell BK246.out 1).trans rfl; have hcz44_2 : w40.cell? ⟨gb246, 2, none⟩ = some (.int .i64 0) := (blk_cell BK246.out 2).trans rfl; have hfz44_0 := blk_frozen BK246.out 0; have hfz44_1 := blk_frozen BK246.out 1; have hfz44_2 := blk_frozen BK246.out 2) | ((with_reducible refine gate_callee (f := 167) rfl ?_); refine goesL_ (some 29) rfl rfl Try.func167 (by kernel_rfl) rfl #[.slice Ao38 x7_1.length co38, .agg #[.int .i64 t241, .bool t242, .int .i64 t243]] rfl (by (try simp only [List.map_toArray, List.map_cons, List.map_nil]); first | done | rfl | (simp only [List.length_drop, List.length_take]; rfl)) ?_; (with_reducible refine (spec_CanCut.calls k1 _ _ x7_1 t241 t242 t243 false _ ?side1 ?side2 A20.out).mono ?_); (case side1 => refine (Kd.R_reads' (e := 77) (base := w.heap.size) (ok := fun k_ => (k_ ≠ gb222 ∧ k_ ≠ gb231)) (n := x7_1.length) (c := co38) ?_).2.2; exact (by (with_reducible repeat (first | apply Kd.R_alloc | apply Kd.R_drewN | apply Kd.R_drew)); exact (Kd.R_mono (Kd.R_far (p := ⟨gb246, 2, none⟩) (Kd.R_far (p := ⟨gb246, 1, none⟩) (Kd.R_far (p := ⟨gb246, 0, none⟩) (Kd.R_types HO_7.out BK246.out (by decide)) (fun _ hk => hk.2) (.int .i64 t241)) (fun _ hk => hk.2) (.bool t242)) (fun _ hk => hk.2) (.int .i64 t243)) (fun _ h_ => h_.1)))); (case side2 => exact (Kd.R_reads' HO_7.out).2.1); rintro e w45 ⟨rfl, hb⟩; refine ⟨_, rfl, ?_⟩; have n0_ := Aside0.mk (Kd.R_below (by (with_reducible repeat (first | apply Kd.R_alloc | apply Kd.R_drewN | apply Kd.R_drew)); exact (Kd.R_mono (Kd.R_far (p := ⟨gb246, 2, none⟩) (Kd.R_far (p := ⟨gb246, 1, none⟩) (Kd.R_far (p := ⟨gb246, 0, none⟩) (Kd.R_mono HO_6.out (fun k_ hk => (⟨hk, hk.2⟩ : _ ∧ k_ ≠ gb246))) (fun _ hk => hk.2) (.int .i64 t241)) (fun _ hk => hk.2) (.bool t242)) (fun _ hk => hk.2) (.int .i64 t243)) (fun _ h_ => h_.1))) hb); have n1_ := Aside0.mk (Kd.R_below (by (with_reducible repeat (first | apply Kd.R_alloc | apply Kd.R_drewN | apply Kd.R_drew)); exact (Kd.R_mono (Kd.R_far (p := ⟨gb246, 2, none⟩) (Kd.R_far (p := ⟨gb246, 1, none⟩) (Kd.R_far (p := ⟨gb246, 0, none⟩) (Kd.R_types HO_7.out BK246.out (by decide)) (fun _ hk => hk.2) (.int .i64 t241)) (fun _ hk => hk.2) (.bool t242)) (fun _ hk => hk.2) (.int .i64 t243)) (fun _ h_ => h_.1))) hb); have n2_ := Aside0.mk (blk_below (g := gb222) (o := .cells #[.int .i64 0, .int .i64 0] 77 (0, 0)) (bx_ BK222.out) hb); have n3_ := Aside0.mk (blk_below (g := gb231) (o := .cells #[.int .i64 t227, .int .i64 t228] 77 (0, 0)) (bx_ BK231.out) hb); have n4_ := Aside0.mk (IsS142.below (show IsS142 w (((w40.setCell ⟨gb246, 0, none⟩ (.int .i64 t241)).setCell ⟨gb246, 1, none⟩ (.bool t242)).setCell ⟨gb246, 2, none⟩ (.int .i64 t243)) g226 t223 t244 t245 from ix_ HI226.out) hb); have n5_ := Aside0.mk (blk_below (g := gb246) (o := .cells #[.int .i64 t241, .bool t242, .int .i64 t243] 85 (0, 0)) (by (with_reducible repeat (first | refine blk_drewN ?_ _ | refine blk_drew ?_ | refine blk_alloc ?_ _)); refine blk_put (cs := #[.int .i64 t241, .bool t242, .int .i64 0]) ?_ 2 _ rfl; (with_reducible repeat (first | refine blk_drewN ?_ _ | refine blk_drew ?_ | refine blk_alloc ?_ _)); refine blk_put (cs := #[.int .i64 t241, .bool false, .int .i64 0]) ?_ 1 _ rfl; (with_reducible repeat (first | refine blk_drewN ?_ _ | refine blk_drew ?_ | refine blk_alloc ?_ _)); refine blk_put (cs := #[.int .i64 0, .bool false, .int .i64 0]) ?_ 0 _ rfl; (with_reducible repeat (first | refine blk_drewN ?_ _ | refine blk_drew ?_ | refine blk_alloc ?_ _)); exact BK246.out) hb); have n6_ := Aside0.mk (below_step (hx_ HB.out) hb); clear HO_6; clear HO_7; clear BK222; clear BK231; clear HI226; clear BK246; clear HB; have HO_6 := n0_; have HO_7 := n1_; have BK222 := n2_; have BK231 := n3_; have HI226 := n4_; have BK246 := n5_; have HB := n6_; clear n0_ n1_ n2_ n3_ n4_ n5_ n6_; (try clear hb); (try clear hb2); (try clear hk); (try clear hi)) | ((with_reducible refine gate_callee (f := 115) rfl ?_); refine goesL_ (some 34) rfl rfl Try.func115 (by kernel_rfl) rfl #[.pointer (some ⟨g226, 0, none⟩), .int .i64 5] rfl (by (try simp only [List.map_toArray, List.map_cons, List.map_nil]); first | done | rfl | (simp only [List.length_drop, List.length_take]; rfl)) ?_; (with_reducible refine (spec_l01Next.calls g226 t223 t244 t245 5 t254 t255 t256 w _ ?side1 ?side2 A36.out).mono ?_); (case side1 => repeat (first | (with_reducible first | exact HI226.out | apply IsS142.alloc | apply IsS142.drewN | apply IsS142.drew | apply IsS142.set_1 | apply IsS142.set_2 | refine IsS142.far ?_ NB226_222.out _ | refine IsS142.far ?_ NB226_231.out _ | refine IsS142.far ?_ NB226_246.out _) | exact HI226.out)); (case side2 => repeat (first | (with_reducible first | exact HB.out | apply below_alloc | apply pw_below_drewN | apply below_drew1 | refine below_set ?_ (IsS142.ge HI226.out) | refine below_set ?_ GE222.out | refine below_set ?_ GE231.out | refine below_set ?_ GE246.out) | exact HB.out)); rintro e w46 ⟨rfl, hi, hb, hk⟩; refine ⟨_, rfl, ?_⟩; have n0_ := Aside0.mk (Kd.R_mono (Kd.R_keep (IsS142.apart (show IsS142 w _ g226 t223 t244 t245 from ix_ HI226.out) (rx_ HO_6.out) (by decide)) hk (fun _ h => h.2)) (fun _ h => h.1)); have n1_ := Aside0.mk (Kd.R_mono (Kd.R_keep (IsS142.apart (show IsS142 w _ g226 t223 t244 t245 from ix_ HI226.out) (rx_ HO_7.out) (by decide)) hk (fun _ h => h.2)) (fun _ h => h.1)); have n2_ := Aside0.mk (KeepBut.blk hk (g' := gb222) (o := .cells #[.int .i64 0, .int .i64 0] 77 (0, 0)) (bx_ BK222.out) NB222_226.out (by simp)); have n3_ := Aside0.mk (KeepBut.blk hk (g' := gb231) (o := .cells #[.int .i64 t227, .int .i64 t228] 77 (0, 0)) (bx_ BK231.out) NB231_226.out (by simp)); have n4_ := Aside0.mk (KeepBut.blk hk (g' := gb246) (o := .cells #[.int .i64 t241, .bool t242, .int .i64 t243] 85 (0, 0)) (bx_ BK246.out) NB246_226.out (by simp)); have n5_ := Aside0.mk (hb); have n6_ := Aside0.mk (hi); clear HO_6; clear HO_7; clear BK222; clear BK231; clear BK246; clear HB; clear HI226; have HO_6 := n0_; have HO_7 := n1_; have BK222 := n2_; have BK231 := n3_; have BK246 := n4_; have HB := n5_; have HI226 := n6_; clear n0_ n1_ n2_ n3_ n4_ n5_ n6_; (try clear hb); (try clear hb2); (try clear hk); (try clear hi)))
      go_roundg k1
      case measure => have := HK1.out; omega
      case rel => exact ⟨(x6_1), (x7_1), (wrap64 (x8_1 - 1)), (t255), (t256), (by first | rfl | (simp; done) | (simp [*]; done)), H', ⟨by have := HK1.out; omega⟩, ⟨by (with_reducible repeat (first | apply Kd.R_alloc | apply Kd.R_drewN | apply Kd.R_drew)); exact Kd.R_mono HO_6.out (fun _ hk => trivial)⟩, ⟨rx_ HO_7.out⟩, ⟨bx_ BK222.out⟩, ⟨bx_ BK231.out⟩, ⟨ix_ HI226.out⟩, ⟨hx_ HB.out⟩⟩
     ·rw [if_neg c37] at H
      have c37b0 : decide (0 < t254) = false := decide_eq_false c37
      clear c37
      by_cases c47 : x6_1.length < 5864062014805
      ·rw [if_pos c47] at H
       have LMc47 := Aside0.mk c47
       clear c47
       obtain ⟨y257, hy257⟩ : ∃ y_ : List (S85), y_ = (x6_1 ++ [(⟨t241, t242, t243⟩ : S85)]) := ⟨_, rfl⟩
       replace H : (spec_DrawRunCuts.l0 k1 y257 x7_1 (wrap64 (x8_1 - 1)) t223 t255 t256 t227 t228) = some (r1, r2, r3) := by first | (rw [hy257]; with_reducible exact H) | (have H2_ := (Option.bind_some _ _).symm.trans H; rw [hy257]; with_reducible exact H2_) | (have H2_ := (Option.bind_some _ _).symm.trans H; with_reducible exact H2_) | with_reducible exact H | (rw [hy257]; exact H) | exact H
       have Ny257 := Aside0.mk hy257
       clear hy257
       have H' := Aside0.mk H
       clear H
       obtain ⟨Ao48, co48, eo48⟩ := Kd.R_slice HO_7.out
       subst eo48
       go_wp2_with (first | ((with_reducible refine gate_callee (f := 166) rfl ?_); refine goesL_ (some 26) rfl rfl Try.func166 (by kernel_rfl) rfl #[.pointer (some ⟨g226, 0, none⟩), .slice Ao48 x7_1.length co48] rfl (by (try simp only [List.map_toArray, List.map_cons, List.map_nil]); first | done | rfl | (simp only [List.length_drop, List.length_take]; rfl)) ?_; (with_reducible refine (spec_l09DrawCut.calls k1 g226 t223 x227001_1 x227002_1 _ _ x7_1 t241 t242 t243 t244 t245 w _ ?side1 ?side2 ?side3 ?side4 A19.out).mono ?_); (case side1 => repeat (first | (with_reducible first | exact HI226.out | apply IsS142.alloc | apply IsS142.drewN | apply IsS142.drew | apply IsS142.set_1 | apply IsS142.set_2 | refine IsS142.far ?_ NB226_222.out _ | refine IsS142.far ?_ NB226_231.out _) | exact HI226.out)); (case side2 => repeat (first | (with_reducible first | exact HB.out | apply below_alloc | apply pw_below_drewN | apply below_drew1 | refine below_set ?_ (IsS142.ge HI226.out) | refine below_set ?_ GE222.out | refine below_set ?_ GE231.out) | exact HB.out)); (case side3 => exact Kd.C_foot_own (IsS142.apart (show IsS142 w _ g226 t223 x227001_1 x227002_1 from ix_ HI226.out) (rx_ HO_7.out) (by decide)) (fun _ h_ => h_.2)); (case side4 => exact (Kd.R_reads' HO_7.out).2.1); rintro e w49 ⟨rfl, hi, hb, hk⟩; refine ⟨_, rfl, ?_⟩; have n0_ := Aside0.mk (Kd.R_mono (Kd.R_keep (IsS142.apart (show IsS142 w _ g226 t223 x227001_1 x227002_1 from ix_ HI226.out) (rx_ HO_6.out) (by decide)) hk (fun _ h => h.2)) (fun _ h => h.1)); have n1_ := Aside0.mk (Kd.R_mono (Kd.R_keep (IsS142.apart (show IsS142 w _ g226 t223 x227001_1 x227002_1 from ix_ HI226.out) (rx_ HO_7.out) (by decide)) hk (fun _ h => h.2)) (fun _ h => h.1)); have n2_ := Aside0.mk (KeepBut.blk hk (g' := gb222) (o := .cells #[.int .i64 0, .int .i64 0] 77 (0, 0)) (bx_ BK222.out) NB222_226.out (by simp)); have n3_ := Aside0.mk (KeepBut.blk hk (g' := gb231) (o := .cells #[.int .i64 t227, .int .i64 t228] 77 (0, 0)) (bx_ BK231.out) NB231_226.out (by simp)); have n4_ := Aside0.mk (hb); have n5_ := Aside0.mk (hi); clear HO_6; clear HO_7; clear BK222; clear BK231; clear HB; clear HI226; have HO_6 := n0_; have HO_7 := n1_; have BK222 := n2_; have BK231 := n3_; have HB := n4_; have HI226 := n5_; clear n0_ n1_ n2_ n3_ n4_ n5_; (try clear hb); (try clear hb2); (try clear hk); (try clear hi)) | ((with_reducible refine gate_dst (N := 9) rfl ?_); refine box_event ?hg (N := 9) ?hd (cs := #[.int .i64 0, .bool false, .int .i64 0]) (t := 85) ?hr ?_; (case hd => rfl); (case hg => rfl); (case hr => first | (go_simp; done) | (go_simp; rfl)); intro gb246 hg w50 hbox hb; have n0_ := Aside0.mk (Kd.R_below (Kd.R_elderB (rx_ HO_6.out) gb246 (Nat.le_of_eq hg.symm)) hb); have n1_ := Aside0.mk (Kd.R_below (rx_ HO_7.out) hb); have n2_ := Aside0.mk (blk_below (g := gb222) (o := .cells #[.int .i64 0, .int .i64 0] 77 (0, 0)) (bx_ BK222.out) hb); have n3_ := Aside0.mk (blk_below (g := gb231) (o := .cells #[.int .i64 t227, .int .i64 t228] 77 (0, 0)) (bx_ BK231.out) hb); have n4_ := Aside0.mk (IsS142.below (ix_ HI226.out) hb); have n5_ := Aside0.mk (below_step (hx_ HB.out) hb); have n6_ := Aside0.mk (hbox); have n7_ := Aside0.mk ((by rw [hg]; exact (below_size (hx_ HB.out)) : w.heap.size ≤ gb246)); have n8_ := Aside0.mk ((by rw [hg]; exact (below_size (hx_ HB.out)) : w.heap.size ≤ gb246)); have n9_ := Aside0.mk ((by rw [hg]; exact Nat.ne_of_lt (blk_lt (g := gb222) (o := .cells #[.int .i64 0, .int .i64 0] 77 (0, 0)) (bx_ BK222.out)) : gb222 ≠ gb246)); have n10_ := Aside0.mk ((by rw [hg]; exact Nat.ne_of_gt (blk_lt (g := gb222) (o := .cells #[.int .i64 0, .int .i64 0] 77 (0, 0)) (bx_ BK222.out)) : gb246 ≠ gb222)); have n11_ := Aside0.mk ((by rw [hg]; exact Nat.ne_of_lt (blk_lt (g := gb231) (o := .cells #[.int .i64 t227, .int .i64 t228] 77 (0, 0)) (bx_ BK231.out)) : gb231 ≠ gb246)); have n12_ := Aside0.mk ((by rw [hg]; exact Nat.ne_of_gt (blk_lt (g := gb231) (o := .cells #[.int .i64 t227, .int .i64 t228] 77 (0, 0)) (bx_ BK231.out)) : gb246 ≠ gb231)); have n13_ := Aside0.mk ((by rw [hg]; exact Nat.ne_of_lt (IsS142.lt (show IsS142 w _ g226 t223 t244 t245 from ix_ HI226.out)) : g226 ≠ gb246)); have n14_ := Aside0.mk ((by rw [hg]; exact Nat.ne_of_gt (IsS142.lt (show IsS142 w _ g226 t223 t244 t245 from ix_ HI226.out)) : gb246 ≠ g226)); clear HO_6; clear HO_7; clear BK222; clear BK231; clear HI226; clear HB; have HO_6 := n0_; have HO_7 := n1_; have BK222 := n2_; have BK231 := n3_; have HI226 := n4_; have HB := n5_; have BK246 := n6_; have GW246 := n7_; have GE246 := n8_; have NB222_246 := n9_; have NB246_222 := n10_; have NB231_246 := n11_; have NB246_231 := n12_; have NB226_246 := n13_; have NB246_226 := n14_; clear n0_ n1_ n2_ n3_ n4_ n5_ n6_ n7_ n8_ n9_ n10_ n11_ n12_ n13_ n14_; clear hb hbox hg; have hnb51 := NB246_222.out; have hnc51 := NB222_246.out; have hnb52 := NB246_231.out; have hnc52 := NB231_246.out; have hnb53 := NB246_226.out; have hnc53 := NB226_246.out; have hcz54_0 : w50.cell? ⟨gb246, 0, none⟩ = some (.int .i64 0) := (blk_cell BK246.out 0).trans rfl; have hcz54_1 : w50.cell? ⟨gb246, 1, none⟩ = some (.bool false) := (blk_cell BK246.out 1).trans rfl; have hcz54_2 : w50.cell? ⟨gb246, 2, none⟩ = some (.int .i64 0) := (blk_cell BK246.out 2).trans rfl; have hfz54_0 := blk_frozen BK246.out 0; have hfz54_1 := blk_frozen BK246.out 1; have hfz54_2 := blk_frozen BK246.out 2) | ((with_reducible refine gate_callee (f := 167) rfl ?_); refine goesL_ (some 29) rfl rfl Try.func167 (by kernel_rfl) rfl #[.slice Ao48 x7_1.length co48, .agg #[.int .i64 t241, .bool t242, .int .i64 t243]] rfl (by (try simp only [List.map_toArray, List.map_cons, List.map_nil]); first | done | rfl | (simp only [List.length_drop, List.length_take]; rfl)) ?_; (with_reducible refine (spec_CanCut.calls k1 _ _ x7_1 t241 t242 t243 false _ ?side1 ?side2 A20.out).mono ?_); (case side1 => refine (Kd.R_reads' (e := 77) (base := w.heap.size) (ok := fun k_ => (k_ ≠ gb222 ∧ k_ ≠ gb231)) (n := x7_1.length) (c := co48) ?_).2.2; exact (by (with_reducible repeat (first | apply Kd.R_alloc | apply Kd.R_drewN | apply Kd.R_drew)); exact (Kd.R_mono (Kd.R_far (p := ⟨gb246, 2, none⟩) (Kd.R_far (p := ⟨gb246, 1, none⟩) (Kd.R_far (p := ⟨gb246, 0, none⟩) (Kd.R_types HO_7.out BK246.out (by decide)) (fun _ hk => hk.2) (.int .i64 t241)) (fun _ hk => hk.2) (.bool t242)) (fun _ hk => hk.2) (.int .i64 t243)) (fun _ h_ => h_.1)))); (case side2 => exact (Kd.R_reads' HO_7.out).2.1); rintro e w55 ⟨rfl, hb⟩; refine ⟨_, rfl, ?_⟩; have n0_ := Aside0.mk (Kd.R_below (by (with_reducible repeat (first | apply Kd.R_alloc | apply Kd.R_drewN | apply Kd.R_drew)); exact (Kd.R_mono (Kd.R_far (p := ⟨gb246, 2, none⟩) (Kd.R_far (p := ⟨gb246, 1, none⟩) (Kd.R_far (p := ⟨gb246, 0, none⟩) (Kd.R_mono HO_6.out (fun k_ hk => (⟨hk, hk.2⟩ : _ ∧ k_ ≠ gb246))) (fun _ hk => hk.2) (.int .i64 t241)) (fun _ hk => hk.2) (.bool t242)) (fun _ hk => hk.2) (.int .i64 t243)) (fun _ h_ => h_.1))) hb); have n1_ := Aside0.mk (Kd.R_below (by (with_reducible repeat (first | apply Kd.R_alloc | apply Kd.R_drewN | apply Kd.R_drew)); exact (Kd.R_mono (Kd.R_far (p := ⟨gb246, 2, none⟩) (Kd.R_far (p := ⟨gb246, 1, none⟩) (Kd.R_far (p := ⟨gb246, 0, none⟩) (Kd.R_types HO_7.out BK246.out (by decide)) (fun _ hk => hk.2) (.int .i64 t241)) (fun _ hk => hk.2) (.bool t242)) (fun _ hk => hk.2) (.int .i64 t243)) (fun _ h_ => h_.1))) hb); have n2_ := Aside0.mk (blk_below (g := gb222) (o := .cells #[.int .i64 0, .int .i64 0] 77 (0, 0)) (bx_ BK222.out) hb); have n3_ := Aside0.mk (blk_below (g := gb231) (o := .cells #[.int .i64 t227, .int .i64 t228] 77 (0, 0)) (bx_ BK231.out) hb); have n4_ := Aside0.mk (IsS142.below (show IsS142 w (((w50.setCell ⟨gb246, 0, none⟩ (.int .i64 t241)).setCell ⟨gb246, 1, none⟩ (.bool t242)).setCell ⟨gb246, 2, none⟩ (.int .i64 t243)) g226 t223 t244 t245 from ix_ HI226.out) hb); have n5_ := Aside0.mk (blk_below (g := gb246) (o := .cells #[.int .i64 t241, .bool t242, .int .i64 t243] 85 (0, 0)) (by (with_reducible repeat (first | refine blk_drewN ?_ _ | refine blk_drew ?_ | refine blk_alloc ?_ _)); refine blk_put (cs := #[.int .i64 t241, .bool t242, .int .i64 0]) ?_ 2 _ rfl; (with_reducible repeat (first | refine blk_drewN ?_ _ | refine blk_drew ?_ | refine blk_alloc ?_ _)); refine blk_put (cs := #[.int .i64 t241, .bool false, .int .i64 0]) ?_ 1 _ rfl; (with_reducible repeat (first | refine blk_drewN ?_ _ | refine blk_drew ?_ | refine blk_alloc ?_ _)); refine blk_put (cs := #[.int .i64 0, .bool false, .int .i64 0]) ?_ 0 _ rfl; (with_reducible repeat (first | refine blk_drewN ?_ _ | refine blk_drew ?_ | refine blk_alloc ?_ _)); exact BK246.out) hb); have n6_ := Aside0.mk (below_step (hx_ HB.out) hb); clear HO_6; clear HO_7; clear BK222; clear BK231; clear HI226; clear BK246; clear HB; have HO_6 := n0_; have HO_7 := n1_; have BK222 := n2_; have BK231 := n3_; have HI226 := n4_; have BK246 := n5_; have HB := n6_; clear n0_ n1_ n2_ n3_ n4_ n5_ n6_; (try clear hb); (try clear hb2); (try clear hk); (try clear hi)) | ((with_reducible refine gate_callee (f := 115) rfl ?_); refine goesL_ (some 34) rfl rfl Try.func115 (by kernel_rfl) rfl #[.pointer (some ⟨g226, 0, none⟩), .int .i64 5] rfl (by (try simp only [List.map_toArray, List.map_cons, List.map_nil]); first | done | rfl | (simp only [List.length_drop, List.length_take]; rfl)) ?_; (with_reducible refine (spec_l01Next.calls g226 t223 t244 t245 5 t254 t255 t256 w _ ?side1 ?side2 A36.out).mono ?_); (case side1 => repeat (first | (with_reducible first | exact HI226.out | apply IsS142.alloc | apply IsS142.drewN | apply IsS142.drew | apply IsS142.set_1 | apply IsS142.set_2 | refine IsS142.far ?_ NB226_222.out _ | refine IsS142.far ?_ NB226_231.out _ | refine IsS142.far ?_ NB226_246.out _) | exact HI226.out)); (case side2 => repeat (first | (with_reducible first | exact HB.out | apply below_alloc | apply pw_below_drewN | apply below_drew1 | refine below_set ?_ (IsS142.ge HI226.out) | refine below_set ?_ GE222.out | refine below_set ?_ GE231.out | refine below_set ?_ GE246.out) | exact HB.out)); rintro e w56 ⟨rfl, hi, hb, hk⟩; refine ⟨_, rfl, ?_⟩; have n0_ := Aside0.mk (Kd.R_mono (Kd.R_keep (IsS142.apart (show IsS142 w _ g226 t223 t244 t245 from ix_ HI226.out) (rx_ HO_6.out) (by decide)) hk (fun _ h => h.2)) (fun _ h => h.1)); have n1_ := Aside0.mk (Kd.R_mono (Kd.R_keep (IsS142.apart (show IsS142 w _ g226 t223 t244 t245 from ix_ HI226.out) (rx_ HO_7.out) (by decide)) hk (fun _ h => h.2)) (fun _ h => h.1)); have n2_ := Aside0.mk (KeepBut.blk hk (g' := gb222) (o := .cells #[.int .i64 0, .int .i64 0] 77 (0, 0)) (bx_ BK222.out) NB222_226.out (by simp)); have n3_ := Aside0.mk (KeepBut.blk hk (g' := gb231) (o := .cells #[.int .i64 t227, .int .i64 t228] 77 (0, 0)) (bx_ BK231.out) NB231_226.out (by simp)); have n4_ := Aside0.mk (KeepBut.blk hk (g' := gb246) (o := .cells #[.int .i64 t241, .bool t242, .int .i64 t243] 85 (0, 0)) (bx_ BK246.out) NB246_226.out (by simp)); have n5_ := Aside0.mk (hb); have n6_ := Aside0.mk (hi); clear HO_6; clear HO_7; clear BK222; clear BK231; clear BK246; clear HB; clear HI226; have HO_6 := n0_; have HO_7 := n1_; have BK222 := n2_; have BK231 := n3_; have BK246 := n4_; have HB := n5_; have HI226 := n6_; clear n0_ n1_ n2_ n3_ n4_ n5_ n6_; (try clear hb); (try clear hb2); (try clear hk); (try clear hi); have hcz57_0 : w56.cell? ⟨gb246, 0, none⟩ = some (.int .i64 t241) := (blk_cell BK246.out 0).trans rfl; have hcz57_1 : w56.cell? ⟨gb246, 1, none⟩ = some (.bool t242) := (blk_cell BK246.out 1).trans rfl; have hcz57_2 : w56.cell? ⟨gb246, 2, none⟩ = some (.int .i64 t243) := (blk_cell BK246.out 2).trans rfl; have hfz57_0 := blk_frozen BK246.out 0; have hfz57_1 := blk_frozen BK246.out 1; have hfz57_2 := blk_frozen BK246.out 2) | ((with_reducible refine gate_builtin (b := .append) (xs := #[.tmp 36, .tmp 38]) rfl ?_); at_builtin; refine Kd.R_append k85 (w0 := w) w.heap.size rfl (.tmp 36) (.tmp 38) 78 85 (.agg #[(.int .i64 0), (.bool false), (.int .i64 0)]) 24 rfl Try.underlying78 info85 rfl (by decide) (by omega) u6 x6_1 (⟨t241, t242, t243⟩ : S85) [.int .i64 t241, .bool t242, .int .i64 t243] (fun k_ => k_ ≠ gb246) (fun _ => False) rfl rfl ?aP (fun _ hk => hk.elim) ?aF ?aO ?aB ?aS ?aL ?_; (case aP => exact k85_mkM _ _ _ (⟨t241, t242, t243⟩ : S85)); (case aB => exact (hx_ HB.out)); (case aF => exact (fun k_ hk => Kd.freshB (g := gb246) (o := .cells #[.int .i64 t241, .bool t242, .int .i64 t243] 85 (0, 0)) (bx_ BK246.out) k_ hk)); (case aO => exact (by (with_reducible repeat (first | apply Kd.R_alloc | apply Kd.R_drewN | apply Kd.R_drew)); exact Kd.R_mono HO_6.out (fun _ hk => hk.2))); (case aS => exact (below_size (hx_ HB.out))); (case aL => have := LMc47.out; omega); intro v258 w58 ho hb hg hat; rw [← Ny257.out] at ho; have n0_ := Aside0.mk (Kd.R_over' (rx_ HO_7.out) (Kd.R_typed (rx_ HO_6.out)) (by decide) hg); have n1_ := Aside0.mk (blk_grown (g := gb222) (o := .cells #[.int .i64 0, .int .i64 0] 77 (0, 0)) (bx_ BK222.out) hg (Kd.R_ne HO_6.out BK222.out (by decide))); have n2_ := Aside0.mk (blk_grown (g := gb231) (o := .cells #[.int .i64 t227, .int .i64 t228] 77 (0, 0)) (bx_ BK231.out) hg (Kd.R_ne HO_6.out BK231.out (by decide))); have n3_ := Aside0.mk (IsS142.grown (ix_ HI226.out) hg (IsS142.own_ne HI226.out HO_6.out (by decide))); have n4_ := Aside0.mk (blk_grown (g := gb246) (o := .cells #[.int .i64 t241, .bool t242, .int .i64 t243] 85 (0, 0)) (bx_ BK246.out) hg (Kd.R_away HO_6.out (fun _ hk => hk.2))); have n5_ := Aside0.mk (hb); have n6_ := Aside0.mk (ho); clear HO_7; clear BK222; clear BK231; clear HI226; clear BK246; clear HB; clear HO_6; have HO_7 := n0_; have BK222 := n1_; have BK231 := n2_; have HI226 := n3_; have BK246 := n4_; have HB := n5_; have HO259 := n6_; clear n0_ n1_ n2_ n3_ n4_ n5_ n6_; clear ho hb hg hat))
       go_roundg k1
       case measure => have := HK1.out; omega
       case rel => exact ⟨(y257), (x7_1), (wrap64 (x8_1 - 1)), (t255), (t256), (by first | rfl | (simp; done) | (simp [*]; done)), H', ⟨by have := HK1.out; omega⟩, ⟨by (with_reducible repeat (first | apply Kd.R_alloc | apply Kd.R_drewN | apply Kd.R_drew)); exact Kd.R_mono HO259.out (fun _ hk => trivial)⟩, ⟨rx_ HO_7.out⟩, ⟨bx_ BK222.out⟩, ⟨bx_ BK231.out⟩, ⟨ix_ HI226.out⟩, ⟨hx_ HB.out⟩⟩
      ·rw [if_neg c47] at H
       exact absurd H (by simp)
   ·rw [if_neg c18] at H
    have c18b0 : decide (0 < x8_1) = false := decide_eq_false c18
    clear c18
    replace H := Option.bind_eq_some_iff.mp H
    obtain ⟨⟨t260, t261, t262⟩, A590, H⟩ := H
    replace H : (if t260 = 0 then ((spec_l01Next.f t223 t261 t262 2).bind fun bt266 => (spec_DrawRunCuts.l1 k1 (([] : List (S85))) (wrap64 (79 + bt266.1)))) else (some (t227, t228, x6_1))) = some (r1, r2, r3) := H
    have A59 := Aside0.mk A590
    clear A590
    by_cases c60 : t260 = 0
    ·rw [if_pos c60] at H
     have c60b0 : (t260 == 0) = true := beq_iff_eq.mpr c60
     have c60b1 : (t260 != 0) = false := bne_eq_false_iff_eq.mpr c60
     clear c60
     obtain ⟨y263, hy263⟩ : ∃ y_ : List (S85), y_ = (([] : List (S85))) := ⟨_, rfl⟩
     replace H : ((spec_l01Next.f t223 t261 t262 2).bind fun bt266 => (spec_DrawRunCuts.l1 k1 y263 (wrap64 (79 + bt266.1)))) = some (r1, r2, r3) := by first | (rw [hy263]; with_reducible exact H) | (have H2_ := (Option.bind_some _ _).symm.trans H; rw [hy263]; with_reducible exact H2_) | (have H2_ := (Option.bind_some _ _).symm.trans H; with_reducible exact H2_) | with_reducible exact H | (rw [hy263]; exact H) | exact H
     have Ny263 := Aside0.mk hy263
     clear hy263
     replace H := Option.bind_eq_some_iff.mp H
     obtain ⟨⟨t266, t267, t268⟩, A610, H⟩ := H
     replace H : (spec_DrawRunCuts.l1 k1 y263 (wrap64 (79 + t266))) = some (r1, r2, r3) := H
     have A61 := Aside0.mk A610
     clear A610
     have H' := Aside0.mk H
     clear H
     go_wp2_with (first | ((with_reducible refine gate_callee (f := 115) rfl ?_); refine goesL_ (some 41) rfl rfl Try.func115 (by kernel_rfl) rfl #[.pointer (some ⟨g226, 0, none⟩), .int .i64 40] rfl (by (try simp only [List.map_toArray, List.map_cons, List.map_nil]); first | done | rfl | (simp only [List.length_drop, List.length_take]; rfl)) ?_; (with_reducible refine (spec_l01Next.calls g226 t223 x227001_1 x227002_1 40 t260 t261 t262 w _ ?side1 ?side2 A59.out).mono ?_); (case side1 => repeat (first | (with_reducible first | exact HI226.out | apply IsS142.alloc | apply IsS142.drewN | apply IsS142.drew | apply IsS142.set_1 | apply IsS142.set_2 | refine IsS142.far ?_ NB226_222.out _ | refine IsS142.far ?_ NB226_231.out _) | exact HI226.out)); (case side2 => repeat (first | (with_reducible first | exact HB.out | apply below_alloc | apply pw_below_drewN | apply below_drew1 | refine below_set ?_ (IsS142.ge HI226.out) | refine below_set ?_ GE222.out | refine below_set ?_ GE231.out) | exact HB.out)); rintro e w62 ⟨rfl, hi, hb, hk⟩; refine ⟨_, rfl, ?_⟩; have n0_ := Aside0.mk (Kd.R_mono (Kd.R_keep (IsS142.apart (show IsS142 w _ g226 t223 x227001_1 x227002_1 from ix_ HI226.out) (rx_ HO_6.out) (by decide)) hk (fun _ h => h.2)) (fun _ h => h.1)); have n1_ := Aside0.mk (Kd.R_mono (Kd.R_keep (IsS142.apart (show IsS142 w _ g226 t223 x227001_1 x227002_1 from ix_ HI226.out) (rx_ HO_7.out) (by decide)) hk (fun _ h => h.2)) (fun _ h => h.1)); have n2_ := Aside0.mk (KeepBut.blk hk (g' := gb222) (o := .cells #[.int .i64 0, .int .i64 0] 77 (0, 0)) (bx_ BK222.out) NB222_226.out (by simp)); have n3_ := Aside0.mk (KeepBut.blk hk (g' := gb231) (o := .cells #[.int .i64 t227, .int .i64 t228] 77 (0, 0)) (bx_ BK231.out) NB231_226.out (by simp)); have n4_ := Aside0.mk (hb); have n5_ := Aside0.mk (hi); clear HO_6; clear HO_7; clear BK222; clear BK231; clear HB; clear HI226; have HO_6 := n0_; have HO_7 := n1_; have BK222 := n2_; have BK231 := n3_; have HB := n4_; have HI226 := n5_; clear n0_ n1_ n2_ n3_ n4_ n5_; (try clear hb); (try clear hb2); (try clear hk); (try clear hi)) | ((with_reducible refine gate_dst (N := 43) rfl ?_); refine Kd.R_lit k85 _ 85 ?hg (N := 43) ?hd (xs := ([] : List (S85))) (inner := []) (ok := fun _ => True) (okp := fun _ => True) ?hr ?hp (fun _ hk => hk) trivial (Below.refl _ _) (Nat.le_refl _) (by simp) ?_; (case hd => rfl); (case hg => rfl); (case hr => first | (go_simp; done) | (go_simp; rfl)); (case hp => exact (Reps.none _ _)); intro v264 w63 ho64 hb hg_ hnew_; clear hg_ hnew_; (first | rw [← Ny263.out] at ho64 | (simp only [Int.reduceToNat] at ho64; rw [← Ny263.out] at ho64)); have n0_ := Aside0.mk (Kd.R_elder' (rx_ HO_6.out) (Kd.R_base ho64) hb); have n1_ := Aside0.mk (Kd.R_below (rx_ HO_7.out) hb); have n2_ := Aside0.mk (Kd.R_lower (Kd.R_new' ho64 (Kd.R_lt (rx_ HO_6.out))) (below_size (hx_ HB.out))); have n3_ := Aside0.mk (blk_below (g := gb222) (o := .cells #[.int .i64 0, .int .i64 0] 77 (0, 0)) (bx_ BK222.out) hb); have n4_ := Aside0.mk (blk_below (g := gb231) (o := .cells #[.int .i64 t227, .int .i64 t228] 77 (0, 0)) (bx_ BK231.out) hb); have n5_ := Aside0.mk (IsS142.below (ix_ HI226.out) hb); have n6_ := Aside0.mk (below_step (hx_ HB.out) hb); clear HO_6; clear HO_7; clear BK222; clear BK231; clear HI226; clear HB; have HO_6 := n0_; have HO_7 := n1_; have HO265 := n2_; have BK222 := n3_; have BK231 := n4_; have HI226 := n5_; have HB := n6_; clear n0_ n1_ n2_ n3_ n4_ n5_ n6_; clear hb ho64) | ((with_reducible refine gate_callee (f := 115) rfl ?_); refine goesL_ (some 45) rfl rfl Try.func115 (by kernel_rfl) rfl #[.pointer (some ⟨g226, 0, none⟩), .int .i64 2] rfl (by (try simp only [List.map_toArray, List.map_cons, List.map_nil]); first | done | rfl | (simp only [List.length_drop, List.length_take]; rfl)) ?_; (with_reducible refine (spec_l01Next.calls g226 t223 t261 t262 2 t266 t267 t268 w _ ?side1 ?side2 A61.out).mono ?_); (case side1 => repeat (first | (with_reducible first | exact HI226.out | apply IsS142.alloc | apply IsS142.drewN | apply IsS142.drew | apply IsS142.set_1 | apply IsS142.set_2 | refine IsS142.far ?_ NB226_222.out _ | refine IsS142.far ?_ NB226_231.out _) | exact HI226.out)); (case side2 => repeat (first | (with_reducible first | exact HB.out | apply below_alloc | apply pw_below_drewN | apply below_drew1 | refine below_set ?_ (IsS142.ge HI226.out) | refine below_set ?_ GE222.out | refine below_set ?_ GE231.out) | exact HB.out)); rintro e w65 ⟨rfl, hi, hb, hk⟩; refine ⟨_, rfl, ?_⟩; have n0_ := Aside0.mk (Kd.R_mono (Kd.R_keep (IsS142.apart (show IsS142 w _ g226 t223 t261 t262 from ix_ HI226.out) (rx_ HO_6.out) (by decide)) hk (fun _ h => h.2)) (fun _ h => h.1)); have n1_ := Aside0.mk (Kd.R_mono (Kd.R_keep (IsS142.apart (show IsS142 w _ g226 t223 t261 t262 from ix_ HI226.out) (rx_ HO_7.out) (by decide)) hk (fun _ h => h.2)) (fun _ h => h.1)); have n2_ := Aside0.mk (KeepBut.blk hk (g' := gb222) (o := .cells #[.int .i64 0, .int .i64 0] 77 (0, 0)) (bx_ BK222.out) NB222_226.out (by simp)); have n3_ := Aside0.mk (KeepBut.blk hk (g' := gb231) (o := .cells #[.int .i64 t227, .int .i64 t228] 77 (0, 0)) (bx_ BK231.out) NB231_226.out (by simp)); have n4_ := Aside0.mk (Kd.R_mono (Kd.R_keep (IsS142.apart (show IsS142 w _ g226 t223 t261 t262 from ix_ HI226.out) (rx_ HO265.out) (by decide)) hk (fun _ h => h.2)) (fun _ h => h.1)); have n5_ := Aside0.mk (hb); have n6_ := Aside0.mk (hi); clear HO_6; clear HO_7; clear BK222; clear BK231; clear HO265; clear HB; clear HI226; have HO_6 := n0_; have HO_7 := n1_; have BK222 := n2_; have BK231 := n3_; have HO265 := n4_; have HB := n5_; have HI226 := n6_; clear n0_ n1_ n2_ n3_ n4_ n5_ n6_; (try clear hb); (try clear hb2); (try clear hk); (try clear hi)))
     go_loopg [6, 10] k1 (fun kq v6 v10 w' => ∃ (x6_2 : List (S85)) (x10_2 : Int), v10 = .int .i64 x10_2 ∧ Aside0 (spec_DrawRunCuts.l1 kq x6_2 x10_2 = some (r1, r2, r3)) ∧ Aside0 (kq ≤ k1) ∧ Aside0 (Kd.R k85 85 w' w.heap.size (fun _ => True) v6 x6_2) ∧ Aside0 (w'.heap[gb222]? = some (.cells #[.int .i64 0, .int .i64 0] 77 (0, 0))) ∧ Aside0 (w'.heap[gb231]? = some (.cells #[.int .i64 t227, .int .i64 t228] 77 (0, 0))) ∧ Aside0 (Below w.heap.size w w'))
     case atStart => exact ⟨(y263), (wrap64 (79 + t266)), (by first | rfl | (simp; done) | (simp [*]; done)), H', ⟨Nat.le_refl _⟩, ⟨by (with_reducible repeat (first | apply Kd.R_alloc | apply Kd.R_drewN | apply Kd.R_drew)); exact Kd.R_mono HO265.out (fun _ hk => trivial)⟩, ⟨bx_ BK222.out⟩, ⟨bx_ BK231.out⟩, ⟨hx_ HB.out⟩⟩
     case round =>
      clear H'
      try clear c1
      try clear c2
      try clear p2
      try clear c3
      try clear c4
      try clear c5
      try clear c6
      try clear p6
      try clear c9
      try clear c10
      try clear c11
      try clear c16
      try clear c18
      try clear c18b0
      try clear c21
      try clear c23
      try clear c27
      try clear c28
      try clear c29
      try clear c37
      try clear c37b0
      try clear c41
      try clear c42
      try clear c43
      try clear c47
      try clear c51
      try clear c52
      try clear c53
      try clear c60
      try clear c60b0
      try clear c60b1
      try clear p64
      try clear hcz11_0
      try clear hcz11_1
      try clear hcz14_0
      try clear hcz14_1
      try clear hcz30_0
      try clear hcz30_1
      try clear hcz30_2
      try clear hcz32_0
      try clear hcz32_1
      try clear hcz32_2
      try clear hcz34_0
      try clear hcz34_1
      try clear hcz34_2
      try clear hcz44_0
      try clear hcz44_1
      try clear hcz44_2
      try clear hcz54_0
      try clear hcz54_1
      try clear hcz54_2
      try clear hcz57_0
      try clear hcz57_1
      try clear hcz57_2
      try clear hfz11_0
      try clear hfz11_1
      try clear hfz14_0
      try clear hfz14_1
      try clear hfz30_0
      try clear hfz30_1
      try clear hfz30_2
      try clear hfz32_0
      try clear hfz32_1
      try clear hfz32_2
      try clear hfz34_0
      try clear hfz34_1
      try clear hfz34_2
      try clear hfz44_0
      try clear hfz44_1
      try clear hfz44_2
      try clear hfz54_0
      try clear hfz54_1
      try clear hfz54_2
      try clear hfz57_0
      try clear hfz57_1
      try clear hfz57_2
      try clear p2
      obtain ⟨x6_2, x10_2, rfl, HA, HK2, HO_6, BK222, BK231, HB⟩ := hrel
      cases gk with
      | zero => exact absurd HA.out (by simp [spec_DrawRunCuts.l1])
      | succ k2 =>
       have H := HA.out
       clear HA
       simp only [spec_DrawRunCuts.l1] at H
       by_cases c66 : x10_2 > 0
       ·rw [if_pos c66] at H
        have c66b0 : decide (0 < x10_2) = true := decide_eq_true c66
        clear c66
        by_cases c67 : x6_2.length < 5864062014805
        ·rw [if_pos c67] at H
         have LMc67 := Aside0.mk c67
         clear c67
         obtain ⟨y269, hy269⟩ : ∃ y_ : List (S85), y_ = (x6_2 ++ [(⟨0, false, x10_2⟩ : S85)]) := ⟨_, rfl⟩
         replace H : (spec_DrawRunCuts.l1 k2 y269 (wrap64 (x10_2 - 1))) = some (r1, r2, r3) := by first | (rw [hy269]; with_reducible exact H) | (have H2_ := (Option.bind_some _ _).symm.trans H; rw [hy269]; with_reducible exact H2_) | (have H2_ := (Option.bind_some _ _).symm.trans H; with_reducible exact H2_) | with_reducible exact H | (rw [hy269]; exact H) | exact H
         have Ny269 := Aside0.mk hy269
         clear hy269
         have H' := Aside0.mk H
         clear H
         go_wp2_with (first | ((with_reducible refine gate_builtin (b := .append) (xs := #[.tmp 51, .tmp 54]) rfl ?_); at_builtin; refine Kd.R_append k85 (w0 := w) w.heap.size rfl (.tmp 51) (.tmp 54) 78 85 (.agg #[(.int .i64 0), (.bool false), (.int .i64 0)]) 24 rfl Try.underlying78 info85 rfl (by decide) (by omega) u6 x6_2 (⟨0, false, x10_2⟩ : S85) [.int .i64 0, .bool false, .int .i64 x10_2] (fun _ => True) (fun _ => False) rfl rfl ?aP (fun _ hk => hk.elim) ?aF ?aO ?aB ?aS ?aL ?_; (case aP => exact k85_mkM _ _ _ (⟨0, false, x10_2⟩ : S85)); (case aB => exact (hx_ HB.out)); (case aF => exact (fun _ _ => trivial)); (case aO => exact (rx_ HO_6.out)); (case aS => exact (below_size (hx_ HB.out))); (case aL => have := LMc67.out; omega); intro v270 w68 ho hb hg hat; rw [← Ny269.out] at ho; have n0_ := Aside0.mk (blk_grown (g := gb222) (o := .cells #[.int .i64 0, .int .i64 0] 77 (0, 0)) (bx_ BK222.out) hg (Kd.R_ne HO_6.out BK222.out (by decide))); have n1_ := Aside0.mk (blk_grown (g := gb231) (o := .cells #[.int .i64 t227, .int .i64 t228] 77 (0, 0)) (bx_ BK231.out) hg (Kd.R_ne HO_6.out BK231.out (by decide))); have n2_ := Aside0.mk (hb); have n3_ := Aside0.mk (ho); clear BK222; clear BK231; clear HB; clear HO_6; have BK222 := n0_; have BK231 := n1_; have HB := n2_; have HO271 := n3_; clear n0_ n1_ n2_ n3_; clear ho hb hg hat))
         go_roundg k2
         case measure => have := HK1.out; have := HK2.out; omega
         case rel => exact ⟨(y269), (wrap64 (x10_2 - 1)), (by first | rfl | (simp; done) | (simp [*]; done)), H', ⟨by have := HK1.out; have := HK2.out; omega⟩, ⟨rx_ HO271.out⟩, ⟨bx_ BK222.out⟩, ⟨bx_ BK231.out⟩, ⟨hx_ HB.out⟩⟩
        ·rw [if_neg c67] at H
         exact absurd H (by simp)
       ·rw [if_neg c66] at H
        have c66b0 : decide (0 < x10_2) = false := decide_eq_false c66
        clear c66
        simp only [Option.some.injEq, Prod.mk.injEq] at H
        obtain ⟨rfl, rfl, rfl⟩ := H
        have hnb69 := NB222_231.out
        have hnc69 := NB231_222.out
        have hcz70_0 : wr.cell? ⟨gb222, 0, none⟩ = some (.int .i64 0) := (blk_cell BK222.out 0).trans rfl
        have hcz70_1 : wr.cell? ⟨gb222, 1, none⟩ = some (.int .i64 0) := (blk_cell BK222.out 1).trans rfl
        have hfz70_0 := blk_frozen BK222.out 0
        have hfz70_1 := blk_frozen BK222.out 1
        go_wp2
        refine bodyPost_ret (results_ct rfl _ _ gb222 77 #[.int .i64 500, .int .i64 5] (0, 0) _ rfl (by (with_reducible repeat (first | refine blk_drewN ?_ _ | refine blk_drew ?_ | refine blk_alloc ?_ _)); refine blk_put (cs := #[.int .i64 500, .int .i64 0]) ?_ 1 _ rfl; (with_reducible repeat (first | refine blk_drewN ?_ _ | refine blk_drew ?_ | refine blk_alloc ?_ _)); refine blk_put (cs := #[.int .i64 0, .int .i64 0]) ?_ 0 _ rfl; (with_reducible repeat (first | refine blk_drewN ?_ _ | refine blk_drew ?_ | refine blk_alloc ?_ _)); exact BK222.out) Try.underlying77 rfl (by kernel_rfl)) rfl ?_
        exact ⟨_, by first | rfl | (simp [errW_none, errW_some] <;> rfl) | (simp [*, errW_none, errW_some] <;> rfl), by (with_reducible repeat (first | apply Kd.R_alloc | apply Kd.R_drewN | apply Kd.R_drew)); exact Kd.R_mono (Kd.R_far (p := ⟨gb222, 1, none⟩) (Kd.R_far (p := ⟨gb222, 0, none⟩) (Kd.R_types HO_6.out BK222.out (by decide)) (fun _ hk => hk.2) (.int .i64 500)) (fun _ hk => hk.2) (.int .i64 5)) (fun _ hk => trivial), hx_ HB.out⟩
    ·rw [if_neg c60] at H
     have c60b0 : (t260 == 0) = false := beq_eq_false_iff_ne.mpr c60
     have c60b1 : (t260 != 0) = true := bne_iff_ne.mpr c60
     simp only [Option.some.injEq, Prod.mk.injEq] at H
     obtain ⟨rfl, rfl, rfl⟩ := H
     go_wp2_with (first | ((with_reducible refine gate_callee (f := 115) rfl ?_); refine goesL_ (some 41) rfl rfl Try.func115 (by kernel_rfl) rfl #[.pointer (some ⟨g226, 0, none⟩), .int .i64 40] rfl (by (try simp only [List.map_toArray, List.map_cons, List.map_nil]); first | done | rfl | (simp only [List.length_drop, List.length_take]; rfl)) ?_; (with_reducible refine (spec_l01Next.calls g226 t223 x227001_1 x227002_1 40 t260 t261 t262 w _ ?side1 ?side2 A59.out).mono ?_); (case side1 => repeat (first | (with_reducible first | exact HI226.out | apply IsS142.alloc | apply IsS142.drewN | apply IsS142.drew | apply IsS142.set_1 | apply IsS142.set_2 | refine IsS142.far ?_ NB226_222.out _ | refine IsS142.far ?_ NB226_231.out _) | exact HI226.out)); (case side2 => repeat (first | (with_reducible first | exact HB.out | apply below_alloc | apply pw_below_drewN | apply below_drew1 | refine below_set ?_ (IsS142.ge HI226.out) | refine below_set ?_ GE222.out | refine below_set ?_ GE231.out) | exact HB.out)); rintro e w71 ⟨rfl, hi, hb, hk⟩; refine ⟨_, rfl, ?_⟩; have n0_ := Aside0.mk (Kd.R_mono (Kd.R_keep (IsS142.apart (show IsS142 w _ g226 t223 x227001_1 x227002_1 from ix_ HI226.out) (rx_ HO_6.out) (by decide)) hk (fun _ h => h.2)) (fun _ h => h.1)); have n1_ := Aside0.mk (Kd.R_mono (Kd.R_keep (IsS142.apart (show IsS142 w _ g226 t223 x227001_1 x227002_1 from ix_ HI226.out) (rx_ HO_7.out) (by decide)) hk (fun _ h => h.2)) (fun _ h => h.1)); have n2_ := Aside0.mk (KeepBut.blk hk (g' := gb222) (o := .cells #[.int .i64 0, .int .i64 0] 77 (0, 0)) (bx_ BK222.out) NB222_226.out (by simp)); have n3_ := Aside0.mk (KeepBut.blk hk (g' := gb231) (o := .cells #[.int .i64 t227, .int .i64 t228] 77 (0, 0)) (bx_ BK231.out) NB231_226.out (by simp)); have n4_ := Aside0.mk (hb); have n5_ := Aside0.mk (hi); clear HO_6; clear HO_7; clear BK222; clear BK231; clear HB; clear HI226; have HO_6 := n0_; have HO_7 := n1_; have BK222 := n2_; have BK231 := n3_; have HB := n4_; have HI226 := n5_; clear n0_ n1_ n2_ n3_ n4_ n5_; (try clear hb); (try clear hb2); (try clear hk); (try clear hi); have hnb72 := NB231_222.out; have hnc72 := NB222_231.out; have hnb73 := NB231_226.out; have hnc73 := NB226_231.out; have hcz74_0 : w71.cell? ⟨gb231, 0, none⟩ = some (.int .i64 t227) := (blk_cell BK231.out 0).trans rfl; have hcz74_1 : w71.cell? ⟨gb231, 1, none⟩ = some (.int .i64 t228) := (blk_cell BK231.out 1).trans rfl; have hfz74_0 := blk_frozen BK231.out 0; have hfz74_1 := blk_frozen BK231.out 1; have hnb75 := NB222_226.out; have hnc75 := NB226_222.out; have hcz76_0 : w71.cell? ⟨gb222, 0, none⟩ = some (.int .i64 0) := (blk_cell BK222.out 0).trans rfl; have hcz76_1 : w71.cell? ⟨gb222, 1, none⟩ = some (.int .i64 0) := (blk_cell BK222.out 1).trans rfl; have hfz76_0 := blk_frozen BK222.out 0; have hfz76_1 := blk_frozen BK222.out 1))
     refine bodyPost_ret (results_ct rfl _ _ gb222 77 #[.int .i64 t227, .int .i64 t228] (0, 0) _ rfl (by (with_reducible repeat (first | refine blk_drewN ?_ _ | refine blk_drew ?_ | refine blk_alloc ?_ _)); refine blk_put (cs := #[.int .i64 t227, .int .i64 0]) ?_ 1 _ rfl; (with_reducible repeat (first | refine blk_drewN ?_ _ | refine blk_drew ?_ | refine blk_alloc ?_ _)); refine blk_put (cs := #[.int .i64 0, .int .i64 0]) ?_ 0 _ rfl; (with_reducible repeat (first | refine blk_drewN ?_ _ | refine blk_drew ?_ | refine blk_alloc ?_ _)); exact BK222.out) Try.underlying77 rfl (by kernel_rfl)) rfl ?_
     exact ⟨_, by first | rfl | (simp [errW_none, errW_some] <;> rfl) | (simp [*, errW_none, errW_some] <;> rfl), by (with_reducible repeat (first | apply Kd.R_alloc | apply Kd.R_drewN | apply Kd.R_drew)); exact Kd.R_mono (Kd.R_far (p := ⟨gb222, 1, none⟩) (Kd.R_far (p := ⟨gb222, 0, none⟩) (Kd.R_types HO_6.out BK222.out (by decide)) (fun _ hk => hk.2) (.int .i64 t227)) (fun _ hk => hk.2) (.int .i64 t228)) (fun _ hk => trivial), hx_ HB.out⟩

/-! ### impl_inRange: function 118 -/
def impl_inRange.f (a0 : Int) (a1 : Int) (a2 : Int) : Option (Bool) := if a1 ≤ a0 then (some (decide (a0 ≤ a2))) else (some false)
set_option maxHeartbeats 8000000 in
set_option maxRecDepth 100000 in
theorem impl_inRange.calls (a0 : Int) (a1 : Int) (a2 : Int) (r : Bool) (w : World) (h : impl_inRange.f a0 a1 a2 = some r) :
  Calls Try.prog 118 #[.int .i64 a0, .int .i64 a1, .int .i64 a2] w fun e w' => e = .returned (.bool r) ∧ Drawn0 w w' := by
 have H : (if a1 ≤ a0 then (some (decide (a0 ≤ a2))) else (some false)) = some r := h
 clear h
 by_cases c4 : a1 ≤ a0
 ·rw [if_pos c4] at H
  have c4b0 : decide (a1 ≤ a0) = true := decide_eq_true c4
  clear c4
  obtain rfl := Option.some.inj H
  go_enter Try.func118, Try.ntmps118
  go_wp2
  go_ret
  exact ⟨by first | rfl | (simp; done) | (simp [*]; done), by repeat (first | exact Drawn0.refl _ | apply Drawn0.step)⟩
 ·rw [if_neg c4] at H
  have c4b0 : decide (a1 ≤ a0) = false := decide_eq_false c4
  clear c4
  obtain rfl := Option.some.inj H
  go_enter Try.func118, Try.ntmps118
  go_wp2
  go_ret
  exact ⟨by first | rfl | (simp; done) | (simp [*]; done), by repeat (first | exact Drawn0.refl _ | apply Drawn0.step)⟩

/-! ### impl_IsPiece: function 105 -/
def impl_IsPiece.f (a0_0 : Int) (a0_1 : Int) : Option (Bool) := (impl_inRange.f a0_0 1 20000).bind fun t273 => (if t273 = true then ((impl_inRange.f a0_1 1 20000).bind fun t274 => (some t274)) else (some false))
set_option maxHeartbeats 8000000 in
set_option maxRecDepth 100000 in
theorem impl_IsPiece.calls (a0_0 : Int) (a0_1 : Int) (r : Bool) (w : World) (h : impl_IsPiece.f a0_0 a0_1 = some r) :
  Calls Try.prog 105 #[.agg #[.int .i64 a0_0, .int .i64 a0_1]] w fun e w' => e = .returned (.bool r) ∧ Below w.heap.size w w' := by
 have hu77 := Try.underlying77
 have HB := Aside0.mk (Below.refl w.heap.size w)
 have H : ((impl_inRange.f a0_0 1 20000).bind fun t273 => (if t273 = true then ((impl_inRange.f a0_1 1 20000).bind fun t274 => (some t274)) else (some false))) = some r := h
 clear h
 replace H := Option.bind_eq_some_iff.mp H
 obtain ⟨t273, A20, H⟩ := H
 replace H : (if t273 = true then ((impl_inRange.f a0_1 1 20000).bind fun t274 => (some t274)) else (some false)) = some r := H
 have A2 := Aside0.mk A20
 clear A20
 by_cases c3 : t273 = true
 ·subst c3
  have H1 : ((impl_inRange.f a0_1 1 20000).bind fun t274 => (some t274)) = some r := by rw [if_pos rfl] at H; exact H
  clear H
  have H := H1
  clear H1
  replace H := Option.bind_eq_some_iff.mp H
  obtain ⟨t274, A40, H⟩ := H
  replace H : (some t274) = some r := H
  have A4 := Aside0.mk A40
  clear A40
  obtain rfl := Option.some.inj H
  go_enter Try.func105, Try.ntmps105
  go_wp2_with (first | ((with_reducible refine gate_dst (N := 1) rfl ?_); refine box_event ?hg (N := 1) ?hd (cs := #[.int .i64 a0_0, .int .i64 a0_1]) (t := 77) ?hr ?_; (case hd => rfl); (case hg => rfl); (case hr => first | (go_simp; done) | (go_simp; rfl)); intro gb272 hg w5 hbox hb; have n0_ := Aside0.mk (below_step (hx_ HB.out) hb); have n1_ := Aside0.mk (hbox); have n2_ := Aside0.mk ((by rw [hg]; exact (below_size (hx_ HB.out)) : w.heap.size ≤ gb272)); have n3_ := Aside0.mk ((by rw [hg]; exact (below_size (hx_ HB.out)) : w.heap.size ≤ gb272)); clear HB; have HB := n0_; have BK272 := n1_; have GW272 := n2_; have GE272 := n3_; clear n0_ n1_ n2_ n3_; clear hb hbox hg; have hcz6_0 : w5.cell? ⟨gb272, 0, none⟩ = some (.int .i64 a0_0) := (blk_cell BK272.out 0).trans rfl; have hcz6_1 : w5.cell? ⟨gb272, 1, none⟩ = some (.int .i64 a0_1) := (blk_cell BK272.out 1).trans rfl; have hfz6_0 := blk_frozen BK272.out 0; have hfz6_1 := blk_frozen BK272.out 1) | ((with_reducible refine gate_callee (f := 118) rfl ?_); refine goesL_ (some 5) rfl rfl Try.func118 (by kernel_rfl) rfl #[.int .i64 a0_0, .int .i64 1, .int .i64 20000] rfl (by (try simp only [List.map_toArray, List.map_cons, List.map_nil]); first | done | rfl | (simp only [List.length_drop, List.length_take]; rfl)) ?_; (with_reducible refine (impl_inRange.calls a0_0 1 20000 true _ A2.out).mono ?_); rintro e w' ⟨rfl, ⟨nd, rfl⟩⟩; refine ⟨_, rfl, ?_⟩) | (go_at_call 118; (with_reducible refine (impl_inRange.calls a0_1 1 20000 t274 _ A4.out).mono ?_); rintro e w' ⟨rfl, ⟨nd, rfl⟩⟩))
  go_ret
  exact ⟨by first | rfl | (simp [errW_none, errW_some] <;> rfl) | (simp [*, errW_none, errW_some] <;> rfl), hx_ HB.out⟩
 ·replace c3 := Bool.eq_false_iff.mpr c3
  subst c3
  have H1 : (some false) = some r := by rw [if_neg (show ¬ (false = true) by decide)] at H; exact H
  clear H
  have H := H1
  clear H1
  obtain rfl := Option.some.inj H
  go_enter Try.func105, Try.ntmps105
  go_wp2_with (first | ((with_reducible refine gate_dst (N := 1) rfl ?_); refine box_event ?hg (N := 1) ?hd (cs := #[.int .i64 a0_0, .int .i64 a0_1]) (t := 77) ?hr ?_; (case hd => rfl); (case hg => rfl); (case hr => first | (go_simp; done) | (go_simp; rfl)); intro gb272 hg w7 hbox hb; have n0_ := Aside0.mk (below_step (hx_ HB.out) hb); have n1_ := Aside0.mk (hbox); have n2_ := Aside0.mk ((by rw [hg]; exact (below_size (hx_ HB.out)) : w.heap.size ≤ gb272)); have n3_ := Aside0.mk ((by rw [hg]; exact (below_size (hx_ HB.out)) : w.heap.size ≤ gb272)); clear HB; have HB := n0_; have BK272 := n1_; have GW272 := n2_; have GE272 := n3_; clear n0_ n1_ n2_ n3_; clear hb hbox hg; have hcz8_0 : w7.cell? ⟨gb272, 0, none⟩ = some (.int .i64 a0_0) := (blk_cell BK272.out 0).trans rfl; have hcz8_1 : w7.cell? ⟨gb272, 1, none⟩ = some (.int .i64 a0_1) := (blk_cell BK272.out 1).trans rfl; have hfz8_0 := blk_frozen BK272.out 0; have hfz8_1 := blk_frozen BK272.out 1) | ((with_reducible refine gate_callee (f := 118) rfl ?_); refine goesL_ (some 5) rfl rfl Try.func118 (by kernel_rfl) rfl #[.int .i64 a0_0, .int .i64 1, .int .i64 20000] rfl (by (try simp only [List.map_toArray, List.map_cons, List.map_nil]); first | done | rfl | (simp only [List.length_drop, List.length_take]; rfl)) ?_; (with_reducible refine (impl_inRange.calls a0_0 1 20000 false _ A2.out).mono ?_); rintro e w' ⟨rfl, ⟨nd, rfl⟩⟩; refine ⟨_, rfl, ?_⟩))
  go_ret
  exact ⟨by first | rfl | (simp [errW_none, errW_some] <;> rfl) | (simp [*, errW_none, errW_some] <;> rfl), hx_ HB.out⟩

/-! ### impl_Piece_191: function 191 -/
def impl_Piece_191.f (l0 : List (S77)) : Option (Int) := some (l0.length : Int)
set_option maxHeartbeats 8000000 in
set_option maxRecDepth 100000 in
theorem impl_Piece_191.calls (A0 : Option Addr) (c0 : Nat) (l0 : List (S77)) (r : Int) (w : World) (hr0 : Kd.C k77 w A0 l0.length l0) (hc0 : l0.length ≤ c0) (h : impl_Piece_191.f l0 = some r) :
  Calls Try.prog 191 #[.slice A0 l0.length c0] w fun e w' => e = .returned (.int .i64 r) ∧ Drawn0 w w' := by
 have HR0 := Aside0.mk hr0
 have HC0 := Aside0.mk hc0
 clear hr0 hc0
 have H : (some (l0.length : Int)) = some r := h
 clear h
 obtain rfl := Option.some.inj H
 go_enter Try.func191, Try.ntmps191
 go_wp2
 go_ret
 exact ⟨by first | rfl | (simp; done) | (simp [*]; done), by repeat (first | exact Drawn0.refl _ | apply Drawn0.step)⟩

/-! ### impl_possible: function 169 -/
def impl_possible.j0 : Nat → List (S77) → Bool → Int → Bool → Int → Option (Bool)
 | 0, _, _, _, _, _ => none
 | k + 1, x0, x17, x276000, x276001, x276002 => if x17 = true then (some false) else (if 0 ≤ x276000 then (if x276000 < (x0.length : Int) then (if x276001 = true then ((impl_inRange.f x276002 1 (wrap64 (((rd_T77 x0 x276000).f1) - 1))).bind fun t280 => (some t280)) else ((impl_inRange.f x276002 1 (wrap64 (((rd_T77 x0 x276000).f0) - 1))).bind fun t281 => (some t281))) else (none)) else (none))
def impl_possible.f (k : Nat) (l0 : List (S77)) (a1_0 : Int) (a1_1 : Bool) (a1_2 : Int) : Option (Bool) := (impl_Piece_191.f l0).bind fun t276 => ((impl_inRange.f a1_0 0 (wrap64 (t276 - 1))).bind fun t277 => (if t277 = true then (impl_possible.j0 k l0 (decide ((l0.length : Int) ≥ 80)) a1_0 a1_1 a1_2) else (impl_possible.j0 k l0 true a1_0 a1_1 a1_2)))
theorem impl_possible.mono_l : ∀ k, (∀ y0 y1 y2 y3 y4, LeO (impl_possible.j0 k y0 y1 y2 y3 y4) (impl_possible.j0 (k + 1) y0 y1 y2 y3 y4))
 | 0 => fun _ _ _ _ _ r h => by simp [impl_possible.j0] at h
 | k + 1 => by
  have ih0 := impl_possible.mono_l k
  ·intro y0 y1 y2 y3 y4
   unfold impl_possible.j0
   repeat' first
   | (with_reducible exact ih0 _ _ _ _ _)
   | (with_reducible exact LeO.refl _)
   | (with_reducible exact LeO.none _)
   | (with_reducible refine LeO.ite ?_ ?_)
   | (with_reducible refine LeO.bind ?_ (fun _ => ?_))
   | exact ih0 _ _ _ _ _
   | exact LeO.none _
   | refine LeO.ite ?_ ?_
   | refine LeO.bind ?_ (fun _ => ?_)
theorem impl_possible.mono : ∀ a0 a1 a2 a3 k, LeO (impl_possible.f k a0 a1 a2 a3) (impl_possible.f (k + 1) a0 a1 a2 a3) := by
 intro a0 a1 a2 a3 k
 have ih0 := impl_possible.mono_l k
 unfold impl_possible.f
 repeat' first
   | (with_reducible exact ih0 _ _ _ _ _)
   | (with_reducible exact LeO.refl _)
   | (with_reducible exact LeO.none _)
   | (with_reducible refine LeO.ite ?_ ?_)
   | (with_reducible refine LeO.bind ?_ (fun _ => ?_))
   | exact ih0 _ _ _ _ _
   | exact LeO.none _
   | refine LeO.ite ?_ ?_
   | refine LeO.bind ?_ (fun _ => ?_)
set_option maxHeartbeats 8000000 in
set_option maxRecDepth 100000 in
theorem impl_possible.calls (k : Nat) (A0 : Option Addr) (c0 : Nat) (l0 : List (S77)) (a1_0 : Int) (a1_1 : Bool) (a1_2 : Int) (r : Bool) (w : World) (hr0 : Kd.C k77 w A0 l0.length l0) (hc0 : l0.length ≤ c0) (h : impl_possible.f k l0 a1_0 a1_1 a1_2 = some r) :
  Calls Try.prog 169 #[.slice A0 l0.length c0, .agg #[.int .i64 a1_0, .bool a1_1, .int .i64 a1_2]] w fun e w' => e = .returned (.bool r) ∧ Below w.heap.size w w' := by
 have hu85 := Try.underlying85
 have HR0 := Aside0.mk hr0
 have HC0 := Aside0.mk hc0
 clear hr0 hc0
 have HB := Aside0.mk (Below.refl w.heap.size w)
 have H : ((impl_Piece_191.f l0).bind fun t276 => ((impl_inRange.f a1_0 0 (wrap64 (t276 - 1))).bind fun t277 => (if t277 = true then (impl_possible.j0 k l0 (decide ((l0.length : Int) ≥ 80)) a1_0 a1_1 a1_2) else (impl_possible.j0 k l0 true a1_0 a1_1 a1_2)))) = some r := h
 clear h
 have HC3 := Aside0.mk H
 clear H
 go_enter Try.func169, Try.ntmps169
 go_upto_region 1 with (first | ((with_reducible refine gate_dst (N := 3) rfl ?_); (try (refine gate_guard (by rfl) ?_; dsimp only)); refine box_event ?hg (N := 3) ?hd (cs := #[.int .i64 a1_0, .bool a1_1, .int .i64 a1_2]) (t := 85) ?hr ?_; (case hd => rfl); (case hg => rfl); (case hr => first | (go_simp; done) | (go_simp; rfl)); intro gb275 hg w4 hbox hb; have n0_ := Aside0.mk (below_step (hx_ HB.out) hb); have n1_ := Aside0.mk (hbox); have n2_ := Aside0.mk ((by rw [hg]; exact (below_size (hx_ HB.out)) : w.heap.size ≤ gb275)); have n3_ := Aside0.mk ((by rw [hg]; exact (below_size (hx_ HB.out)) : w.heap.size ≤ gb275)); clear HB; have HB := n0_; have BK275 := n1_; have GW275 := n2_; have GE275 := n3_; clear n0_ n1_ n2_ n3_; clear hb hbox hg))
 repeat (go_quiet (first | ((with_reducible refine gate_dst (N := 3) rfl ?_); (try (refine gate_guard (by rfl) ?_; dsimp only)); refine box_event ?hg (N := 3) ?hd (cs := #[.int .i64 a1_0, .bool a1_1, .int .i64 a1_2]) (t := 85) ?hr ?_; (case hd => rfl); (case hg => rfl); (case hr => first | (go_simp; done) | (go_simp; rfl)); intro gb275 hg w4 hbox hb; have n0_ := Aside0.mk (below_step (hx_ HB.out) hb); have n1_ := Aside0.mk (hbox); have n2_ := Aside0.mk ((by rw [hg]; exact (below_size (hx_ HB.out)) : w.heap.size ≤ gb275)); have n3_ := Aside0.mk ((by rw [hg]; exact (below_size (hx_ HB.out)) : w.heap.size ≤ gb275)); clear HB; have HB := n0_; have BK275 := n1_; have GW275 := n2_; have GE275 := n3_; clear n0_ n1_ n2_ n3_; clear hb hbox hg)); go_upto_region 1 with (first | ((with_reducible refine gate_dst (N := 3) rfl ?_); (try (refine gate_guard (by rfl) ?_; dsimp only)); refine box_event ?hg (N := 3) ?hd (cs := #[.int .i64 a1_0, .bool a1_1, .int .i64 a1_2]) (t := 85) ?hr ?_; (case hd => rfl); (case hg => rfl); (case hr => first | (go_simp; done) | (go_simp; rfl)); intro gb275 hg w4 hbox hb; have n0_ := Aside0.mk (below_step (hx_ HB.out) hb); have n1_ := Aside0.mk (hbox); have n2_ := Aside0.mk ((by rw [hg]; exact (below_size (hx_ HB.out)) : w.heap.size ≤ gb275)); have n3_ := Aside0.mk ((by rw [hg]; exact (below_size (hx_ HB.out)) : w.heap.size ≤ gb275)); clear HB; have HB := n0_; have BK275 := n1_; have GW275 := n2_; have GE275 := n3_; clear n0_ n1_ n2_ n3_; clear hb hbox hg)))
 (try simp only [Act.put, List.setIfInBounds_toArray, List.set_cons_zero, List.set_cons_succ])
 go_cut [17] (fun v17 wc => ∃ (kq : Nat) (x17_2 : Bool), v17 = .bool x17_2 ∧ Aside0 (impl_possible.j0 kq l0 x17_2 a1_0 a1_1 a1_2 = some r) ∧ Aside0 (kq ≤ k) ∧ Aside0 (wc.heap[gb275]? = some (.cells #[.int .i64 a1_0, .bool a1_1, .int .i64 a1_2] 85 (0, 0))) ∧ Aside0 (Below w.heap.size w wc))
 case first =>
  have H := HC3.out
  clear HC3
  replace H := Option.bind_eq_some_iff.mp H
  obtain ⟨t276, A50, H⟩ := H
  replace H : ((impl_inRange.f a1_0 0 (wrap64 (t276 - 1))).bind fun t277 => (if t277 = true then (impl_possible.j0 k l0 (decide ((l0.length : Int) ≥ 80)) a1_0 a1_1 a1_2) else (impl_possible.j0 k l0 true a1_0 a1_1 a1_2))) = some r := H
  have A5 := Aside0.mk A50
  clear A50
  replace H := Option.bind_eq_some_iff.mp H
  obtain ⟨t277, A60, H⟩ := H
  replace H : (if t277 = true then (impl_possible.j0 k l0 (decide ((l0.length : Int) ≥ 80)) a1_0 a1_1 a1_2) else (impl_possible.j0 k l0 true a1_0 a1_1 a1_2)) = some r := H
  have A6 := Aside0.mk A60
  clear A60
  by_cases c7 : t277 = true
  ·subst c7
   have H1 : (impl_possible.j0 k l0 (decide ((l0.length : Int) ≥ 80)) a1_0 a1_1 a1_2) = some r := by rw [if_pos rfl] at H; exact H
   clear H
   have H := H1
   clear H1
   have H' := Aside0.mk H
   clear H
   have hcz8_0 : w4.cell? ⟨gb275, 0, none⟩ = some (.int .i64 a1_0) := (blk_cell BK275.out 0).trans rfl
   have hcz8_1 : w4.cell? ⟨gb275, 1, none⟩ = some (.bool a1_1) := (blk_cell BK275.out 1).trans rfl
   have hcz8_2 : w4.cell? ⟨gb275, 2, none⟩ = some (.int .i64 a1_2) := (blk_cell BK275.out 2).trans rfl
   have hfz8_0 := blk_frozen BK275.out 0
   have hfz8_1 := blk_frozen BK275.out 1
   have hfz8_2 := blk_frozen BK275.out 2
   go_wp2_with (first | (go_at_call 191; (with_reducible refine (impl_Piece_191.calls _ _ l0 t276 _ ?side1 ?side2 A5.out).mono ?_); (case side1 => repeat (first | exact (Kd.C_below HR0.out HB.out) | (with_reducible refine Kd.C_alloc ?_ _) | (with_reducible refine Kd.C_drewN ?_ _) | (with_reducible refine Kd.C_drew ?_))); (case side2 => exact HC0.out); rintro e w' ⟨rfl, ⟨nd, rfl⟩⟩; (try first | exact ⟨rfl, _, World.drewN_drewN _ _ _⟩ | exact ⟨rfl, _, Eq.trans (World.drewN_drewN _ _ _) (congrArg (World.drewN _) (Nat.add_assoc _ _ _))⟩)) | (go_at_call 118; (with_reducible refine (impl_inRange.calls a1_0 0 (wrap64 (t276 - 1)) true _ A6.out).mono ?_); rintro e w' ⟨rfl, ⟨nd, rfl⟩⟩; (try first | exact ⟨rfl, _, World.drewN_drewN _ _ _⟩ | exact ⟨rfl, _, Eq.trans (World.drewN_drewN _ _ _) (congrArg (World.drewN _) (Nat.add_assoc _ _ _))⟩)))
   repeat (go_quiet (first | (go_at_call 191; (with_reducible refine (impl_Piece_191.calls _ _ l0 t276 _ ?side1 ?side2 A5.out).mono ?_); (case side1 => repeat (first | exact (Kd.C_below HR0.out HB.out) | (with_reducible refine Kd.C_alloc ?_ _) | (with_reducible refine Kd.C_drewN ?_ _) | (with_reducible refine Kd.C_drew ?_))); (case side2 => exact HC0.out); rintro e w' ⟨rfl, ⟨nd, rfl⟩⟩; (try first | exact ⟨rfl, _, World.drewN_drewN _ _ _⟩ | exact ⟨rfl, _, Eq.trans (World.drewN_drewN _ _ _) (congrArg (World.drewN _) (Nat.add_assoc _ _ _))⟩)) | (go_at_call 118; (with_reducible refine (impl_inRange.calls a1_0 0 (wrap64 (t276 - 1)) true _ A6.out).mono ?_); rintro e w' ⟨rfl, ⟨nd, rfl⟩⟩; (try first | exact ⟨rfl, _, World.drewN_drewN _ _ _⟩ | exact ⟨rfl, _, Eq.trans (World.drewN_drewN _ _ _) (congrArg (World.drewN _) (Nat.add_assoc _ _ _))⟩))); try go_wp2_with (first | (go_at_call 191; (with_reducible refine (impl_Piece_191.calls _ _ l0 t276 _ ?side1 ?side2 A5.out).mono ?_); (case side1 => repeat (first | exact (Kd.C_below HR0.out HB.out) | (with_reducible refine Kd.C_alloc ?_ _) | (with_reducible refine Kd.C_drewN ?_ _) | (with_reducible refine Kd.C_drew ?_))); (case side2 => exact HC0.out); rintro e w' ⟨rfl, ⟨nd, rfl⟩⟩; (try first | exact ⟨rfl, _, World.drewN_drewN _ _ _⟩ | exact ⟨rfl, _, Eq.trans (World.drewN_drewN _ _ _) (congrArg (World.drewN _) (Nat.add_assoc _ _ _))⟩)) | (go_at_call 118; (with_reducible refine (impl_inRange.calls a1_0 0 (wrap64 (t276 - 1)) true _ A6.out).mono ?_); rintro e w' ⟨rfl, ⟨nd, rfl⟩⟩; (try first | exact ⟨rfl, _, World.drewN_drewN _ _ _⟩ | exact ⟨rfl, _, Eq.trans (World.drewN_drewN _ _ _) (congrArg (World.drewN _) (Nat.add_assoc _ _ _))⟩))))
   go_meet
   case rel => exact ⟨_, (decide ((l0.length : Int) ≥ 80)), (by first | rfl | (simp; done) | (simp [*]; done)), H', ⟨by first | omega | exact Nat.le_refl _⟩, ⟨bx_ BK275.out⟩, ⟨hx_ HB.out⟩⟩
  ·replace c7 := Bool.eq_false_iff.mpr c7
   subst c7
   have H1 : (impl_possible.j0 k l0 true a1_0 a1_1 a1_2) = some r := by rw [if_neg (show ¬ (false = true) by decide)] at H; exact H
   clear H
   have H := H1
   clear H1
   have H' := Aside0.mk H
   clear H
   have hcz9_0 : w4.cell? ⟨gb275, 0, none⟩ = some (.int .i64 a1_0) := (blk_cell BK275.out 0).trans rfl
   have hcz9_1 : w4.cell? ⟨gb275, 1, none⟩ = some (.bool a1_1) := (blk_cell BK275.out 1).trans rfl
   have hcz9_2 : w4.cell? ⟨gb275, 2, none⟩ = some (.int .i64 a1_2) := (blk_cell BK275.out 2).trans rfl
   have hfz9_0 := blk_frozen BK275.out 0
   have hfz9_1 := blk_frozen BK275.out 1
   have hfz9_2 := blk_frozen BK275.out 2
   go_wp2_with (first | (go_at_call 191; (with_reducible refine (impl_Piece_191.calls _ _ l0 t276 _ ?side1 ?side2 A5.out).mono ?_); (case side1 => repeat (first | exact (Kd.C_below HR0.out HB.out) | (with_reducible refine Kd.C_alloc ?_ _) | (with_reducible refine Kd.C_drewN ?_ _) | (with_reducible refine Kd.C_drew ?_))); (case side2 => exact HC0.out); rintro e w' ⟨rfl, ⟨nd, rfl⟩⟩; (try first | exact ⟨rfl, _, World.drewN_drewN _ _ _⟩ | exact ⟨rfl, _, Eq.trans (World.drewN_drewN _ _ _) (congrArg (World.drewN _) (Nat.add_assoc _ _ _))⟩)) | (go_at_call 118; (with_reducible refine (impl_inRange.calls a1_0 0 (wrap64 (t276 - 1)) false _ A6.out).mono ?_); rintro e w' ⟨rfl, ⟨nd, rfl⟩⟩; (try first | exact ⟨rfl, _, World.drewN_drewN _ _ _⟩ | exact ⟨rfl, _, Eq.trans (World.drewN_drewN _ _ _) (congrArg (World.drewN _) (Nat.add_assoc _ _ _))⟩)))
   repeat (go_quiet (first | (go_at_call 191; (with_reducible refine (impl_Piece_191.calls _ _ l0 t276 _ ?side1 ?side2 A5.out).mono ?_); (case side1 => repeat (first | exact (Kd.C_below HR0.out HB.out) | (with_reducible refine Kd.C_alloc ?_ _) | (with_reducible refine Kd.C_drewN ?_ _) | (with_reducible refine Kd.C_drew ?_))); (case side2 => exact HC0.out); rintro e w' ⟨rfl, ⟨nd, rfl⟩⟩; (try first | exact ⟨rfl, _, World.drewN_drewN _ _ _⟩ | exact ⟨rfl, _, Eq.trans (World.drewN_drewN _ _ _) (congrArg (World.drewN _) (Nat.add_assoc _ _ _))⟩)) | (go_at_call 118; (with_reducible refine (impl_inRange.calls a1_0 0 (wrap64 (t276 - 1)) false _ A6.out).mono ?_); rintro e w' ⟨rfl, ⟨nd, rfl⟩⟩; (try first | exact ⟨rfl, _, World.drewN_drewN _ _ _⟩ | exact ⟨rfl, _, Eq.trans (World.drewN_drewN _ _ _) (congrArg (World.drewN _) (Nat.add_assoc _ _ _))⟩))); try go_wp2_with (first | (go_at_call 191; (with_reducible refine (impl_Piece_191.calls _ _ l0 t276 _ ?side1 ?side2 A5.out).mono ?_); (case side1 => repeat (first | exact (Kd.C_below HR0.out HB.out) | (with_reducible refine Kd.C_alloc ?_ _) | (with_reducible refine Kd.C_drewN ?_ _) | (with_reducible refine Kd.C_drew ?_))); (case side2 => exact HC0.out); rintro e w' ⟨rfl, ⟨nd, rfl⟩⟩; (try first | exact ⟨rfl, _, World.drewN_drewN _ _ _⟩ | exact ⟨rfl, _, Eq.trans (World.drewN_drewN _ _ _) (congrArg (World.drewN _) (Nat.add_assoc _ _ _))⟩)) | (go_at_call 118; (with_reducible refine (impl_inRange.calls a1_0 0 (wrap64 (t276 - 1)) false _ A6.out).mono ?_); rintro e w' ⟨rfl, ⟨nd, rfl⟩⟩; (try first | exact ⟨rfl, _, World.drewN_drewN _ _ _⟩ | exact ⟨rfl, _, Eq.trans (World.drewN_drewN _ _ _) (congrArg (World.drewN _) (Nat.add_assoc _ _ _))⟩))))
   go_meet
   case rel => exact ⟨_, (true), (by first | rfl | (simp; done) | (simp [*]; done)), H', ⟨by first | omega | exact Nat.le_refl _⟩, ⟨bx_ BK275.out⟩, ⟨hx_ HB.out⟩⟩
 case rest =>
  clear HC3
  try clear c1
  try clear p2
  try clear p6
  try clear c7
  try clear hcz8_0
  try clear hcz8_1
  try clear hcz8_2
  try clear hcz9_0
  try clear hcz9_1
  try clear hcz9_2
  try clear hfz8_0
  try clear hfz8_1
  try clear hfz8_2
  try clear hfz9_0
  try clear hfz9_1
  try clear hfz9_2
  obtain ⟨kq, x17_2, rfl, HA, HJ2, BK275, HB⟩ := hcut
  cases kq with
  | zero => exact absurd HA.out (by simp [impl_possible.j0])
  | succ kj2 =>
   have H := HA.out
   clear HA
   simp only [impl_possible.j0] at H
   by_cases c10 : x17_2 = true
   ·subst c10
    have H1 : (some false) = some r := by rw [if_pos rfl] at H; exact H
    clear H
    have H := H1
    clear H1
    obtain rfl := Option.some.inj H
    go_wp2
    repeat (go_quiet (fail); try go_wp2)
    go_ret
    exact ⟨by first | rfl | (simp [errW_none, errW_some] <;> rfl) | (simp [*, errW_none, errW_some] <;> rfl), hx_ HB.out⟩
   ·replace c10 := Bool.eq_false_iff.mpr c10
    subst c10
    have H1 : (if 0 ≤ a1_0 then (if a1_0 < (l0.length : Int) then (if a1_1 = true then ((impl_inRange.f a1_2 1 (wrap64 (((rd_T77 l0 a1_0).f1) - 1))).bind fun t280 => (some t280)) else ((impl_inRange.f a1_2 1 (wrap64 (((rd_T77 l0 a1_0).f0) - 1))).bind fun t281 => (some t281))) else (none)) else (none)) = some r := by rw [if_neg (show ¬ (false = true) by decide)] at H; exact H
    clear H
    have H := H1
    clear H1
    by_cases c11 : 0 ≤ a1_0
    ·rw [if_pos c11] at H
     have c11b0 : decide (0 ≤ a1_0) = true := decide_eq_true c11
     clear c11
     by_cases c12 : a1_0 < (l0.length : Int)
     ·rw [if_pos c12] at H
      have c12b0 : decide (a1_0 < (l0.length : Int)) = true := decide_eq_true c12
      clear c12
      by_cases c13 : a1_1 = true
      ·subst c13
       have H1 : ((impl_inRange.f a1_2 1 (wrap64 (((rd_T77 l0 a1_0).f1) - 1))).bind fun t280 => (some t280)) = some r := by rw [if_pos rfl] at H; exact H
       clear H
       have H := H1
       clear H1
       replace H := Option.bind_eq_some_iff.mp H
       obtain ⟨t280, A140, H⟩ := H
       replace H : (some t280) = some r := H
       have A14 := Aside0.mk A140
       clear A140
       obtain rfl := Option.some.inj H
       have hcz15_0 : wc.cell? ⟨gb275, 0, none⟩ = some (.int .i64 a1_0) := (blk_cell BK275.out 0).trans rfl
       have hcz15_1 : wc.cell? ⟨gb275, 1, none⟩ = some (.bool true) := (blk_cell BK275.out 1).trans rfl
       have hcz15_2 : wc.cell? ⟨gb275, 2, none⟩ = some (.int .i64 a1_2) := (blk_cell BK275.out 2).trans rfl
       have hfz15_0 := blk_frozen BK275.out 0
       have hfz15_1 := blk_frozen BK275.out 1
       have hfz15_2 := blk_frozen BK275.out 2
       have p278 : 0 ≤ (a1_0 : Int) := of_decide_eq_true (by first | (with_reducible assumption) | assumption)
       have q278 : a1_0 < (l0.length : Int) := of_decide_eq_true (by first | (with_reducible assumption) | assumption)
       obtain ⟨ad278, e278, hx278_0, hx278_1⟩ := at_T77 HR0.out a1_0 p278 q278
       cases e278
       replace hx278_0 := (HB.out.cell (World.block_lt_of_cell? w _ hx278_0)).trans hx278_0
       replace hx278_1 := (HB.out.cell (World.block_lt_of_cell? w _ hx278_1)).trans hx278_1
       replace p278 := eq_true p278
       replace q278 := eq_true q278
       have p279 : 0 ≤ (a1_0 : Int) := of_decide_eq_true (by first | (with_reducible assumption) | assumption)
       have q279 : a1_0 < (l0.length : Int) := of_decide_eq_true (by first | (with_reducible assumption) | assumption)
       obtain ⟨ad279, e279, hx279_0, hx279_1⟩ := at_T77 HR0.out a1_0 p279 q279
       obtain rfl : ad278 = ad279 := (by injection e279)
       replace hx279_0 := (HB.out.cell (World.block_lt_of_cell? w _ hx279_0)).trans hx279_0
       replace hx279_1 := (HB.out.cell (World.block_lt_of_cell? w _ hx279_1)).trans hx279_1
       replace p279 := eq_true p279
       replace q279 := eq_true q279
       go_wp2_with (first | (go_at_call 118; (with_reducible refine (impl_inRange.calls a1_2 1 (wrap64 (((rd_T77 l0 a1_0).f1) - 1)) t280 _ A14.out).mono ?_); rintro e w' ⟨rfl, ⟨nd, rfl⟩⟩; (try first | exact ⟨rfl, _, World.drewN_drewN _ _ _⟩ | exact ⟨rfl, _, Eq.trans (World.drewN_drewN _ _ _) (congrArg (World.drewN _) (Nat.add_assoc _ _ _))⟩)))
       repeat (go_quiet (first | (go_at_call 118; (with_reducible refine (impl_inRange.calls a1_2 1 (wrap64 (((rd_T77 l0 a1_0).f1) - 1)) t280 _ A14.out).mono ?_); rintro e w' ⟨rfl, ⟨nd, rfl⟩⟩; (try first | exact ⟨rfl, _, World.drewN_drewN _ _ _⟩ | exact ⟨rfl, _, Eq.trans (World.drewN_drewN _ _ _) (congrArg (World.drewN _) (Nat.add_assoc _ _ _))⟩))); try go_wp2_with (first | (go_at_call 118; (with_reducible refine (impl_inRange.calls a1_2 1 (wrap64 (((rd_T77 l0 a1_0).f1) - 1)) t280 _ A14.out).mono ?_); rintro e w' ⟨rfl, ⟨nd, rfl⟩⟩; (try first | exact ⟨rfl, _, World.drewN_drewN _ _ _⟩ | exact ⟨rfl, _, Eq.trans (World.drewN_drewN _ _ _) (congrArg (World.drewN _) (Nat.add_assoc _ _ _))⟩))))
       go_ret
       exact ⟨by first | rfl | (simp [errW_none, errW_some] <;> rfl) | (simp [*, errW_none, errW_some] <;> rfl), hx_ HB.out⟩
      ·replace c13 := Bool.eq_false_iff.mpr c13
       subst c13
       have H1 : ((impl_inRange.f a1_2 1 (wrap64 (((rd_T77 l0 a1_0).f0) - 1))).bind fun t281 => (some t281)) = some r := by rw [if_neg (show ¬ (false = true) by decide)] at H; exact H
       clear H
       have H := H1
       clear H1
       replace H := Option.bind_eq_some_iff.mp H
       obtain ⟨t281, A160, H⟩ := H
       replace H : (some t281) = some r := H
       have A16 := Aside0.mk A160
       clear A160
       obtain rfl := Option.some.inj H
       have hcz17_0 : wc.cell? ⟨gb275, 0, none⟩ = some (.int .i64 a1_0) := (blk_cell BK275.out 0).trans rfl
       have hcz17_1 : wc.cell? ⟨gb275, 1, none⟩ = some (.bool false) := (blk_cell BK275.out 1).trans rfl
       have hcz17_2 : wc.cell? ⟨gb275, 2, none⟩ = some (.int .i64 a1_2) := (blk_cell BK275.out 2).trans rfl
       have hfz17_0 := blk_frozen BK275.out 0
       have hfz17_1 := blk_frozen BK275.out 1
       have hfz17_2 := blk_frozen BK275.out 2
       have p278 : 0 ≤ (a1_0 : Int) := of_decide_eq_true (by first | (with_reducible assumption) | assumption)
       have q278 : a1_0 < (l0.length : Int) := of_decide_eq_true (by first | (with_reducible assumption) | assumption)
       obtain ⟨ad278, e278, hx278_0, hx278_1⟩ := at_T77 HR0.out a1_0 p278 q278
       cases e278
       replace hx278_0 := (HB.out.cell (World.block_lt_of_cell? w _ hx278_0)).trans hx278_0
       replace hx278_1 := (HB.out.cell (World.block_lt_of_cell? w _ hx278_1)).trans hx278_1
       replace p278 := eq_true p278
       replace q278 := eq_true q278
       go_wp2_with (first | (go_at_call 118; (with_reducible refine (impl_inRange.calls a1_2 1 (wrap64 (((rd_T77 l0 a1_0).f0) - 1)) t281 _ A16.out).mono ?_); rintro e w' ⟨rfl, ⟨nd, rfl⟩⟩; (try first | exact ⟨rfl, _, World.drewN_drewN _ _ _⟩ | exact ⟨rfl, _, Eq.trans (World.drewN_drewN _ _ _) (congrArg (World.drewN _) (Nat.add_assoc _ _ _))⟩)))
       repeat (go_quiet (first | (go_at_call 118; (with_reducible refine (impl_inRange.calls a1_2 1 (wrap64 (((rd_T77 l0 a1_0).f0) - 1)) t281 _ A16.out).mono ?_); rintro e w' ⟨rfl, ⟨nd, rfl⟩⟩; (try first | exact ⟨rfl, _, World.drewN_drewN _ _ _⟩ | exact ⟨rfl, _, Eq.trans (World.drewN_drewN _ _ _) (congrArg (World.drewN _) (Nat.add_assoc _ _ _))⟩))); try go_wp2_with (first | (go_at_call 118; (with_reducible refine (impl_inRange.calls a1_2 1 (wrap64 (((rd_T77 l0 a1_0).f0) - 1)) t281 _ A16.out).mono ?_); rintro e w' ⟨rfl, ⟨nd, rfl⟩⟩; (try first | exact ⟨rfl, _, World.drewN_drewN _ _ _⟩ | exact ⟨rfl, _, Eq.trans (World.drewN_drewN _ _ _) (congrArg (World.drewN _) (Nat.add_assoc _ _ _))⟩))))
       go_ret
       exact ⟨by first | rfl | (simp [errW_none, errW_some] <;> rfl) | (simp [*, errW_none, errW_some] <;> rfl), hx_ HB.out⟩
     ·rw [if_neg c12] at H
      exact absurd H (by simp)
    ·rw [if_neg c11] at H
     exact absurd H (by simp)

-- NOT PRINTED: function 198 (impl_Piece_198)

end Go.Proofs.Ythapadejldlmfaa.PFnCuts
