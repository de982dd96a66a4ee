-- Written by wip/inject.py: a contract of each function that the law reaches; those of the stand-ins are proved in this seat's Hand texts
import Derived.Test.YthapadejldlmfaaPFnBestGridsx0
import Derived.Test.YthapadejldlmfaaPFnBestGridsx4
import Derived.Test.YthapadejldlmfaaPFnBestGridsx6
namespace Go.Proofs.Ythapadejldlmfaa.PFnBestGrids
open Go.RowKit Go.Proofs.YthapadejldlmfaaW.PrintWords Go.Proofs.YthapadejldlmfaaW.PrintLast Go.Proofs.YthapadejldlmfaaW.PrintMore
attribute [local go_sem] max2_int min2_int max_two min_two max_three min_three max_four min_four   -- for this text's walks alone
set_option linter.unusedVariables false
set_option linter.unusedSimpArgs false

/-! ### spec_DrawBestGrid: function 70 -/
def spec_DrawBestGrid.f (k : Nat) (l0 : List Int) : Option (Int × Int × Int × Bool × Int × Int × Int × Int × Bool) := (spec_l01From.f k l0).bind fun bt235 => ((spec_l08Draw.f bt235.1 bt235.2.1 bt235.2.2).bind fun bt239 => ((spec_l01Next.f bt235.1 bt239.2.2.2.2.2.2.2.2.1 bt239.2.2.2.2.2.2.2.2.2 2).bind fun bt251 => (some (bt239.1, bt239.2.1, bt239.2.2.1, bt239.2.2.2.1, bt239.2.2.2.2.1, bt239.2.2.2.2.2.1, bt239.2.2.2.2.2.2.1, bt239.2.2.2.2.2.2.2.1, (bt251.1 == 0)))))
theorem spec_DrawBestGrid.mono : ∀ a0 k, LeO (spec_DrawBestGrid.f k a0) (spec_DrawBestGrid.f (k + 1) a0) := by
  intro a0 k
  unfold spec_DrawBestGrid.f
  repeat' first
      | (with_reducible exact spec_l01From.mono _ _)
      | (with_reducible exact LeO.refl _)
      | (with_reducible exact LeO.none _)
      | (with_reducible refine LeO.ite ?_ ?_)
      | (with_reducible refine LeO.bind ?_ (fun _ => ?_))
      | exact spec_l01From.mono _ _
      | exact LeO.none _
      | refine LeO.ite ?_ ?_
      | refine LeO.bind ?_ (fun _ => ?_)
def spec_DrawBestGrid.T3 : Bool × List (List Nat × List Nat) := (true, [([], []), ([], []), ([], []), ([2], [2]), ([3], [3]), ([0, 3, 0], [0]), ([1, 5, 0, 1, 5], [1]), ([4, 6, 0, 1, 2, 3, 4, 5, 6], [4])])
def spec_DrawBestGrid.B3 : List Nat := [0, 0, 0, 4, 12, 13, 47, 127]
theorem spec_DrawBestGrid.tab3 : rtab .any (opsOf Try.f70 3) = spec_DrawBestGrid.T3 := by kernel_rfl
theorem spec_DrawBestGrid.bits3 : waitsOk spec_DrawBestGrid.T3.2 spec_DrawBestGrid.B3 = true := by kernel_rfl
set_option maxHeartbeats 8000000 in
set_option maxRecDepth 100000 in
theorem spec_DrawBestGrid.calls (k : Nat) (A0 : Option Addr) (c0 : Nat) (l0 : List Int) (r1 : Int) (r2 : Int) (r3 : Int) (r4 : Bool) (r5 : Int) (r6 : Int) (r7 : Int) (r8 : Int) (r9 : Bool) (w : World) (hr0 : Kd.C (Kd.int .u8) w A0 l0.length l0) (hc0 : l0.length ≤ c0) (h : spec_DrawBestGrid.f k l0 = some (r1, r2, r3, r4, r5, r6, r7, r8, r9)) :
    Calls Try.prog 70 #[.slice A0 l0.length c0] w fun e w' => e = .returned (.tuple #[.agg #[.int .i64 r1, .int .i64 r2, .int .i64 r3, .bool r4], .agg #[.int .i64 r5, .int .i64 r6, .int .i64 r7, .int .i64 r8], .bool r9]) ∧ Below w.heap.size w w' := by
  have hu39 := Try.underlying39
  have hu41 := Try.underlying41
  have HR0 := Aside0.mk hr0
  have HC0 := Aside0.mk hc0
  clear hr0 hc0
  have HB := Aside0.mk (Below.refl w.heap.size w)
  have H : ((spec_l01From.f k l0).bind fun bt235 => ((spec_l08Draw.f bt235.1 bt235.2.1 bt235.2.2).bind fun bt239 => ((spec_l01Next.f bt235.1 bt239.2.2.2.2.2.2.2.2.1 bt239.2.2.2.2.2.2.2.2.2 2).bind fun bt251 => (some (bt239.1, bt239.2.1, bt239.2.2.1, bt239.2.2.2.1, bt239.2.2.2.2.1, bt239.2.2.2.2.2.1, bt239.2.2.2.2.2.2.1, bt239.2.2.2.2.2.2.2.1, (bt251.1 == 0)))))) = some (r1, r2, r3, r4, r5, r6, r7, r8, r9) := h
  clear h
  replace H := Option.bind_eq_some_iff.mp H
  obtain ⟨⟨t235, t236, t237⟩, A20, H⟩ := H
  replace H : ((spec_l08Draw.f t235 t236 t237).bind fun bt239 => ((spec_l01Next.f t235 bt239.2.2.2.2.2.2.2.2.1 bt239.2.2.2.2.2.2.2.2.2 2).bind fun bt251 => (some (bt239.1, bt239.2.1, bt239.2.2.1, bt239.2.2.2.1, bt239.2.2.2.2.1, bt239.2.2.2.2.2.1, bt239.2.2.2.2.2.2.1, bt239.2.2.2.2.2.2.2.1, (bt251.1 == 0))))) = some (r1, r2, r3, r4, r5, r6, r7, r8, r9) := H
  have A2 := Aside0.mk A20
  clear A20
  replace H := Option.bind_eq_some_iff.mp H
  obtain ⟨⟨t239, t240, t241, t242, t243, t244, t245, t246, t247, t248⟩, A30, H⟩ := H
  replace H : ((spec_l01Next.f t235 t247 t248 2).bind fun bt251 => (some (t239, t240, t241, t242, t243, t244, t245, t246, (bt251.1 == 0)))) = some (r1, r2, r3, r4, r5, r6, r7, r8, r9) := H
  have A3 := Aside0.mk A30
  clear A30
  replace H := Option.bind_eq_some_iff.mp H
  obtain ⟨⟨t251, t252, t253⟩, A40, H⟩ := H
  replace H : (some (t239, t240, t241, t242, t243, t244, t245, t246, (t251 == 0))) = some (r1, r2, r3, r4, r5, r6, r7, r8, r9) := H
  have A4 := Aside0.mk A40
  clear A40
  simp only [Option.some.injEq, Prod.mk.injEq] at H
  obtain ⟨rfl, rfl, rfl, rfl, rfl, rfl, rfl, rfl, rfl⟩ := H
  go_enter Try.func70, Try.ntmps70
  try go_wp2_with (first | ((with_reducible refine gate_dst (N := 2) rfl ?_); refine box_event ?hg (N := 2) ?hd (cs := #[.int .i64 0, .int .i64 0, .int .i64 0, .bool false]) (t := 39) ?hr ?_; (case hd => rfl); (case hg => rfl); (case hr => first | (go_simp; done) | (go_simp; rfl)); intro gb233 hg w5 hbox hb; have n0_ := Aside0.mk (below_step (hx_ HB.out) hb); have n1_ := Aside0.mk (hbox); have n2_ := Aside0.mk ((by rw [hg]; exact (below_size (hx_ HB.out)) : w.heap.size ≤ gb233)); have n3_ := Aside0.mk ((by rw [hg]; exact (below_size (hx_ HB.out)) : w.heap.size ≤ gb233)); clear HB; have HB := n0_; have BK233 := n1_; have GW233 := n2_; have GE233 := n3_; clear n0_ n1_ n2_ n3_; clear hb hbox hg) | ((with_reducible refine gate_dst (N := 3) rfl ?_); refine box_event ?hg (N := 3) ?hd (cs := #[.int .i64 0, .int .i64 0, .int .i64 0, .int .i64 0]) (t := 41) ?hr ?_; (case hd => rfl); (case hg => rfl); (case hr => first | (go_simp; done) | (go_simp; rfl)); intro gb234 hg w6 hbox hb; have n0_ := Aside0.mk (blk_below (g := gb233) (o := .cells #[.int .i64 0, .int .i64 0, .int .i64 0, .bool false] 39 (0, 0)) (bx_ BK233.out) hb); have n1_ := Aside0.mk (below_step (hx_ HB.out) hb); have n2_ := Aside0.mk (hbox); have n3_ := Aside0.mk ((by rw [hg]; exact (below_size (hx_ HB.out)) : w.heap.size ≤ gb234)); have n4_ := Aside0.mk ((by rw [hg]; exact (below_size (hx_ HB.out)) : w.heap.size ≤ gb234)); have n5_ := Aside0.mk ((by rw [hg]; exact Nat.ne_of_lt (blk_lt (g := gb233) (o := .cells #[.int .i64 0, .int .i64 0, .int .i64 0, .bool false] 39 (0, 0)) (bx_ BK233.out)) : gb233 ≠ gb234)); have n6_ := Aside0.mk ((by rw [hg]; exact Nat.ne_of_gt (blk_lt (g := gb233) (o := .cells #[.int .i64 0, .int .i64 0, .int .i64 0, .bool false] 39 (0, 0)) (bx_ BK233.out)) : gb234 ≠ gb233)); clear BK233; clear HB; have BK233 := n0_; have HB := n1_; have BK234 := n2_; have GW234 := n3_; have GE234 := n4_; have NB233_234 := n5_; have NB234_233 := n6_; clear n0_ n1_ n2_ n3_ n4_ n5_ n6_; clear hb hbox hg) | ((with_reducible refine gate_callee (f := 113) rfl ?_); refine goesL_ (some 9) rfl rfl Try.func113 (by kernel_rfl) rfl #[.slice A0 l0.length c0] rfl (by (try simp only [List.map_toArray, List.map_cons, List.map_nil]); first | done | rfl | (simp only [List.length_drop, List.length_take]; rfl)) ?_; (with_reducible refine (spec_l01From.calls k _ _ l0 t235 t236 t237 w _ ?side1 ?side2 ?side3 A2.out).mono ?_); (case side1 => repeat (first | (with_reducible first | exact HB.out | apply below_alloc | apply pw_below_drewN | apply below_drew1 | refine below_set ?_ GE233.out | refine below_set ?_ GE234.out) | exact HB.out)); (case side2 => exact HR0.out); (case side3 => exact HC0.out); rintro e w7 ⟨g238, rfl, hi, hb, hb2⟩; refine ⟨_, rfl, ?_⟩; have n0_ := Aside0.mk (blk_below (g := gb233) (o := .cells #[.int .i64 0, .int .i64 0, .int .i64 0, .bool false] 39 (0, 0)) (bx_ BK233.out) hb2); have n1_ := Aside0.mk (blk_below (g := gb234) (o := .cells #[.int .i64 0, .int .i64 0, .int .i64 0, .int .i64 0] 41 (0, 0)) (bx_ BK234.out) hb2); have n2_ := Aside0.mk (hb); have n3_ := Aside0.mk (hi); have n4_ := Aside0.mk (IsS142.ne_blk hi (blk_below (g := gb233) (o := .cells #[.int .i64 0, .int .i64 0, .int .i64 0, .bool false] 39 (0, 0)) (bx_ BK233.out) hb2) (by decide)); have n5_ := Aside0.mk (Ne.symm (IsS142.ne_blk hi (blk_below (g := gb233) (o := .cells #[.int .i64 0, .int .i64 0, .int .i64 0, .bool false] 39 (0, 0)) (bx_ BK233.out) hb2) (by decide))); have n6_ := Aside0.mk (IsS142.ne_blk hi (blk_below (g := gb234) (o := .cells #[.int .i64 0, .int .i64 0, .int .i64 0, .int .i64 0] 41 (0, 0)) (bx_ BK234.out) hb2) (by decide)); have n7_ := Aside0.mk (Ne.symm (IsS142.ne_blk hi (blk_below (g := gb234) (o := .cells #[.int .i64 0, .int .i64 0, .int .i64 0, .int .i64 0] 41 (0, 0)) (bx_ BK234.out) hb2) (by decide))); clear BK233; clear BK234; clear HB; have BK233 := n0_; have BK234 := n1_; have HB := n2_; have HI238 := n3_; have NB238_233 := n4_; have NB233_238 := n5_; have NB238_234 := n6_; have NB234_238 := n7_; clear n0_ n1_ n2_ n3_ n4_ n5_ n6_ n7_; (try clear hb); (try clear hb2); (try clear hk); (try clear hi)) | ((with_reducible refine gate_callee (f := 135) rfl ?_); refine goesL_ (some 12) rfl rfl Try.func135 (by kernel_rfl) rfl #[.pointer (some ⟨g238, 0, none⟩)] rfl (by (try simp only [List.map_toArray, List.map_cons, List.map_nil]); first | done | rfl | (simp only [List.length_drop, List.length_take]; rfl)) ?_; (with_reducible refine (spec_l08Draw.calls g238 t235 t236 t237 t239 t240 t241 t242 t243 t244 t245 t246 t247 t248 w _ ?side1 ?side2 A3.out).mono ?_); (case side1 => repeat (first | (with_reducible first | exact HI238.out | apply IsS142.alloc | apply IsS142.drewN | apply IsS142.drew | apply IsS142.set_1 | apply IsS142.set_2 | refine IsS142.far ?_ NB238_233.out _ | refine IsS142.far ?_ NB238_234.out _) | exact HI238.out)); (case side2 => repeat (first | (with_reducible first | exact HB.out | apply below_alloc | apply pw_below_drewN | apply below_drew1 | refine below_set ?_ (IsS142.ge HI238.out) | refine below_set ?_ GE233.out | refine below_set ?_ GE234.out) | exact HB.out)); rintro e w8 ⟨rfl, hi, hb, hk⟩; refine ⟨_, rfl, ?_⟩; have n0_ := Aside0.mk (KeepBut.blk hk (g' := gb233) (o := .cells #[.int .i64 0, .int .i64 0, .int .i64 0, .bool false] 39 (0, 0)) (bx_ BK233.out) NB233_238.out (by simp)); have n1_ := Aside0.mk (KeepBut.blk hk (g' := gb234) (o := .cells #[.int .i64 0, .int .i64 0, .int .i64 0, .int .i64 0] 41 (0, 0)) (bx_ BK234.out) NB234_238.out (by simp)); have n2_ := Aside0.mk (hb); have n3_ := Aside0.mk (hi); clear BK233; clear BK234; clear HB; clear HI238; have BK233 := n0_; have BK234 := n1_; have HB := n2_; have HI238 := n3_; clear n0_ n1_ n2_ n3_; (try clear hb); (try clear hb2); (try clear hk); (try clear hi)) | ((with_reducible refine gate_dst (N := 6) rfl ?_); refine box_event ?hg (N := 6) ?hd (cs := #[.int .i64 0, .int .i64 0, .int .i64 0, .bool false]) (t := 39) ?hr ?_; (case hd => rfl); (case hg => rfl); (case hr => first | (go_simp; done) | (go_simp; rfl)); intro gb249 hg w9 hbox hb; have n0_ := Aside0.mk (blk_below (g := gb233) (o := .cells #[.int .i64 0, .int .i64 0, .int .i64 0, .bool false] 39 (0, 0)) (bx_ BK233.out) hb); have n1_ := Aside0.mk (blk_below (g := gb234) (o := .cells #[.int .i64 0, .int .i64 0, .int .i64 0, .int .i64 0] 41 (0, 0)) (bx_ BK234.out) hb); have n2_ := Aside0.mk (IsS142.below (ix_ HI238.out) hb); have n3_ := Aside0.mk (below_step (hx_ HB.out) hb); have n4_ := Aside0.mk (hbox); have n5_ := Aside0.mk ((by rw [hg]; exact (below_size (hx_ HB.out)) : w.heap.size ≤ gb249)); have n6_ := Aside0.mk ((by rw [hg]; exact (below_size (hx_ HB.out)) : w.heap.size ≤ gb249)); have n7_ := Aside0.mk ((by rw [hg]; exact Nat.ne_of_lt (blk_lt (g := gb233) (o := .cells #[.int .i64 0, .int .i64 0, .int .i64 0, .bool false] 39 (0, 0)) (bx_ BK233.out)) : gb233 ≠ gb249)); have n8_ := Aside0.mk ((by rw [hg]; exact Nat.ne_of_gt (blk_lt (g := gb233) (o := .cells #[.int .i64 0, .int .i64 0, .int .i64 0, .bool false] 39 (0, 0)) (bx_ BK233.out)) : gb249 ≠ gb233)); have n9_ := Aside0.mk ((by rw [hg]; exact Nat.ne_of_lt (blk_lt (g := gb234) (o := .cells #[.int .i64 0, .int .i64 0, .int .i64 0, .int .i64 0] 41 (0, 0)) (bx_ BK234.out)) : gb234 ≠ gb249)); have n10_ := Aside0.mk ((by rw [hg]; exact Nat.ne_of_gt (blk_lt (g := gb234) (o := .cells #[.int .i64 0, .int .i64 0, .int .i64 0, .int .i64 0] 41 (0, 0)) (bx_ BK234.out)) : gb249 ≠ gb234)); have n11_ := Aside0.mk ((by rw [hg]; exact Nat.ne_of_lt (IsS142.lt (show IsS142 w _ g238 t235 t247 t248 from ix_ HI238.out)) : g238 ≠ gb249)); have n12_ := Aside0.mk ((by rw [hg]; exact Nat.ne_of_gt (IsS142.lt (show IsS142 w _ g238 t235 t247 t248 from ix_ HI238.out)) : gb249 ≠ g238)); clear BK233; clear BK234; clear HI238; clear HB; have BK233 := n0_; have BK234 := n1_; have HI238 := n2_; have HB := n3_; have BK249 := n4_; have GW249 := n5_; have GE249 := n6_; have NB233_249 := n7_; have NB249_233 := n8_; have NB234_249 := n9_; have NB249_234 := n10_; have NB238_249 := n11_; have NB249_238 := n12_; clear n0_ n1_ n2_ n3_ n4_ n5_ n6_ n7_ n8_ n9_ n10_ n11_ n12_; clear hb hbox hg) | ((with_reducible refine gate_dst (N := 7) rfl ?_); refine box_event ?hg (N := 7) ?hd (cs := #[.int .i64 0, .int .i64 0, .int .i64 0, .int .i64 0]) (t := 41) ?hr ?_; (case hd => rfl); (case hg => rfl); (case hr => first | (go_simp; done) | (go_simp; rfl)); intro gb250 hg w10 hbox hb; have n0_ := Aside0.mk (blk_below (g := gb233) (o := .cells #[.int .i64 0, .int .i64 0, .int .i64 0, .bool false] 39 (0, 0)) (bx_ BK233.out) hb); have n1_ := Aside0.mk (blk_below (g := gb234) (o := .cells #[.int .i64 0, .int .i64 0, .int .i64 0, .int .i64 0] 41 (0, 0)) (bx_ BK234.out) hb); have n2_ := Aside0.mk (IsS142.below (ix_ HI238.out) hb); have n3_ := Aside0.mk (blk_below (g := gb249) (o := .cells #[.int .i64 0, .int .i64 0, .int .i64 0, .bool false] 39 (0, 0)) (bx_ BK249.out) hb); have n4_ := Aside0.mk (below_step (hx_ HB.out) hb); have n5_ := Aside0.mk (hbox); have n6_ := Aside0.mk ((by rw [hg]; exact (below_size (hx_ HB.out)) : w.heap.size ≤ gb250)); have n7_ := Aside0.mk ((by rw [hg]; exact (below_size (hx_ HB.out)) : w.heap.size ≤ gb250)); have n8_ := Aside0.mk ((by rw [hg]; exact Nat.ne_of_lt (blk_lt (g := gb233) (o := .cells #[.int .i64 0, .int .i64 0, .int .i64 0, .bool false] 39 (0, 0)) (bx_ BK233.out)) : gb233 ≠ gb250)); have n9_ := Aside0.mk ((by rw [hg]; exact Nat.ne_of_gt (blk_lt (g := gb233) (o := .cells #[.int .i64 0, .int .i64 0, .int .i64 0, .bool false] 39 (0, 0)) (bx_ BK233.out)) : gb250 ≠ gb233)); have n10_ := Aside0.mk ((by rw [hg]; exact Nat.ne_of_lt (blk_lt (g := gb234) (o := .cells #[.int .i64 0, .int .i64 0, .int .i64 0, .int .i64 0] 41 (0, 0)) (bx_ BK234.out)) : gb234 ≠ gb250)); have n11_ := Aside0.mk ((by rw [hg]; exact Nat.ne_of_gt (blk_lt (g := gb234) (o := .cells #[.int .i64 0, .int .i64 0, .int .i64 0, .int .i64 0] 41 (0, 0)) (bx_ BK234.out)) : gb250 ≠ gb234)); have n12_ := Aside0.mk ((by rw [hg]; exact Nat.ne_of_lt (blk_lt (g := gb249) (o := .cells #[.int .i64 0, .int .i64 0, .int .i64 0, .bool false] 39 (0, 0)) (bx_ BK249.out)) : gb249 ≠ gb250)); have n13_ := Aside0.mk ((by rw [hg]; exact Nat.ne_of_gt (blk_lt (g := gb249) (o := .cells #[.int .i64 0, .int .i64 0, .int .i64 0, .bool false] 39 (0, 0)) (bx_ BK249.out)) : gb250 ≠ gb249)); have n14_ := Aside0.mk ((by rw [hg]; exact Nat.ne_of_lt (IsS142.lt (show IsS142 w _ g238 t235 t247 t248 from ix_ HI238.out)) : g238 ≠ gb250)); have n15_ := Aside0.mk ((by rw [hg]; exact Nat.ne_of_gt (IsS142.lt (show IsS142 w _ g238 t235 t247 t248 from ix_ HI238.out)) : gb250 ≠ g238)); clear BK233; clear BK234; clear HI238; clear BK249; clear HB; have BK233 := n0_; have BK234 := n1_; have HI238 := n2_; have BK249 := n3_; have HB := n4_; have BK250 := n5_; have GW250 := n6_; have GE250 := n7_; have NB233_250 := n8_; have NB250_233 := n9_; have NB234_250 := n10_; have NB250_234 := n11_; have NB249_250 := n12_; have NB250_249 := n13_; have NB238_250 := n14_; have NB250_238 := n15_; clear n0_ n1_ n2_ n3_ n4_ n5_ n6_ n7_ n8_ n9_ n10_ n11_ n12_ n13_ n14_ n15_; clear hb hbox hg; have hnb11 := NB249_233.out; have hnc11 := NB233_249.out; have hnb12 := NB249_234.out; have hnc12 := NB234_249.out; have hnb13 := NB249_250.out; have hnc13 := NB250_249.out; have hnb14 := NB249_238.out; have hnc14 := NB238_249.out; have hcz15_0 : w10.cell? ⟨gb249, 0, none⟩ = some (.int .i64 0) := (blk_cell BK249.out 0).trans rfl; have hcz15_1 : w10.cell? ⟨gb249, 1, none⟩ = some (.int .i64 0) := (blk_cell BK249.out 1).trans rfl; have hcz15_2 : w10.cell? ⟨gb249, 2, none⟩ = some (.int .i64 0) := (blk_cell BK249.out 2).trans rfl; have hcz15_3 : w10.cell? ⟨gb249, 3, none⟩ = some (.bool false) := (blk_cell BK249.out 3).trans rfl; have hfz15_0 := blk_frozen BK249.out 0; have hfz15_1 := blk_frozen BK249.out 1; have hfz15_2 := blk_frozen BK249.out 2; have hfz15_3 := blk_frozen BK249.out 3; have hnb16 := NB250_233.out; have hnc16 := NB233_250.out; have hnb17 := NB250_234.out; have hnc17 := NB234_250.out; have hnb18 := NB250_238.out; have hnc18 := NB238_250.out; have hcz19_0 : w10.cell? ⟨gb250, 0, none⟩ = some (.int .i64 0) := (blk_cell BK250.out 0).trans rfl; have hcz19_1 : w10.cell? ⟨gb250, 1, none⟩ = some (.int .i64 0) := (blk_cell BK250.out 1).trans rfl; have hcz19_2 : w10.cell? ⟨gb250, 2, none⟩ = some (.int .i64 0) := (blk_cell BK250.out 2).trans rfl; have hcz19_3 : w10.cell? ⟨gb250, 3, none⟩ = some (.int .i64 0) := (blk_cell BK250.out 3).trans rfl; have hfz19_0 := blk_frozen BK250.out 0; have hfz19_1 := blk_frozen BK250.out 1; have hfz19_2 := blk_frozen BK250.out 2; have hfz19_3 := blk_frozen BK250.out 3))
  have n0_ : Aside0 (((((((((w10.setCell ⟨gb249, 0, none⟩ (.int .i64 t239)).setCell ⟨gb249, 1, none⟩ (.int .i64 t240)).setCell ⟨gb249, 2, none⟩ (.int .i64 t241)).setCell ⟨gb249, 3, none⟩ (.bool t242)).setCell ⟨gb250, 0, none⟩ (.int .i64 t243)).setCell ⟨gb250, 1, none⟩ (.int .i64 t244)).setCell ⟨gb250, 2, none⟩ (.int .i64 t245)).setCell ⟨gb250, 3, none⟩ (.int .i64 t246)).heap[gb233]? = some (.cells #[.int .i64 0, .int .i64 0, .int .i64 0, .bool false] 39 (0, 0))) := ⟨bx_ BK233.out⟩
  have n1_ : Aside0 (((((((((w10.setCell ⟨gb249, 0, none⟩ (.int .i64 t239)).setCell ⟨gb249, 1, none⟩ (.int .i64 t240)).setCell ⟨gb249, 2, none⟩ (.int .i64 t241)).setCell ⟨gb249, 3, none⟩ (.bool t242)).setCell ⟨gb250, 0, none⟩ (.int .i64 t243)).setCell ⟨gb250, 1, none⟩ (.int .i64 t244)).setCell ⟨gb250, 2, none⟩ (.int .i64 t245)).setCell ⟨gb250, 3, none⟩ (.int .i64 t246)).heap[gb234]? = some (.cells #[.int .i64 0, .int .i64 0, .int .i64 0, .int .i64 0] 41 (0, 0))) := ⟨bx_ BK234.out⟩
  have n2_ : Aside0 (((((((((w10.setCell ⟨gb249, 0, none⟩ (.int .i64 t239)).setCell ⟨gb249, 1, none⟩ (.int .i64 t240)).setCell ⟨gb249, 2, none⟩ (.int .i64 t241)).setCell ⟨gb249, 3, none⟩ (.bool t242)).setCell ⟨gb250, 0, none⟩ (.int .i64 t243)).setCell ⟨gb250, 1, none⟩ (.int .i64 t244)).setCell ⟨gb250, 2, none⟩ (.int .i64 t245)).setCell ⟨gb250, 3, none⟩ (.int .i64 t246)).heap[gb249]? = some (.cells #[.int .i64 t239, .int .i64 t240, .int .i64 t241, .bool t242] 39 (0, 0))) := ⟨by (with_reducible repeat (first | refine blk_drewN ?_ _ | refine blk_drew ?_ | refine blk_alloc ?_ _)); refine blk_far ?_ NB249_250.out _; (with_reducible repeat (first | refine blk_drewN ?_ _ | refine blk_drew ?_ | refine blk_alloc ?_ _)); refine blk_far ?_ NB249_250.out _; (with_reducible repeat (first | refine blk_drewN ?_ _ | refine blk_drew ?_ | refine blk_alloc ?_ _)); refine blk_far ?_ NB249_250.out _; (with_reducible repeat (first | refine blk_drewN ?_ _ | refine blk_drew ?_ | refine blk_alloc ?_ _)); refine blk_far ?_ NB249_250.out _; (with_reducible repeat (first | refine blk_drewN ?_ _ | refine blk_drew ?_ | refine blk_alloc ?_ _)); refine blk_put (cs := #[.int .i64 t239, .int .i64 t240, .int .i64 t241, .bool false]) ?_ 3 _ rfl; (with_reducible repeat (first | refine blk_drewN ?_ _ | refine blk_drew ?_ | refine blk_alloc ?_ _)); refine blk_put (cs := #[.int .i64 t239, .int .i64 t240, .int .i64 0, .bool false]) ?_ 2 _ rfl; (with_reducible repeat (first | refine blk_drewN ?_ _ | refine blk_drew ?_ | refine blk_alloc ?_ _)); refine blk_put (cs := #[.int .i64 t239, .int .i64 0, .int .i64 0, .bool false]) ?_ 1 _ rfl; (with_reducible repeat (first | refine blk_drewN ?_ _ | refine blk_drew ?_ | refine blk_alloc ?_ _)); refine blk_put (cs := #[.int .i64 0, .int .i64 0, .int .i64 0, .bool false]) ?_ 0 _ rfl; (with_reducible repeat (first | refine blk_drewN ?_ _ | refine blk_drew ?_ | refine blk_alloc ?_ _)); exact BK249.out⟩
  have n3_ : Aside0 (((((((((w10.setCell ⟨gb249, 0, none⟩ (.int .i64 t239)).setCell ⟨gb249, 1, none⟩ (.int .i64 t240)).setCell ⟨gb249, 2, none⟩ (.int .i64 t241)).setCell ⟨gb249, 3, none⟩ (.bool t242)).setCell ⟨gb250, 0, none⟩ (.int .i64 t243)).setCell ⟨gb250, 1, none⟩ (.int .i64 t244)).setCell ⟨gb250, 2, none⟩ (.int .i64 t245)).setCell ⟨gb250, 3, none⟩ (.int .i64 t246)).heap[gb250]? = some (.cells #[.int .i64 t243, .int .i64 t244, .int .i64 t245, .int .i64 t246] 41 (0, 0))) := ⟨by (with_reducible repeat (first | refine blk_drewN ?_ _ | refine blk_drew ?_ | refine blk_alloc ?_ _)); refine blk_put (cs := #[.int .i64 t243, .int .i64 t244, .int .i64 t245, .int .i64 0]) ?_ 3 _ rfl; (with_reducible repeat (first | refine blk_drewN ?_ _ | refine blk_drew ?_ | refine blk_alloc ?_ _)); refine blk_put (cs := #[.int .i64 t243, .int .i64 t244, .int .i64 0, .int .i64 0]) ?_ 2 _ rfl; (with_reducible repeat (first | refine blk_drewN ?_ _ | refine blk_drew ?_ | refine blk_alloc ?_ _)); refine blk_put (cs := #[.int .i64 t243, .int .i64 0, .int .i64 0, .int .i64 0]) ?_ 1 _ rfl; (with_reducible repeat (first | refine blk_drewN ?_ _ | refine blk_drew ?_ | refine blk_alloc ?_ _)); refine blk_put (cs := #[.int .i64 0, .int .i64 0, .int .i64 0, .int .i64 0]) ?_ 0 _ rfl; (with_reducible repeat (first | refine blk_drewN ?_ _ | refine blk_drew ?_ | refine blk_alloc ?_ _)); refine blk_far ?_ NB250_249.out _; (with_reducible repeat (first | refine blk_drewN ?_ _ | refine blk_drew ?_ | refine blk_alloc ?_ _)); refine blk_far ?_ NB250_249.out _; (with_reducible repeat (first | refine blk_drewN ?_ _ | refine blk_drew ?_ | refine blk_alloc ?_ _)); refine blk_far ?_ NB250_249.out _; (with_reducible repeat (first | refine blk_drewN ?_ _ | refine blk_drew ?_ | refine blk_alloc ?_ _)); refine blk_far ?_ NB250_249.out _; (with_reducible repeat (first | refine blk_drewN ?_ _ | refine blk_drew ?_ | refine blk_alloc ?_ _)); exact BK250.out⟩
  have n4_ : Aside0 (IsS142 w ((((((((w10.setCell ⟨gb249, 0, none⟩ (.int .i64 t239)).setCell ⟨gb249, 1, none⟩ (.int .i64 t240)).setCell ⟨gb249, 2, none⟩ (.int .i64 t241)).setCell ⟨gb249, 3, none⟩ (.bool t242)).setCell ⟨gb250, 0, none⟩ (.int .i64 t243)).setCell ⟨gb250, 1, none⟩ (.int .i64 t244)).setCell ⟨gb250, 2, none⟩ (.int .i64 t245)).setCell ⟨gb250, 3, none⟩ (.int .i64 t246)) g238 t235 t247 t248) := ⟨ix_ HI238.out⟩
  have n5_ : Aside0 (Below w.heap.size w ((((((((w10.setCell ⟨gb249, 0, none⟩ (.int .i64 t239)).setCell ⟨gb249, 1, none⟩ (.int .i64 t240)).setCell ⟨gb249, 2, none⟩ (.int .i64 t241)).setCell ⟨gb249, 3, none⟩ (.bool t242)).setCell ⟨gb250, 0, none⟩ (.int .i64 t243)).setCell ⟨gb250, 1, none⟩ (.int .i64 t244)).setCell ⟨gb250, 2, none⟩ (.int .i64 t245)).setCell ⟨gb250, 3, none⟩ (.int .i64 t246))) := ⟨hx_ HB.out⟩
  (try clear BK233)
  (try clear BK234)
  (try clear BK249)
  (try clear BK250)
  (try clear HI238)
  (try clear HB)
  generalize ((((((((w10.setCell ⟨gb249, 0, none⟩ (.int .i64 t239)).setCell ⟨gb249, 1, none⟩ (.int .i64 t240)).setCell ⟨gb249, 2, none⟩ (.int .i64 t241)).setCell ⟨gb249, 3, none⟩ (.bool t242)).setCell ⟨gb250, 0, none⟩ (.int .i64 t243)).setCell ⟨gb250, 1, none⟩ (.int .i64 t244)).setCell ⟨gb250, 2, none⟩ (.int .i64 t245)).setCell ⟨gb250, 3, none⟩ (.int .i64 t246)) = w20 at n0_ n1_ n2_ n3_ n4_ n5_ ⊢
  have BK233 := n0_
  have BK234 := n1_
  have BK249 := n2_
  have BK250 := n3_
  have HI238 := n4_
  have HB := n5_
  clear n0_ n1_ n2_ n3_ n4_ n5_
  have n0_ := Aside0.mk (blk_drew BK233.out)
  have n1_ := Aside0.mk (blk_drew BK234.out)
  have n2_ := Aside0.mk (blk_drew BK249.out)
  have n3_ := Aside0.mk (blk_drew BK250.out)
  have n4_ := Aside0.mk (IsS142.drew HI238.out)
  have n5_ := Aside0.mk (below_drew1 HB.out)
  clear BK233
  clear BK234
  clear BK249
  clear BK250
  clear HI238
  clear HB
  have BK233 := n0_
  have BK234 := n1_
  have BK249 := n2_
  have BK250 := n3_
  have HI238 := n4_
  have HB := n5_
  clear n0_ n1_ n2_ n3_ n4_ n5_
  refine start_ (n := 8) (S := fun w' => w'.cell? ⟨gb249, 0, none⟩ = some (.int .i64 t239) ∧ w'.cell? ⟨gb249, 1, none⟩ = some (.int .i64 t240) ∧ w'.cell? ⟨gb249, 2, none⟩ = some (.int .i64 t241) ∧ w'.cell? ⟨gb249, 3, none⟩ = some (.bool t242) ∧ w'.cell? ⟨gb250, 0, none⟩ = some (.int .i64 t243) ∧ w'.cell? ⟨gb250, 1, none⟩ = some (.int .i64 t244) ∧ w'.cell? ⟨gb250, 2, none⟩ = some (.int .i64 t245) ∧ w'.cell? ⟨gb250, 3, none⟩ = some (.int .i64 t246)) (ds := []) #[false, false, false, false, false, false, false, false] (by kernel_rfl) rfl rfl ⟨(blk_cell BK249.out 0).trans rfl, (blk_cell BK249.out 1).trans rfl, (blk_cell BK249.out 2).trans rfl, (blk_cell BK249.out 3).trans rfl, (blk_cell BK250.out 0).trans rfl, (blk_cell BK250.out 1).trans rfl, (blk_cell BK250.out 2).trans rfl, (blk_cell BK250.out 3).trans rfl⟩ (fun hHeld => ?_); refine with_tabW spec_DrawBestGrid.tab3 spec_DrawBestGrid.bits3 (fun HT_ HW_ => ?_)
  generalize w20.drew = w21 at BK233 BK234 BK249 BK250 HI238 HB hHeld ⊢
  refine pure_ (i := 2) (N := some 17) (v := ?_) (a' := ?_) #[false, false, true, false, false, false, false, false] rfl rfl (any_of HT_.out (by kernel_rfl)) (fun _ _ _ h => h) (Or.inl ⟨by rfl, ?_⟩) ?_ ?_
  rotate_left
  · intro w'
    go_simp
    with_reducible rfl
  rotate_left
  · simp only [Act.put, List.setIfInBounds_toArray, List.set_cons_zero, List.set_cons_succ, i64_w, i32_w]
    rfl
  refine take_ (i := 0) (N := some 15) (v := ?_) (a' := ?_) #[true, false, true, false, false, false, false, false] rfl rfl (take_ofW HT_.out HW_.out (by kernel_rfl)) (fun _ _ _ h => h) (Or.inl ⟨by rfl, ?_⟩) hHeld ?_ ?_
  rotate_left
  · rintro w' ⟨s0, s1, s2, s3, s4, s5, s6, s7⟩
    go_simp
    with_reducible rfl
  rotate_left
  · simp only [Act.put, List.setIfInBounds_toArray, List.set_cons_zero, List.set_cons_succ, i64_w, i32_w]
    rfl
  refine take_ (i := 1) (N := some 16) (v := ?_) (a' := ?_) #[true, true, true, false, false, false, false, false] rfl rfl (take_ofW HT_.out HW_.out (by kernel_rfl)) (fun _ _ _ h => h) (Or.inl ⟨by rfl, ?_⟩) hHeld ?_ ?_
  rotate_left
  · rintro w' ⟨s0, s1, s2, s3, s4, s5, s6, s7⟩
    go_simp
    with_reducible rfl
  rotate_left
  · simp only [Act.put, List.setIfInBounds_toArray, List.set_cons_zero, List.set_cons_succ, i64_w, i32_w]
    rfl
  refine one_ (i := 3) (N := some 18) #[true, true, true, true, false, false, false, false] rfl rfl (one_of HT_.out (by kernel_rfl)) (by decide) (fun K hK => ?_)
  refine goes_ Try.func115 (by kernel_rfl) rfl #[.pointer (some ⟨g238, 0, none⟩), .int .i64 2] (by rfl) rfl rfl (by (try simp only [List.map_toArray, List.map_cons, List.map_nil]); first | done | rfl | (simp only [List.length_drop, List.length_take]; rfl)) ?_
  with_reducible refine (spec_l01Next.calls g238 t235 t247 t248 2 t251 t252 t253 w _ ?side1 ?side2 A4.out).mono ?_
  (case side1 => repeat (first | (with_reducible first | exact HI238.out | apply IsS142.alloc | apply IsS142.drewN | apply IsS142.drew | apply IsS142.set_1 | apply IsS142.set_2 | refine IsS142.far ?_ NB238_233.out _ | refine IsS142.far ?_ NB238_234.out _ | refine IsS142.far ?_ NB238_249.out _ | refine IsS142.far ?_ NB238_250.out _) | exact HI238.out))
  (case side2 => repeat (first | (with_reducible first | exact HB.out | apply below_alloc | apply pw_below_drewN | apply below_drew1 | refine below_set ?_ (IsS142.ge HI238.out) | refine below_set ?_ GE233.out | refine below_set ?_ GE234.out | refine below_set ?_ GE249.out | refine below_set ?_ GE250.out) | exact HB.out))
  rintro e w22 ⟨rfl, hi, hb, hk⟩
  refine ⟨_, rfl, ?_⟩
  have n0_ := Aside0.mk (KeepBut.blk hk (g' := gb233) (o := .cells #[.int .i64 0, .int .i64 0, .int .i64 0, .bool false] 39 (0, 0)) (bx_ BK233.out) NB233_238.out (by simp))
  have n1_ := Aside0.mk (KeepBut.blk hk (g' := gb234) (o := .cells #[.int .i64 0, .int .i64 0, .int .i64 0, .int .i64 0] 41 (0, 0)) (bx_ BK234.out) NB234_238.out (by simp))
  have n2_ := Aside0.mk (KeepBut.blk hk (g' := gb249) (o := .cells #[.int .i64 t239, .int .i64 t240, .int .i64 t241, .bool t242] 39 (0, 0)) (bx_ BK249.out) NB249_238.out (by simp))
  have n3_ := Aside0.mk (KeepBut.blk hk (g' := gb250) (o := .cells #[.int .i64 t243, .int .i64 t244, .int .i64 t245, .int .i64 t246] 41 (0, 0)) (bx_ BK250.out) NB250_238.out (by simp))
  have n4_ := Aside0.mk (hb)
  have n5_ := Aside0.mk (hi)
  clear BK233
  clear BK234
  clear BK249
  clear BK250
  clear HB
  clear HI238
  have BK233 := n0_
  have BK234 := n1_
  have BK249 := n2_
  have BK250 := n3_
  have HB := n4_
  have HI238 := n5_
  clear n0_ n1_ n2_ n3_ n4_ n5_
  (try clear hb)
  (try clear hb2)
  (try clear hk)
  (try clear hi)
  refine hK.out _ _ ⟨(blk_cell BK249.out 0).trans rfl, (blk_cell BK249.out 1).trans rfl, (blk_cell BK249.out 2).trans rfl, (blk_cell BK249.out 3).trans rfl, (blk_cell BK250.out 0).trans rfl, (blk_cell BK250.out 1).trans rfl, (blk_cell BK250.out 2).trans rfl, (blk_cell BK250.out 3).trans rfl⟩ (fun hHeld => ?_)
  clear hK K
  refine norm_ (a' := ?_) ?_ ?_
  rotate_left
  · show Act.put _ (some 18) _ = _
    simp only [Act.put, List.setIfInBounds_toArray, List.set_cons_zero, List.set_cons_succ, i64_w, i32_w]
    rfl
  refine pure_ (i := 4) (N := some 19) (v := ?_) (a' := ?_) #[true, true, true, true, true, false, false, false] rfl rfl (any_of HT_.out (by kernel_rfl)) (fun _ _ _ h => h) (Or.inl ⟨by rfl, ?_⟩) ?_ ?_
  rotate_left
  · intro w'
    go_simp
    with_reducible rfl
  rotate_left
  · simp only [Act.put, List.setIfInBounds_toArray, List.set_cons_zero, List.set_cons_succ, i64_w, i32_w]
    rfl
  refine one_ (i := 5) (N := none) #[true, true, true, true, true, true, false, false] rfl rfl (one_of HT_.out (by kernel_rfl)) (by decide) (fun K hK => ?_)
  have hs23 : w22.cell? ⟨gb233, 0, none⟩ = some (.int .i64 0) := (blk_cell BK233.out 0).trans rfl
  have hfs23 := blk_frozen BK233.out 0
  have hns23_1 := NB234_233.out
  have hns23_2 := NB249_233.out
  have hns23_3 := NB250_233.out
  have hms23_1 := NB233_234.out
  have hms23_2 := NB233_249.out
  have hms23_3 := NB233_250.out
  have hs24 : w22.cell? ⟨gb233, 1, none⟩ = some (.int .i64 0) := (blk_cell BK233.out 1).trans rfl
  have hfs24 := blk_frozen BK233.out 1
  have hns24_1 := NB234_233.out
  have hns24_2 := NB249_233.out
  have hns24_3 := NB250_233.out
  have hms24_1 := NB233_234.out
  have hms24_2 := NB233_249.out
  have hms24_3 := NB233_250.out
  have hs25 : w22.cell? ⟨gb233, 2, none⟩ = some (.int .i64 0) := (blk_cell BK233.out 2).trans rfl
  have hfs25 := blk_frozen BK233.out 2
  have hns25_1 := NB234_233.out
  have hns25_2 := NB249_233.out
  have hns25_3 := NB250_233.out
  have hms25_1 := NB233_234.out
  have hms25_2 := NB233_249.out
  have hms25_3 := NB233_250.out
  have hs26 : w22.cell? ⟨gb233, 3, none⟩ = some (.bool false) := (blk_cell BK233.out 3).trans rfl
  have hfs26 := blk_frozen BK233.out 3
  have hns26_1 := NB234_233.out
  have hns26_2 := NB249_233.out
  have hns26_3 := NB250_233.out
  have hms26_1 := NB233_234.out
  have hms26_2 := NB233_249.out
  have hms26_3 := NB233_250.out
  refine skip_ (w1 := ?_) (by rfl) rfl ?_ ?_
  rotate_left
  · go_simp
    rfl
  refine hK.out _ _ ⟨((cell_far (p := ⟨gb233, _, none⟩) NB249_233.out _).trans (((cell_far (p := ⟨gb233, _, none⟩) NB249_233.out _).trans (((cell_far (p := ⟨gb233, _, none⟩) NB249_233.out _).trans (((cell_far (p := ⟨gb233, _, none⟩) NB249_233.out _).trans (hHeld.1)))))))), ((cell_far (p := ⟨gb233, _, none⟩) NB249_233.out _).trans (((cell_far (p := ⟨gb233, _, none⟩) NB249_233.out _).trans (((cell_far (p := ⟨gb233, _, none⟩) NB249_233.out _).trans (((cell_far (p := ⟨gb233, _, none⟩) NB249_233.out _).trans (hHeld.2.1)))))))), ((cell_far (p := ⟨gb233, _, none⟩) NB249_233.out _).trans (((cell_far (p := ⟨gb233, _, none⟩) NB249_233.out _).trans (((cell_far (p := ⟨gb233, _, none⟩) NB249_233.out _).trans (((cell_far (p := ⟨gb233, _, none⟩) NB249_233.out _).trans (hHeld.2.2.1)))))))), ((cell_far (p := ⟨gb233, _, none⟩) NB249_233.out _).trans (((cell_far (p := ⟨gb233, _, none⟩) NB249_233.out _).trans (((cell_far (p := ⟨gb233, _, none⟩) NB249_233.out _).trans (((cell_far (p := ⟨gb233, _, none⟩) NB249_233.out _).trans (hHeld.2.2.2.1)))))))), ((cell_far (p := ⟨gb233, _, none⟩) NB250_233.out _).trans (((cell_far (p := ⟨gb233, _, none⟩) NB250_233.out _).trans (((cell_far (p := ⟨gb233, _, none⟩) NB250_233.out _).trans (((cell_far (p := ⟨gb233, _, none⟩) NB250_233.out _).trans (hHeld.2.2.2.2.1)))))))), ((cell_far (p := ⟨gb233, _, none⟩) NB250_233.out _).trans (((cell_far (p := ⟨gb233, _, none⟩) NB250_233.out _).trans (((cell_far (p := ⟨gb233, _, none⟩) NB250_233.out _).trans (((cell_far (p := ⟨gb233, _, none⟩) NB250_233.out _).trans (hHeld.2.2.2.2.2.1)))))))), ((cell_far (p := ⟨gb233, _, none⟩) NB250_233.out _).trans (((cell_far (p := ⟨gb233, _, none⟩) NB250_233.out _).trans (((cell_far (p := ⟨gb233, _, none⟩) NB250_233.out _).trans (((cell_far (p := ⟨gb233, _, none⟩) NB250_233.out _).trans (hHeld.2.2.2.2.2.2.1)))))))), ((cell_far (p := ⟨gb233, _, none⟩) NB250_233.out _).trans (((cell_far (p := ⟨gb233, _, none⟩) NB250_233.out _).trans (((cell_far (p := ⟨gb233, _, none⟩) NB250_233.out _).trans (((cell_far (p := ⟨gb233, _, none⟩) NB250_233.out _).trans (hHeld.2.2.2.2.2.2.2))))))))⟩ (fun hHeld => ?_)
  clear hK K
  refine one_ (i := 6) (N := none) #[true, true, true, true, true, true, true, false] rfl rfl (one_of HT_.out (by kernel_rfl)) (by decide) (fun K hK => ?_)
  have hs27 : w22.cell? ⟨gb234, 0, none⟩ = some (.int .i64 0) := (blk_cell BK234.out 0).trans rfl
  have hfs27 := blk_frozen BK234.out 0
  have hns27_0 := NB233_234.out
  have hns27_2 := NB249_234.out
  have hns27_3 := NB250_234.out
  have hms27_0 := NB234_233.out
  have hms27_2 := NB234_249.out
  have hms27_3 := NB234_250.out
  have hs28 : w22.cell? ⟨gb234, 1, none⟩ = some (.int .i64 0) := (blk_cell BK234.out 1).trans rfl
  have hfs28 := blk_frozen BK234.out 1
  have hns28_0 := NB233_234.out
  have hns28_2 := NB249_234.out
  have hns28_3 := NB250_234.out
  have hms28_0 := NB234_233.out
  have hms28_2 := NB234_249.out
  have hms28_3 := NB234_250.out
  have hs29 : w22.cell? ⟨gb234, 2, none⟩ = some (.int .i64 0) := (blk_cell BK234.out 2).trans rfl
  have hfs29 := blk_frozen BK234.out 2
  have hns29_0 := NB233_234.out
  have hns29_2 := NB249_234.out
  have hns29_3 := NB250_234.out
  have hms29_0 := NB234_233.out
  have hms29_2 := NB234_249.out
  have hms29_3 := NB234_250.out
  have hs30 : w22.cell? ⟨gb234, 3, none⟩ = some (.int .i64 0) := (blk_cell BK234.out 3).trans rfl
  have hfs30 := blk_frozen BK234.out 3
  have hns30_0 := NB233_234.out
  have hns30_2 := NB249_234.out
  have hns30_3 := NB250_234.out
  have hms30_0 := NB234_233.out
  have hms30_2 := NB234_249.out
  have hms30_3 := NB234_250.out
  refine skip_ (w1 := ?_) (by rfl) rfl ?_ ?_
  rotate_left
  · go_simp
    rfl
  refine hK.out _ _ ⟨((cell_far (p := ⟨gb234, _, none⟩) NB249_234.out _).trans (((cell_far (p := ⟨gb234, _, none⟩) NB249_234.out _).trans (((cell_far (p := ⟨gb234, _, none⟩) NB249_234.out _).trans (((cell_far (p := ⟨gb234, _, none⟩) NB249_234.out _).trans (hHeld.1)))))))), ((cell_far (p := ⟨gb234, _, none⟩) NB249_234.out _).trans (((cell_far (p := ⟨gb234, _, none⟩) NB249_234.out _).trans (((cell_far (p := ⟨gb234, _, none⟩) NB249_234.out _).trans (((cell_far (p := ⟨gb234, _, none⟩) NB249_234.out _).trans (hHeld.2.1)))))))), ((cell_far (p := ⟨gb234, _, none⟩) NB249_234.out _).trans (((cell_far (p := ⟨gb234, _, none⟩) NB249_234.out _).trans (((cell_far (p := ⟨gb234, _, none⟩) NB249_234.out _).trans (((cell_far (p := ⟨gb234, _, none⟩) NB249_234.out _).trans (hHeld.2.2.1)))))))), ((cell_far (p := ⟨gb234, _, none⟩) NB249_234.out _).trans (((cell_far (p := ⟨gb234, _, none⟩) NB249_234.out _).trans (((cell_far (p := ⟨gb234, _, none⟩) NB249_234.out _).trans (((cell_far (p := ⟨gb234, _, none⟩) NB249_234.out _).trans (hHeld.2.2.2.1)))))))), ((cell_far (p := ⟨gb234, _, none⟩) NB250_234.out _).trans (((cell_far (p := ⟨gb234, _, none⟩) NB250_234.out _).trans (((cell_far (p := ⟨gb234, _, none⟩) NB250_234.out _).trans (((cell_far (p := ⟨gb234, _, none⟩) NB250_234.out _).trans (hHeld.2.2.2.2.1)))))))), ((cell_far (p := ⟨gb234, _, none⟩) NB250_234.out _).trans (((cell_far (p := ⟨gb234, _, none⟩) NB250_234.out _).trans (((cell_far (p := ⟨gb234, _, none⟩) NB250_234.out _).trans (((cell_far (p := ⟨gb234, _, none⟩) NB250_234.out _).trans (hHeld.2.2.2.2.2.1)))))))), ((cell_far (p := ⟨gb234, _, none⟩) NB250_234.out _).trans (((cell_far (p := ⟨gb234, _, none⟩) NB250_234.out _).trans (((cell_far (p := ⟨gb234, _, none⟩) NB250_234.out _).trans (((cell_far (p := ⟨gb234, _, none⟩) NB250_234.out _).trans (hHeld.2.2.2.2.2.2.1)))))))), ((cell_far (p := ⟨gb234, _, none⟩) NB250_234.out _).trans (((cell_far (p := ⟨gb234, _, none⟩) NB250_234.out _).trans (((cell_far (p := ⟨gb234, _, none⟩) NB250_234.out _).trans (((cell_far (p := ⟨gb234, _, none⟩) NB250_234.out _).trans (hHeld.2.2.2.2.2.2.2))))))))⟩ (fun hHeld => ?_)
  clear hK K
  refine pure_ (i := 7) (N := some 4) (v := ?_) (a' := ?_) #[true, true, true, true, true, true, true, true] rfl rfl (any_of HT_.out (by kernel_rfl)) (fun _ _ _ h => h) (Or.inl ⟨by rfl, ?_⟩) ?_ ?_
  rotate_left
  · intro w'
    go_simp
    with_reducible rfl
  rotate_left
  · simp only [Act.put, List.setIfInBounds_toArray, List.set_cons_zero, List.set_cons_succ, i64_w, i32_w]
    rfl
  refine done_ (done_of HT_.out (by kernel_rfl)) ?_
  try go_wp2
  refine bodyPost_ret (results_list (rs := [.cell 2 39, .cell 3 41, .tmp 4]) rfl (by simp) (.cell gb233 39 #[.int .i64 t239, .int .i64 t240, .int .i64 t241, .bool t242] (0, 0) _ rfl (by (with_reducible repeat (first | refine blk_drewN ?_ _ | refine blk_drew ?_ | refine blk_alloc ?_ _)); refine blk_far ?_ NB233_234.out _; (with_reducible repeat (first | refine blk_drewN ?_ _ | refine blk_drew ?_ | refine blk_alloc ?_ _)); refine blk_far ?_ NB233_234.out _; (with_reducible repeat (first | refine blk_drewN ?_ _ | refine blk_drew ?_ | refine blk_alloc ?_ _)); refine blk_far ?_ NB233_234.out _; (with_reducible repeat (first | refine blk_drewN ?_ _ | refine blk_drew ?_ | refine blk_alloc ?_ _)); refine blk_far ?_ NB233_234.out _; (with_reducible repeat (first | refine blk_drewN ?_ _ | refine blk_drew ?_ | refine blk_alloc ?_ _)); refine blk_put (cs := #[.int .i64 t239, .int .i64 t240, .int .i64 t241, .bool false]) ?_ 3 _ rfl; (with_reducible repeat (first | refine blk_drewN ?_ _ | refine blk_drew ?_ | refine blk_alloc ?_ _)); refine blk_put (cs := #[.int .i64 t239, .int .i64 t240, .int .i64 0, .bool false]) ?_ 2 _ rfl; (with_reducible repeat (first | refine blk_drewN ?_ _ | refine blk_drew ?_ | refine blk_alloc ?_ _)); refine blk_put (cs := #[.int .i64 t239, .int .i64 0, .int .i64 0, .bool false]) ?_ 1 _ rfl; (with_reducible repeat (first | refine blk_drewN ?_ _ | refine blk_drew ?_ | refine blk_alloc ?_ _)); refine blk_put (cs := #[.int .i64 0, .int .i64 0, .int .i64 0, .bool false]) ?_ 0 _ rfl; (with_reducible repeat (first | refine blk_drewN ?_ _ | refine blk_drew ?_ | refine blk_alloc ?_ _)); exact BK233.out) Try.underlying39 rfl (by kernel_rfl) (.cell gb234 41 #[.int .i64 t243, .int .i64 t244, .int .i64 t245, .int .i64 t246] (0, 0) _ rfl (by (with_reducible repeat (first | refine blk_drewN ?_ _ | refine blk_drew ?_ | refine blk_alloc ?_ _)); refine blk_put (cs := #[.int .i64 t243, .int .i64 t244, .int .i64 t245, .int .i64 0]) ?_ 3 _ rfl; (with_reducible repeat (first | refine blk_drewN ?_ _ | refine blk_drew ?_ | refine blk_alloc ?_ _)); refine blk_put (cs := #[.int .i64 t243, .int .i64 t244, .int .i64 0, .int .i64 0]) ?_ 2 _ rfl; (with_reducible repeat (first | refine blk_drewN ?_ _ | refine blk_drew ?_ | refine blk_alloc ?_ _)); refine blk_put (cs := #[.int .i64 t243, .int .i64 0, .int .i64 0, .int .i64 0]) ?_ 1 _ rfl; (with_reducible repeat (first | refine blk_drewN ?_ _ | refine blk_drew ?_ | refine blk_alloc ?_ _)); refine blk_put (cs := #[.int .i64 0, .int .i64 0, .int .i64 0, .int .i64 0]) ?_ 0 _ rfl; (with_reducible repeat (first | refine blk_drewN ?_ _ | refine blk_drew ?_ | refine blk_alloc ?_ _)); refine blk_far ?_ NB234_233.out _; (with_reducible repeat (first | refine blk_drewN ?_ _ | refine blk_drew ?_ | refine blk_alloc ?_ _)); refine blk_far ?_ NB234_233.out _; (with_reducible repeat (first | refine blk_drewN ?_ _ | refine blk_drew ?_ | refine blk_alloc ?_ _)); refine blk_far ?_ NB234_233.out _; (with_reducible repeat (first | refine blk_drewN ?_ _ | refine blk_drew ?_ | refine blk_alloc ?_ _)); refine blk_far ?_ NB234_233.out _; (with_reducible repeat (first | refine blk_drewN ?_ _ | refine blk_drew ?_ | refine blk_alloc ?_ _)); exact BK234.out) Try.underlying41 rfl (by kernel_rfl) (.tmp .nil)))) rfl ?_
  exact ⟨by first | rfl | (simp [errW_none, errW_some] <;> rfl) | (simp [*, errW_none, errW_some] <;> rfl), hx_ HB.out⟩

/-! ### impl_turnedTrim: function 149 -/
def impl_turnedTrim.f (a0_0 : Int) (a0_1 : Int) (a0_2 : Int) (a0_3 : Int) : Option (Int × Int × Int × Int) := some (a0_1, a0_0, a0_2, a0_3)
set_option maxHeartbeats 8000000 in
set_option maxRecDepth 100000 in
theorem impl_turnedTrim.calls (a0_0 : Int) (a0_1 : Int) (a0_2 : Int) (a0_3 : Int) (r1 : Int) (r2 : Int) (r3 : Int) (r4 : Int) (w : World) (h : impl_turnedTrim.f a0_0 a0_1 a0_2 a0_3 = some (r1, r2, r3, r4)) :
    Calls Try.prog 149 #[.agg #[.int .i64 a0_0, .int .i64 a0_1, .int .i64 a0_2, .int .i64 a0_3]] w fun e w' => e = .returned (.agg #[.int .i64 r1, .int .i64 r2, .int .i64 r3, .int .i64 r4]) ∧ Below w.heap.size w w' := by
  have hu41 := Try.underlying41
  have HB := Aside0.mk (Below.refl w.heap.size w)
  have H : (some (a0_1, a0_0, a0_2, a0_3)) = some (r1, r2, r3, r4) := h
  clear h
  simp only [Option.some.injEq, Prod.mk.injEq] at H
  obtain ⟨rfl, rfl, rfl, rfl⟩ := H
  go_enter Try.func149, Try.ntmps149
  go_wp2_with (first | ((with_reducible refine gate_dst (N := 1) rfl ?_); refine box_event ?hg (N := 1) ?hd (cs := #[.int .i64 a0_0, .int .i64 a0_1, .int .i64 a0_2, .int .i64 a0_3]) (t := 41) ?hr ?_; (case hd => rfl); (case hg => rfl); (case hr => first | (go_simp; done) | (go_simp; rfl)); intro gb254 hg w2 hbox hb; have n0_ := Aside0.mk (below_step (hx_ HB.out) hb); have n1_ := Aside0.mk (hbox); have n2_ := Aside0.mk ((by rw [hg]; exact (below_size (hx_ HB.out)) : w.heap.size ≤ gb254)); have n3_ := Aside0.mk ((by rw [hg]; exact (below_size (hx_ HB.out)) : w.heap.size ≤ gb254)); clear HB; have HB := n0_; have BK254 := n1_; have GW254 := n2_; have GE254 := n3_; clear n0_ n1_ n2_ n3_; clear hb hbox hg) | ((with_reducible refine gate_dst (N := 2) rfl ?_); refine box_event ?hg (N := 2) ?hd (cs := #[.int .i64 0, .int .i64 0, .int .i64 0, .int .i64 0]) (t := 41) ?hr ?_; (case hd => rfl); (case hg => rfl); (case hr => first | (go_simp; done) | (go_simp; rfl)); intro gb255 hg w3 hbox hb; have n0_ := Aside0.mk (blk_below (g := gb254) (o := .cells #[.int .i64 a0_0, .int .i64 a0_1, .int .i64 a0_2, .int .i64 a0_3] 41 (0, 0)) (bx_ BK254.out) hb); have n1_ := Aside0.mk (below_step (hx_ HB.out) hb); have n2_ := Aside0.mk (hbox); have n3_ := Aside0.mk ((by rw [hg]; exact (below_size (hx_ HB.out)) : w.heap.size ≤ gb255)); have n4_ := Aside0.mk ((by rw [hg]; exact (below_size (hx_ HB.out)) : w.heap.size ≤ gb255)); have n5_ := Aside0.mk ((by rw [hg]; exact Nat.ne_of_lt (blk_lt (g := gb254) (o := .cells #[.int .i64 a0_0, .int .i64 a0_1, .int .i64 a0_2, .int .i64 a0_3] 41 (0, 0)) (bx_ BK254.out)) : gb254 ≠ gb255)); have n6_ := Aside0.mk ((by rw [hg]; exact Nat.ne_of_gt (blk_lt (g := gb254) (o := .cells #[.int .i64 a0_0, .int .i64 a0_1, .int .i64 a0_2, .int .i64 a0_3] 41 (0, 0)) (bx_ BK254.out)) : gb255 ≠ gb254)); clear BK254; clear HB; have BK254 := n0_; have HB := n1_; have BK255 := n2_; have GW255 := n3_; have GE255 := n4_; have NB254_255 := n5_; have NB255_254 := n6_; clear n0_ n1_ n2_ n3_ n4_ n5_ n6_; clear hb hbox hg; have hnb4 := NB254_255.out; have hnc4 := NB255_254.out; have hcz5_0 : w3.cell? ⟨gb254, 0, none⟩ = some (.int .i64 a0_0) := (blk_cell BK254.out 0).trans rfl; have hcz5_1 : w3.cell? ⟨gb254, 1, none⟩ = some (.int .i64 a0_1) := (blk_cell BK254.out 1).trans rfl; have hcz5_2 : w3.cell? ⟨gb254, 2, none⟩ = some (.int .i64 a0_2) := (blk_cell BK254.out 2).trans rfl; have hcz5_3 : w3.cell? ⟨gb254, 3, none⟩ = some (.int .i64 a0_3) := (blk_cell BK254.out 3).trans rfl; have hfz5_0 := blk_frozen BK254.out 0; have hfz5_1 := blk_frozen BK254.out 1; have hfz5_2 := blk_frozen BK254.out 2; have hfz5_3 := blk_frozen BK254.out 3; have hcz6_0 : w3.cell? ⟨gb255, 0, none⟩ = some (.int .i64 0) := (blk_cell BK255.out 0).trans rfl; have hcz6_1 : w3.cell? ⟨gb255, 1, none⟩ = some (.int .i64 0) := (blk_cell BK255.out 1).trans rfl; have hcz6_2 : w3.cell? ⟨gb255, 2, none⟩ = some (.int .i64 0) := (blk_cell BK255.out 2).trans rfl; have hcz6_3 : w3.cell? ⟨gb255, 3, none⟩ = some (.int .i64 0) := (blk_cell BK255.out 3).trans rfl; have hfz6_0 := blk_frozen BK255.out 0; have hfz6_1 := blk_frozen BK255.out 1; have hfz6_2 := blk_frozen BK255.out 2; have hfz6_3 := blk_frozen BK255.out 3))
  refine bodyPost_ret (results_cell_row rfl _ _ gb255 41 #[.int .i64 a0_1, .int .i64 a0_0, .int .i64 a0_2, .int .i64 a0_3] (0, 0) _ rfl (by (with_reducible repeat (first | refine blk_drewN ?_ _ | refine blk_drew ?_ | refine blk_alloc ?_ _)); refine blk_put (cs := #[.int .i64 a0_1, .int .i64 a0_0, .int .i64 a0_2, .int .i64 0]) ?_ 3 _ rfl; (with_reducible repeat (first | refine blk_drewN ?_ _ | refine blk_drew ?_ | refine blk_alloc ?_ _)); refine blk_put (cs := #[.int .i64 a0_1, .int .i64 a0_0, .int .i64 0, .int .i64 0]) ?_ 2 _ rfl; (with_reducible repeat (first | refine blk_drewN ?_ _ | refine blk_drew ?_ | refine blk_alloc ?_ _)); refine blk_put (cs := #[.int .i64 a0_1, .int .i64 0, .int .i64 0, .int .i64 0]) ?_ 1 _ rfl; (with_reducible repeat (first | refine blk_drewN ?_ _ | refine blk_drew ?_ | refine blk_alloc ?_ _)); refine blk_put (cs := #[.int .i64 0, .int .i64 0, .int .i64 0, .int .i64 0]) ?_ 0 _ rfl; (with_reducible repeat (first | refine blk_drewN ?_ _ | refine blk_drew ?_ | refine blk_alloc ?_ _)); exact BK255.out) Try.underlying41 rfl (by kernel_rfl)) rfl ?_
  exact ⟨by first | rfl | (simp [errW_none, errW_some] <;> rfl) | (simp [*, errW_none, errW_some] <;> rfl), hx_ HB.out⟩

end Go.Proofs.Ythapadejldlmfaa.PFnBestGrids
