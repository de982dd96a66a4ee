-- Written by wip/inject.py: a contract of each function that the law reaches; those of the stand-ins are proved in this seat's Hand texts
import Derived.Test.YthapadejldlmfaaPFnBestGridsx0
import Derived.Test.YthapadejldlmfaaPFnBestGridsx4
import Derived.Test.YthapadejldlmfaaPFnBestGridsx5
import Derived.Test.YthapadejldlmfaaPFnBestGridsx9
namespace Go.Proofs.Ythapadejldlmfaa.PFnBestGrids
open Go.RowKit Go.Proofs.YthapadejldlmfaaW.PrintWords Go.Proofs.YthapadejldlmfaaW.PrintLast Go.Proofs.YthapadejldlmfaaW.PrintMore
attribute [local go_sem] max2_int min2_int max_two min_two max_three min_three max_four min_four   -- for this text's walks alone
set_option linter.unusedVariables false
set_option linter.unusedSimpArgs false

/-! ### spec_TurnTrim: function 74 -/
def spec_TurnTrim.f (a0_0 : Int) (a0_1 : Int) (a0_2 : Int) (a0_3 : Int) : Option (Int × Int × Int × Int × Int) := (spec_IsTrim.f a0_0 a0_1 a0_2 a0_3).bind fun t305 => (if t305 = true then ((spec_l08Turn.f a0_0 a0_1 a0_2 a0_3).bind fun bt306 => (some (bt306.1, bt306.2.1, bt306.2.2.1, bt306.2.2.2, 0))) else (some (0, 0, 0, 0, 1)))
set_option maxHeartbeats 8000000 in
set_option maxRecDepth 100000 in
theorem spec_TurnTrim.calls (a0_0 : Int) (a0_1 : Int) (a0_2 : Int) (a0_3 : Int) (r1 : Int) (r2 : Int) (r3 : Int) (r4 : Int) (r5 : Int) (w : World) (h : spec_TurnTrim.f a0_0 a0_1 a0_2 a0_3 = some (r1, r2, r3, r4, r5)) :
    Calls Try.prog 74 #[.agg #[.int .i64 a0_0, .int .i64 a0_1, .int .i64 a0_2, .int .i64 a0_3]] w fun e w' => e = .returned (.tuple #[.agg #[.int .i64 r1, .int .i64 r2, .int .i64 r3, .int .i64 r4], .int .i64 r5]) ∧ Below w.heap.size w w' := by
  have hu41 := Try.underlying41
  have HB := Aside0.mk (Below.refl w.heap.size w)
  have H : ((spec_IsTrim.f a0_0 a0_1 a0_2 a0_3).bind fun t305 => (if t305 = true then ((spec_l08Turn.f a0_0 a0_1 a0_2 a0_3).bind fun bt306 => (some (bt306.1, bt306.2.1, bt306.2.2.1, bt306.2.2.2, 0))) else (some (0, 0, 0, 0, 1)))) = some (r1, r2, r3, r4, r5) := h
  clear h
  replace H := Option.bind_eq_some_iff.mp H
  obtain ⟨t305, A20, H⟩ := H
  replace H : (if t305 = true then ((spec_l08Turn.f a0_0 a0_1 a0_2 a0_3).bind fun bt306 => (some (bt306.1, bt306.2.1, bt306.2.2.1, bt306.2.2.2, 0))) else (some (0, 0, 0, 0, 1))) = some (r1, r2, r3, r4, r5) := H
  have A2 := Aside0.mk A20
  clear A20
  by_cases c3 : t305 = true
  · subst c3
    have H1 : ((spec_l08Turn.f a0_0 a0_1 a0_2 a0_3).bind fun bt306 => (some (bt306.1, bt306.2.1, bt306.2.2.1, bt306.2.2.2, 0))) = some (r1, r2, r3, r4, r5) := by rw [if_pos rfl] at H; exact H
    clear H
    have H := H1
    clear H1
    replace H := Option.bind_eq_some_iff.mp H
    obtain ⟨⟨t306, t307, t308, t309⟩, A40, H⟩ := H
    replace H : (some (t306, t307, t308, t309, 0)) = some (r1, r2, r3, r4, r5) := H
    have A4 := Aside0.mk A40
    clear A40
    simp only [Option.some.injEq, Prod.mk.injEq] at H
    obtain ⟨rfl, rfl, rfl, rfl, rfl⟩ := H
    go_enter Try.func74, Try.ntmps74
    go_wp2_with (first | ((with_reducible refine gate_dst (N := 1) rfl ?_); refine box_event ?hg (N := 1) ?hd (cs := #[.int .i64 a0_0, .int .i64 a0_1, .int .i64 a0_2, .int .i64 a0_3]) (t := 41) ?hr ?_; (case hd => rfl); (case hg => rfl); (case hr => first | (go_simp; done) | (go_simp; rfl)); intro gb303 hg w5 hbox hb; have n0_ := Aside0.mk (below_step (hx_ HB.out) hb); have n1_ := Aside0.mk (hbox); have n2_ := Aside0.mk ((by rw [hg]; exact (below_size (hx_ HB.out)) : w.heap.size ≤ gb303)); have n3_ := Aside0.mk ((by rw [hg]; exact (below_size (hx_ HB.out)) : w.heap.size ≤ gb303)); clear HB; have HB := n0_; have BK303 := n1_; have GW303 := n2_; have GE303 := n3_; clear n0_ n1_ n2_ n3_; clear hb hbox hg) | ((with_reducible refine gate_dst (N := 2) rfl ?_); refine box_event ?hg (N := 2) ?hd (cs := #[.int .i64 0, .int .i64 0, .int .i64 0, .int .i64 0]) (t := 41) ?hr ?_; (case hd => rfl); (case hg => rfl); (case hr => first | (go_simp; done) | (go_simp; rfl)); intro gb304 hg w6 hbox hb; have n0_ := Aside0.mk (blk_below (g := gb303) (o := .cells #[.int .i64 a0_0, .int .i64 a0_1, .int .i64 a0_2, .int .i64 a0_3] 41 (0, 0)) (bx_ BK303.out) hb); have n1_ := Aside0.mk (below_step (hx_ HB.out) hb); have n2_ := Aside0.mk (hbox); have n3_ := Aside0.mk ((by rw [hg]; exact (below_size (hx_ HB.out)) : w.heap.size ≤ gb304)); have n4_ := Aside0.mk ((by rw [hg]; exact (below_size (hx_ HB.out)) : w.heap.size ≤ gb304)); have n5_ := Aside0.mk ((by rw [hg]; exact Nat.ne_of_lt (blk_lt (g := gb303) (o := .cells #[.int .i64 a0_0, .int .i64 a0_1, .int .i64 a0_2, .int .i64 a0_3] 41 (0, 0)) (bx_ BK303.out)) : gb303 ≠ gb304)); have n6_ := Aside0.mk ((by rw [hg]; exact Nat.ne_of_gt (blk_lt (g := gb303) (o := .cells #[.int .i64 a0_0, .int .i64 a0_1, .int .i64 a0_2, .int .i64 a0_3] 41 (0, 0)) (bx_ BK303.out)) : gb304 ≠ gb303)); clear BK303; clear HB; have BK303 := n0_; have HB := n1_; have BK304 := n2_; have GW304 := n3_; have GE304 := n4_; have NB303_304 := n5_; have NB304_303 := n6_; clear n0_ n1_ n2_ n3_ n4_ n5_ n6_; clear hb hbox hg; have hnb7 := NB303_304.out; have hnc7 := NB304_303.out; have hcz8_0 : w6.cell? ⟨gb303, 0, none⟩ = some (.int .i64 a0_0) := (blk_cell BK303.out 0).trans rfl; have hcz8_1 : w6.cell? ⟨gb303, 1, none⟩ = some (.int .i64 a0_1) := (blk_cell BK303.out 1).trans rfl; have hcz8_2 : w6.cell? ⟨gb303, 2, none⟩ = some (.int .i64 a0_2) := (blk_cell BK303.out 2).trans rfl; have hcz8_3 : w6.cell? ⟨gb303, 3, none⟩ = some (.int .i64 a0_3) := (blk_cell BK303.out 3).trans rfl; have hfz8_0 := blk_frozen BK303.out 0; have hfz8_1 := blk_frozen BK303.out 1; have hfz8_2 := blk_frozen BK303.out 2; have hfz8_3 := blk_frozen BK303.out 3) | ((with_reducible refine gate_callee (f := 46) rfl ?_); refine goesL_ (some 5) rfl rfl Try.func46 (by kernel_rfl) rfl #[.agg #[.int .i64 a0_0, .int .i64 a0_1, .int .i64 a0_2, .int .i64 a0_3]] rfl (by (try simp only [List.map_toArray, List.map_cons, List.map_nil]); first | done | rfl | (simp only [List.length_drop, List.length_take]; rfl)) ?_; (with_reducible refine (spec_IsTrim.calls a0_0 a0_1 a0_2 a0_3 true _ A2.out).mono ?_); rintro e w9 ⟨rfl, hb⟩; refine ⟨_, rfl, ?_⟩; have n0_ := Aside0.mk (blk_below (g := gb303) (o := .cells #[.int .i64 a0_0, .int .i64 a0_1, .int .i64 a0_2, .int .i64 a0_3] 41 (0, 0)) (bx_ BK303.out) hb); have n1_ := Aside0.mk (blk_below (g := gb304) (o := .cells #[.int .i64 0, .int .i64 0, .int .i64 0, .int .i64 0] 41 (0, 0)) (bx_ BK304.out) hb); have n2_ := Aside0.mk (below_step (hx_ HB.out) hb); clear BK303; clear BK304; clear HB; have BK303 := n0_; have BK304 := n1_; have HB := n2_; clear n0_ n1_ n2_; (try clear hb); (try clear hb2); (try clear hk); (try clear hi); have hcz10_0 : w9.cell? ⟨gb303, 0, none⟩ = some (.int .i64 a0_0) := (blk_cell BK303.out 0).trans rfl; have hcz10_1 : w9.cell? ⟨gb303, 1, none⟩ = some (.int .i64 a0_1) := (blk_cell BK303.out 1).trans rfl; have hcz10_2 : w9.cell? ⟨gb303, 2, none⟩ = some (.int .i64 a0_2) := (blk_cell BK303.out 2).trans rfl; have hcz10_3 : w9.cell? ⟨gb303, 3, none⟩ = some (.int .i64 a0_3) := (blk_cell BK303.out 3).trans rfl; have hfz10_0 := blk_frozen BK303.out 0; have hfz10_1 := blk_frozen BK303.out 1; have hfz10_2 := blk_frozen BK303.out 2; have hfz10_3 := blk_frozen BK303.out 3) | ((with_reducible refine gate_callee (f := 150) rfl ?_); refine goesL_ (some 9) rfl rfl Try.func150 (by kernel_rfl) rfl #[.agg #[.int .i64 a0_0, .int .i64 a0_1, .int .i64 a0_2, .int .i64 a0_3]] rfl (by (try simp only [List.map_toArray, List.map_cons, List.map_nil]); first | done | rfl | (simp only [List.length_drop, List.length_take]; rfl)) ?_; (with_reducible refine (spec_l08Turn.calls a0_0 a0_1 a0_2 a0_3 t306 t307 t308 t309 _ A4.out).mono ?_); rintro e w11 ⟨rfl, hb⟩; refine ⟨_, rfl, ?_⟩; have n0_ := Aside0.mk (blk_below (g := gb303) (o := .cells #[.int .i64 a0_0, .int .i64 a0_1, .int .i64 a0_2, .int .i64 a0_3] 41 (0, 0)) (bx_ BK303.out) hb); have n1_ := Aside0.mk (blk_below (g := gb304) (o := .cells #[.int .i64 0, .int .i64 0, .int .i64 0, .int .i64 0] 41 (0, 0)) (bx_ BK304.out) hb); have n2_ := Aside0.mk (below_step (hx_ HB.out) hb); clear BK303; clear BK304; clear HB; have BK303 := n0_; have BK304 := n1_; have HB := n2_; clear n0_ n1_ n2_; (try clear hb); (try clear hb2); (try clear hk); (try clear hi); have hcz12_0 : w11.cell? ⟨gb304, 0, none⟩ = some (.int .i64 0) := (blk_cell BK304.out 0).trans rfl; have hcz12_1 : w11.cell? ⟨gb304, 1, none⟩ = some (.int .i64 0) := (blk_cell BK304.out 1).trans rfl; have hcz12_2 : w11.cell? ⟨gb304, 2, none⟩ = some (.int .i64 0) := (blk_cell BK304.out 2).trans rfl; have hcz12_3 : w11.cell? ⟨gb304, 3, none⟩ = some (.int .i64 0) := (blk_cell BK304.out 3).trans rfl; have hfz12_0 := blk_frozen BK304.out 0; have hfz12_1 := blk_frozen BK304.out 1; have hfz12_2 := blk_frozen BK304.out 2; have hfz12_3 := blk_frozen BK304.out 3))
    refine bodyPost_ret (results_ct rfl _ _ gb304 41 #[.int .i64 t306, .int .i64 t307, .int .i64 t308, .int .i64 t309] (0, 0) _ rfl (by (with_reducible repeat (first | refine blk_drewN ?_ _ | refine blk_drew ?_ | refine blk_alloc ?_ _)); refine blk_put (cs := #[.int .i64 t306, .int .i64 t307, .int .i64 t308, .int .i64 0]) ?_ 3 _ rfl; (with_reducible repeat (first | refine blk_drewN ?_ _ | refine blk_drew ?_ | refine blk_alloc ?_ _)); refine blk_put (cs := #[.int .i64 t306, .int .i64 t307, .int .i64 0, .int .i64 0]) ?_ 2 _ rfl; (with_reducible repeat (first | refine blk_drewN ?_ _ | refine blk_drew ?_ | refine blk_alloc ?_ _)); refine blk_put (cs := #[.int .i64 t306, .int .i64 0, .int .i64 0, .int .i64 0]) ?_ 1 _ rfl; (with_reducible repeat (first | refine blk_drewN ?_ _ | refine blk_drew ?_ | refine blk_alloc ?_ _)); refine blk_put (cs := #[.int .i64 0, .int .i64 0, .int .i64 0, .int .i64 0]) ?_ 0 _ rfl; (with_reducible repeat (first | refine blk_drewN ?_ _ | refine blk_drew ?_ | refine blk_alloc ?_ _)); exact BK304.out) Try.underlying41 rfl (by kernel_rfl)) rfl ?_
    exact ⟨by first | rfl | (simp [errW_none, errW_some] <;> rfl) | (simp [*, errW_none, errW_some] <;> rfl), hx_ HB.out⟩
  · replace c3 := Bool.eq_false_iff.mpr c3
    subst c3
    have H1 : (some (0, 0, 0, 0, 1)) = some (r1, r2, r3, r4, r5) := by rw [if_neg (show ¬ (false = true) by decide)] at H; exact H
    clear H
    have H := H1
    clear H1
    simp only [Option.some.injEq, Prod.mk.injEq] at H
    obtain ⟨rfl, rfl, rfl, rfl, rfl⟩ := H
    go_enter Try.func74, Try.ntmps74
    go_wp2_with (first | ((with_reducible refine gate_dst (N := 1) rfl ?_); refine box_event ?hg (N := 1) ?hd (cs := #[.int .i64 a0_0, .int .i64 a0_1, .int .i64 a0_2, .int .i64 a0_3]) (t := 41) ?hr ?_; (case hd => rfl); (case hg => rfl); (case hr => first | (go_simp; done) | (go_simp; rfl)); intro gb303 hg w13 hbox hb; have n0_ := Aside0.mk (below_step (hx_ HB.out) hb); have n1_ := Aside0.mk (hbox); have n2_ := Aside0.mk ((by rw [hg]; exact (below_size (hx_ HB.out)) : w.heap.size ≤ gb303)); have n3_ := Aside0.mk ((by rw [hg]; exact (below_size (hx_ HB.out)) : w.heap.size ≤ gb303)); clear HB; have HB := n0_; have BK303 := n1_; have GW303 := n2_; have GE303 := n3_; clear n0_ n1_ n2_ n3_; clear hb hbox hg) | ((with_reducible refine gate_dst (N := 2) rfl ?_); refine box_event ?hg (N := 2) ?hd (cs := #[.int .i64 0, .int .i64 0, .int .i64 0, .int .i64 0]) (t := 41) ?hr ?_; (case hd => rfl); (case hg => rfl); (case hr => first | (go_simp; done) | (go_simp; rfl)); intro gb304 hg w14 hbox hb; have n0_ := Aside0.mk (blk_below (g := gb303) (o := .cells #[.int .i64 a0_0, .int .i64 a0_1, .int .i64 a0_2, .int .i64 a0_3] 41 (0, 0)) (bx_ BK303.out) hb); have n1_ := Aside0.mk (below_step (hx_ HB.out) hb); have n2_ := Aside0.mk (hbox); have n3_ := Aside0.mk ((by rw [hg]; exact (below_size (hx_ HB.out)) : w.heap.size ≤ gb304)); have n4_ := Aside0.mk ((by rw [hg]; exact (below_size (hx_ HB.out)) : w.heap.size ≤ gb304)); have n5_ := Aside0.mk ((by rw [hg]; exact Nat.ne_of_lt (blk_lt (g := gb303) (o := .cells #[.int .i64 a0_0, .int .i64 a0_1, .int .i64 a0_2, .int .i64 a0_3] 41 (0, 0)) (bx_ BK303.out)) : gb303 ≠ gb304)); have n6_ := Aside0.mk ((by rw [hg]; exact Nat.ne_of_gt (blk_lt (g := gb303) (o := .cells #[.int .i64 a0_0, .int .i64 a0_1, .int .i64 a0_2, .int .i64 a0_3] 41 (0, 0)) (bx_ BK303.out)) : gb304 ≠ gb303)); clear BK303; clear HB; have BK303 := n0_; have HB := n1_; have BK304 := n2_; have GW304 := n3_; have GE304 := n4_; have NB303_304 := n5_; have NB304_303 := n6_; clear n0_ n1_ n2_ n3_ n4_ n5_ n6_; clear hb hbox hg; have hnb15 := NB303_304.out; have hnc15 := NB304_303.out; have hcz16_0 : w14.cell? ⟨gb303, 0, none⟩ = some (.int .i64 a0_0) := (blk_cell BK303.out 0).trans rfl; have hcz16_1 : w14.cell? ⟨gb303, 1, none⟩ = some (.int .i64 a0_1) := (blk_cell BK303.out 1).trans rfl; have hcz16_2 : w14.cell? ⟨gb303, 2, none⟩ = some (.int .i64 a0_2) := (blk_cell BK303.out 2).trans rfl; have hcz16_3 : w14.cell? ⟨gb303, 3, none⟩ = some (.int .i64 a0_3) := (blk_cell BK303.out 3).trans rfl; have hfz16_0 := blk_frozen BK303.out 0; have hfz16_1 := blk_frozen BK303.out 1; have hfz16_2 := blk_frozen BK303.out 2; have hfz16_3 := blk_frozen BK303.out 3) | ((with_reducible refine gate_callee (f := 46) rfl ?_); refine goesL_ (some 5) rfl rfl Try.func46 (by kernel_rfl) rfl #[.agg #[.int .i64 a0_0, .int .i64 a0_1, .int .i64 a0_2, .int .i64 a0_3]] rfl (by (try simp only [List.map_toArray, List.map_cons, List.map_nil]); first | done | rfl | (simp only [List.length_drop, List.length_take]; rfl)) ?_; (with_reducible refine (spec_IsTrim.calls a0_0 a0_1 a0_2 a0_3 false _ A2.out).mono ?_); rintro e w17 ⟨rfl, hb⟩; refine ⟨_, rfl, ?_⟩; have n0_ := Aside0.mk (blk_below (g := gb303) (o := .cells #[.int .i64 a0_0, .int .i64 a0_1, .int .i64 a0_2, .int .i64 a0_3] 41 (0, 0)) (bx_ BK303.out) hb); have n1_ := Aside0.mk (blk_below (g := gb304) (o := .cells #[.int .i64 0, .int .i64 0, .int .i64 0, .int .i64 0] 41 (0, 0)) (bx_ BK304.out) hb); have n2_ := Aside0.mk (below_step (hx_ HB.out) hb); clear BK303; clear BK304; clear HB; have BK303 := n0_; have BK304 := n1_; have HB := n2_; clear n0_ n1_ n2_; (try clear hb); (try clear hb2); (try clear hk); (try clear hi); have hcz18_0 : w17.cell? ⟨gb304, 0, none⟩ = some (.int .i64 0) := (blk_cell BK304.out 0).trans rfl; have hcz18_1 : w17.cell? ⟨gb304, 1, none⟩ = some (.int .i64 0) := (blk_cell BK304.out 1).trans rfl; have hcz18_2 : w17.cell? ⟨gb304, 2, none⟩ = some (.int .i64 0) := (blk_cell BK304.out 2).trans rfl; have hcz18_3 : w17.cell? ⟨gb304, 3, none⟩ = some (.int .i64 0) := (blk_cell BK304.out 3).trans rfl; have hfz18_0 := blk_frozen BK304.out 0; have hfz18_1 := blk_frozen BK304.out 1; have hfz18_2 := blk_frozen BK304.out 2; have hfz18_3 := blk_frozen BK304.out 3))
    refine bodyPost_ret (results_ct rfl _ _ gb304 41 #[.int .i64 0, .int .i64 0, .int .i64 0, .int .i64 0] (0, 0) _ rfl (by (with_reducible repeat (first | refine blk_drewN ?_ _ | refine blk_drew ?_ | refine blk_alloc ?_ _)); refine blk_put (cs := #[.int .i64 0, .int .i64 0, .int .i64 0, .int .i64 0]) ?_ 3 _ rfl; (with_reducible repeat (first | refine blk_drewN ?_ _ | refine blk_drew ?_ | refine blk_alloc ?_ _)); refine blk_put (cs := #[.int .i64 0, .int .i64 0, .int .i64 0, .int .i64 0]) ?_ 2 _ rfl; (with_reducible repeat (first | refine blk_drewN ?_ _ | refine blk_drew ?_ | refine blk_alloc ?_ _)); refine blk_put (cs := #[.int .i64 0, .int .i64 0, .int .i64 0, .int .i64 0]) ?_ 1 _ rfl; (with_reducible repeat (first | refine blk_drewN ?_ _ | refine blk_drew ?_ | refine blk_alloc ?_ _)); refine blk_put (cs := #[.int .i64 0, .int .i64 0, .int .i64 0, .int .i64 0]) ?_ 0 _ rfl; (with_reducible repeat (first | refine blk_drewN ?_ _ | refine blk_drew ?_ | refine blk_alloc ?_ _)); exact BK304.out) Try.underlying41 rfl (by kernel_rfl)) rfl ?_
    exact ⟨by first | rfl | (simp [errW_none, errW_some] <;> rfl) | (simp [*, errW_none, errW_some] <;> rfl), hx_ HB.out⟩

/-! ### spec_DrawLeastSheet: function 75 -/
def spec_DrawLeastSheet.f (k : Nat) (l0 : List Int) : Option (Int × Int × Int × Int × Int × Int × Int) := (spec_l01From.f k l0).bind fun bt311 => ((spec_l08DrawTrim.f bt311.1 bt311.2.1 bt311.2.2).bind fun bt315 => ((spec_l01Next.f bt311.1 bt315.2.2.2.2.1 bt315.2.2.2.2.2 12).bind fun bt322 => (if bt322.1 = 0 then ((spec_l01Pick.f bt311.1 bt322.2.1 bt322.2.2 (([0, 1, 20000, 20001] : List Int))).bind fun bt328 => ((spec_l01Pick.f bt311.1 bt328.2.1 bt328.2.2 (([0, 1, 2] : List Int))).bind fun bt334 => ((spec_l01Pick.f bt311.1 bt334.2.1 bt334.2.2 (([(-1), 0, 20000, 20001] : List Int))).bind fun bt340 => (some (bt315.1, bt315.2.1, bt315.2.2.1, bt315.2.2.2.1, bt328.1, bt334.1, bt340.1))))) else ((spec_l01Next.f bt311.1 bt322.2.1 bt322.2.2 8).bind fun bt343 => ((spec_l01Next.f bt311.1 bt343.2.1 bt343.2.2 8).bind fun bt346 => ((spec_l01Next.f bt311.1 bt346.2.1 bt346.2.2 200).bind fun bt349 => (some (bt315.1, bt315.2.1, bt315.2.2.1, bt315.2.2.2.1, wrap64 (1 + bt343.1), wrap64 (1 + bt346.1), bt349.1))))))))
theorem spec_DrawLeastSheet.mono : ∀ a0 k, LeO (spec_DrawLeastSheet.f k a0) (spec_DrawLeastSheet.f (k + 1) a0) := by
  intro a0 k
  unfold spec_DrawLeastSheet.f
  repeat' first
      | (with_reducible exact spec_l01From.mono _ _)
      | (with_reducible exact LeO.refl _)
      | (with_reducible exact LeO.none _)
      | (with_reducible refine LeO.ite ?_ ?_)
      | (with_reducible refine LeO.bind ?_ (fun _ => ?_))
      | exact spec_l01From.mono _ _
      | exact LeO.none _
      | refine LeO.ite ?_ ?_
      | refine LeO.bind ?_ (fun _ => ?_)
def spec_DrawLeastSheet.T4 : Bool × List (List Nat × List Nat) := (true, [([], []), ([], []), ([], []), ([1, 2], [1, 2]), ([], []), ([], []), ([4, 5, 3], [4, 5]), ([], []), ([], []), ([7, 8, 6], [7, 8]), ([0, 9, 0], [0]), ([3, 10, 0, 1, 2, 3, 10], [3]), ([6, 11, 0, 1, 2, 3, 4, 5, 6, 10, 11], [6]), ([9, 12, 0, 1, 2, 3, 4, 5, 6, 7, 8, 9, 10, 11, 12], [9])])
def spec_DrawLeastSheet.B4 : List Nat := [0, 0, 0, 6, 0, 0, 62, 0, 0, 510, 1023, 2047, 4095, 8191]
theorem spec_DrawLeastSheet.tab4 : rtab .any (opsOf Try.f75 4) = spec_DrawLeastSheet.T4 := by kernel_rfl
theorem spec_DrawLeastSheet.bits4 : waitsOk spec_DrawLeastSheet.T4.2 spec_DrawLeastSheet.B4 = true := by kernel_rfl
def spec_DrawLeastSheet.T5 : Bool × List (List Nat × List Nat) := (true, [([], []), ([], []), ([1], [1]), ([2], [2]), ([], []), ([4, 2], [4]), ([5], [5]), ([], []), ([7, 5], [7]), ([0, 8, 0], [0]), ([3, 9, 0, 1, 2, 3, 9], [3]), ([6, 10, 0, 1, 2, 3, 4, 5, 6, 9, 10], [6]), ([8, 11, 0, 1, 2, 3, 4, 5, 6, 7, 8, 9, 10, 11], [8])])
def spec_DrawLeastSheet.B5 : List Nat := [0, 0, 2, 6, 0, 22, 54, 0, 182, 439, 959, 2047, 4095]
theorem spec_DrawLeastSheet.tab5 : rtab .any (opsOf Try.f75 5) = spec_DrawLeastSheet.T5 := by kernel_rfl
theorem spec_DrawLeastSheet.bits5 : waitsOk spec_DrawLeastSheet.T5.2 spec_DrawLeastSheet.B5 = true := by kernel_rfl
set_option maxHeartbeats 8000000 in
set_option maxRecDepth 100000 in
theorem spec_DrawLeastSheet.calls (k : Nat) (A0 : Option Addr) (c0 : Nat) (l0 : List Int) (r1 : Int) (r2 : Int) (r3 : Int) (r4 : Int) (r5 : Int) (r6 : Int) (r7 : Int) (w : World) (hr0 : Kd.C (Kd.int .u8) w A0 l0.length l0) (hc0 : l0.length ≤ c0) (h : spec_DrawLeastSheet.f k l0 = some (r1, r2, r3, r4, r5, r6, r7)) :
    Calls Try.prog 75 #[.slice A0 l0.length c0] w fun e w' => e = .returned (.tuple #[.agg #[.int .i64 r1, .int .i64 r2, .int .i64 r3, .int .i64 r4], .int .i64 r5, .int .i64 r6, .int .i64 r7]) ∧ Below w.heap.size w w' := by
  have hu41 := Try.underlying41
  have HR0 := Aside0.mk hr0
  have HC0 := Aside0.mk hc0
  clear hr0 hc0
  have HB := Aside0.mk (Below.refl w.heap.size w)
  have H : ((spec_l01From.f k l0).bind fun bt311 => ((spec_l08DrawTrim.f bt311.1 bt311.2.1 bt311.2.2).bind fun bt315 => ((spec_l01Next.f bt311.1 bt315.2.2.2.2.1 bt315.2.2.2.2.2 12).bind fun bt322 => (if bt322.1 = 0 then ((spec_l01Pick.f bt311.1 bt322.2.1 bt322.2.2 (([0, 1, 20000, 20001] : List Int))).bind fun bt328 => ((spec_l01Pick.f bt311.1 bt328.2.1 bt328.2.2 (([0, 1, 2] : List Int))).bind fun bt334 => ((spec_l01Pick.f bt311.1 bt334.2.1 bt334.2.2 (([(-1), 0, 20000, 20001] : List Int))).bind fun bt340 => (some (bt315.1, bt315.2.1, bt315.2.2.1, bt315.2.2.2.1, bt328.1, bt334.1, bt340.1))))) else ((spec_l01Next.f bt311.1 bt322.2.1 bt322.2.2 8).bind fun bt343 => ((spec_l01Next.f bt311.1 bt343.2.1 bt343.2.2 8).bind fun bt346 => ((spec_l01Next.f bt311.1 bt346.2.1 bt346.2.2 200).bind fun bt349 => (some (bt315.1, bt315.2.1, bt315.2.2.1, bt315.2.2.2.1, wrap64 (1 + bt343.1), wrap64 (1 + bt346.1), bt349.1))))))))) = some (r1, r2, r3, r4, r5, r6, r7) := h
  clear h
  replace H := Option.bind_eq_some_iff.mp H
  obtain ⟨⟨t311, t312, t313⟩, A20, H⟩ := H
  replace H : ((spec_l08DrawTrim.f t311 t312 t313).bind fun bt315 => ((spec_l01Next.f t311 bt315.2.2.2.2.1 bt315.2.2.2.2.2 12).bind fun bt322 => (if bt322.1 = 0 then ((spec_l01Pick.f t311 bt322.2.1 bt322.2.2 (([0, 1, 20000, 20001] : List Int))).bind fun bt328 => ((spec_l01Pick.f t311 bt328.2.1 bt328.2.2 (([0, 1, 2] : List Int))).bind fun bt334 => ((spec_l01Pick.f t311 bt334.2.1 bt334.2.2 (([(-1), 0, 20000, 20001] : List Int))).bind fun bt340 => (some (bt315.1, bt315.2.1, bt315.2.2.1, bt315.2.2.2.1, bt328.1, bt334.1, bt340.1))))) else ((spec_l01Next.f t311 bt322.2.1 bt322.2.2 8).bind fun bt343 => ((spec_l01Next.f t311 bt343.2.1 bt343.2.2 8).bind fun bt346 => ((spec_l01Next.f t311 bt346.2.1 bt346.2.2 200).bind fun bt349 => (some (bt315.1, bt315.2.1, bt315.2.2.1, bt315.2.2.2.1, wrap64 (1 + bt343.1), wrap64 (1 + bt346.1), bt349.1)))))))) = some (r1, r2, r3, r4, r5, r6, r7) := H
  have A2 := Aside0.mk A20
  clear A20
  replace H := Option.bind_eq_some_iff.mp H
  obtain ⟨⟨t315, t316, t317, t318, t319, t320⟩, A30, H⟩ := H
  replace H : ((spec_l01Next.f t311 t319 t320 12).bind fun bt322 => (if bt322.1 = 0 then ((spec_l01Pick.f t311 bt322.2.1 bt322.2.2 (([0, 1, 20000, 20001] : List Int))).bind fun bt328 => ((spec_l01Pick.f t311 bt328.2.1 bt328.2.2 (([0, 1, 2] : List Int))).bind fun bt334 => ((spec_l01Pick.f t311 bt334.2.1 bt334.2.2 (([(-1), 0, 20000, 20001] : List Int))).bind fun bt340 => (some (t315, t316, t317, t318, bt328.1, bt334.1, bt340.1))))) else ((spec_l01Next.f t311 bt322.2.1 bt322.2.2 8).bind fun bt343 => ((spec_l01Next.f t311 bt343.2.1 bt343.2.2 8).bind fun bt346 => ((spec_l01Next.f t311 bt346.2.1 bt346.2.2 200).bind fun bt349 => (some (t315, t316, t317, t318, wrap64 (1 + bt343.1), wrap64 (1 + bt346.1), bt349.1))))))) = some (r1, r2, r3, r4, r5, r6, r7) := H
  have A3 := Aside0.mk A30
  clear A30
  replace H := Option.bind_eq_some_iff.mp H
  obtain ⟨⟨t322, t323, t324⟩, A40, H⟩ := H
  replace H : (if t322 = 0 then ((spec_l01Pick.f t311 t323 t324 (([0, 1, 20000, 20001] : List Int))).bind fun bt328 => ((spec_l01Pick.f t311 bt328.2.1 bt328.2.2 (([0, 1, 2] : List Int))).bind fun bt334 => ((spec_l01Pick.f t311 bt334.2.1 bt334.2.2 (([(-1), 0, 20000, 20001] : List Int))).bind fun bt340 => (some (t315, t316, t317, t318, bt328.1, bt334.1, bt340.1))))) else ((spec_l01Next.f t311 t323 t324 8).bind fun bt343 => ((spec_l01Next.f t311 bt343.2.1 bt343.2.2 8).bind fun bt346 => ((spec_l01Next.f t311 bt346.2.1 bt346.2.2 200).bind fun bt349 => (some (t315, t316, t317, t318, wrap64 (1 + bt343.1), wrap64 (1 + bt346.1), bt349.1)))))) = some (r1, r2, r3, r4, r5, r6, r7) := H
  have A4 := Aside0.mk A40
  clear A40
  by_cases c5 : t322 = 0
  · rw [if_pos c5] at H
    have c5b0 : (t322 == 0) = true := beq_iff_eq.mpr c5
    have c5b1 : (t322 != 0) = false := bne_eq_false_iff_eq.mpr c5
    clear c5
    obtain ⟨y325, hy325⟩ : ∃ y_ : List Int, y_ = (([0, 1, 20000, 20001] : List Int)) := ⟨_, rfl⟩
    replace H : ((spec_l01Pick.f t311 t323 t324 y325).bind fun bt328 => ((spec_l01Pick.f t311 bt328.2.1 bt328.2.2 (([0, 1, 2] : List Int))).bind fun bt334 => ((spec_l01Pick.f t311 bt334.2.1 bt334.2.2 (([(-1), 0, 20000, 20001] : List Int))).bind fun bt340 => (some (t315, t316, t317, t318, bt328.1, bt334.1, bt340.1))))) = some (r1, r2, r3, r4, r5, r6, r7) := by first | (rw [hy325]; with_reducible exact H) | (have H2_ := (Option.bind_some _ _).symm.trans H; rw [hy325]; with_reducible exact H2_) | (have H2_ := (Option.bind_some _ _).symm.trans H; with_reducible exact H2_) | with_reducible exact H | (rw [hy325]; exact H) | exact H
    have Ny325 := Aside0.mk hy325
    clear hy325
    replace H := Option.bind_eq_some_iff.mp H
    obtain ⟨⟨t328, t329, t330⟩, A60, H⟩ := H
    replace H : ((spec_l01Pick.f t311 t329 t330 (([0, 1, 2] : List Int))).bind fun bt334 => ((spec_l01Pick.f t311 bt334.2.1 bt334.2.2 (([(-1), 0, 20000, 20001] : List Int))).bind fun bt340 => (some (t315, t316, t317, t318, t328, bt334.1, bt340.1)))) = some (r1, r2, r3, r4, r5, r6, r7) := H
    have A6 := Aside0.mk A60
    clear A60
    obtain ⟨y331, hy331⟩ : ∃ y_ : List Int, y_ = (([0, 1, 2] : List Int)) := ⟨_, rfl⟩
    replace H : ((spec_l01Pick.f t311 t329 t330 y331).bind fun bt334 => ((spec_l01Pick.f t311 bt334.2.1 bt334.2.2 (([(-1), 0, 20000, 20001] : List Int))).bind fun bt340 => (some (t315, t316, t317, t318, t328, bt334.1, bt340.1)))) = some (r1, r2, r3, r4, r5, r6, r7) := by first | (rw [hy331]; with_reducible exact H) | (have H2_ := (Option.bind_some _ _).symm.trans H; rw [hy331]; with_reducible exact H2_) | (have H2_ := (Option.bind_some _ _).symm.trans H; with_reducible exact H2_) | with_reducible exact H | (rw [hy331]; exact H) | exact H
    have Ny331 := Aside0.mk hy331
    clear hy331
    replace H := Option.bind_eq_some_iff.mp H
    obtain ⟨⟨t334, t335, t336⟩, A70, H⟩ := H
    replace H : ((spec_l01Pick.f t311 t335 t336 (([(-1), 0, 20000, 20001] : List Int))).bind fun bt340 => (some (t315, t316, t317, t318, t328, t334, bt340.1))) = some (r1, r2, r3, r4, r5, r6, r7) := H
    have A7 := Aside0.mk A70
    clear A70
    obtain ⟨y337, hy337⟩ : ∃ y_ : List Int, y_ = (([(-1), 0, 20000, 20001] : List Int)) := ⟨_, rfl⟩
    replace H : ((spec_l01Pick.f t311 t335 t336 y337).bind fun bt340 => (some (t315, t316, t317, t318, t328, t334, bt340.1))) = some (r1, r2, r3, r4, r5, r6, r7) := by first | (rw [hy337]; with_reducible exact H) | (have H2_ := (Option.bind_some _ _).symm.trans H; rw [hy337]; with_reducible exact H2_) | (have H2_ := (Option.bind_some _ _).symm.trans H; with_reducible exact H2_) | with_reducible exact H | (rw [hy337]; exact H) | exact H
    have Ny337 := Aside0.mk hy337
    clear hy337
    replace H := Option.bind_eq_some_iff.mp H
    obtain ⟨⟨t340, t341, t342⟩, A80, H⟩ := H
    replace H : (some (t315, t316, t317, t318, t328, t334, t340)) = some (r1, r2, r3, r4, r5, r6, r7) := H
    have A8 := Aside0.mk A80
    clear A80
    simp only [Option.some.injEq, Prod.mk.injEq] at H
    obtain ⟨rfl, rfl, rfl, rfl, rfl, rfl, rfl⟩ := H
    go_enter Try.func75, Try.ntmps75
    try go_wp2_with (first | ((with_reducible refine gate_dst (N := 2) rfl ?_); refine box_event ?hg (N := 2) ?hd (cs := #[.int .i64 0, .int .i64 0, .int .i64 0, .int .i64 0]) (t := 41) ?hr ?_; (case hd => rfl); (case hg => rfl); (case hr => first | (go_simp; done) | (go_simp; rfl)); intro gb310 hg w9 hbox hb; have n0_ := Aside0.mk (below_step (hx_ HB.out) hb); have n1_ := Aside0.mk (hbox); have n2_ := Aside0.mk ((by rw [hg]; exact (below_size (hx_ HB.out)) : w.heap.size ≤ gb310)); have n3_ := Aside0.mk ((by rw [hg]; exact (below_size (hx_ HB.out)) : w.heap.size ≤ gb310)); clear HB; have HB := n0_; have BK310 := n1_; have GW310 := n2_; have GE310 := n3_; clear n0_ n1_ n2_ n3_; clear hb hbox hg) | ((with_reducible refine gate_callee (f := 113) rfl ?_); refine goesL_ (some 9) rfl rfl Try.func113 (by kernel_rfl) rfl #[.slice A0 l0.length c0] rfl (by (try simp only [List.map_toArray, List.map_cons, List.map_nil]); first | done | rfl | (simp only [List.length_drop, List.length_take]; rfl)) ?_; (with_reducible refine (spec_l01From.calls k _ _ l0 t311 t312 t313 w _ ?side1 ?side2 ?side3 A2.out).mono ?_); (case side1 => repeat (first | (with_reducible first | exact HB.out | apply below_alloc | apply pw_below_drewN | apply below_drew1 | refine below_set ?_ GE310.out) | exact HB.out)); (case side2 => exact HR0.out); (case side3 => exact HC0.out); rintro e w10 ⟨g314, rfl, hi, hb, hb2⟩; refine ⟨_, rfl, ?_⟩; have n0_ := Aside0.mk (blk_below (g := gb310) (o := .cells #[.int .i64 0, .int .i64 0, .int .i64 0, .int .i64 0] 41 (0, 0)) (bx_ BK310.out) hb2); have n1_ := Aside0.mk (hb); have n2_ := Aside0.mk (hi); have n3_ := Aside0.mk (IsS142.ne_blk hi (blk_below (g := gb310) (o := .cells #[.int .i64 0, .int .i64 0, .int .i64 0, .int .i64 0] 41 (0, 0)) (bx_ BK310.out) hb2) (by decide)); have n4_ := Aside0.mk (Ne.symm (IsS142.ne_blk hi (blk_below (g := gb310) (o := .cells #[.int .i64 0, .int .i64 0, .int .i64 0, .int .i64 0] 41 (0, 0)) (bx_ BK310.out) hb2) (by decide))); clear BK310; clear HB; have BK310 := n0_; have HB := n1_; have HI314 := n2_; have NB314_310 := n3_; have NB310_314 := n4_; clear n0_ n1_ n2_ n3_ n4_; (try clear hb); (try clear hb2); (try clear hk); (try clear hi)) | ((with_reducible refine gate_callee (f := 151) rfl ?_); refine goesL_ (some 11) rfl rfl Try.func151 (by kernel_rfl) rfl #[.pointer (some ⟨g314, 0, none⟩)] rfl (by (try simp only [List.map_toArray, List.map_cons, List.map_nil]); first | done | rfl | (simp only [List.length_drop, List.length_take]; rfl)) ?_; (with_reducible refine (spec_l08DrawTrim.calls g314 t311 t312 t313 t315 t316 t317 t318 t319 t320 w _ ?side1 ?side2 A3.out).mono ?_); (case side1 => repeat (first | (with_reducible first | exact HI314.out | apply IsS142.alloc | apply IsS142.drewN | apply IsS142.drew | apply IsS142.set_1 | apply IsS142.set_2 | refine IsS142.far ?_ NB314_310.out _) | exact HI314.out)); (case side2 => repeat (first | (with_reducible first | exact HB.out | apply below_alloc | apply pw_below_drewN | apply below_drew1 | refine below_set ?_ (IsS142.ge HI314.out) | refine below_set ?_ GE310.out) | exact HB.out)); rintro e w11 ⟨rfl, hi, hb, hk⟩; refine ⟨_, rfl, ?_⟩; have n0_ := Aside0.mk (KeepBut.blk hk (g' := gb310) (o := .cells #[.int .i64 0, .int .i64 0, .int .i64 0, .int .i64 0] 41 (0, 0)) (bx_ BK310.out) NB310_314.out (by simp)); have n1_ := Aside0.mk (hb); have n2_ := Aside0.mk (hi); clear BK310; clear HB; clear HI314; have BK310 := n0_; have HB := n1_; have HI314 := n2_; clear n0_ n1_ n2_; (try clear hb); (try clear hb2); (try clear hk); (try clear hi)) | ((with_reducible refine gate_dst (N := 7) rfl ?_); refine box_event ?hg (N := 7) ?hd (cs := #[.int .i64 0, .int .i64 0, .int .i64 0, .int .i64 0]) (t := 41) ?hr ?_; (case hd => rfl); (case hg => rfl); (case hr => first | (go_simp; done) | (go_simp; rfl)); intro gb321 hg w12 hbox hb; have n0_ := Aside0.mk (blk_below (g := gb310) (o := .cells #[.int .i64 0, .int .i64 0, .int .i64 0, .int .i64 0] 41 (0, 0)) (bx_ BK310.out) hb); have n1_ := Aside0.mk (IsS142.below (ix_ HI314.out) hb); have n2_ := Aside0.mk (below_step (hx_ HB.out) hb); have n3_ := Aside0.mk (hbox); have n4_ := Aside0.mk ((by rw [hg]; exact (below_size (hx_ HB.out)) : w.heap.size ≤ gb321)); have n5_ := Aside0.mk ((by rw [hg]; exact (below_size (hx_ HB.out)) : w.heap.size ≤ gb321)); have n6_ := Aside0.mk ((by rw [hg]; exact Nat.ne_of_lt (blk_lt (g := gb310) (o := .cells #[.int .i64 0, .int .i64 0, .int .i64 0, .int .i64 0] 41 (0, 0)) (bx_ BK310.out)) : gb310 ≠ gb321)); have n7_ := Aside0.mk ((by rw [hg]; exact Nat.ne_of_gt (blk_lt (g := gb310) (o := .cells #[.int .i64 0, .int .i64 0, .int .i64 0, .int .i64 0] 41 (0, 0)) (bx_ BK310.out)) : gb321 ≠ gb310)); have n8_ := Aside0.mk ((by rw [hg]; exact Nat.ne_of_lt (IsS142.lt (show IsS142 w _ g314 t311 t319 t320 from ix_ HI314.out)) : g314 ≠ gb321)); have n9_ := Aside0.mk ((by rw [hg]; exact Nat.ne_of_gt (IsS142.lt (show IsS142 w _ g314 t311 t319 t320 from ix_ HI314.out)) : gb321 ≠ g314)); clear BK310; clear HI314; clear HB; have BK310 := n0_; have HI314 := n1_; have HB := n2_; have BK321 := n3_; have GW321 := n4_; have GE321 := n5_; have NB310_321 := n6_; have NB321_310 := n7_; have NB314_321 := n8_; have NB321_314 := n9_; clear n0_ n1_ n2_ n3_ n4_ n5_ n6_ n7_ n8_ n9_; clear hb hbox hg; have hnb13 := NB321_310.out; have hnc13 := NB310_321.out; have hnb14 := NB321_314.out; have hnc14 := NB314_321.out; have hcz15_0 : w12.cell? ⟨gb321, 0, none⟩ = some (.int .i64 0) := (blk_cell BK321.out 0).trans rfl; have hcz15_1 : w12.cell? ⟨gb321, 1, none⟩ = some (.int .i64 0) := (blk_cell BK321.out 1).trans rfl; have hcz15_2 : w12.cell? ⟨gb321, 2, none⟩ = some (.int .i64 0) := (blk_cell BK321.out 2).trans rfl; have hcz15_3 : w12.cell? ⟨gb321, 3, none⟩ = some (.int .i64 0) := (blk_cell BK321.out 3).trans rfl; have hfz15_0 := blk_frozen BK321.out 0; have hfz15_1 := blk_frozen BK321.out 1; have hfz15_2 := blk_frozen BK321.out 2; have hfz15_3 := blk_frozen BK321.out 3) | ((with_reducible refine gate_callee (f := 115) rfl ?_); refine goesL_ (some 13) rfl rfl Try.func115 (by kernel_rfl) rfl #[.pointer (some ⟨g314, 0, none⟩), .int .i64 12] rfl (by (try simp only [List.map_toArray, List.map_cons, List.map_nil]); first | done | rfl | (simp only [List.length_drop, List.length_take]; rfl)) ?_; (with_reducible refine (spec_l01Next.calls g314 t311 t319 t320 12 t322 t323 t324 w _ ?side1 ?side2 A4.out).mono ?_); (case side1 => repeat (first | (with_reducible first | exact HI314.out | apply IsS142.alloc | apply IsS142.drewN | apply IsS142.drew | apply IsS142.set_1 | apply IsS142.set_2 | refine IsS142.far ?_ NB314_310.out _ | refine IsS142.far ?_ NB314_321.out _) | exact HI314.out)); (case side2 => repeat (first | (with_reducible first | exact HB.out | apply below_alloc | apply pw_below_drewN | apply below_drew1 | refine below_set ?_ (IsS142.ge HI314.out) | refine below_set ?_ GE310.out | refine below_set ?_ GE321.out) | exact HB.out)); rintro e w16 ⟨rfl, hi, hb, hk⟩; refine ⟨_, rfl, ?_⟩; have n0_ := Aside0.mk (KeepBut.blk hk (g' := gb310) (o := .cells #[.int .i64 0, .int .i64 0, .int .i64 0, .int .i64 0] 41 (0, 0)) (bx_ BK310.out) NB310_314.out (by simp)); have n1_ := Aside0.mk (KeepBut.blk hk (g' := gb321) (o := .cells #[.int .i64 t315, .int .i64 t316, .int .i64 t317, .int .i64 t318] 41 (0, 0)) (by (with_reducible repeat (first | refine blk_drewN ?_ _ | refine blk_drew ?_ | refine blk_alloc ?_ _)); refine blk_put (cs := #[.int .i64 t315, .int .i64 t316, .int .i64 t317, .int .i64 0]) ?_ 3 _ rfl; (with_reducible repeat (first | refine blk_drewN ?_ _ | refine blk_drew ?_ | refine blk_alloc ?_ _)); refine blk_put (cs := #[.int .i64 t315, .int .i64 t316, .int .i64 0, .int .i64 0]) ?_ 2 _ rfl; (with_reducible repeat (first | refine blk_drewN ?_ _ | refine blk_drew ?_ | refine blk_alloc ?_ _)); refine blk_put (cs := #[.int .i64 t315, .int .i64 0, .int .i64 0, .int .i64 0]) ?_ 1 _ rfl; (with_reducible repeat (first | refine blk_drewN ?_ _ | refine blk_drew ?_ | refine blk_alloc ?_ _)); refine blk_put (cs := #[.int .i64 0, .int .i64 0, .int .i64 0, .int .i64 0]) ?_ 0 _ rfl; (with_reducible repeat (first | refine blk_drewN ?_ _ | refine blk_drew ?_ | refine blk_alloc ?_ _)); exact BK321.out) NB321_314.out (by simp)); have n2_ := Aside0.mk (hb); have n3_ := Aside0.mk (hi); clear BK310; clear BK321; clear HB; clear HI314; have BK310 := n0_; have BK321 := n1_; have HB := n2_; have HI314 := n3_; clear n0_ n1_ n2_ n3_; (try clear hb); (try clear hb2); (try clear hk); (try clear hi)))
    have n0_ := Aside0.mk (blk_drew BK310.out)
    have n1_ := Aside0.mk (blk_drew BK321.out)
    have n2_ := Aside0.mk (IsS142.drew HI314.out)
    have n3_ := Aside0.mk (below_drew1 HB.out)
    clear BK310
    clear BK321
    clear HI314
    clear HB
    have BK310 := n0_
    have BK321 := n1_
    have HI314 := n2_
    have HB := n3_
    clear n0_ n1_ n2_ n3_
    refine start_ (n := 14) (S := fun w' => True) (ds := []) #[false, false, false, false, false, false, false, false, false, false, false, false, false, false] (by kernel_rfl) rfl rfl trivial (fun hHeld => ?_); refine with_tabW spec_DrawLeastSheet.tab4 spec_DrawLeastSheet.bits4 (fun HT_ HW_ => ?_)
    generalize w16.drew = w17 at BK310 BK321 HI314 HB hHeld ⊢
    refine pure_ (i := 1) (N := some 16) (v := ?_) (a' := ?_) #[false, true, false, false, false, false, false, false, false, false, false, false, false, false] rfl rfl (any_of HT_.out (by kernel_rfl)) (fun _ _ _ h => h) (Or.inl ⟨by rfl, ?_⟩) ?_ ?_
    rotate_left
    · intro w'
      go_simp
      with_reducible rfl
    rotate_left
    · simp only [Act.put, List.setIfInBounds_toArray, List.set_cons_zero, List.set_cons_succ, i64_w, i32_w]
      rfl
    refine pure_ (i := 4) (N := some 19) (v := ?_) (a' := ?_) #[false, true, false, false, true, false, false, false, false, false, false, false, false, false] rfl rfl (any_of HT_.out (by kernel_rfl)) (fun _ _ _ h => h) (Or.inl ⟨by rfl, ?_⟩) ?_ ?_
    rotate_left
    · intro w'
      go_simp
      with_reducible rfl
    rotate_left
    · simp only [Act.put, List.setIfInBounds_toArray, List.set_cons_zero, List.set_cons_succ, i64_w, i32_w]
      rfl
    refine pure_ (i := 7) (N := some 22) (v := ?_) (a' := ?_) #[false, true, false, false, true, false, false, true, false, false, false, false, false, false] rfl rfl (any_of HT_.out (by kernel_rfl)) (fun _ _ _ h => h) (Or.inl ⟨by rfl, ?_⟩) ?_ ?_
    rotate_left
    · intro w'
      go_simp
      with_reducible rfl
    rotate_left
    · simp only [Act.put, List.setIfInBounds_toArray, List.set_cons_zero, List.set_cons_succ, i64_w, i32_w]
      rfl
    refine inv_at [0, 2, 3, 5, 6, 8, 9, 10, 11, 12, 13] (fun a0_ b a w' => ∃ (v326 : Value) (v332 : Value) (v338 : Value), a = putSel a0_ b [(0, 15, .agg #[.int .i64 t315, .int .i64 t316, .int .i64 t317, .int .i64 t318]), (2, 17, v326), (3, 18, .int .i64 t328), (5, 20, v332), (6, 21, .int .i64 t334), (8, 23, v338), (9, 24, .int .i64 t340), (11, 3, .int .i64 t328), (12, 4, .int .i64 t334), (13, 5, .int .i64 t340)] ∧ (b 10 = false → w'.heap[gb310]? = some (.cells #[.int .i64 0, .int .i64 0, .int .i64 0, .int .i64 0] 41 (0, 0))) ∧ (w'.heap[gb321]? = some (.cells #[.int .i64 t315, .int .i64 t316, .int .i64 t317, .int .i64 t318] 41 (0, 0))) ∧ (b 3 = false → IsS142 w w' g314 t311 t323 t324) ∧ (Below w.heap.size w w') ∧ (b 2 = true → Kd.R (Kd.int .i64) 2 w' w.heap.size (fun _ => True) v326 y325) ∧ (b 3 = true → b 6 = false → IsS142 w w' g314 t311 t329 t330) ∧ (b 5 = true → Kd.R (Kd.int .i64) 2 w' w.heap.size (fun _ => True) v332 y331) ∧ (b 6 = true → b 9 = false → IsS142 w w' g314 t311 t335 t336) ∧ (b 8 = true → Kd.R (Kd.int .i64) 2 w' w.heap.size (fun _ => True) v338 y337) ∧ (b 9 = true → IsS142 w w' g314 t311 t341 t342) ∧ (b 10 = true → w'.heap[gb310]? = some (.cells #[.int .i64 t315, .int .i64 t316, .int .i64 t317, .int .i64 t318] 41 (0, 0)))) HT_.out HW_.out (by kernel_rfl) (by kernel_rfl) ?_ ?_ ?_
    · exact ⟨.bool false, .bool false, .bool false, by simp only [putSel, Bool.false_eq_true, if_false], fun _ => BK310.out, BK321.out, fun _ => HI314.out, HB.out, fun h_ => absurd h_ (by decide), fun h_ => absurd h_ (by decide), fun h_ => absurd h_ (by decide), fun h_ => absurd h_ (by decide), fun h_ => absurd h_ (by decide), fun h_ => absurd h_ (by decide), fun h_ => absurd h_ (by decide)⟩
    · skip
      clear BK310 BK321 HB HI314
      refine steps_cons ?_ ?_
      · rintro b a w' ⟨v326, v332, v338, ha, Q_BK310, Q_BK321, Q_HI314, Q_HB, Q_HO327, Q_HI314_e3, Q_HO333, Q_HI314_e6, Q_HO339, Q_HI314_e9, Q_BK310_e10⟩ hb_ hon hoff
        refine ⟨_, rfl, fun K hK => ?_⟩
        have e7 : a.tmps[7]? = some (.pointer (some ⟨gb321, 0, none⟩)) := by rw [ha]; exact (putSel_off rfl).trans rfl
        replace ha := Aside0.mk ha
        have BK310 := Aside0.mk (Q_BK310 (hoff 10 (by kernel_rfl)))
        have BK321 := Aside0.mk Q_BK321
        have HB := Aside0.mk Q_HB
        have hc0_ : w'.cell? ⟨gb321, 0, none⟩ = some (.int .i64 t315) := (blk_cell BK321.out 0).trans rfl
        have hc1_ : w'.cell? ⟨gb321, 1, none⟩ = some (.int .i64 t316) := (blk_cell BK321.out 1).trans rfl
        have hc2_ : w'.cell? ⟨gb321, 2, none⟩ = some (.int .i64 t317) := (blk_cell BK321.out 2).trans rfl
        have hc3_ : w'.cell? ⟨gb321, 3, none⟩ = some (.int .i64 t318) := (blk_cell BK321.out 3).trans rfl
        refine value_ (w1 := w') (v := .agg #[.int .i64 t315, .int .i64 t316, .int .i64 t317, .int .i64 t318]) (by rfl) rfl ?_ ?_
        · go_simp
          (try simp only [i64_w])
          try rfl
        refine hK.out _ _ ⟨v326, v332, v338, (by rw [ha.out]; exact putSel_upk 0 hb_ rfl rfl rfl), Q_BK310, Q_BK321, Q_HI314, Q_HB, Q_HO327, Q_HI314_e3, Q_HO333, Q_HI314_e6, Q_HO339, Q_HI314_e9, fun h0_ => absurd ((hoff 10 (by kernel_rfl)).symm.trans h0_) (by decide)⟩
      refine steps_cons ?_ ?_
      · rintro b a w' ⟨v326, v332, v338, ha, Q_BK310, Q_BK321, Q_HI314, Q_HB, Q_HO327, Q_HI314_e3, Q_HO333, Q_HI314_e6, Q_HO339, Q_HI314_e9, Q_BK310_e10⟩ hb_ hon hoff
        refine ⟨_, rfl, fun K hK => ?_⟩
        replace ha := Aside0.mk ha
        have BK310 := Aside0.mk (Q_BK310 (hoff 10 (by kernel_rfl)))
        have BK321 := Aside0.mk Q_BK321
        have HI314 := Aside0.mk (Q_HI314 (hoff 3 (by kernel_rfl)))
        have HB := Aside0.mk Q_HB
        refine Kd.R_lit_step (Kd.int .i64) _ 2 ?hg (N := 17) ?hd (xs := ([0, 1, 20000, 20001] : List Int)) (inner := [.int .i64 0, .int .i64 1, .int .i64 20000, .int .i64 20001]) (ok := fun _ => True) (okp := fun _ => True) ?hr ?hp (fun _ hk => hk) trivial (Below.refl _ _) (Nat.le_refl _) (by simp) ?_; (case hd => rfl); (case hg => rfl); (case hr => first | (go_simp; done) | (go_simp; rfl)); (case hp => exact (Reps.one (show Kd.M (Kd.int .i64) _ _ _ 0 [.int .i64 0] from rfl) (Reps.one (show Kd.M (Kd.int .i64) _ _ _ 1 [.int .i64 1] from rfl) (Reps.one (show Kd.M (Kd.int .i64) _ _ _ 20000 [.int .i64 20000] from rfl) (Reps.one (show Kd.M (Kd.int .i64) _ _ _ 20001 [.int .i64 20001] from rfl) (Reps.none _ _))))))
        intro v326 w18 ho19 hb hg_ hnew_
        clear hg_ hnew_
        (first | rw [← Ny325.out] at ho19 | (simp only [Int.reduceToNat] at ho19; rw [← Ny325.out] at ho19))
        have n0_ := Aside0.mk (Kd.R_lower ho19 (below_size (hx_ HB.out)))
        have n1_ := Aside0.mk (blk_below (g := gb310) (o := .cells #[.int .i64 0, .int .i64 0, .int .i64 0, .int .i64 0] 41 (0, 0)) (bx_ BK310.out) hb)
        have n2_ := Aside0.mk (IsS142.below (ix_ HI314.out) hb)
        have n3_ := Aside0.mk (blk_below (g := gb321) (o := .cells #[.int .i64 t315, .int .i64 t316, .int .i64 t317, .int .i64 t318] 41 (0, 0)) (bx_ BK321.out) hb)
        have n4_ := Aside0.mk (below_step (hx_ HB.out) hb)
        have z_HO333 := fun (h0_ : b 5 = true) => (show Kd.R (Kd.int .i64) 2 w18 w.heap.size (fun _ => True) v332 y331 from by first | exact (Kd.R_elder' (by (with_reducible repeat (first | apply Kd.R_alloc | apply Kd.R_drewN | apply Kd.R_drew)); exact (Q_HO333 h0_)) (Kd.R_base ho19) hb) | exact Kd.R_mono (Kd.R_elder' (by (with_reducible repeat (first | apply Kd.R_alloc | apply Kd.R_drewN | apply Kd.R_drew)); exact (Q_HO333 h0_)) (Kd.R_base ho19) hb) (fun _ h_ => by first | trivial | exact h_ | exact h_.1))
        have z_HO339 := fun (h0_ : b 8 = true) => (show Kd.R (Kd.int .i64) 2 w18 w.heap.size (fun _ => True) v338 y337 from by first | exact (Kd.R_elder' (by (with_reducible repeat (first | apply Kd.R_alloc | apply Kd.R_drewN | apply Kd.R_drew)); exact (Q_HO339 h0_)) (Kd.R_base ho19) hb) | exact Kd.R_mono (Kd.R_elder' (by (with_reducible repeat (first | apply Kd.R_alloc | apply Kd.R_drewN | apply Kd.R_drew)); exact (Q_HO339 h0_)) (Kd.R_base ho19) hb) (fun _ h_ => by first | trivial | exact h_ | exact h_.1))
        clear BK310
        clear HI314
        clear BK321
        clear HB
        have HO327 := n0_
        have BK310 := n1_
        have HI314 := n2_
        have BK321 := n3_
        have HB := n4_
        clear n0_ n1_ n2_ n3_ n4_
        clear hb ho19
        refine hK.out _ _ ⟨v326, v332, v338, (by rw [ha.out]; exact putSel_upk 1 hb_ rfl rfl rfl), fun _ => (bx_ BK310.out), (bx_ BK321.out), fun _ => (ix_ HI314.out), (hx_ HB.out), fun _ => (rx_ HO327.out), fun h0_ _ => absurd ((hoff 3 (by kernel_rfl)).symm.trans h0_) (by decide), z_HO333, fun h0_ _ => absurd ((hoff 6 (by kernel_rfl)).symm.trans h0_) (by decide), z_HO339, fun h0_ => absurd ((hoff 9 (by kernel_rfl)).symm.trans h0_) (by decide), fun h0_ => absurd ((hoff 10 (by kernel_rfl)).symm.trans h0_) (by decide)⟩
      refine steps_cons ?_ ?_
      · rintro b a w' ⟨v326, v332, v338, ha, Q_BK310, Q_BK321, Q_HI314, Q_HB, Q_HO327, Q_HI314_e3, Q_HO333, Q_HI314_e6, Q_HO339, Q_HI314_e9, Q_BK310_e10⟩ hb_ hon hoff
        refine ⟨_, rfl, fun K hK => ?_⟩
        have e16 : a.tmps[16]? = some (.pointer (some ⟨g314, 0, none⟩)) := by rw [ha]; exact (putSel_off rfl).trans rfl
        have e17 : a.tmps[17]? = some (v326) := by rw [ha]; exact putSel_on (e := (2, 17, v326)) 1 rfl rfl (hon 2 (by kernel_rfl)) rfl
        replace ha := Aside0.mk ha
        have BK310 := Aside0.mk (Q_BK310 (hoff 10 (by kernel_rfl)))
        have BK321 := Aside0.mk Q_BK321
        have HI314 := Aside0.mk (Q_HI314 hb_)
        have HB := Aside0.mk Q_HB
        have HO327 := Aside0.mk (Q_HO327 (hon 2 (by kernel_rfl)))
        obtain ⟨Ao21, co21, eo21⟩ := Kd.R_slice HO327.out
        (first | subst eo21 | (injection eo21 with f1_ f2_ f3_; have f4_ := f1_.symm; have f5_ := f3_.symm; clear f1_ f2_ f3_; subst f4_; subst f5_))
        refine goes_ Try.func116 (by kernel_rfl) rfl #[.pointer (some ⟨g314, 0, none⟩), .slice Ao21 y325.length co21] (by rfl) rfl rfl (by first | (simp only [List.map_toArray, List.map_cons, List.map_nil, Act.eval, Array.getD_eq_getD_getElem?, Option.getD_some, e16, e17]; done) | (simp only [List.map_toArray, List.map_cons, List.map_nil, Act.eval, Array.getD_eq_getD_getElem?, Option.getD_some, e16, e17]; rfl)) ?_
        with_reducible refine (spec_l01Pick.calls g314 t311 t323 t324 _ _ y325 t328 t329 t330 w _ ?side1 ?side2 ?side3 ?side4 ?side5 A6.out).mono ?_
        (case side1 => repeat (first | (with_reducible first | exact HI314.out | apply IsS142.alloc | apply IsS142.drewN | apply IsS142.drew | apply IsS142.set_1 | apply IsS142.set_2 | refine IsS142.far ?_ NB314_310.out _ | refine IsS142.far ?_ NB314_321.out _) | exact HI314.out))
        (case side2 => repeat (first | (with_reducible first | exact HB.out | apply below_alloc | apply pw_below_drewN | apply below_drew1 | refine below_set ?_ (IsS142.ge HI314.out) | refine below_set ?_ GE310.out | refine below_set ?_ GE321.out) | exact HB.out))
        (case side3 => repeat (first | exact (Kd.R_reads' HO327.out).2.2 | (with_reducible refine Kd.C_alloc ?_ _) | (with_reducible refine Kd.C_drewN ?_ _) | (with_reducible refine Kd.C_drew ?_)))
        (case side4 => exact (Kd.R_reads' HO327.out).2.1)
        (case side5 => exact far_slice (IsS142.own_ne HI314.out HO327.out (by decide)))
        rintro e w22 ⟨rfl, hi, hb, hk⟩
        refine ⟨_, rfl, ?_⟩
        have n0_ := Aside0.mk (KeepBut.blk hk (g' := gb310) (o := .cells #[.int .i64 0, .int .i64 0, .int .i64 0, .int .i64 0] 41 (0, 0)) (bx_ BK310.out) NB310_314.out (by simp))
        have n1_ := Aside0.mk (KeepBut.blk hk (g' := gb321) (o := .cells #[.int .i64 t315, .int .i64 t316, .int .i64 t317, .int .i64 t318] 41 (0, 0)) (bx_ BK321.out) NB321_314.out (by simp))
        have n2_ := Aside0.mk (Kd.R_mono (Kd.R_keep (IsS142.apart (show IsS142 w _ g314 t311 t323 t324 from ix_ HI314.out) (rx_ HO327.out) (by decide)) hk (fun _ h => h.2)) (fun _ h => h.1))
        have n3_ := Aside0.mk (hb)
        have n4_ := Aside0.mk (hi)
        have z_HO333 := fun (h0_ : b 5 = true) => (show Kd.R (Kd.int .i64) 2 w22 w.heap.size (fun _ => True) v332 y331 from by first | exact (Kd.R_mono (Kd.R_keep (IsS142.apart (show IsS142 w _ g314 t311 t323 t324 from ix_ HI314.out) (by (with_reducible repeat (first | apply Kd.R_alloc | apply Kd.R_drewN | apply Kd.R_drew)); exact (Q_HO333 h0_)) (by decide)) hk (fun _ h => h.2)) (fun _ h => h.1)) | exact Kd.R_mono (Kd.R_mono (Kd.R_keep (IsS142.apart (show IsS142 w _ g314 t311 t323 t324 from ix_ HI314.out) (by (with_reducible repeat (first | apply Kd.R_alloc | apply Kd.R_drewN | apply Kd.R_drew)); exact (Q_HO333 h0_)) (by decide)) hk (fun _ h => h.2)) (fun _ h => h.1)) (fun _ h_ => by first | trivial | exact h_ | exact h_.1))
        have z_HO339 := fun (h0_ : b 8 = true) => (show Kd.R (Kd.int .i64) 2 w22 w.heap.size (fun _ => True) v338 y337 from by first | exact (Kd.R_mono (Kd.R_keep (IsS142.apart (show IsS142 w _ g314 t311 t323 t324 from ix_ HI314.out) (by (with_reducible repeat (first | apply Kd.R_alloc | apply Kd.R_drewN | apply Kd.R_drew)); exact (Q_HO339 h0_)) (by decide)) hk (fun _ h => h.2)) (fun _ h => h.1)) | exact Kd.R_mono (Kd.R_mono (Kd.R_keep (IsS142.apart (show IsS142 w _ g314 t311 t323 t324 from ix_ HI314.out) (by (with_reducible repeat (first | apply Kd.R_alloc | apply Kd.R_drewN | apply Kd.R_drew)); exact (Q_HO339 h0_)) (by decide)) hk (fun _ h => h.2)) (fun _ h => h.1)) (fun _ h_ => by first | trivial | exact h_ | exact h_.1))
        clear BK310
        clear BK321
        clear HO327
        clear HB
        clear HI314
        have BK310 := n0_
        have BK321 := n1_
        have HO327 := n2_
        have HB := n3_
        have HI314 := n4_
        clear n0_ n1_ n2_ n3_ n4_
        (try clear hb)
        (try clear hb2)
        (try clear hk)
        (try clear hi)
        refine hK.out _ _ ⟨.slice Ao21 y325.length co21, v332, v338, (by rw [ha.out]; exact putSel_upk 2 hb_ rfl rfl rfl), fun _ => (bx_ BK310.out), (bx_ BK321.out), fun h0_ => absurd ((up_self b 3).symm.trans h0_) (by decide), (hx_ HB.out), fun _ => (rx_ HO327.out), fun _ _ => (ix_ HI314.out), z_HO333, fun h0_ _ => absurd ((hoff 6 (by kernel_rfl)).symm.trans h0_) (by decide), z_HO339, fun h0_ => absurd ((hoff 9 (by kernel_rfl)).symm.trans h0_) (by decide), fun h0_ => absurd ((hoff 10 (by kernel_rfl)).symm.trans h0_) (by decide)⟩
      refine steps_cons ?_ ?_
      · rintro b a w' ⟨v326, v332, v338, ha, Q_BK310, Q_BK321, Q_HI314, Q_HB, Q_HO327, Q_HI314_e3, Q_HO333, Q_HI314_e6, Q_HO339, Q_HI314_e9, Q_BK310_e10⟩ hb_ hon hoff
        refine ⟨_, rfl, fun K hK => ?_⟩
        replace ha := Aside0.mk ha
        have BK310 := Aside0.mk (Q_BK310 (hoff 10 (by kernel_rfl)))
        have BK321 := Aside0.mk Q_BK321
        have HB := Aside0.mk Q_HB
        refine Kd.R_lit_step (Kd.int .i64) _ 2 ?hg (N := 20) ?hd (xs := ([0, 1, 2] : List Int)) (inner := [.int .i64 0, .int .i64 1, .int .i64 2]) (ok := fun _ => True) (okp := fun _ => True) ?hr ?hp (fun _ hk => hk) trivial (Below.refl _ _) (Nat.le_refl _) (by simp) ?_; (case hd => rfl); (case hg => rfl); (case hr => first | (go_simp; done) | (go_simp; rfl)); (case hp => exact (Reps.one (show Kd.M (Kd.int .i64) _ _ _ 0 [.int .i64 0] from rfl) (Reps.one (show Kd.M (Kd.int .i64) _ _ _ 1 [.int .i64 1] from rfl) (Reps.one (show Kd.M (Kd.int .i64) _ _ _ 2 [.int .i64 2] from rfl) (Reps.none _ _)))))
        intro v332 w18 ho19 hb hg_ hnew_
        clear hg_ hnew_
        (first | rw [← Ny331.out] at ho19 | (simp only [Int.reduceToNat] at ho19; rw [← Ny331.out] at ho19))
        have n0_ := Aside0.mk (Kd.R_lower ho19 (below_size (hx_ HB.out)))
        have n1_ := Aside0.mk (blk_below (g := gb310) (o := .cells #[.int .i64 0, .int .i64 0, .int .i64 0, .int .i64 0] 41 (0, 0)) (bx_ BK310.out) hb)
        have n3_ := Aside0.mk (blk_below (g := gb321) (o := .cells #[.int .i64 t315, .int .i64 t316, .int .i64 t317, .int .i64 t318] 41 (0, 0)) (bx_ BK321.out) hb)
        have n4_ := Aside0.mk (below_step (hx_ HB.out) hb)
        have z_HI314 := fun (h0_ : b 3 = false) => (show IsS142 w w18 g314 t311 t323 t324 from by first | exact (IsS142.below (by repeat (first | (with_reducible first | exact (Q_HI314 h0_) | apply IsS142.alloc | apply IsS142.drewN | apply IsS142.drew | apply IsS142.set_1 | apply IsS142.set_2 | refine IsS142.far ?_ NB314_310.out _ | refine IsS142.far ?_ NB314_321.out _) | exact (Q_HI314 h0_))) hb))
        have z_HO327 := fun (h0_ : b 2 = true) => (show Kd.R (Kd.int .i64) 2 w18 w.heap.size (fun _ => True) v326 y325 from by first | exact (Kd.R_elder' (by (with_reducible repeat (first | apply Kd.R_alloc | apply Kd.R_drewN | apply Kd.R_drew)); exact (Q_HO327 h0_)) (Kd.R_base ho19) hb) | exact Kd.R_mono (Kd.R_elder' (by (with_reducible repeat (first | apply Kd.R_alloc | apply Kd.R_drewN | apply Kd.R_drew)); exact (Q_HO327 h0_)) (Kd.R_base ho19) hb) (fun _ h_ => by first | trivial | exact h_ | exact h_.1))
        have z_HI314_e3 := fun (h0_ : b 3 = true) (h1_ : b 6 = false) => (show IsS142 w w18 g314 t311 t329 t330 from by first | exact (IsS142.below (by repeat (first | (with_reducible first | exact (Q_HI314_e3 h0_ h1_) | apply IsS142.alloc | apply IsS142.drewN | apply IsS142.drew | apply IsS142.set_1 | apply IsS142.set_2 | refine IsS142.far ?_ NB314_310.out _ | refine IsS142.far ?_ NB314_321.out _) | exact (Q_HI314_e3 h0_ h1_))) hb))
        have z_HO339 := fun (h0_ : b 8 = true) => (show Kd.R (Kd.int .i64) 2 w18 w.heap.size (fun _ => True) v338 y337 from by first | exact (Kd.R_elder' (by (with_reducible repeat (first | apply Kd.R_alloc | apply Kd.R_drewN | apply Kd.R_drew)); exact (Q_HO339 h0_)) (Kd.R_base ho19) hb) | exact Kd.R_mono (Kd.R_elder' (by (with_reducible repeat (first | apply Kd.R_alloc | apply Kd.R_drewN | apply Kd.R_drew)); exact (Q_HO339 h0_)) (Kd.R_base ho19) hb) (fun _ h_ => by first | trivial | exact h_ | exact h_.1))
        clear BK310
        clear BK321
        clear HB
        have HO333 := n0_
        have BK310 := n1_
        have BK321 := n3_
        have HB := n4_
        clear n0_ n1_ n3_ n4_
        clear hb ho19
        refine hK.out _ _ ⟨v326, v332, v338, (by rw [ha.out]; exact putSel_upk 3 hb_ rfl rfl rfl), fun _ => (bx_ BK310.out), (bx_ BK321.out), z_HI314, (hx_ HB.out), z_HO327, z_HI314_e3, fun _ => (rx_ HO333.out), fun h0_ _ => absurd ((hoff 6 (by kernel_rfl)).symm.trans h0_) (by decide), z_HO339, fun h0_ => absurd ((hoff 9 (by kernel_rfl)).symm.trans h0_) (by decide), fun h0_ => absurd ((hoff 10 (by kernel_rfl)).symm.trans h0_) (by decide)⟩
      refine steps_cons ?_ ?_
      · rintro b a w' ⟨v326, v332, v338, ha, Q_BK310, Q_BK321, Q_HI314, Q_HB, Q_HO327, Q_HI314_e3, Q_HO333, Q_HI314_e6, Q_HO339, Q_HI314_e9, Q_BK310_e10⟩ hb_ hon hoff
        refine ⟨_, rfl, fun K hK => ?_⟩
        have e19 : a.tmps[19]? = some (.pointer (some ⟨g314, 0, none⟩)) := by rw [ha]; exact (putSel_off rfl).trans rfl
        have e20 : a.tmps[20]? = some (v332) := by rw [ha]; exact putSel_on (e := (5, 20, v332)) 3 rfl rfl (hon 5 (by kernel_rfl)) rfl
        replace ha := Aside0.mk ha
        have BK310 := Aside0.mk (Q_BK310 (hoff 10 (by kernel_rfl)))
        have BK321 := Aside0.mk Q_BK321
        have HB := Aside0.mk Q_HB
        have HO327 := Aside0.mk (Q_HO327 (hon 2 (by kernel_rfl)))
        have HI314 := Aside0.mk (Q_HI314_e3 (hon 3 (by kernel_rfl)) hb_)
        have HO333 := Aside0.mk (Q_HO333 (hon 5 (by kernel_rfl)))
        obtain ⟨Ao25, co25, eo25⟩ := Kd.R_slice HO333.out
        (first | subst eo25 | (injection eo25 with f1_ f2_ f3_; have f4_ := f1_.symm; have f5_ := f3_.symm; clear f1_ f2_ f3_; subst f4_; subst f5_))
        refine goes_ Try.func116 (by kernel_rfl) rfl #[.pointer (some ⟨g314, 0, none⟩), .slice Ao25 y331.length co25] (by rfl) rfl rfl (by first | (simp only [List.map_toArray, List.map_cons, List.map_nil, Act.eval, Array.getD_eq_getD_getElem?, Option.getD_some, e19, e20]; done) | (simp only [List.map_toArray, List.map_cons, List.map_nil, Act.eval, Array.getD_eq_getD_getElem?, Option.getD_some, e19, e20]; rfl)) ?_
        with_reducible refine (spec_l01Pick.calls g314 t311 t329 t330 _ _ y331 t334 t335 t336 w _ ?side1 ?side2 ?side3 ?side4 ?side5 A7.out).mono ?_
        (case side1 => repeat (first | (with_reducible first | exact HI314.out | apply IsS142.alloc | apply IsS142.drewN | apply IsS142.drew | apply IsS142.set_1 | apply IsS142.set_2 | refine IsS142.far ?_ NB314_310.out _ | refine IsS142.far ?_ NB314_321.out _) | exact HI314.out))
        (case side2 => repeat (first | (with_reducible first | exact HB.out | apply below_alloc | apply pw_below_drewN | apply below_drew1 | refine below_set ?_ (IsS142.ge HI314.out) | refine below_set ?_ GE310.out | refine below_set ?_ GE321.out) | exact HB.out))
        (case side3 => repeat (first | exact (Kd.R_reads' HO333.out).2.2 | (with_reducible refine Kd.C_alloc ?_ _) | (with_reducible refine Kd.C_drewN ?_ _) | (with_reducible refine Kd.C_drew ?_)))
        (case side4 => exact (Kd.R_reads' HO333.out).2.1)
        (case side5 => exact far_slice (IsS142.own_ne HI314.out HO333.out (by decide)))
        rintro e w26 ⟨rfl, hi, hb, hk⟩
        refine ⟨_, rfl, ?_⟩
        have n0_ := Aside0.mk (KeepBut.blk hk (g' := gb310) (o := .cells #[.int .i64 0, .int .i64 0, .int .i64 0, .int .i64 0] 41 (0, 0)) (bx_ BK310.out) NB310_314.out (by simp))
        have n1_ := Aside0.mk (KeepBut.blk hk (g' := gb321) (o := .cells #[.int .i64 t315, .int .i64 t316, .int .i64 t317, .int .i64 t318] 41 (0, 0)) (bx_ BK321.out) NB321_314.out (by simp))
        have n2_ := Aside0.mk (Kd.R_mono (Kd.R_keep (IsS142.apart (show IsS142 w _ g314 t311 t329 t330 from ix_ HI314.out) (rx_ HO327.out) (by decide)) hk (fun _ h => h.2)) (fun _ h => h.1))
        have n3_ := Aside0.mk (Kd.R_mono (Kd.R_keep (IsS142.apart (show IsS142 w _ g314 t311 t329 t330 from ix_ HI314.out) (rx_ HO333.out) (by decide)) hk (fun _ h => h.2)) (fun _ h => h.1))
        have n4_ := Aside0.mk (hb)
        have n5_ := Aside0.mk (hi)
        have z_HO339 := fun (h0_ : b 8 = true) => (show Kd.R (Kd.int .i64) 2 w26 w.heap.size (fun _ => True) v338 y337 from by first | exact (Kd.R_mono (Kd.R_keep (IsS142.apart (show IsS142 w _ g314 t311 t329 t330 from ix_ HI314.out) (by (with_reducible repeat (first | apply Kd.R_alloc | apply Kd.R_drewN | apply Kd.R_drew)); exact (Q_HO339 h0_)) (by decide)) hk (fun _ h => h.2)) (fun _ h => h.1)) | exact Kd.R_mono (Kd.R_mono (Kd.R_keep (IsS142.apart (show IsS142 w _ g314 t311 t329 t330 from ix_ HI314.out) (by (with_reducible repeat (first | apply Kd.R_alloc | apply Kd.R_drewN | apply Kd.R_drew)); exact (Q_HO339 h0_)) (by decide)) hk (fun _ h => h.2)) (fun _ h => h.1)) (fun _ h_ => by first | trivial | exact h_ | exact h_.1))
        clear BK310
        clear BK321
        clear HO327
        clear HO333
        clear HB
        clear HI314
        have BK310 := n0_
        have BK321 := n1_
        have HO327 := n2_
        have HO333 := n3_
        have HB := n4_
        have HI314 := n5_
        clear n0_ n1_ n2_ n3_ n4_ n5_
        (try clear hb)
        (try clear hb2)
        (try clear hk)
        (try clear hi)
        refine hK.out _ _ ⟨v326, .slice Ao25 y331.length co25, v338, (by rw [ha.out]; exact putSel_upk 4 hb_ rfl rfl rfl), fun _ => (bx_ BK310.out), (bx_ BK321.out), fun h0_ => absurd ((hon 3 (by kernel_rfl)).symm.trans h0_) (by decide), (hx_ HB.out), fun _ => (rx_ HO327.out), fun _ h1_ => absurd ((up_self b 6).symm.trans h1_) (by decide), fun _ => (rx_ HO333.out), fun _ _ => (ix_ HI314.out), z_HO339, fun h0_ => absurd ((hoff 9 (by kernel_rfl)).symm.trans h0_) (by decide), fun h0_ => absurd ((hoff 10 (by kernel_rfl)).symm.trans h0_) (by decide)⟩
      refine steps_cons ?_ ?_
      · rintro b a w' ⟨v326, v332, v338, ha, Q_BK310, Q_BK321, Q_HI314, Q_HB, Q_HO327, Q_HI314_e3, Q_HO333, Q_HI314_e6, Q_HO339, Q_HI314_e9, Q_BK310_e10⟩ hb_ hon hoff
        refine ⟨_, rfl, fun K hK => ?_⟩
        replace ha := Aside0.mk ha
        have BK310 := Aside0.mk (Q_BK310 (hoff 10 (by kernel_rfl)))
        have BK321 := Aside0.mk Q_BK321
        have HB := Aside0.mk Q_HB
        refine Kd.R_lit_step (Kd.int .i64) _ 2 ?hg (N := 23) ?hd (xs := ([(-1), 0, 20000, 20001] : List Int)) (inner := [.int .i64 (-1), .int .i64 0, .int .i64 20000, .int .i64 20001]) (ok := fun _ => True) (okp := fun _ => True) ?hr ?hp (fun _ hk => hk) trivial (Below.refl _ _) (Nat.le_refl _) (by simp) ?_; (case hd => rfl); (case hg => rfl); (case hr => first | (go_simp; done) | (go_simp; rfl)); (case hp => exact (Reps.one (show Kd.M (Kd.int .i64) _ _ _ (-1) [.int .i64 (-1)] from rfl) (Reps.one (show Kd.M (Kd.int .i64) _ _ _ 0 [.int .i64 0] from rfl) (Reps.one (show Kd.M (Kd.int .i64) _ _ _ 20000 [.int .i64 20000] from rfl) (Reps.one (show Kd.M (Kd.int .i64) _ _ _ 20001 [.int .i64 20001] from rfl) (Reps.none _ _))))))
        intro v338 w18 ho19 hb hg_ hnew_
        clear hg_ hnew_
        (first | rw [← Ny337.out] at ho19 | (simp only [Int.reduceToNat] at ho19; rw [← Ny337.out] at ho19))
        have n0_ := Aside0.mk (Kd.R_lower ho19 (below_size (hx_ HB.out)))
        have n1_ := Aside0.mk (blk_below (g := gb310) (o := .cells #[.int .i64 0, .int .i64 0, .int .i64 0, .int .i64 0] 41 (0, 0)) (bx_ BK310.out) hb)
        have n3_ := Aside0.mk (blk_below (g := gb321) (o := .cells #[.int .i64 t315, .int .i64 t316, .int .i64 t317, .int .i64 t318] 41 (0, 0)) (bx_ BK321.out) hb)
        have n4_ := Aside0.mk (below_step (hx_ HB.out) hb)
        have z_HI314 := fun (h0_ : b 3 = false) => (show IsS142 w w18 g314 t311 t323 t324 from by first | exact (IsS142.below (by repeat (first | (with_reducible first | exact (Q_HI314 h0_) | apply IsS142.alloc | apply IsS142.drewN | apply IsS142.drew | apply IsS142.set_1 | apply IsS142.set_2 | refine IsS142.far ?_ NB314_310.out _ | refine IsS142.far ?_ NB314_321.out _) | exact (Q_HI314 h0_))) hb))
        have z_HO327 := fun (h0_ : b 2 = true) => (show Kd.R (Kd.int .i64) 2 w18 w.heap.size (fun _ => True) v326 y325 from by first | exact (Kd.R_elder' (by (with_reducible repeat (first | apply Kd.R_alloc | apply Kd.R_drewN | apply Kd.R_drew)); exact (Q_HO327 h0_)) (Kd.R_base ho19) hb) | exact Kd.R_mono (Kd.R_elder' (by (with_reducible repeat (first | apply Kd.R_alloc | apply Kd.R_drewN | apply Kd.R_drew)); exact (Q_HO327 h0_)) (Kd.R_base ho19) hb) (fun _ h_ => by first | trivial | exact h_ | exact h_.1))
        have z_HI314_e3 := fun (h0_ : b 3 = true) (h1_ : b 6 = false) => (show IsS142 w w18 g314 t311 t329 t330 from by first | exact (IsS142.below (by repeat (first | (with_reducible first | exact (Q_HI314_e3 h0_ h1_) | apply IsS142.alloc | apply IsS142.drewN | apply IsS142.drew | apply IsS142.set_1 | apply IsS142.set_2 | refine IsS142.far ?_ NB314_310.out _ | refine IsS142.far ?_ NB314_321.out _) | exact (Q_HI314_e3 h0_ h1_))) hb))
        have z_HO333 := fun (h0_ : b 5 = true) => (show Kd.R (Kd.int .i64) 2 w18 w.heap.size (fun _ => True) v332 y331 from by first | exact (Kd.R_elder' (by (with_reducible repeat (first | apply Kd.R_alloc | apply Kd.R_drewN | apply Kd.R_drew)); exact (Q_HO333 h0_)) (Kd.R_base ho19) hb) | exact Kd.R_mono (Kd.R_elder' (by (with_reducible repeat (first | apply Kd.R_alloc | apply Kd.R_drewN | apply Kd.R_drew)); exact (Q_HO333 h0_)) (Kd.R_base ho19) hb) (fun _ h_ => by first | trivial | exact h_ | exact h_.1))
        have z_HI314_e6 := fun (h0_ : b 6 = true) (h1_ : b 9 = false) => (show IsS142 w w18 g314 t311 t335 t336 from by first | exact (IsS142.below (by repeat (first | (with_reducible first | exact (Q_HI314_e6 h0_ h1_) | apply IsS142.alloc | apply IsS142.drewN | apply IsS142.drew | apply IsS142.set_1 | apply IsS142.set_2 | refine IsS142.far ?_ NB314_310.out _ | refine IsS142.far ?_ NB314_321.out _) | exact (Q_HI314_e6 h0_ h1_))) hb))
        clear BK310
        clear BK321
        clear HB
        have HO339 := n0_
        have BK310 := n1_
        have BK321 := n3_
        have HB := n4_
        clear n0_ n1_ n3_ n4_
        clear hb ho19
        refine hK.out _ _ ⟨v326, v332, v338, (by rw [ha.out]; exact putSel_upk 5 hb_ rfl rfl rfl), fun _ => (bx_ BK310.out), (bx_ BK321.out), z_HI314, (hx_ HB.out), z_HO327, z_HI314_e3, z_HO333, z_HI314_e6, fun _ => (rx_ HO339.out), fun h0_ => absurd ((hoff 9 (by kernel_rfl)).symm.trans h0_) (by decide), fun h0_ => absurd ((hoff 10 (by kernel_rfl)).symm.trans h0_) (by decide)⟩
      refine steps_cons ?_ ?_
      · rintro b a w' ⟨v326, v332, v338, ha, Q_BK310, Q_BK321, Q_HI314, Q_HB, Q_HO327, Q_HI314_e3, Q_HO333, Q_HI314_e6, Q_HO339, Q_HI314_e9, Q_BK310_e10⟩ hb_ hon hoff
        refine ⟨_, rfl, fun K hK => ?_⟩
        have e22 : a.tmps[22]? = some (.pointer (some ⟨g314, 0, none⟩)) := by rw [ha]; exact (putSel_off rfl).trans rfl
        have e23 : a.tmps[23]? = some (v338) := by rw [ha]; exact putSel_on (e := (8, 23, v338)) 5 rfl rfl (hon 8 (by kernel_rfl)) rfl
        replace ha := Aside0.mk ha
        have BK310 := Aside0.mk (Q_BK310 (hoff 10 (by kernel_rfl)))
        have BK321 := Aside0.mk Q_BK321
        have HB := Aside0.mk Q_HB
        have HO327 := Aside0.mk (Q_HO327 (hon 2 (by kernel_rfl)))
        have HO333 := Aside0.mk (Q_HO333 (hon 5 (by kernel_rfl)))
        have HI314 := Aside0.mk (Q_HI314_e6 (hon 6 (by kernel_rfl)) hb_)
        have HO339 := Aside0.mk (Q_HO339 (hon 8 (by kernel_rfl)))
        obtain ⟨Ao29, co29, eo29⟩ := Kd.R_slice HO339.out
        (first | subst eo29 | (injection eo29 with f1_ f2_ f3_; have f4_ := f1_.symm; have f5_ := f3_.symm; clear f1_ f2_ f3_; subst f4_; subst f5_))
        refine goes_ Try.func116 (by kernel_rfl) rfl #[.pointer (some ⟨g314, 0, none⟩), .slice Ao29 y337.length co29] (by rfl) rfl rfl (by first | (simp only [List.map_toArray, List.map_cons, List.map_nil, Act.eval, Array.getD_eq_getD_getElem?, Option.getD_some, e22, e23]; done) | (simp only [List.map_toArray, List.map_cons, List.map_nil, Act.eval, Array.getD_eq_getD_getElem?, Option.getD_some, e22, e23]; rfl)) ?_
        with_reducible refine (spec_l01Pick.calls g314 t311 t335 t336 _ _ y337 t340 t341 t342 w _ ?side1 ?side2 ?side3 ?side4 ?side5 A8.out).mono ?_
        (case side1 => repeat (first | (with_reducible first | exact HI314.out | apply IsS142.alloc | apply IsS142.drewN | apply IsS142.drew | apply IsS142.set_1 | apply IsS142.set_2 | refine IsS142.far ?_ NB314_310.out _ | refine IsS142.far ?_ NB314_321.out _) | exact HI314.out))
        (case side2 => repeat (first | (with_reducible first | exact HB.out | apply below_alloc | apply pw_below_drewN | apply below_drew1 | refine below_set ?_ (IsS142.ge HI314.out) | refine below_set ?_ GE310.out | refine below_set ?_ GE321.out) | exact HB.out))
        (case side3 => repeat (first | exact (Kd.R_reads' HO339.out).2.2 | (with_reducible refine Kd.C_alloc ?_ _) | (with_reducible refine Kd.C_drewN ?_ _) | (with_reducible refine Kd.C_drew ?_)))
        (case side4 => exact (Kd.R_reads' HO339.out).2.1)
        (case side5 => exact far_slice (IsS142.own_ne HI314.out HO339.out (by decide)))
        rintro e w30 ⟨rfl, hi, hb, hk⟩
        refine ⟨_, rfl, ?_⟩
        have n0_ := Aside0.mk (KeepBut.blk hk (g' := gb310) (o := .cells #[.int .i64 0, .int .i64 0, .int .i64 0, .int .i64 0] 41 (0, 0)) (bx_ BK310.out) NB310_314.out (by simp))
        have n1_ := Aside0.mk (KeepBut.blk hk (g' := gb321) (o := .cells #[.int .i64 t315, .int .i64 t316, .int .i64 t317, .int .i64 t318] 41 (0, 0)) (bx_ BK321.out) NB321_314.out (by simp))
        have n2_ := Aside0.mk (Kd.R_mono (Kd.R_keep (IsS142.apart (show IsS142 w _ g314 t311 t335 t336 from ix_ HI314.out) (rx_ HO327.out) (by decide)) hk (fun _ h => h.2)) (fun _ h => h.1))
        have n3_ := Aside0.mk (Kd.R_mono (Kd.R_keep (IsS142.apart (show IsS142 w _ g314 t311 t335 t336 from ix_ HI314.out) (rx_ HO333.out) (by decide)) hk (fun _ h => h.2)) (fun _ h => h.1))
        have n4_ := Aside0.mk (Kd.R_mono (Kd.R_keep (IsS142.apart (show IsS142 w _ g314 t311 t335 t336 from ix_ HI314.out) (rx_ HO339.out) (by decide)) hk (fun _ h => h.2)) (fun _ h => h.1))
        have n5_ := Aside0.mk (hb)
        have n6_ := Aside0.mk (hi)
        clear BK310
        clear BK321
        clear HO327
        clear HO333
        clear HO339
        clear HB
        clear HI314
        have BK310 := n0_
        have BK321 := n1_
        have HO327 := n2_
        have HO333 := n3_
        have HO339 := n4_
        have HB := n5_
        have HI314 := n6_
        clear n0_ n1_ n2_ n3_ n4_ n5_ n6_
        (try clear hb)
        (try clear hb2)
        (try clear hk)
        (try clear hi)
        refine hK.out _ _ ⟨v326, v332, .slice Ao29 y337.length co29, (by rw [ha.out]; exact putSel_upk 6 hb_ rfl rfl rfl), fun _ => (bx_ BK310.out), (bx_ BK321.out), fun h0_ => absurd ((hon 3 (by kernel_rfl)).symm.trans h0_) (by decide), (hx_ HB.out), fun _ => (rx_ HO327.out), fun _ h1_ => absurd ((hon 6 (by kernel_rfl)).symm.trans h1_) (by decide), fun _ => (rx_ HO333.out), fun _ h1_ => absurd ((up_self b 9).symm.trans h1_) (by decide), fun _ => (rx_ HO339.out), fun _ => (ix_ HI314.out), fun h0_ => absurd ((hoff 10 (by kernel_rfl)).symm.trans h0_) (by decide)⟩
      refine steps_cons ?_ ?_
      · rintro b a w' ⟨v326, v332, v338, ha, Q_BK310, Q_BK321, Q_HI314, Q_HB, Q_HO327, Q_HI314_e3, Q_HO333, Q_HI314_e6, Q_HO339, Q_HI314_e9, Q_BK310_e10⟩ hb_ hon hoff
        refine ⟨_, rfl, fun K hK => ?_⟩
        have e2 : a.tmps[2]? = some (.pointer (some ⟨gb310, 0, none⟩)) := by rw [ha]; exact (putSel_off rfl).trans rfl
        have e15 : a.tmps[15]? = some (.agg #[.int .i64 t315, .int .i64 t316, .int .i64 t317, .int .i64 t318]) := by rw [ha]; exact putSel_on (e := (0, 15, .agg #[.int .i64 t315, .int .i64 t316, .int .i64 t317, .int .i64 t318])) 0 rfl rfl (hon 0 (by kernel_rfl)) rfl
        replace ha := Aside0.mk ha
        have BK310 := Aside0.mk (Q_BK310 hb_)
        have BK321 := Aside0.mk Q_BK321
        have HB := Aside0.mk Q_HB
        have HO327 := Aside0.mk (Q_HO327 (hon 2 (by kernel_rfl)))
        have HO333 := Aside0.mk (Q_HO333 (hon 5 (by kernel_rfl)))
        have HO339 := Aside0.mk (Q_HO339 (hon 8 (by kernel_rfl)))
        have HI314 := Aside0.mk (Q_HI314_e9 (hon 9 (by kernel_rfl)))
        have hs31 : w'.cell? ⟨gb310, 0, none⟩ = some (.int .i64 0) := (blk_cell BK310.out 0).trans rfl
        have hfs31 := blk_frozen BK310.out 0
        have hns31_1 := NB321_310.out
        have hms31_1 := NB310_321.out
        have hs32 : w'.cell? ⟨gb310, 1, none⟩ = some (.int .i64 0) := (blk_cell BK310.out 1).trans rfl
        have hfs32 := blk_frozen BK310.out 1
        have hns32_1 := NB321_310.out
        have hms32_1 := NB310_321.out
        have hs33 : w'.cell? ⟨gb310, 2, none⟩ = some (.int .i64 0) := (blk_cell BK310.out 2).trans rfl
        have hfs33 := blk_frozen BK310.out 2
        have hns33_1 := NB321_310.out
        have hms33_1 := NB310_321.out
        have hs34 : w'.cell? ⟨gb310, 3, none⟩ = some (.int .i64 0) := (blk_cell BK310.out 3).trans rfl
        have hfs34 := blk_frozen BK310.out 3
        have hns34_1 := NB321_310.out
        have hms34_1 := NB310_321.out
        refine skip_ (w1 := ?_) (by rfl) rfl ?_ ?_
        rotate_left
        · go_simp
          rfl
        refine hK.out _ _ ⟨v326, v332, v338, (by rw [ha.out]; exact putSel_none (v := undef) rfl), fun h0_ => absurd ((up_self b 10).symm.trans h0_) (by decide), (bx_ BK321.out), fun h0_ => absurd ((hon 3 (by kernel_rfl)).symm.trans h0_) (by decide), (hx_ HB.out), fun _ => (by (with_reducible repeat (first | apply Kd.R_alloc | apply Kd.R_drewN | apply Kd.R_drew)); exact Kd.R_mono (Kd.R_far (p := ⟨gb310, 3, none⟩) (Kd.R_far (p := ⟨gb310, 2, none⟩) (Kd.R_far (p := ⟨gb310, 1, none⟩) (Kd.R_far (p := ⟨gb310, 0, none⟩) (Kd.R_types HO327.out BK310.out (by decide)) (fun _ hk => hk.2) (.int .i64 t315)) (fun _ hk => hk.2) (.int .i64 t316)) (fun _ hk => hk.2) (.int .i64 t317)) (fun _ hk => hk.2) (.int .i64 t318)) (fun _ hk => by first | trivial | exact ⟨hk.1.1, hk.1.2⟩)), fun _ h1_ => absurd ((hon 6 (by kernel_rfl)).symm.trans h1_) (by decide), fun _ => (by (with_reducible repeat (first | apply Kd.R_alloc | apply Kd.R_drewN | apply Kd.R_drew)); exact Kd.R_mono (Kd.R_far (p := ⟨gb310, 3, none⟩) (Kd.R_far (p := ⟨gb310, 2, none⟩) (Kd.R_far (p := ⟨gb310, 1, none⟩) (Kd.R_far (p := ⟨gb310, 0, none⟩) (Kd.R_types HO333.out BK310.out (by decide)) (fun _ hk => hk.2) (.int .i64 t315)) (fun _ hk => hk.2) (.int .i64 t316)) (fun _ hk => hk.2) (.int .i64 t317)) (fun _ hk => hk.2) (.int .i64 t318)) (fun _ hk => by first | trivial | exact ⟨hk.1.1, hk.1.2⟩)), fun _ h1_ => absurd ((hon 9 (by kernel_rfl)).symm.trans h1_) (by decide), fun _ => (by (with_reducible repeat (first | apply Kd.R_alloc | apply Kd.R_drewN | apply Kd.R_drew)); exact Kd.R_mono (Kd.R_far (p := ⟨gb310, 3, none⟩) (Kd.R_far (p := ⟨gb310, 2, none⟩) (Kd.R_far (p := ⟨gb310, 1, none⟩) (Kd.R_far (p := ⟨gb310, 0, none⟩) (Kd.R_types HO339.out BK310.out (by decide)) (fun _ hk => hk.2) (.int .i64 t315)) (fun _ hk => hk.2) (.int .i64 t316)) (fun _ hk => hk.2) (.int .i64 t317)) (fun _ hk => hk.2) (.int .i64 t318)) (fun _ hk => by first | trivial | exact ⟨hk.1.1, hk.1.2⟩)), fun _ => (ix_ HI314.out), fun _ => (by (with_reducible repeat (first | refine blk_drewN ?_ _ | refine blk_drew ?_ | refine blk_alloc ?_ _)); refine blk_put (cs := #[.int .i64 t315, .int .i64 t316, .int .i64 t317, .int .i64 0]) ?_ 3 _ rfl; (with_reducible repeat (first | refine blk_drewN ?_ _ | refine blk_drew ?_ | refine blk_alloc ?_ _)); refine blk_put (cs := #[.int .i64 t315, .int .i64 t316, .int .i64 0, .int .i64 0]) ?_ 2 _ rfl; (with_reducible repeat (first | refine blk_drewN ?_ _ | refine blk_drew ?_ | refine blk_alloc ?_ _)); refine blk_put (cs := #[.int .i64 t315, .int .i64 0, .int .i64 0, .int .i64 0]) ?_ 1 _ rfl; (with_reducible repeat (first | refine blk_drewN ?_ _ | refine blk_drew ?_ | refine blk_alloc ?_ _)); refine blk_put (cs := #[.int .i64 0, .int .i64 0, .int .i64 0, .int .i64 0]) ?_ 0 _ rfl; (with_reducible repeat (first | refine blk_drewN ?_ _ | refine blk_drew ?_ | refine blk_alloc ?_ _)); exact BK310.out)⟩
      refine steps_cons ?_ ?_
      · rintro b a w' ⟨v326, v332, v338, ha, Q_BK310, Q_BK321, Q_HI314, Q_HB, Q_HO327, Q_HI314_e3, Q_HO333, Q_HI314_e6, Q_HO339, Q_HI314_e9, Q_BK310_e10⟩ hb_ hon hoff
        refine ⟨_, rfl, fun K hK => ?_⟩
        have e18 : a.tmps[18]? = some (.int .i64 t328) := by rw [ha]; exact putSel_on (e := (3, 18, .int .i64 t328)) 2 rfl rfl (hon 3 (by kernel_rfl)) rfl
        replace ha := Aside0.mk ha
        have BK321 := Aside0.mk Q_BK321
        have HB := Aside0.mk Q_HB
        have HO327 := Aside0.mk (Q_HO327 (hon 2 (by kernel_rfl)))
        have HO333 := Aside0.mk (Q_HO333 (hon 5 (by kernel_rfl)))
        have HO339 := Aside0.mk (Q_HO339 (hon 8 (by kernel_rfl)))
        have HI314 := Aside0.mk (Q_HI314_e9 (hon 9 (by kernel_rfl)))
        have BK310 := Aside0.mk (Q_BK310_e10 (hon 10 (by kernel_rfl)))
        refine value_ (w1 := w') (v := .int .i64 t328) (by rfl) rfl ?_ ?_
        · go_simp
          (try simp only [i64_w])
          try rfl
        refine hK.out _ _ ⟨v326, v332, v338, (by rw [ha.out]; exact putSel_upk 7 hb_ rfl rfl rfl), fun h0_ => absurd ((hon 10 (by kernel_rfl)).symm.trans h0_) (by decide), Q_BK321, fun h0_ => absurd ((hon 3 (by kernel_rfl)).symm.trans h0_) (by decide), Q_HB, Q_HO327, fun _ h1_ => absurd ((hon 6 (by kernel_rfl)).symm.trans h1_) (by decide), Q_HO333, fun _ h1_ => absurd ((hon 9 (by kernel_rfl)).symm.trans h1_) (by decide), Q_HO339, Q_HI314_e9, Q_BK310_e10⟩
      refine steps_cons ?_ ?_
      · rintro b a w' ⟨v326, v332, v338, ha, Q_BK310, Q_BK321, Q_HI314, Q_HB, Q_HO327, Q_HI314_e3, Q_HO333, Q_HI314_e6, Q_HO339, Q_HI314_e9, Q_BK310_e10⟩ hb_ hon hoff
        refine ⟨_, rfl, fun K hK => ?_⟩
        have e21 : a.tmps[21]? = some (.int .i64 t334) := by rw [ha]; exact putSel_on (e := (6, 21, .int .i64 t334)) 4 rfl rfl (hon 6 (by kernel_rfl)) rfl
        replace ha := Aside0.mk ha
        have BK321 := Aside0.mk Q_BK321
        have HB := Aside0.mk Q_HB
        have HO327 := Aside0.mk (Q_HO327 (hon 2 (by kernel_rfl)))
        have HO333 := Aside0.mk (Q_HO333 (hon 5 (by kernel_rfl)))
        have HO339 := Aside0.mk (Q_HO339 (hon 8 (by kernel_rfl)))
        have HI314 := Aside0.mk (Q_HI314_e9 (hon 9 (by kernel_rfl)))
        have BK310 := Aside0.mk (Q_BK310_e10 (hon 10 (by kernel_rfl)))
        refine value_ (w1 := w') (v := .int .i64 t334) (by rfl) rfl ?_ ?_
        · go_simp
          (try simp only [i64_w])
          try rfl
        refine hK.out _ _ ⟨v326, v332, v338, (by rw [ha.out]; exact putSel_upk 8 hb_ rfl rfl rfl), fun h0_ => absurd ((hon 10 (by kernel_rfl)).symm.trans h0_) (by decide), Q_BK321, fun h0_ => absurd ((hon 3 (by kernel_rfl)).symm.trans h0_) (by decide), Q_HB, Q_HO327, fun _ h1_ => absurd ((hon 6 (by kernel_rfl)).symm.trans h1_) (by decide), Q_HO333, fun _ h1_ => absurd ((hon 9 (by kernel_rfl)).symm.trans h1_) (by decide), Q_HO339, Q_HI314_e9, Q_BK310_e10⟩
      refine steps_cons ?_ ?_
      · rintro b a w' ⟨v326, v332, v338, ha, Q_BK310, Q_BK321, Q_HI314, Q_HB, Q_HO327, Q_HI314_e3, Q_HO333, Q_HI314_e6, Q_HO339, Q_HI314_e9, Q_BK310_e10⟩ hb_ hon hoff
        refine ⟨_, rfl, fun K hK => ?_⟩
        have e24 : a.tmps[24]? = some (.int .i64 t340) := by rw [ha]; exact putSel_on (e := (9, 24, .int .i64 t340)) 6 rfl rfl (hon 9 (by kernel_rfl)) rfl
        replace ha := Aside0.mk ha
        have BK321 := Aside0.mk Q_BK321
        have HB := Aside0.mk Q_HB
        have HO327 := Aside0.mk (Q_HO327 (hon 2 (by kernel_rfl)))
        have HO333 := Aside0.mk (Q_HO333 (hon 5 (by kernel_rfl)))
        have HO339 := Aside0.mk (Q_HO339 (hon 8 (by kernel_rfl)))
        have HI314 := Aside0.mk (Q_HI314_e9 (hon 9 (by kernel_rfl)))
        have BK310 := Aside0.mk (Q_BK310_e10 (hon 10 (by kernel_rfl)))
        refine value_ (w1 := w') (v := .int .i64 t340) (by rfl) rfl ?_ ?_
        · go_simp
          (try simp only [i64_w])
          try rfl
        refine hK.out _ _ ⟨v326, v332, v338, (by rw [ha.out]; exact putSel_upk 9 hb_ rfl rfl rfl), fun h0_ => absurd ((hon 10 (by kernel_rfl)).symm.trans h0_) (by decide), Q_BK321, fun h0_ => absurd ((hon 3 (by kernel_rfl)).symm.trans h0_) (by decide), Q_HB, Q_HO327, fun _ h1_ => absurd ((hon 6 (by kernel_rfl)).symm.trans h1_) (by decide), Q_HO333, fun _ h1_ => absurd ((hon 9 (by kernel_rfl)).symm.trans h1_) (by decide), Q_HO339, Q_HI314_e9, Q_BK310_e10⟩
      exact steps_nil
    rintro b a w34 hall ⟨v326, v332, v338, ha, Q_BK310, Q_BK321, Q_HI314, Q_HB, Q_HO327, Q_HI314_e3, Q_HO333, Q_HI314_e6, Q_HO339, Q_HI314_e9, Q_BK310_e10⟩
    clear BK310 BK321 HB HI314
    have hb0_ := hall 0 (by kernel_rfl)
    have hb2_ := hall 2 (by kernel_rfl)
    have hb3_ := hall 3 (by kernel_rfl)
    have hb5_ := hall 5 (by kernel_rfl)
    have hb6_ := hall 6 (by kernel_rfl)
    have hb8_ := hall 8 (by kernel_rfl)
    have hb9_ := hall 9 (by kernel_rfl)
    have hb10_ := hall 10 (by kernel_rfl)
    have hb11_ := hall 11 (by kernel_rfl)
    have hb12_ := hall 12 (by kernel_rfl)
    have hb13_ := hall 13 (by kernel_rfl)
    subst ha
    simp only [putSel, hb0_, hb2_, hb3_, hb5_, hb6_, hb8_, hb9_, hb10_, hb11_, hb12_, hb13_, if_true, Act.put, List.setIfInBounds_toArray, List.set_cons_zero, List.set_cons_succ]
    clear Q_BK310
    have BK321 := Aside0.mk Q_BK321
    clear Q_BK321
    clear Q_HI314
    have HB := Aside0.mk Q_HB
    clear Q_HB
    have HO327 := Aside0.mk (Q_HO327 hb2_)
    clear Q_HO327
    clear Q_HI314_e3
    have HO333 := Aside0.mk (Q_HO333 hb5_)
    clear Q_HO333
    clear Q_HI314_e6
    have HO339 := Aside0.mk (Q_HO339 hb8_)
    clear Q_HO339
    have HI314 := Aside0.mk (Q_HI314_e9 hb9_)
    clear Q_HI314_e9
    have BK310 := Aside0.mk (Q_BK310_e10 hb10_)
    clear Q_BK310_e10
    clear hall hb0_ hb2_ hb3_ hb5_ hb6_ hb8_ hb9_ hb10_ hb11_ hb12_ hb13_
    try go_wp2
    refine bodyPost_ret (results_list (rs := [.cell 2 41, .tmp 3, .tmp 4, .tmp 5]) rfl (by simp) (.cell gb310 41 #[.int .i64 t315, .int .i64 t316, .int .i64 t317, .int .i64 t318] (0, 0) _ rfl (bx_ BK310.out) Try.underlying41 rfl (by kernel_rfl) (.tmp (.tmp (.tmp .nil))))) rfl ?_
    exact ⟨by first | rfl | (simp [errW_none, errW_some] <;> rfl) | (simp [*, errW_none, errW_some] <;> rfl), hx_ HB.out⟩
  · rw [if_neg c5] at H
    have c5b0 : (t322 == 0) = false := beq_eq_false_iff_ne.mpr c5
    have c5b1 : (t322 != 0) = true := bne_iff_ne.mpr c5
    replace H := Option.bind_eq_some_iff.mp H
    obtain ⟨⟨t343, t344, t345⟩, A350, H⟩ := H
    replace H : ((spec_l01Next.f t311 t344 t345 8).bind fun bt346 => ((spec_l01Next.f t311 bt346.2.1 bt346.2.2 200).bind fun bt349 => (some (t315, t316, t317, t318, wrap64 (1 + t343), wrap64 (1 + bt346.1), bt349.1)))) = some (r1, r2, r3, r4, r5, r6, r7) := H
    have A35 := Aside0.mk A350
    clear A350
    replace H := Option.bind_eq_some_iff.mp H
    obtain ⟨⟨t346, t347, t348⟩, A360, H⟩ := H
    replace H : ((spec_l01Next.f t311 t347 t348 200).bind fun bt349 => (some (t315, t316, t317, t318, wrap64 (1 + t343), wrap64 (1 + t346), bt349.1))) = some (r1, r2, r3, r4, r5, r6, r7) := H
    have A36 := Aside0.mk A360
    clear A360
    replace H := Option.bind_eq_some_iff.mp H
    obtain ⟨⟨t349, t350, t351⟩, A370, H⟩ := H
    replace H : (some (t315, t316, t317, t318, wrap64 (1 + t343), wrap64 (1 + t346), t349)) = some (r1, r2, r3, r4, r5, r6, r7) := H
    have A37 := Aside0.mk A370
    clear A370
    simp only [Option.some.injEq, Prod.mk.injEq] at H
    obtain ⟨rfl, rfl, rfl, rfl, rfl, rfl, rfl⟩ := H
    go_enter Try.func75, Try.ntmps75
    try go_wp2_with (first | ((with_reducible refine gate_dst (N := 2) rfl ?_); refine box_event ?hg (N := 2) ?hd (cs := #[.int .i64 0, .int .i64 0, .int .i64 0, .int .i64 0]) (t := 41) ?hr ?_; (case hd => rfl); (case hg => rfl); (case hr => first | (go_simp; done) | (go_simp; rfl)); intro gb310 hg w38 hbox hb; have n0_ := Aside0.mk (below_step (hx_ HB.out) hb); have n1_ := Aside0.mk (hbox); have n2_ := Aside0.mk ((by rw [hg]; exact (below_size (hx_ HB.out)) : w.heap.size ≤ gb310)); have n3_ := Aside0.mk ((by rw [hg]; exact (below_size (hx_ HB.out)) : w.heap.size ≤ gb310)); clear HB; have HB := n0_; have BK310 := n1_; have GW310 := n2_; have GE310 := n3_; clear n0_ n1_ n2_ n3_; clear hb hbox hg) | ((with_reducible refine gate_callee (f := 113) rfl ?_); refine goesL_ (some 9) rfl rfl Try.func113 (by kernel_rfl) rfl #[.slice A0 l0.length c0] rfl (by (try simp only [List.map_toArray, List.map_cons, List.map_nil]); first | done | rfl | (simp only [List.length_drop, List.length_take]; rfl)) ?_; (with_reducible refine (spec_l01From.calls k _ _ l0 t311 t312 t313 w _ ?side1 ?side2 ?side3 A2.out).mono ?_); (case side1 => repeat (first | (with_reducible first | exact HB.out | apply below_alloc | apply pw_below_drewN | apply below_drew1 | refine below_set ?_ GE310.out) | exact HB.out)); (case side2 => exact HR0.out); (case side3 => exact HC0.out); rintro e w39 ⟨g314, rfl, hi, hb, hb2⟩; refine ⟨_, rfl, ?_⟩; have n0_ := Aside0.mk (blk_below (g := gb310) (o := .cells #[.int .i64 0, .int .i64 0, .int .i64 0, .int .i64 0] 41 (0, 0)) (bx_ BK310.out) hb2); have n1_ := Aside0.mk (hb); have n2_ := Aside0.mk (hi); have n3_ := Aside0.mk (IsS142.ne_blk hi (blk_below (g := gb310) (o := .cells #[.int .i64 0, .int .i64 0, .int .i64 0, .int .i64 0] 41 (0, 0)) (bx_ BK310.out) hb2) (by decide)); have n4_ := Aside0.mk (Ne.symm (IsS142.ne_blk hi (blk_below (g := gb310) (o := .cells #[.int .i64 0, .int .i64 0, .int .i64 0, .int .i64 0] 41 (0, 0)) (bx_ BK310.out) hb2) (by decide))); clear BK310; clear HB; have BK310 := n0_; have HB := n1_; have HI314 := n2_; have NB314_310 := n3_; have NB310_314 := n4_; clear n0_ n1_ n2_ n3_ n4_; (try clear hb); (try clear hb2); (try clear hk); (try clear hi)) | ((with_reducible refine gate_callee (f := 151) rfl ?_); refine goesL_ (some 11) rfl rfl Try.func151 (by kernel_rfl) rfl #[.pointer (some ⟨g314, 0, none⟩)] rfl (by (try simp only [List.map_toArray, List.map_cons, List.map_nil]); first | done | rfl | (simp only [List.length_drop, List.length_take]; rfl)) ?_; (with_reducible refine (spec_l08DrawTrim.calls g314 t311 t312 t313 t315 t316 t317 t318 t319 t320 w _ ?side1 ?side2 A3.out).mono ?_); (case side1 => repeat (first | (with_reducible first | exact HI314.out | apply IsS142.alloc | apply IsS142.drewN | apply IsS142.drew | apply IsS142.set_1 | apply IsS142.set_2 | refine IsS142.far ?_ NB314_310.out _) | exact HI314.out)); (case side2 => repeat (first | (with_reducible first | exact HB.out | apply below_alloc | apply pw_below_drewN | apply below_drew1 | refine below_set ?_ (IsS142.ge HI314.out) | refine below_set ?_ GE310.out) | exact HB.out)); rintro e w40 ⟨rfl, hi, hb, hk⟩; refine ⟨_, rfl, ?_⟩; have n0_ := Aside0.mk (KeepBut.blk hk (g' := gb310) (o := .cells #[.int .i64 0, .int .i64 0, .int .i64 0, .int .i64 0] 41 (0, 0)) (bx_ BK310.out) NB310_314.out (by simp)); have n1_ := Aside0.mk (hb); have n2_ := Aside0.mk (hi); clear BK310; clear HB; clear HI314; have BK310 := n0_; have HB := n1_; have HI314 := n2_; clear n0_ n1_ n2_; (try clear hb); (try clear hb2); (try clear hk); (try clear hi)) | ((with_reducible refine gate_dst (N := 7) rfl ?_); refine box_event ?hg (N := 7) ?hd (cs := #[.int .i64 0, .int .i64 0, .int .i64 0, .int .i64 0]) (t := 41) ?hr ?_; (case hd => rfl); (case hg => rfl); (case hr => first | (go_simp; done) | (go_simp; rfl)); intro gb321 hg w41 hbox hb; have n0_ := Aside0.mk (blk_below (g := gb310) (o := .cells #[.int .i64 0, .int .i64 0, .int .i64 0, .int .i64 0] 41 (0, 0)) (bx_ BK310.out) hb); have n1_ := Aside0.mk (IsS142.below (ix_ HI314.out) hb); have n2_ := Aside0.mk (below_step (hx_ HB.out) hb); have n3_ := Aside0.mk (hbox); have n4_ := Aside0.mk ((by rw [hg]; exact (below_size (hx_ HB.out)) : w.heap.size ≤ gb321)); have n5_ := Aside0.mk ((by rw [hg]; exact (below_size (hx_ HB.out)) : w.heap.size ≤ gb321)); have n6_ := Aside0.mk ((by rw [hg]; exact Nat.ne_of_lt (blk_lt (g := gb310) (o := .cells #[.int .i64 0, .int .i64 0, .int .i64 0, .int .i64 0] 41 (0, 0)) (bx_ BK310.out)) : gb310 ≠ gb321)); have n7_ := Aside0.mk ((by rw [hg]; exact Nat.ne_of_gt (blk_lt (g := gb310) (o := .cells #[.int .i64 0, .int .i64 0, .int .i64 0, .int .i64 0] 41 (0, 0)) (bx_ BK310.out)) : gb321 ≠ gb310)); have n8_ := Aside0.mk ((by rw [hg]; exact Nat.ne_of_lt (IsS142.lt (show IsS142 w _ g314 t311 t319 t320 from ix_ HI314.out)) : g314 ≠ gb321)); have n9_ := Aside0.mk ((by rw [hg]; exact Nat.ne_of_gt (IsS142.lt (show IsS142 w _ g314 t311 t319 t320 from ix_ HI314.out)) : gb321 ≠ g314)); clear BK310; clear HI314; clear HB; have BK310 := n0_; have HI314 := n1_; have HB := n2_; have BK321 := n3_; have GW321 := n4_; have GE321 := n5_; have NB310_321 := n6_; have NB321_310 := n7_; have NB314_321 := n8_; have NB321_314 := n9_; clear n0_ n1_ n2_ n3_ n4_ n5_ n6_ n7_ n8_ n9_; clear hb hbox hg; have hnb42 := NB321_310.out; have hnc42 := NB310_321.out; have hnb43 := NB321_314.out; have hnc43 := NB314_321.out; have hcz44_0 : w41.cell? ⟨gb321, 0, none⟩ = some (.int .i64 0) := (blk_cell BK321.out 0).trans rfl; have hcz44_1 : w41.cell? ⟨gb321, 1, none⟩ = some (.int .i64 0) := (blk_cell BK321.out 1).trans rfl; have hcz44_2 : w41.cell? ⟨gb321, 2, none⟩ = some (.int .i64 0) := (blk_cell BK321.out 2).trans rfl; have hcz44_3 : w41.cell? ⟨gb321, 3, none⟩ = some (.int .i64 0) := (blk_cell BK321.out 3).trans rfl; have hfz44_0 := blk_frozen BK321.out 0; have hfz44_1 := blk_frozen BK321.out 1; have hfz44_2 := blk_frozen BK321.out 2; have hfz44_3 := blk_frozen BK321.out 3) | ((with_reducible refine gate_callee (f := 115) rfl ?_); refine goesL_ (some 13) rfl rfl Try.func115 (by kernel_rfl) rfl #[.pointer (some ⟨g314, 0, none⟩), .int .i64 12] rfl (by (try simp only [List.map_toArray, List.map_cons, List.map_nil]); first | done | rfl | (simp only [List.length_drop, List.length_take]; rfl)) ?_; (with_reducible refine (spec_l01Next.calls g314 t311 t319 t320 12 t322 t323 t324 w _ ?side1 ?side2 A4.out).mono ?_); (case side1 => repeat (first | (with_reducible first | exact HI314.out | apply IsS142.alloc | apply IsS142.drewN | apply IsS142.drew | apply IsS142.set_1 | apply IsS142.set_2 | refine IsS142.far ?_ NB314_310.out _ | refine IsS142.far ?_ NB314_321.out _) | exact HI314.out)); (case side2 => repeat (first | (with_reducible first | exact HB.out | apply below_alloc | apply pw_below_drewN | apply below_drew1 | refine below_set ?_ (IsS142.ge HI314.out) | refine below_set ?_ GE310.out | refine below_set ?_ GE321.out) | exact HB.out)); rintro e w45 ⟨rfl, hi, hb, hk⟩; refine ⟨_, rfl, ?_⟩; have n0_ := Aside0.mk (KeepBut.blk hk (g' := gb310) (o := .cells #[.int .i64 0, .int .i64 0, .int .i64 0, .int .i64 0] 41 (0, 0)) (bx_ BK310.out) NB310_314.out (by simp)); have n1_ := Aside0.mk (KeepBut.blk hk (g' := gb321) (o := .cells #[.int .i64 t315, .int .i64 t316, .int .i64 t317, .int .i64 t318] 41 (0, 0)) (by (with_reducible repeat (first | refine blk_drewN ?_ _ | refine blk_drew ?_ | refine blk_alloc ?_ _)); refine blk_put (cs := #[.int .i64 t315, .int .i64 t316, .int .i64 t317, .int .i64 0]) ?_ 3 _ rfl; (with_reducible repeat (first | refine blk_drewN ?_ _ | refine blk_drew ?_ | refine blk_alloc ?_ _)); refine blk_put (cs := #[.int .i64 t315, .int .i64 t316, .int .i64 0, .int .i64 0]) ?_ 2 _ rfl; (with_reducible repeat (first | refine blk_drewN ?_ _ | refine blk_drew ?_ | refine blk_alloc ?_ _)); refine blk_put (cs := #[.int .i64 t315, .int .i64 0, .int .i64 0, .int .i64 0]) ?_ 1 _ rfl; (with_reducible repeat (first | refine blk_drewN ?_ _ | refine blk_drew ?_ | refine blk_alloc ?_ _)); refine blk_put (cs := #[.int .i64 0, .int .i64 0, .int .i64 0, .int .i64 0]) ?_ 0 _ rfl; (with_reducible repeat (first | refine blk_drewN ?_ _ | refine blk_drew ?_ | refine blk_alloc ?_ _)); exact BK321.out) NB321_314.out (by simp)); have n2_ := Aside0.mk (hb); have n3_ := Aside0.mk (hi); clear BK310; clear BK321; clear HB; clear HI314; have BK310 := n0_; have BK321 := n1_; have HB := n2_; have HI314 := n3_; clear n0_ n1_ n2_ n3_; (try clear hb); (try clear hb2); (try clear hk); (try clear hi)))
    have n0_ := Aside0.mk (blk_drew BK310.out)
    have n1_ := Aside0.mk (blk_drew BK321.out)
    have n2_ := Aside0.mk (IsS142.drew HI314.out)
    have n3_ := Aside0.mk (below_drew1 HB.out)
    clear BK310
    clear BK321
    clear HI314
    clear HB
    have BK310 := n0_
    have BK321 := n1_
    have HI314 := n2_
    have HB := n3_
    clear n0_ n1_ n2_ n3_
    refine start_ (n := 13) (S := fun w' => w'.cell? ⟨gb321, 0, none⟩ = some (.int .i64 t315) ∧ w'.cell? ⟨gb321, 1, none⟩ = some (.int .i64 t316) ∧ w'.cell? ⟨gb321, 2, none⟩ = some (.int .i64 t317) ∧ w'.cell? ⟨gb321, 3, none⟩ = some (.int .i64 t318)) (ds := []) #[false, false, false, false, false, false, false, false, false, false, false, false, false] (by kernel_rfl) rfl rfl ⟨(blk_cell BK321.out 0).trans rfl, (blk_cell BK321.out 1).trans rfl, (blk_cell BK321.out 2).trans rfl, (blk_cell BK321.out 3).trans rfl⟩ (fun hHeld => ?_); refine with_tabW spec_DrawLeastSheet.tab5 spec_DrawLeastSheet.bits5 (fun HT_ HW_ => ?_)
    generalize w45.drew = w46 at BK310 BK321 HI314 HB hHeld ⊢
    refine pure_ (i := 1) (N := some 26) (v := ?_) (a' := ?_) #[false, true, false, false, false, false, false, false, false, false, false, false, false] rfl rfl (any_of HT_.out (by kernel_rfl)) (fun _ _ _ h => h) (Or.inl ⟨by rfl, ?_⟩) ?_ ?_
    rotate_left
    · intro w'
      go_simp
      with_reducible rfl
    rotate_left
    · simp only [Act.put, List.setIfInBounds_toArray, List.set_cons_zero, List.set_cons_succ, i64_w, i32_w]
      rfl
    refine pure_ (i := 4) (N := some 29) (v := ?_) (a' := ?_) #[false, true, false, false, true, false, false, false, false, false, false, false, false] rfl rfl (any_of HT_.out (by kernel_rfl)) (fun _ _ _ h => h) (Or.inl ⟨by rfl, ?_⟩) ?_ ?_
    rotate_left
    · intro w'
      go_simp
      with_reducible rfl
    rotate_left
    · simp only [Act.put, List.setIfInBounds_toArray, List.set_cons_zero, List.set_cons_succ, i64_w, i32_w]
      rfl
    refine pure_ (i := 7) (N := some 32) (v := ?_) (a' := ?_) #[false, true, false, false, true, false, false, true, false, false, false, false, false] rfl rfl (any_of HT_.out (by kernel_rfl)) (fun _ _ _ h => h) (Or.inl ⟨by rfl, ?_⟩) ?_ ?_
    rotate_left
    · intro w'
      go_simp
      with_reducible rfl
    rotate_left
    · simp only [Act.put, List.setIfInBounds_toArray, List.set_cons_zero, List.set_cons_succ, i64_w, i32_w]
      rfl
    refine take_ (i := 0) (N := some 25) (v := ?_) (a' := ?_) #[true, true, false, false, true, false, false, true, false, false, false, false, false] rfl rfl (take_ofW HT_.out HW_.out (by kernel_rfl)) (fun _ _ _ h => h) (Or.inl ⟨by rfl, ?_⟩) hHeld ?_ ?_
    rotate_left
    · rintro w' ⟨s0, s1, s2, s3⟩
      go_simp
      with_reducible rfl
    rotate_left
    · simp only [Act.put, List.setIfInBounds_toArray, List.set_cons_zero, List.set_cons_succ, i64_w, i32_w]
      rfl
    refine one_ (i := 2) (N := some 27) #[true, true, true, false, true, false, false, true, false, false, false, false, false] rfl rfl (one_of HT_.out (by kernel_rfl)) (by decide) (fun K hK => ?_)
    refine goes_ Try.func115 (by kernel_rfl) rfl #[.pointer (some ⟨g314, 0, none⟩), .int .i64 8] (by rfl) rfl rfl (by (try simp only [List.map_toArray, List.map_cons, List.map_nil]); first | done | rfl | (simp only [List.length_drop, List.length_take]; rfl)) ?_
    with_reducible refine (spec_l01Next.calls g314 t311 t323 t324 8 t343 t344 t345 w _ ?side1 ?side2 A35.out).mono ?_
    (case side1 => repeat (first | (with_reducible first | exact HI314.out | apply IsS142.alloc | apply IsS142.drewN | apply IsS142.drew | apply IsS142.set_1 | apply IsS142.set_2 | refine IsS142.far ?_ NB314_310.out _ | refine IsS142.far ?_ NB314_321.out _) | exact HI314.out))
    (case side2 => repeat (first | (with_reducible first | exact HB.out | apply below_alloc | apply pw_below_drewN | apply below_drew1 | refine below_set ?_ (IsS142.ge HI314.out) | refine below_set ?_ GE310.out | refine below_set ?_ GE321.out) | exact HB.out))
    rintro e w47 ⟨rfl, hi, hb, hk⟩
    refine ⟨_, rfl, ?_⟩
    have n0_ := Aside0.mk (KeepBut.blk hk (g' := gb310) (o := .cells #[.int .i64 0, .int .i64 0, .int .i64 0, .int .i64 0] 41 (0, 0)) (bx_ BK310.out) NB310_314.out (by simp))
    have n1_ := Aside0.mk (KeepBut.blk hk (g' := gb321) (o := .cells #[.int .i64 t315, .int .i64 t316, .int .i64 t317, .int .i64 t318] 41 (0, 0)) (bx_ BK321.out) NB321_314.out (by simp))
    have n2_ := Aside0.mk (hb)
    have n3_ := Aside0.mk (hi)
    clear BK310
    clear BK321
    clear HB
    clear HI314
    have BK310 := n0_
    have BK321 := n1_
    have HB := n2_
    have HI314 := n3_
    clear n0_ n1_ n2_ n3_
    (try clear hb)
    (try clear hb2)
    (try clear hk)
    (try clear hi)
    refine hK.out _ _ ⟨(blk_cell BK321.out 0).trans rfl, (blk_cell BK321.out 1).trans rfl, (blk_cell BK321.out 2).trans rfl, (blk_cell BK321.out 3).trans rfl⟩ (fun hHeld => ?_)
    clear hK K
    refine norm_ (a' := ?_) ?_ ?_
    rotate_left
    · show Act.put _ (some 27) _ = _
      simp only [Act.put, List.setIfInBounds_toArray, List.set_cons_zero, List.set_cons_succ, i64_w, i32_w]
      rfl
    refine pure_ (i := 3) (N := some 28) (v := ?_) (a' := ?_) #[true, true, true, true, true, false, false, true, false, false, false, false, false] rfl rfl (any_of HT_.out (by kernel_rfl)) (fun _ _ _ h => h) (Or.inl ⟨by rfl, ?_⟩) ?_ ?_
    rotate_left
    · intro w'
      go_simp
      with_reducible rfl
    rotate_left
    · simp only [Act.put, List.setIfInBounds_toArray, List.set_cons_zero, List.set_cons_succ, i64_w, i32_w]
      rfl
    refine one_ (i := 5) (N := some 30) #[true, true, true, true, true, true, false, true, false, false, false, false, false] rfl rfl (one_of HT_.out (by kernel_rfl)) (by decide) (fun K hK => ?_)
    refine goes_ Try.func115 (by kernel_rfl) rfl #[.pointer (some ⟨g314, 0, none⟩), .int .i64 8] (by rfl) rfl rfl (by (try simp only [List.map_toArray, List.map_cons, List.map_nil]); first | done | rfl | (simp only [List.length_drop, List.length_take]; rfl)) ?_
    with_reducible refine (spec_l01Next.calls g314 t311 t344 t345 8 t346 t347 t348 w _ ?side1 ?side2 A36.out).mono ?_
    (case side1 => repeat (first | (with_reducible first | exact HI314.out | apply IsS142.alloc | apply IsS142.drewN | apply IsS142.drew | apply IsS142.set_1 | apply IsS142.set_2 | refine IsS142.far ?_ NB314_310.out _ | refine IsS142.far ?_ NB314_321.out _) | exact HI314.out))
    (case side2 => repeat (first | (with_reducible first | exact HB.out | apply below_alloc | apply pw_below_drewN | apply below_drew1 | refine below_set ?_ (IsS142.ge HI314.out) | refine below_set ?_ GE310.out | refine below_set ?_ GE321.out) | exact HB.out))
    rintro e w48 ⟨rfl, hi, hb, hk⟩
    refine ⟨_, rfl, ?_⟩
    have n0_ := Aside0.mk (KeepBut.blk hk (g' := gb310) (o := .cells #[.int .i64 0, .int .i64 0, .int .i64 0, .int .i64 0] 41 (0, 0)) (bx_ BK310.out) NB310_314.out (by simp))
    have n1_ := Aside0.mk (KeepBut.blk hk (g' := gb321) (o := .cells #[.int .i64 t315, .int .i64 t316, .int .i64 t317, .int .i64 t318] 41 (0, 0)) (bx_ BK321.out) NB321_314.out (by simp))
    have n2_ := Aside0.mk (hb)
    have n3_ := Aside0.mk (hi)
    clear BK310
    clear BK321
    clear HB
    clear HI314
    have BK310 := n0_
    have BK321 := n1_
    have HB := n2_
    have HI314 := n3_
    clear n0_ n1_ n2_ n3_
    (try clear hb)
    (try clear hb2)
    (try clear hk)
    (try clear hi)
    refine hK.out _ _ ⟨(blk_cell BK321.out 0).trans rfl, (blk_cell BK321.out 1).trans rfl, (blk_cell BK321.out 2).trans rfl, (blk_cell BK321.out 3).trans rfl⟩ (fun hHeld => ?_)
    clear hK K
    refine norm_ (a' := ?_) ?_ ?_
    rotate_left
    · show Act.put _ (some 30) _ = _
      simp only [Act.put, List.setIfInBounds_toArray, List.set_cons_zero, List.set_cons_succ, i64_w, i32_w]
      rfl
    refine pure_ (i := 6) (N := some 31) (v := ?_) (a' := ?_) #[true, true, true, true, true, true, true, true, false, false, false, false, false] rfl rfl (any_of HT_.out (by kernel_rfl)) (fun _ _ _ h => h) (Or.inl ⟨by rfl, ?_⟩) ?_ ?_
    rotate_left
    · intro w'
      go_simp
      with_reducible rfl
    rotate_left
    · simp only [Act.put, List.setIfInBounds_toArray, List.set_cons_zero, List.set_cons_succ, i64_w, i32_w]
      rfl
    refine one_ (i := 8) (N := some 33) #[true, true, true, true, true, true, true, true, true, false, false, false, false] rfl rfl (one_of HT_.out (by kernel_rfl)) (by decide) (fun K hK => ?_)
    refine goes_ Try.func115 (by kernel_rfl) rfl #[.pointer (some ⟨g314, 0, none⟩), .int .i64 200] (by rfl) rfl rfl (by (try simp only [List.map_toArray, List.map_cons, List.map_nil]); first | done | rfl | (simp only [List.length_drop, List.length_take]; rfl)) ?_
    with_reducible refine (spec_l01Next.calls g314 t311 t347 t348 200 t349 t350 t351 w _ ?side1 ?side2 A37.out).mono ?_
    (case side1 => repeat (first | (with_reducible first | exact HI314.out | apply IsS142.alloc | apply IsS142.drewN | apply IsS142.drew | apply IsS142.set_1 | apply IsS142.set_2 | refine IsS142.far ?_ NB314_310.out _ | refine IsS142.far ?_ NB314_321.out _) | exact HI314.out))
    (case side2 => repeat (first | (with_reducible first | exact HB.out | apply below_alloc | apply pw_below_drewN | apply below_drew1 | refine below_set ?_ (IsS142.ge HI314.out) | refine below_set ?_ GE310.out | refine below_set ?_ GE321.out) | exact HB.out))
    rintro e w49 ⟨rfl, hi, hb, hk⟩
    refine ⟨_, rfl, ?_⟩
    have n0_ := Aside0.mk (KeepBut.blk hk (g' := gb310) (o := .cells #[.int .i64 0, .int .i64 0, .int .i64 0, .int .i64 0] 41 (0, 0)) (bx_ BK310.out) NB310_314.out (by simp))
    have n1_ := Aside0.mk (KeepBut.blk hk (g' := gb321) (o := .cells #[.int .i64 t315, .int .i64 t316, .int .i64 t317, .int .i64 t318] 41 (0, 0)) (bx_ BK321.out) NB321_314.out (by simp))
    have n2_ := Aside0.mk (hb)
    have n3_ := Aside0.mk (hi)
    clear BK310
    clear BK321
    clear HB
    clear HI314
    have BK310 := n0_
    have BK321 := n1_
    have HB := n2_
    have HI314 := n3_
    clear n0_ n1_ n2_ n3_
    (try clear hb)
    (try clear hb2)
    (try clear hk)
    (try clear hi)
    refine hK.out _ _ ⟨(blk_cell BK321.out 0).trans rfl, (blk_cell BK321.out 1).trans rfl, (blk_cell BK321.out 2).trans rfl, (blk_cell BK321.out 3).trans rfl⟩ (fun hHeld => ?_)
    clear hK K
    refine norm_ (a' := ?_) ?_ ?_
    rotate_left
    · show Act.put _ (some 33) _ = _
      simp only [Act.put, List.setIfInBounds_toArray, List.set_cons_zero, List.set_cons_succ, i64_w, i32_w]
      rfl
    refine one_ (i := 9) (N := none) #[true, true, true, true, true, true, true, true, true, true, false, false, false] rfl rfl (one_of HT_.out (by kernel_rfl)) (by decide) (fun K hK => ?_)
    have hs50 : w49.cell? ⟨gb310, 0, none⟩ = some (.int .i64 0) := (blk_cell BK310.out 0).trans rfl
    have hfs50 := blk_frozen BK310.out 0
    have hns50_1 := NB321_310.out
    have hms50_1 := NB310_321.out
    have hs51 : w49.cell? ⟨gb310, 1, none⟩ = some (.int .i64 0) := (blk_cell BK310.out 1).trans rfl
    have hfs51 := blk_frozen BK310.out 1
    have hns51_1 := NB321_310.out
    have hms51_1 := NB310_321.out
    have hs52 : w49.cell? ⟨gb310, 2, none⟩ = some (.int .i64 0) := (blk_cell BK310.out 2).trans rfl
    have hfs52 := blk_frozen BK310.out 2
    have hns52_1 := NB321_310.out
    have hms52_1 := NB310_321.out
    have hs53 : w49.cell? ⟨gb310, 3, none⟩ = some (.int .i64 0) := (blk_cell BK310.out 3).trans rfl
    have hfs53 := blk_frozen BK310.out 3
    have hns53_1 := NB321_310.out
    have hms53_1 := NB310_321.out
    refine skip_ (w1 := ?_) (by rfl) rfl ?_ ?_
    rotate_left
    · go_simp
      rfl
    refine hK.out _ _ ⟨((cell_far (p := ⟨gb310, _, none⟩) NB321_310.out _).trans (((cell_far (p := ⟨gb310, _, none⟩) NB321_310.out _).trans (((cell_far (p := ⟨gb310, _, none⟩) NB321_310.out _).trans (((cell_far (p := ⟨gb310, _, none⟩) NB321_310.out _).trans (hHeld.1)))))))), ((cell_far (p := ⟨gb310, _, none⟩) NB321_310.out _).trans (((cell_far (p := ⟨gb310, _, none⟩) NB321_310.out _).trans (((cell_far (p := ⟨gb310, _, none⟩) NB321_310.out _).trans (((cell_far (p := ⟨gb310, _, none⟩) NB321_310.out _).trans (hHeld.2.1)))))))), ((cell_far (p := ⟨gb310, _, none⟩) NB321_310.out _).trans (((cell_far (p := ⟨gb310, _, none⟩) NB321_310.out _).trans (((cell_far (p := ⟨gb310, _, none⟩) NB321_310.out _).trans (((cell_far (p := ⟨gb310, _, none⟩) NB321_310.out _).trans (hHeld.2.2.1)))))))), ((cell_far (p := ⟨gb310, _, none⟩) NB321_310.out _).trans (((cell_far (p := ⟨gb310, _, none⟩) NB321_310.out _).trans (((cell_far (p := ⟨gb310, _, none⟩) NB321_310.out _).trans (((cell_far (p := ⟨gb310, _, none⟩) NB321_310.out _).trans (hHeld.2.2.2))))))))⟩ (fun hHeld => ?_)
    clear hK K
    refine pure_ (i := 10) (N := some 3) (v := ?_) (a' := ?_) #[true, true, true, true, true, true, true, true, true, true, true, false, false] rfl rfl (any_of HT_.out (by kernel_rfl)) (fun _ _ _ h => h) (Or.inl ⟨by rfl, ?_⟩) ?_ ?_
    rotate_left
    · intro w'
      go_simp
      with_reducible rfl
    rotate_left
    · simp only [Act.put, List.setIfInBounds_toArray, List.set_cons_zero, List.set_cons_succ, i64_w, i32_w]
      rfl
    refine pure_ (i := 11) (N := some 4) (v := ?_) (a' := ?_) #[true, true, true, true, true, true, true, true, true, true, true, true, false] rfl rfl (any_of HT_.out (by kernel_rfl)) (fun _ _ _ h => h) (Or.inl ⟨by rfl, ?_⟩) ?_ ?_
    rotate_left
    · intro w'
      go_simp
      with_reducible rfl
    rotate_left
    · simp only [Act.put, List.setIfInBounds_toArray, List.set_cons_zero, List.set_cons_succ, i64_w, i32_w]
      rfl
    refine pure_ (i := 12) (N := some 5) (v := ?_) (a' := ?_) #[true, true, true, true, true, true, true, true, true, true, true, true, true] rfl rfl (any_of HT_.out (by kernel_rfl)) (fun _ _ _ h => h) (Or.inl ⟨by rfl, ?_⟩) ?_ ?_
    rotate_left
    · intro w'
      go_simp
      with_reducible rfl
    rotate_left
    · simp only [Act.put, List.setIfInBounds_toArray, List.set_cons_zero, List.set_cons_succ, i64_w, i32_w]
      rfl
    refine done_ (done_of HT_.out (by kernel_rfl)) ?_
    try go_wp2
    refine bodyPost_ret (results_list (rs := [.cell 2 41, .tmp 3, .tmp 4, .tmp 5]) rfl (by simp) (.cell gb310 41 #[.int .i64 t315, .int .i64 t316, .int .i64 t317, .int .i64 t318] (0, 0) _ rfl (by (with_reducible repeat (first | refine blk_drewN ?_ _ | refine blk_drew ?_ | refine blk_alloc ?_ _)); refine blk_put (cs := #[.int .i64 t315, .int .i64 t316, .int .i64 t317, .int .i64 0]) ?_ 3 _ rfl; (with_reducible repeat (first | refine blk_drewN ?_ _ | refine blk_drew ?_ | refine blk_alloc ?_ _)); refine blk_put (cs := #[.int .i64 t315, .int .i64 t316, .int .i64 0, .int .i64 0]) ?_ 2 _ rfl; (with_reducible repeat (first | refine blk_drewN ?_ _ | refine blk_drew ?_ | refine blk_alloc ?_ _)); refine blk_put (cs := #[.int .i64 t315, .int .i64 0, .int .i64 0, .int .i64 0]) ?_ 1 _ rfl; (with_reducible repeat (first | refine blk_drewN ?_ _ | refine blk_drew ?_ | refine blk_alloc ?_ _)); refine blk_put (cs := #[.int .i64 0, .int .i64 0, .int .i64 0, .int .i64 0]) ?_ 0 _ rfl; (with_reducible repeat (first | refine blk_drewN ?_ _ | refine blk_drew ?_ | refine blk_alloc ?_ _)); exact BK310.out) Try.underlying41 rfl (by kernel_rfl) (.tmp (.tmp (.tmp .nil))))) rfl ?_
    exact ⟨by first | rfl | (simp [errW_none, errW_some] <;> rfl) | (simp [*, errW_none, errW_some] <;> rfl), hx_ HB.out⟩

end Go.Proofs.Ythapadejldlmfaa.PFnBestGrids
