-- Written by wip/inject.py: a contract of each function that the law reaches; those of the stand-ins are proved in this seat's Hand texts
import Derived.Test.YtdafddgmeidclaaGreatDoorPFnGridCutsx0
namespace Go.Proofs.YtdafddgmeidclaaGreatDoor.PFnGridCuts
open Go.RowKit Go.Proofs.YtdafddgmeidclaaGreatDoorW.PrintWords Go.Proofs.YtdafddgmeidclaaGreatDoorW.PrintLast Go.Proofs.YtdafddgmeidclaaGreatDoorW.PrintMore
attribute [local go_sem] max2_int min2_int max_two min_two max_three min_three max_four min_four   -- for this text's walks alone
set_option linter.unusedVariables false
set_option linter.unusedSimpArgs false

/-! ### spec_l09Cut: function 42 -/
def spec_l09Cut.j0 : Nat → List (S25) → Int → Bool → Int → Int → Int → Int → Int → Option ((List (S25)))
 | 0, _, _, _, _, _, _, _, _ => none
 | k + 1, x0, x266000, x266001, x266002, x269000, x269001, x270000, x270001 => (some (([] : List (S25)) : List (S25))).bind fun y270 => (if 0 ≤ x266000 then (if x266000 ≤ (x0.length : Int) then ((some (x0.take (x266000 : Int).toNat : List (S25))).bind fun y273 => (if y270.length + y273.length < 8796093022208 then ((some (y270 ++ y273 : List (S25))).bind fun y277 => ((some (([(⟨x269000, x269001⟩ : S25), (⟨x270000, x270001⟩ : S25)] : List (S25)) : List (S25))).bind fun y280 => (if y277.length + y280.length < 8796093022208 then ((some (y277 ++ y280 : List (S25))).bind fun y283 => (if 0 ≤ (wrap64 (x266000 + 1)) then (if (wrap64 (x266000 + 1)) ≤ (x0.length : Int) then ((some (x0.drop ((wrap64 (x266000 + 1)) : Int).toNat : List (S25))).bind fun y286 => (if y283.length + y286.length < 8796093022208 then (some (y283 ++ y286)) else (none))) else (none)) else (none))) else (none)))) else (none))) else (none)) else (none))
def spec_l09Cut.f (k : Nat) (l0 : List (S25)) (a1_0 : Int) (a1_1 : Bool) (a1_2 : Int) : Option ((List (S25))) := if 0 ≤ a1_0 then (if a1_0 < (l0.length : Int) then (if a1_1 = true then (spec_l09Cut.j0 k l0 a1_0 a1_1 a1_2 ((rd_T25 l0 a1_0).f0) a1_2 ((rd_T25 l0 a1_0).f0) (wrap64 (((rd_T25 l0 a1_0).f1) - a1_2))) else (spec_l09Cut.j0 k l0 a1_0 a1_1 a1_2 a1_2 ((rd_T25 l0 a1_0).f1) (wrap64 (((rd_T25 l0 a1_0).f0) - a1_2)) ((rd_T25 l0 a1_0).f1))) else (none)) else (none)
theorem spec_l09Cut.mono_l : ∀ k, (∀ y0 y1 y2 y3 y4 y5 y6 y7, LeO (spec_l09Cut.j0 k y0 y1 y2 y3 y4 y5 y6 y7) (spec_l09Cut.j0 (k + 1) y0 y1 y2 y3 y4 y5 y6 y7))
 | 0 => fun _ _ _ _ _ _ _ _ r h => by simp [spec_l09Cut.j0] at h
 | k + 1 => by
  have ih0 := spec_l09Cut.mono_l k
  ·intro y0 y1 y2 y3 y4 y5 y6 y7
   unfold spec_l09Cut.j0
   repeat' first
   | (with_reducible exact ih0 _ _ _ _ _ _ _ _)
   | (with_reducible exact LeO.refl _)
   | (with_reducible exact LeO.none _)
   | (with_reducible refine LeO.ite ?_ ?_)
   | (with_reducible refine LeO.bind ?_ (fun _ => ?_))
   | exact ih0 _ _ _ _ _ _ _ _
   | exact LeO.none _
   | refine LeO.ite ?_ ?_
   | refine LeO.bind ?_ (fun _ => ?_)
theorem spec_l09Cut.mono : ∀ a0 a1 a2 a3 k, LeO (spec_l09Cut.f k a0 a1 a2 a3) (spec_l09Cut.f (k + 1) a0 a1 a2 a3) := by
 intro a0 a1 a2 a3 k
 have ih0 := spec_l09Cut.mono_l k
 unfold spec_l09Cut.f
 repeat' first
   | (with_reducible exact ih0 _ _ _ _ _ _ _ _)
   | (with_reducible exact LeO.refl _)
   | (with_reducible exact LeO.none _)
   | (with_reducible refine LeO.ite ?_ ?_)
   | (with_reducible refine LeO.bind ?_ (fun _ => ?_))
   | exact ih0 _ _ _ _ _ _ _ _
   | exact LeO.none _
   | refine LeO.ite ?_ ?_
   | refine LeO.bind ?_ (fun _ => ?_)
def spec_l09Cut.T2 : Bool × List (List Nat × List Nat) := (true, [([], []), ([0], [0]), ([], []), ([2], [2]), ([1, 3], [1, 3]), ([], []), ([5], [5]), ([], []), ([7], [7]), ([6, 8], [6, 8]), ([], []), ([10], [10]), ([9, 11], [9, 11]), ([], []), ([], []), ([13, 4, 0, 1, 2, 3, 4, 13, 14], [4, 13]), ([14, 12, 15, 0, 1, 2, 3, 4, 5, 6, 7, 8, 9, 10, 11, 12, 13, 14, 15], [12, 14])])
def spec_l09Cut.B2 : List Nat := [0, 1, 0, 4, 15, 0, 32, 0, 128, 480, 0, 1024, 4064, 0, 0, 24607, 65535]
theorem spec_l09Cut.tab2 : rtab .any (opsOf Tryz.f42 2) = spec_l09Cut.T2 := by kernel_rfl
theorem spec_l09Cut.bits2 : waitsOk spec_l09Cut.T2.2 spec_l09Cut.B2 = true := by kernel_rfl
def spec_l09Cut.T4 : Bool × List (List Nat × List Nat) := (true, [([], []), ([0], [0]), ([], []), ([2], [2]), ([1, 3], [1, 3]), ([], []), ([5], [5]), ([], []), ([7], [7]), ([], []), ([9], [9]), ([8, 10], [8, 10]), ([6, 11], [6, 11]), ([4, 0, 1, 2, 3, 4], [4]), ([12, 13, 0, 1, 2, 3, 4, 5, 6, 7, 8, 9, 10, 11, 12, 13], [12])])
def spec_l09Cut.B4 : List Nat := [0, 1, 0, 4, 15, 0, 32, 0, 128, 0, 512, 1920, 4064, 31, 16383]
theorem spec_l09Cut.tab4 : rtab .any (opsOf Tryz.f42 4) = spec_l09Cut.T4 := by kernel_rfl
theorem spec_l09Cut.bits4 : waitsOk spec_l09Cut.T4.2 spec_l09Cut.B4 = true := by kernel_rfl
def spec_l09Cut.T5 : Bool × List (List Nat × List Nat) := (true, [([], []), ([], []), ([], []), ([2], [2]), ([1, 3], [1, 3]), ([0, 4], [0, 4]), ([], []), ([], []), ([6, 7], [6, 7]), ([5, 8, 5], [5, 8]), ([], []), ([], []), ([11], [11]), ([12], [12]), ([10, 13], [10, 13]), ([9, 14, 9], [9, 14]), ([15, 15, 0, 1, 2, 3, 4, 5, 6, 7, 8, 9, 10, 11, 12, 13, 14, 15], [15])])
def spec_l09Cut.B5 : List Nat := [0, 0, 0, 4, 14, 31, 0, 0, 192, 511, 0, 0, 2048, 6144, 15360, 32767, 65535]
theorem spec_l09Cut.tab5 : rtab .any (opsOf Tryz.f42 5) = spec_l09Cut.T5 := by kernel_rfl
theorem spec_l09Cut.bits5 : waitsOk spec_l09Cut.T5.2 spec_l09Cut.B5 = true := by kernel_rfl
set_option maxHeartbeats 8000000 in
set_option maxRecDepth 100000 in
theorem spec_l09Cut.calls (k : Nat) (A0 : Option Addr) (c0 : Nat) (l0 : List (S25)) (a1_0 : Int) (a1_1 : Bool) (a1_2 : Int) (r : List (S25)) (w : World) (hr0 : Kd.C k25 w A0 l0.length l0) (hc0 : l0.length ≤ c0) (h : spec_l09Cut.f k l0 a1_0 a1_1 a1_2 = some r) :
  Calls Tryz.prog 42 #[.slice A0 l0.length c0, .agg #[.int .i64 a1_0, .bool a1_1, .int .i64 a1_2]] w fun e w' => ∃ v0_ : Value, e = .returned (v0_) ∧ Kd.R k25 25 w' w.heap.size (fun _ => True) v0_ r ∧ Below w.heap.size w w' := by
 have hu50 := Tryz.underlying50
 have hu25 := Tryz.underlying25
 have HR0 := Aside0.mk hr0
 have HC0 := Aside0.mk hc0
 clear hr0 hc0
 have HB := Aside0.mk (Below.refl w.heap.size w)
 have H : (if 0 ≤ a1_0 then (if a1_0 < (l0.length : Int) then (if a1_1 = true then (spec_l09Cut.j0 k l0 a1_0 a1_1 a1_2 ((rd_T25 l0 a1_0).f0) a1_2 ((rd_T25 l0 a1_0).f0) (wrap64 (((rd_T25 l0 a1_0).f1) - a1_2))) else (spec_l09Cut.j0 k l0 a1_0 a1_1 a1_2 a1_2 ((rd_T25 l0 a1_0).f1) (wrap64 (((rd_T25 l0 a1_0).f0) - a1_2)) ((rd_T25 l0 a1_0).f1))) else (none)) else (none)) = some r := h
 clear h
 by_cases c3 : 0 ≤ a1_0
 ·rw [if_pos c3] at H
  have c3b0 : decide (0 ≤ a1_0) = true := decide_eq_true c3
  clear c3
  by_cases c4 : a1_0 < (l0.length : Int)
  ·rw [if_pos c4] at H
   have c4b0 : decide (a1_0 < (l0.length : Int)) = true := decide_eq_true c4
   clear c4
   have HC5 := Aside0.mk H
   clear H
   go_enter Tryz.func42, Tryz.ntmps42
   try go_wp2_with (first | ((with_reducible refine gd_ 3 rfl ?_); refine be_ 3 #[.int .i64 a1_0, .bool a1_1, .int .i64 a1_2] 50 rfl rfl ?_; intro gb265 hg w6 hbox hb; have BK265 := am_ hbox; have GW265 := gw_ hg HB; have GE265 := gw_ hg HB; replace HB := hs_ HB hb; clear hb hbox hg; have hcz7_0 : w6.cell? ⟨gb265, 0, none⟩ = some (.int .i64 a1_0) := (blk_cell BK265.out 0).trans rfl; have hcz7_1 : w6.cell? ⟨gb265, 1, none⟩ = some (.bool a1_1) := (blk_cell BK265.out 1).trans rfl; have hcz7_2 : w6.cell? ⟨gb265, 2, none⟩ = some (.int .i64 a1_2) := (blk_cell BK265.out 2).trans rfl; have hfz7_0 := blk_frozen BK265.out 0; have hfz7_1 := blk_frozen BK265.out 1; have hfz7_2 := blk_frozen BK265.out 2; have p266 : 0 ≤ (a1_0 : Int) := of_decide_eq_true (by first | (with_reducible assumption) | assumption); have q266 : a1_0 < (l0.length : Int) := of_decide_eq_true (by first | (with_reducible assumption) | assumption); obtain ⟨ad266, e266, hx266_0, hx266_1⟩ := at_T25 HR0.out a1_0 p266 q266; cases e266; replace hx266_0 := (HB.out.cell (World.block_lt_of_cell? w _ hx266_0)).trans hx266_0; replace hx266_1 := (HB.out.cell (World.block_lt_of_cell? w _ hx266_1)).trans hx266_1; replace p266 := eq_true p266; replace q266 := eq_true q266) | ((with_reducible refine gd_ 5 rfl ?_); refine be_ 5 #[.int .i64 0, .int .i64 0] 25 rfl rfl ?_; intro gb267 hg w8 hbox hb; have BK267 := am_ hbox; have GW267 := gw_ hg HB; have GE267 := gw_ hg HB; replace HB := hs_ HB hb; have NB265_267 := nl_ hg BK265; have NB267_265 := ng_ hg BK265; replace BK265 := bb_ BK265 hb; clear hb hbox hg; have hnb9 := NB267_265.out; have hnc9 := NB265_267.out; have hcz10_0 : w8.cell? ⟨gb267, 0, none⟩ = some (.int .i64 0) := (blk_cell BK267.out 0).trans rfl; have hcz10_1 : w8.cell? ⟨gb267, 1, none⟩ = some (.int .i64 0) := (blk_cell BK267.out 1).trans rfl; have hfz10_0 := blk_frozen BK267.out 0; have hfz10_1 := blk_frozen BK267.out 1))
   have n0_ : Aside0 (((w8.setCell ⟨gb267, 0, none⟩ (.int .i64 ((rd_T25 l0 a1_0).f0))).setCell ⟨gb267, 1, none⟩ (.int .i64 ((rd_T25 l0 a1_0).f1))).heap[gb265]? = some (.cells #[.int .i64 a1_0, .bool a1_1, .int .i64 a1_2] 50 (0, 0))) := ⟨bx_ BK265.out⟩
   have n1_ : Aside0 (((w8.setCell ⟨gb267, 0, none⟩ (.int .i64 ((rd_T25 l0 a1_0).f0))).setCell ⟨gb267, 1, none⟩ (.int .i64 ((rd_T25 l0 a1_0).f1))).heap[gb267]? = some (.cells #[.int .i64 ((rd_T25 l0 a1_0).f0), .int .i64 ((rd_T25 l0 a1_0).f1)] 25 (0, 0))) := ⟨by (with_reducible repeat (first | refine blk_drewN ?_ _ | refine blk_drew ?_ | refine blk_alloc ?_ _)); refine blk_put (cs := #[.int .i64 ((rd_T25 l0 a1_0).f0), .int .i64 0]) ?_ 1 _ rfl; (with_reducible repeat (first | refine blk_drewN ?_ _ | refine blk_drew ?_ | refine blk_alloc ?_ _)); refine blk_put (cs := #[.int .i64 0, .int .i64 0]) ?_ 0 _ rfl; (with_reducible repeat (first | refine blk_drewN ?_ _ | refine blk_drew ?_ | refine blk_alloc ?_ _)); exact BK267.out⟩
   have n2_ : Aside0 (Below w.heap.size w ((w8.setCell ⟨gb267, 0, none⟩ (.int .i64 ((rd_T25 l0 a1_0).f0))).setCell ⟨gb267, 1, none⟩ (.int .i64 ((rd_T25 l0 a1_0).f1)))) := ⟨hx_ HB.out⟩
   (try clear BK265)
   (try clear BK267)
   (try clear HB)
   generalize ((w8.setCell ⟨gb267, 0, none⟩ (.int .i64 ((rd_T25 l0 a1_0).f0))).setCell ⟨gb267, 1, none⟩ (.int .i64 ((rd_T25 l0 a1_0).f1))) = w11 at n0_ n1_ n2_ ⊢
   have BK265 := n0_
   have BK267 := n1_
   have HB := n2_
   clear n0_ n1_ n2_
   replace BK265 := am_ (blk_drew BK265.out); replace BK267 := am_ (blk_drew BK267.out); replace HB := am_ (below_drew1 HB.out)
   refine start_ (n := 17) (S := fun w' => w'.cell? ⟨gb265, 0, none⟩ = some (.int .i64 a1_0) ∧ w'.cell? ⟨gb265, 1, none⟩ = some (.bool a1_1) ∧ w'.cell? ⟨gb265, 2, none⟩ = some (.int .i64 a1_2) ∧ w'.cell? ⟨gb267, 0, none⟩ = some (.int .i64 ((rd_T25 l0 a1_0).f0)) ∧ w'.cell? ⟨gb267, 1, none⟩ = some (.int .i64 ((rd_T25 l0 a1_0).f1))) (ds := []) #[false, false, false, false, false, false, false, false, false, false, false, false, false, false, false, false, false] (by kernel_rfl) rfl rfl ⟨(blk_cell BK265.out 0).trans rfl, (blk_cell BK265.out 1).trans rfl, (blk_cell BK265.out 2).trans rfl, (blk_cell BK267.out 0).trans rfl, (blk_cell BK267.out 1).trans rfl⟩ (fun hHeld => ?_); refine with_tabW spec_l09Cut.tab2 spec_l09Cut.bits2 (fun HT_ HW_ => ?_)
   generalize w11.drew = w12 at BK265 BK267 HB hHeld ⊢
   refine pu_ 0 (some 13) #[true, false, false, false, false, false, false, false, false, false, false, false, false, false, false, false, false] HT_ ?_
   refine pu_ 2 (some 15) #[true, false, true, false, false, false, false, false, false, false, false, false, false, false, false, false, false] HT_ ?_
   refine pu_ 5 (some 18) #[true, false, true, false, false, true, false, false, false, false, false, false, false, false, false, false, false] HT_ ?_
   refine pu_ 7 (some 20) #[true, false, true, false, false, true, false, true, false, false, false, false, false, false, false, false, false] HT_ ?_
   refine pu_ 10 (some 23) #[true, false, true, false, false, true, false, true, false, false, true, false, false, false, false, false, false] HT_ ?_
   refine ta5_ 1 (some 14) #[true, true, true, false, false, true, false, true, false, false, true, false, false, false, false, false, false] HT_ HW_ hHeld ?_
   refine ta5_ 3 (some 16) #[true, true, true, true, false, true, false, true, false, false, true, false, false, false, false, false, false] HT_ HW_ hHeld ?_
   refine pu_ 4 (some 17) #[true, true, true, true, true, true, false, true, false, false, true, false, false, false, false, false, false] HT_ ?_
   refine ta5_ 6 (some 19) #[true, true, true, true, true, true, true, true, false, false, true, false, false, false, false, false, false] HT_ HW_ hHeld ?_
   refine ta5_ 8 (some 21) #[true, true, true, true, true, true, true, true, true, false, true, false, false, false, false, false, false] HT_ HW_ hHeld ?_
   refine pu_ 9 (some 22) #[true, true, true, true, true, true, true, true, true, true, true, false, false, false, false, false, false] HT_ ?_
   refine ta5_ 11 (some 24) #[true, true, true, true, true, true, true, true, true, true, true, true, false, false, false, false, false] HT_ HW_ hHeld ?_
   refine pu_ 12 (some 25) #[true, true, true, true, true, true, true, true, true, true, true, true, true, false, false, false, false] HT_ ?_
   refine join_ (σ := Nat × Nat) 2 #[true, true, true, true, true, true, true, true, true, true, true, true, true, true, true, false, false] (fun s_ => [(6, .pointer (some ⟨s_.1, 0, none⟩)), (7, .pointer (some ⟨s_.2, 0, none⟩))]) (fun s_ w' => (w'.cell? ⟨gb265, 0, none⟩ = some (.int .i64 a1_0) ∧ w'.cell? ⟨gb265, 1, none⟩ = some (.bool a1_1) ∧ w'.cell? ⟨gb265, 2, none⟩ = some (.int .i64 a1_2) ∧ w'.cell? ⟨gb267, 0, none⟩ = some (.int .i64 ((rd_T25 l0 a1_0).f0)) ∧ w'.cell? ⟨gb267, 1, none⟩ = some (.int .i64 ((rd_T25 l0 a1_0).f1))) ∧ (w'.heap[gb265]? = some (.cells #[.int .i64 a1_0, .bool a1_1, .int .i64 a1_2] 50 (0, 0))) ∧ (w'.heap[gb267]? = some (.cells #[.int .i64 ((rd_T25 l0 a1_0).f0), .int .i64 ((rd_T25 l0 a1_0).f1)] 25 (0, 0))) ∧ (w'.heap[s_.1]? = some (.cells #[.int .i64 0, .int .i64 0] 25 (0, 0))) ∧ (w'.heap[s_.2]? = some (.cells #[.int .i64 0, .int .i64 0] 25 (0, 0))) ∧ (w.heap.size ≤ s_.1) ∧ (w.heap.size ≤ s_.1) ∧ (gb265 ≠ s_.1) ∧ (s_.1 ≠ gb265) ∧ (gb267 ≠ s_.1) ∧ (s_.1 ≠ gb267) ∧ (s_.2 ≠ s_.1) ∧ (s_.1 ≠ s_.2) ∧ (w.heap.size ≤ s_.2) ∧ (w.heap.size ≤ s_.2) ∧ (gb265 ≠ s_.2) ∧ (s_.2 ≠ gb265) ∧ (gb267 ≠ s_.2) ∧ (s_.2 ≠ gb267) ∧ (Below w.heap.size w w')) ?_ ?_
   rotate_left
   ·intro hCont
    refine two_ (i := 13) (j := 14) (Ni := some 6) (Nj := some 7) #[true, true, true, true, true, true, true, true, true, true, true, true, true, true, false, false, false] #[true, true, true, true, true, true, true, true, true, true, true, true, true, false, true, false, false] rfl rfl rfl rfl (two_of HT_.out (by kernel_rfl)) (by decide) (by decide) (fun K hK => ?_) (fun K hK => ?_)
    ·skip
     refine box_step ?hg (N := 6) ?hd (cs := #[.int .i64 0, .int .i64 0]) (t := 25) ?hr ?_; (case hd => rfl); (case hg => rfl); (case hr => first | (go_simp; done) | (go_simp; rfl))
     intro gb268 hg w13 hbox hb
     have BK268 := am_ hbox; have GW268 := gw_ hg HB; have GE268 := gw_ hg HB; replace HB := hs_ HB hb; have NB265_268 := nl_ hg BK265; have NB268_265 := ng_ hg BK265; replace BK265 := bb_ BK265 hb; have NB267_268 := nl_ hg BK267; have NB268_267 := ng_ hg BK267; replace BK267 := bb_ BK267 hb
     clear hb hbox hg
     refine hK.out _ _ ⟨(blk_cell BK265.out 0).trans rfl, (blk_cell BK265.out 1).trans rfl, (blk_cell BK265.out 2).trans rfl, (blk_cell BK267.out 0).trans rfl, (blk_cell BK267.out 1).trans rfl⟩ (fun hHeld => ?_)
     clear hK K
     refine no_ (some 6) ?_
     refine one_ (i := 14) (N := some 7) #[true, true, true, true, true, true, true, true, true, true, true, true, true, true, true, false, false] rfl rfl (one_of HT_.out (by kernel_rfl)) (by decide) (fun K hK => ?_)
     refine box_step ?hg (N := 7) ?hd (cs := #[.int .i64 0, .int .i64 0]) (t := 25) ?hr ?_; (case hd => rfl); (case hg => rfl); (case hr => first | (go_simp; done) | (go_simp; rfl))
     intro gb269 hg w14 hbox hb
     have BK269 := am_ hbox; have GW269 := gw_ hg HB; have GE269 := gw_ hg HB; replace HB := hs_ HB hb; have NB265_269 := nl_ hg BK265; have NB269_265 := ng_ hg BK265; replace BK265 := bb_ BK265 hb; have NB267_269 := nl_ hg BK267; have NB269_267 := ng_ hg BK267; replace BK267 := bb_ BK267 hb; have NB268_269 := nl_ hg BK268; have NB269_268 := ng_ hg BK268; replace BK268 := bb_ BK268 hb
     clear hb hbox hg
     refine hK.out _ _ ⟨(blk_cell BK265.out 0).trans rfl, (blk_cell BK265.out 1).trans rfl, (blk_cell BK265.out 2).trans rfl, (blk_cell BK267.out 0).trans rfl, (blk_cell BK267.out 1).trans rfl⟩ (fun hHeld => ?_)
     clear hK K
     refine no_ (some 7) ?_
     exact nm_ (hCont (gb268, gb269) _ ⟨hHeld, (bx_ BK265.out), (bx_ BK267.out), (bx_ BK268.out), (bx_ BK269.out), GW268.out, GE268.out, NB265_268.out, NB268_265.out, NB267_268.out, NB268_267.out, NB269_268.out, NB268_269.out, GW269.out, GE269.out, NB265_269.out, NB269_265.out, NB267_269.out, NB269_267.out, (hx_ HB.out)⟩)
    ·skip
     refine box_step ?hg (N := 7) ?hd (cs := #[.int .i64 0, .int .i64 0]) (t := 25) ?hr ?_; (case hd => rfl); (case hg => rfl); (case hr => first | (go_simp; done) | (go_simp; rfl))
     intro gb269 hg w13 hbox hb
     have BK269 := am_ hbox; have GW269 := gw_ hg HB; have GE269 := gw_ hg HB; replace HB := hs_ HB hb; have NB265_269 := nl_ hg BK265; have NB269_265 := ng_ hg BK265; replace BK265 := bb_ BK265 hb; have NB267_269 := nl_ hg BK267; have NB269_267 := ng_ hg BK267; replace BK267 := bb_ BK267 hb
     clear hb hbox hg
     refine hK.out _ _ ⟨(blk_cell BK265.out 0).trans rfl, (blk_cell BK265.out 1).trans rfl, (blk_cell BK265.out 2).trans rfl, (blk_cell BK267.out 0).trans rfl, (blk_cell BK267.out 1).trans rfl⟩ (fun hHeld => ?_)
     clear hK K
     refine no_ (some 7) ?_
     refine one_ (i := 13) (N := some 6) #[true, true, true, true, true, true, true, true, true, true, true, true, true, true, true, false, false] rfl rfl (one_of HT_.out (by kernel_rfl)) (by decide) (fun K hK => ?_)
     refine box_step ?hg (N := 6) ?hd (cs := #[.int .i64 0, .int .i64 0]) (t := 25) ?hr ?_; (case hd => rfl); (case hg => rfl); (case hr => first | (go_simp; done) | (go_simp; rfl))
     intro gb268 hg w14 hbox hb
     have BK268 := am_ hbox; have GW268 := gw_ hg HB; have GE268 := gw_ hg HB; replace HB := hs_ HB hb; have NB265_268 := nl_ hg BK265; have NB268_265 := ng_ hg BK265; replace BK265 := bb_ BK265 hb; have NB267_268 := nl_ hg BK267; have NB268_267 := ng_ hg BK267; replace BK267 := bb_ BK267 hb; have NB269_268 := nl_ hg BK269; have NB268_269 := ng_ hg BK269; replace BK269 := bb_ BK269 hb
     clear hb hbox hg
     refine hK.out _ _ ⟨(blk_cell BK265.out 0).trans rfl, (blk_cell BK265.out 1).trans rfl, (blk_cell BK265.out 2).trans rfl, (blk_cell BK267.out 0).trans rfl, (blk_cell BK267.out 1).trans rfl⟩ (fun hHeld => ?_)
     clear hK K
     refine no_ (some 6) ?_
     exact nm_ (hCont (gb268, gb269) _ ⟨hHeld, (bx_ BK265.out), (bx_ BK267.out), (bx_ BK268.out), (bx_ BK269.out), GW268.out, GE268.out, NB265_268.out, NB268_265.out, NB267_268.out, NB268_267.out, NB269_268.out, NB268_269.out, GW269.out, GE269.out, NB265_269.out, NB269_265.out, NB267_269.out, NB269_267.out, (hx_ HB.out)⟩)
   rintro ⟨gb268, gb269⟩ w15 ⟨hS_, h0_, h1_, h2_, h3_, h4_, h5_, h6_, h7_, h8_, h9_, h10_, h11_, h12_, h13_, h14_, h15_, h16_, h17_, h18_⟩
   replace BK265 : Aside0 (w15.heap[gb265]? = some (.cells #[.int .i64 a1_0, .bool a1_1, .int .i64 a1_2] 50 (0, 0))) := ⟨h0_⟩; replace BK267 : Aside0 (w15.heap[gb267]? = some (.cells #[.int .i64 ((rd_T25 l0 a1_0).f0), .int .i64 ((rd_T25 l0 a1_0).f1)] 25 (0, 0))) := ⟨h1_⟩; have BK268 : Aside0 (w15.heap[gb268]? = some (.cells #[.int .i64 0, .int .i64 0] 25 (0, 0))) := ⟨h2_⟩; have BK269 : Aside0 (w15.heap[gb269]? = some (.cells #[.int .i64 0, .int .i64 0] 25 (0, 0))) := ⟨h3_⟩; have GW268 : Aside0 (w.heap.size ≤ gb268) := ⟨h4_⟩; have GE268 : Aside0 (w.heap.size ≤ gb268) := ⟨h5_⟩; have NB265_268 : Aside0 (gb265 ≠ gb268) := ⟨h6_⟩; have NB268_265 : Aside0 (gb268 ≠ gb265) := ⟨h7_⟩; have NB267_268 : Aside0 (gb267 ≠ gb268) := ⟨h8_⟩; have NB268_267 : Aside0 (gb268 ≠ gb267) := ⟨h9_⟩; have NB269_268 : Aside0 (gb269 ≠ gb268) := ⟨h10_⟩; have NB268_269 : Aside0 (gb268 ≠ gb269) := ⟨h11_⟩; have GW269 : Aside0 (w.heap.size ≤ gb269) := ⟨h12_⟩; have GE269 : Aside0 (w.heap.size ≤ gb269) := ⟨h13_⟩; have NB265_269 : Aside0 (gb265 ≠ gb269) := ⟨h14_⟩; have NB269_265 : Aside0 (gb269 ≠ gb265) := ⟨h15_⟩; have NB267_269 : Aside0 (gb267 ≠ gb269) := ⟨h16_⟩; have NB269_267 : Aside0 (gb269 ≠ gb267) := ⟨h17_⟩; replace HB : Aside0 (Below w.heap.size w w15) := ⟨h18_⟩; clear h0_ h1_ h2_ h3_ h4_ h5_ h6_ h7_ h8_ h9_ h10_ h11_ h12_ h13_ h14_ h15_ h16_ h17_ h18_
   have hHeld : w15.cell? ⟨gb265, 0, none⟩ = some (.int .i64 a1_0) ∧ w15.cell? ⟨gb265, 1, none⟩ = some (.bool a1_1) ∧ w15.cell? ⟨gb265, 2, none⟩ = some (.int .i64 a1_2) ∧ w15.cell? ⟨gb267, 0, none⟩ = some (.int .i64 ((rd_T25 l0 a1_0).f0)) ∧ w15.cell? ⟨gb267, 1, none⟩ = some (.int .i64 ((rd_T25 l0 a1_0).f1)) := hS_
   refine np_ ?_
   refine one_ (i := 15) (N := none) #[true, true, true, true, true, true, true, true, true, true, true, true, true, true, true, true, false] rfl rfl (one_of HT_.out (by kernel_rfl)) (by decide) (fun K hK => ?_)
   have hs16 : w15.cell? ⟨gb268, 0, none⟩ = some (.int .i64 0) := (blk_cell BK268.out 0).trans rfl
   have hfs16 := blk_frozen BK268.out 0
   have hns16_0 := NB265_268.out
   have hns16_1 := NB267_268.out
   have hns16_3 := NB269_268.out
   have hms16_0 := NB268_265.out
   have hms16_1 := NB268_267.out
   have hms16_3 := NB268_269.out
   have hs17 : w15.cell? ⟨gb268, 1, none⟩ = some (.int .i64 0) := (blk_cell BK268.out 1).trans rfl
   have hfs17 := blk_frozen BK268.out 1
   have hns17_0 := NB265_268.out
   have hns17_1 := NB267_268.out
   have hns17_3 := NB269_268.out
   have hms17_0 := NB268_265.out
   have hms17_1 := NB268_267.out
   have hms17_3 := NB268_269.out
   refine skip_ (w1 := ?_) (by rfl) rfl ?_ ?_
   rotate_left
   ·go_simp
    rfl
   refine hK.out _ _ ⟨((cell_far (p := ⟨gb268, _, none⟩) NB265_268.out _).trans (((cell_far (p := ⟨gb268, _, none⟩) NB265_268.out _).trans (hHeld.1)))), ((cell_far (p := ⟨gb268, _, none⟩) NB265_268.out _).trans (((cell_far (p := ⟨gb268, _, none⟩) NB265_268.out _).trans (hHeld.2.1)))), ((cell_far (p := ⟨gb268, _, none⟩) NB265_268.out _).trans (((cell_far (p := ⟨gb268, _, none⟩) NB265_268.out _).trans (hHeld.2.2.1)))), ((cell_far (p := ⟨gb268, _, none⟩) NB267_268.out _).trans (((cell_far (p := ⟨gb268, _, none⟩) NB267_268.out _).trans (hHeld.2.2.2.1)))), ((cell_far (p := ⟨gb268, _, none⟩) NB267_268.out _).trans (((cell_far (p := ⟨gb268, _, none⟩) NB267_268.out _).trans (hHeld.2.2.2.2))))⟩ (fun hHeld => ?_)
   clear hK K
   refine one_ (i := 16) (N := none) #[true, true, true, true, true, true, true, true, true, true, true, true, true, true, true, true, true] rfl rfl (one_of HT_.out (by kernel_rfl)) (by decide) (fun K hK => ?_)
   have hs18 : w15.cell? ⟨gb269, 0, none⟩ = some (.int .i64 0) := (blk_cell BK269.out 0).trans rfl
   have hfs18 := blk_frozen BK269.out 0
   have hns18_0 := NB265_269.out
   have hns18_1 := NB267_269.out
   have hns18_2 := NB268_269.out
   have hms18_0 := NB269_265.out
   have hms18_1 := NB269_267.out
   have hms18_2 := NB269_268.out
   have hs19 : w15.cell? ⟨gb269, 1, none⟩ = some (.int .i64 0) := (blk_cell BK269.out 1).trans rfl
   have hfs19 := blk_frozen BK269.out 1
   have hns19_0 := NB265_269.out
   have hns19_1 := NB267_269.out
   have hns19_2 := NB268_269.out
   have hms19_0 := NB269_265.out
   have hms19_1 := NB269_267.out
   have hms19_2 := NB269_268.out
   refine skip_ (w1 := ?_) (by rfl) rfl ?_ ?_
   rotate_left
   ·go_simp
    rfl
   refine hK.out _ _ ⟨((cell_far (p := ⟨gb269, _, none⟩) NB265_269.out _).trans (((cell_far (p := ⟨gb269, _, none⟩) NB265_269.out _).trans (hHeld.1)))), ((cell_far (p := ⟨gb269, _, none⟩) NB265_269.out _).trans (((cell_far (p := ⟨gb269, _, none⟩) NB265_269.out _).trans (hHeld.2.1)))), ((cell_far (p := ⟨gb269, _, none⟩) NB265_269.out _).trans (((cell_far (p := ⟨gb269, _, none⟩) NB265_269.out _).trans (hHeld.2.2.1)))), ((cell_far (p := ⟨gb269, _, none⟩) NB267_269.out _).trans (((cell_far (p := ⟨gb269, _, none⟩) NB267_269.out _).trans (hHeld.2.2.2.1)))), ((cell_far (p := ⟨gb269, _, none⟩) NB267_269.out _).trans (((cell_far (p := ⟨gb269, _, none⟩) NB267_269.out _).trans (hHeld.2.2.2.2))))⟩ (fun hHeld => ?_)
   clear hK K
   refine done_ (done_of HT_.out (by kernel_rfl)) ?_
   have hnb20 := NB265_268.out
   have hnc20 := NB268_265.out
   have hnb21 := NB265_269.out
   have hnc21 := NB269_265.out
   have hcz22_0 : w15.cell? ⟨gb265, 0, none⟩ = some (.int .i64 a1_0) := (blk_cell BK265.out 0).trans rfl
   have hcz22_1 : w15.cell? ⟨gb265, 1, none⟩ = some (.bool a1_1) := (blk_cell BK265.out 1).trans rfl
   have hcz22_2 : w15.cell? ⟨gb265, 2, none⟩ = some (.int .i64 a1_2) := (blk_cell BK265.out 2).trans rfl
   have hfz22_0 := blk_frozen BK265.out 0
   have hfz22_1 := blk_frozen BK265.out 1
   have hfz22_2 := blk_frozen BK265.out 2
   go_upto_if 27 with (fail)
   go_cut [] (fun wc => ∃ (kq : Nat) (x269000_4 : Int) (x269001_4 : Int) (x270000_4 : Int) (x270001_4 : Int), Aside0 (spec_l09Cut.j0 kq l0 a1_0 a1_1 a1_2 x269000_4 x269001_4 x270000_4 x270001_4 = some r) ∧ Aside0 (kq ≤ k) ∧ Aside0 (wc.heap[gb265]? = some (.cells #[.int .i64 a1_0, .bool a1_1, .int .i64 a1_2] 50 (0, 0))) ∧ Aside0 (wc.heap[gb267]? = some (.cells #[.int .i64 ((rd_T25 l0 a1_0).f0), .int .i64 ((rd_T25 l0 a1_0).f1)] 25 (0, 0))) ∧ Aside0 (wc.heap[gb268]? = some (.cells #[.int .i64 x269000_4, .int .i64 x269001_4] 25 (0, 0))) ∧ Aside0 (wc.heap[gb269]? = some (.cells #[.int .i64 x270000_4, .int .i64 x270001_4] 25 (0, 0))) ∧ Aside0 (Below w.heap.size w wc))
   case first =>
    have H := HC5.out
    clear HC5
    by_cases c23 : a1_1 = true
    ·subst c23
     have H1 : (spec_l09Cut.j0 k l0 a1_0 true a1_2 ((rd_T25 l0 a1_0).f0) a1_2 ((rd_T25 l0 a1_0).f0) (wrap64 (((rd_T25 l0 a1_0).f1) - a1_2))) = some r := by rw [if_pos rfl] at H; exact H
     clear H
     have H := H1
     clear H1
     have H' := Aside0.mk H
     clear H
     try go_wp2
     have n0_ : Aside0 (((((w15.setCell ⟨gb268, 0, none⟩ (.int .i64 a1_2)).setCell ⟨gb268, 1, none⟩ (.int .i64 ((rd_T25 l0 a1_0).f1))).setCell ⟨gb269, 0, none⟩ (.int .i64 (wrap64 (((rd_T25 l0 a1_0).f0) - a1_2)))).setCell ⟨gb269, 1, none⟩ (.int .i64 ((rd_T25 l0 a1_0).f1))).heap[gb265]? = some (.cells #[.int .i64 a1_0, .bool true, .int .i64 a1_2] 50 (0, 0))) := ⟨bx_ BK265.out⟩
     have n1_ : Aside0 (((((w15.setCell ⟨gb268, 0, none⟩ (.int .i64 a1_2)).setCell ⟨gb268, 1, none⟩ (.int .i64 ((rd_T25 l0 a1_0).f1))).setCell ⟨gb269, 0, none⟩ (.int .i64 (wrap64 (((rd_T25 l0 a1_0).f0) - a1_2)))).setCell ⟨gb269, 1, none⟩ (.int .i64 ((rd_T25 l0 a1_0).f1))).heap[gb267]? = some (.cells #[.int .i64 ((rd_T25 l0 a1_0).f0), .int .i64 ((rd_T25 l0 a1_0).f1)] 25 (0, 0))) := ⟨bx_ BK267.out⟩
     have n2_ : Aside0 (((((w15.setCell ⟨gb268, 0, none⟩ (.int .i64 a1_2)).setCell ⟨gb268, 1, none⟩ (.int .i64 ((rd_T25 l0 a1_0).f1))).setCell ⟨gb269, 0, none⟩ (.int .i64 (wrap64 (((rd_T25 l0 a1_0).f0) - a1_2)))).setCell ⟨gb269, 1, none⟩ (.int .i64 ((rd_T25 l0 a1_0).f1))).heap[gb268]? = some (.cells #[.int .i64 a1_2, .int .i64 ((rd_T25 l0 a1_0).f1)] 25 (0, 0))) := ⟨by (with_reducible repeat (first | refine blk_drewN ?_ _ | refine blk_drew ?_ | refine blk_alloc ?_ _)); refine blk_far ?_ NB268_269.out _; (with_reducible repeat (first | refine blk_drewN ?_ _ | refine blk_drew ?_ | refine blk_alloc ?_ _)); refine blk_far ?_ NB268_269.out _; (with_reducible repeat (first | refine blk_drewN ?_ _ | refine blk_drew ?_ | refine blk_alloc ?_ _)); refine blk_put (cs := #[.int .i64 a1_2, .int .i64 0]) ?_ 1 _ rfl; (with_reducible repeat (first | refine blk_drewN ?_ _ | refine blk_drew ?_ | refine blk_alloc ?_ _)); refine blk_put (cs := #[.int .i64 0, .int .i64 0]) ?_ 0 _ rfl; (with_reducible repeat (first | refine blk_drewN ?_ _ | refine blk_drew ?_ | refine blk_alloc ?_ _)); exact BK268.out⟩
     have n3_ : Aside0 (((((w15.setCell ⟨gb268, 0, none⟩ (.int .i64 a1_2)).setCell ⟨gb268, 1, none⟩ (.int .i64 ((rd_T25 l0 a1_0).f1))).setCell ⟨gb269, 0, none⟩ (.int .i64 (wrap64 (((rd_T25 l0 a1_0).f0) - a1_2)))).setCell ⟨gb269, 1, none⟩ (.int .i64 ((rd_T25 l0 a1_0).f1))).heap[gb269]? = some (.cells #[.int .i64 (wrap64 (((rd_T25 l0 a1_0).f0) - a1_2)), .int .i64 ((rd_T25 l0 a1_0).f1)] 25 (0, 0))) := ⟨by (with_reducible repeat (first | refine blk_drewN ?_ _ | refine blk_drew ?_ | refine blk_alloc ?_ _)); refine blk_put (cs := #[.int .i64 (wrap64 (((rd_T25 l0 a1_0).f0) - a1_2)), .int .i64 0]) ?_ 1 _ rfl; (with_reducible repeat (first | refine blk_drewN ?_ _ | refine blk_drew ?_ | refine blk_alloc ?_ _)); refine blk_put (cs := #[.int .i64 0, .int .i64 0]) ?_ 0 _ rfl; (with_reducible repeat (first | refine blk_drewN ?_ _ | refine blk_drew ?_ | refine blk_alloc ?_ _)); refine blk_far ?_ NB269_268.out _; (with_reducible repeat (first | refine blk_drewN ?_ _ | refine blk_drew ?_ | refine blk_alloc ?_ _)); refine blk_far ?_ NB269_268.out _; (with_reducible repeat (first | refine blk_drewN ?_ _ | refine blk_drew ?_ | refine blk_alloc ?_ _)); exact BK269.out⟩
     have n4_ : Aside0 (Below w.heap.size w ((((w15.setCell ⟨gb268, 0, none⟩ (.int .i64 a1_2)).setCell ⟨gb268, 1, none⟩ (.int .i64 ((rd_T25 l0 a1_0).f1))).setCell ⟨gb269, 0, none⟩ (.int .i64 (wrap64 (((rd_T25 l0 a1_0).f0) - a1_2)))).setCell ⟨gb269, 1, none⟩ (.int .i64 ((rd_T25 l0 a1_0).f1)))) := ⟨hx_ HB.out⟩
     (try clear BK265)
     (try clear BK267)
     (try clear BK268)
     (try clear BK269)
     (try clear HB)
     generalize ((((w15.setCell ⟨gb268, 0, none⟩ (.int .i64 a1_2)).setCell ⟨gb268, 1, none⟩ (.int .i64 ((rd_T25 l0 a1_0).f1))).setCell ⟨gb269, 0, none⟩ (.int .i64 (wrap64 (((rd_T25 l0 a1_0).f0) - a1_2)))).setCell ⟨gb269, 1, none⟩ (.int .i64 ((rd_T25 l0 a1_0).f1))) = w24 at n0_ n1_ n2_ n3_ n4_ ⊢
     have BK265 := n0_
     have BK267 := n1_
     have BK268 := n2_
     have BK269 := n3_
     have HB := n4_
     clear n0_ n1_ n2_ n3_ n4_
     replace BK265 := am_ (blk_drew BK265.out); replace BK267 := am_ (blk_drew BK267.out); replace BK268 := am_ (blk_drew BK268.out); replace BK269 := am_ (blk_drew BK269.out); replace HB := am_ (below_drew1 HB.out)
     refine start_ (n := 15) (S := fun w' => w'.cell? ⟨gb267, 0, none⟩ = some (.int .i64 ((rd_T25 l0 a1_0).f0)) ∧ w'.cell? ⟨gb267, 1, none⟩ = some (.int .i64 ((rd_T25 l0 a1_0).f1)) ∧ w'.cell? ⟨gb265, 0, none⟩ = some (.int .i64 a1_0) ∧ w'.cell? ⟨gb265, 1, none⟩ = some (.bool true) ∧ w'.cell? ⟨gb265, 2, none⟩ = some (.int .i64 a1_2)) (ds := []) #[false, false, false, false, false, false, false, false, false, false, false, false, false, false, false] (by kernel_rfl) rfl rfl ⟨(blk_cell BK267.out 0).trans rfl, (blk_cell BK267.out 1).trans rfl, (blk_cell BK265.out 0).trans rfl, (blk_cell BK265.out 1).trans rfl, (blk_cell BK265.out 2).trans rfl⟩ (fun hHeld => ?_); refine with_tabW spec_l09Cut.tab4 spec_l09Cut.bits4 (fun HT_ HW_ => ?_)
     generalize w24.drew = w25 at BK265 BK267 BK268 BK269 HB hHeld ⊢
     refine pu_ 0 (some 28) #[true, false, false, false, false, false, false, false, false, false, false, false, false, false, false] HT_ ?_
     refine pu_ 2 (some 30) #[true, false, true, false, false, false, false, false, false, false, false, false, false, false, false] HT_ ?_
     refine pu_ 5 (some 33) #[true, false, true, false, false, true, false, false, false, false, false, false, false, false, false] HT_ ?_
     refine pu_ 7 (some 35) #[true, false, true, false, false, true, false, true, false, false, false, false, false, false, false] HT_ ?_
     refine pu_ 9 (some 37) #[true, false, true, false, false, true, false, true, false, true, false, false, false, false, false] HT_ ?_
     refine ta5_ 1 (some 29) #[true, true, true, false, false, true, false, true, false, true, false, false, false, false, false] HT_ HW_ hHeld ?_
     refine ta5_ 3 (some 31) #[true, true, true, true, false, true, false, true, false, true, false, false, false, false, false] HT_ HW_ hHeld ?_
     refine pu_ 4 (some 32) #[true, true, true, true, true, true, false, true, false, true, false, false, false, false, false] HT_ ?_
     refine ta5_ 6 (some 34) #[true, true, true, true, true, true, true, true, false, true, false, false, false, false, false] HT_ HW_ hHeld ?_
     refine ta5_ 8 (some 36) #[true, true, true, true, true, true, true, true, true, true, false, false, false, false, false] HT_ HW_ hHeld ?_
     refine ta5_ 10 (some 38) #[true, true, true, true, true, true, true, true, true, true, true, false, false, false, false] HT_ HW_ hHeld ?_
     refine pu_ 11 (some 39) #[true, true, true, true, true, true, true, true, true, true, true, true, false, false, false] HT_ ?_
     refine pu_ 12 (some 40) #[true, true, true, true, true, true, true, true, true, true, true, true, true, false, false] HT_ ?_
     refine one_ (i := 13) (N := none) #[true, true, true, true, true, true, true, true, true, true, true, true, true, true, false] rfl rfl (one_of HT_.out (by kernel_rfl)) (by decide) (fun K hK => ?_)
     have hs26 : w25.cell? ⟨gb268, 0, none⟩ = some (.int .i64 a1_2) := (blk_cell BK268.out 0).trans rfl
     have hfs26 := blk_frozen BK268.out 0
     have hns26_0 := NB265_268.out
     have hns26_1 := NB267_268.out
     have hns26_3 := NB269_268.out
     have hms26_0 := NB268_265.out
     have hms26_1 := NB268_267.out
     have hms26_3 := NB268_269.out
     have hs27 : w25.cell? ⟨gb268, 1, none⟩ = some (.int .i64 ((rd_T25 l0 a1_0).f1)) := (blk_cell BK268.out 1).trans rfl
     have hfs27 := blk_frozen BK268.out 1
     have hns27_0 := NB265_268.out
     have hns27_1 := NB267_268.out
     have hns27_3 := NB269_268.out
     have hms27_0 := NB268_265.out
     have hms27_1 := NB268_267.out
     have hms27_3 := NB268_269.out
     refine skip_ (w1 := ?_) (by rfl) rfl ?_ ?_
     rotate_left
     ·go_simp
      rfl
     refine hK.out _ _ ⟨((cell_far (p := ⟨gb268, _, none⟩) NB267_268.out _).trans (((cell_far (p := ⟨gb268, _, none⟩) NB267_268.out _).trans (hHeld.1)))), ((cell_far (p := ⟨gb268, _, none⟩) NB267_268.out _).trans (((cell_far (p := ⟨gb268, _, none⟩) NB267_268.out _).trans (hHeld.2.1)))), ((cell_far (p := ⟨gb268, _, none⟩) NB265_268.out _).trans (((cell_far (p := ⟨gb268, _, none⟩) NB265_268.out _).trans (hHeld.2.2.1)))), ((cell_far (p := ⟨gb268, _, none⟩) NB265_268.out _).trans (((cell_far (p := ⟨gb268, _, none⟩) NB265_268.out _).trans (hHeld.2.2.2.1)))), ((cell_far (p := ⟨gb268, _, none⟩) NB265_268.out _).trans (((cell_far (p := ⟨gb268, _, none⟩) NB265_268.out _).trans (hHeld.2.2.2.2))))⟩ (fun hHeld => ?_)
     clear hK K
     refine one_ (i := 14) (N := none) #[true, true, true, true, true, true, true, true, true, true, true, true, true, true, true] rfl rfl (one_of HT_.out (by kernel_rfl)) (by decide) (fun K hK => ?_)
     have hs28 : w25.cell? ⟨gb269, 0, none⟩ = some (.int .i64 (wrap64 (((rd_T25 l0 a1_0).f0) - a1_2))) := (blk_cell BK269.out 0).trans rfl
     have hfs28 := blk_frozen BK269.out 0
     have hns28_0 := NB265_269.out
     have hns28_1 := NB267_269.out
     have hns28_2 := NB268_269.out
     have hms28_0 := NB269_265.out
     have hms28_1 := NB269_267.out
     have hms28_2 := NB269_268.out
     have hs29 : w25.cell? ⟨gb269, 1, none⟩ = some (.int .i64 ((rd_T25 l0 a1_0).f1)) := (blk_cell BK269.out 1).trans rfl
     have hfs29 := blk_frozen BK269.out 1
     have hns29_0 := NB265_269.out
     have hns29_1 := NB267_269.out
     have hns29_2 := NB268_269.out
     have hms29_0 := NB269_265.out
     have hms29_1 := NB269_267.out
     have hms29_2 := NB269_268.out
     refine skip_ (w1 := ?_) (by rfl) rfl ?_ ?_
     rotate_left
     ·go_simp
      rfl
     refine hK.out _ _ ⟨((cell_far (p := ⟨gb269, _, none⟩) NB267_269.out _).trans (((cell_far (p := ⟨gb269, _, none⟩) NB267_269.out _).trans (hHeld.1)))), ((cell_far (p := ⟨gb269, _, none⟩) NB267_269.out _).trans (((cell_far (p := ⟨gb269, _, none⟩) NB267_269.out _).trans (hHeld.2.1)))), ((cell_far (p := ⟨gb269, _, none⟩) NB265_269.out _).trans (((cell_far (p := ⟨gb269, _, none⟩) NB265_269.out _).trans (hHeld.2.2.1)))), ((cell_far (p := ⟨gb269, _, none⟩) NB265_269.out _).trans (((cell_far (p := ⟨gb269, _, none⟩) NB265_269.out _).trans (hHeld.2.2.2.1)))), ((cell_far (p := ⟨gb269, _, none⟩) NB265_269.out _).trans (((cell_far (p := ⟨gb269, _, none⟩) NB265_269.out _).trans (hHeld.2.2.2.2))))⟩ (fun hHeld => ?_)
     clear hK K
     refine done_ (done_of HT_.out (by kernel_rfl)) ?_
     try go_wp2
     go_meet
     case rel => exact ⟨_, ((rd_T25 l0 a1_0).f0), (a1_2), ((rd_T25 l0 a1_0).f0), (wrap64 (((rd_T25 l0 a1_0).f1) - a1_2)), H', ⟨by first | omega | exact Nat.le_refl _⟩, ⟨bx_ BK265.out⟩, ⟨bx_ BK267.out⟩, ⟨by (with_reducible repeat (first | refine blk_drewN ?_ _ | refine blk_drew ?_ | refine blk_alloc ?_ _)); refine blk_far ?_ NB268_269.out _; (with_reducible repeat (first | refine blk_drewN ?_ _ | refine blk_drew ?_ | refine blk_alloc ?_ _)); refine blk_far ?_ NB268_269.out _; (with_reducible repeat (first | refine blk_drewN ?_ _ | refine blk_drew ?_ | refine blk_alloc ?_ _)); refine blk_put (cs := #[.int .i64 ((rd_T25 l0 a1_0).f0), .int .i64 ((rd_T25 l0 a1_0).f1)]) ?_ 1 _ rfl; (with_reducible repeat (first | refine blk_drewN ?_ _ | refine blk_drew ?_ | refine blk_alloc ?_ _)); refine blk_put (cs := #[.int .i64 a1_2, .int .i64 ((rd_T25 l0 a1_0).f1)]) ?_ 0 _ rfl; (with_reducible repeat (first | refine blk_drewN ?_ _ | refine blk_drew ?_ | refine blk_alloc ?_ _)); exact BK268.out⟩, ⟨by (with_reducible repeat (first | refine blk_drewN ?_ _ | refine blk_drew ?_ | refine blk_alloc ?_ _)); refine blk_put (cs := #[.int .i64 ((rd_T25 l0 a1_0).f0), .int .i64 ((rd_T25 l0 a1_0).f1)]) ?_ 1 _ rfl; (with_reducible repeat (first | refine blk_drewN ?_ _ | refine blk_drew ?_ | refine blk_alloc ?_ _)); refine blk_put (cs := #[.int .i64 (wrap64 (((rd_T25 l0 a1_0).f0) - a1_2)), .int .i64 ((rd_T25 l0 a1_0).f1)]) ?_ 0 _ rfl; (with_reducible repeat (first | refine blk_drewN ?_ _ | refine blk_drew ?_ | refine blk_alloc ?_ _)); refine blk_far ?_ NB269_268.out _; (with_reducible repeat (first | refine blk_drewN ?_ _ | refine blk_drew ?_ | refine blk_alloc ?_ _)); refine blk_far ?_ NB269_268.out _; (with_reducible repeat (first | refine blk_drewN ?_ _ | refine blk_drew ?_ | refine blk_alloc ?_ _)); exact BK269.out⟩, ⟨hx_ HB.out⟩⟩
    ·replace c23 := Bool.eq_false_iff.mpr c23
     subst c23
     have H1 : (spec_l09Cut.j0 k l0 a1_0 false a1_2 a1_2 ((rd_T25 l0 a1_0).f1) (wrap64 (((rd_T25 l0 a1_0).f0) - a1_2)) ((rd_T25 l0 a1_0).f1)) = some r := by rw [if_neg (show ¬ (false = true) by decide)] at H; exact H
     clear H
     have H := H1
     clear H1
     have H' := Aside0.mk H
     clear H
     go_wp2
     go_meet
     case rel => exact ⟨_, (a1_2), ((rd_T25 l0 a1_0).f1), (wrap64 (((rd_T25 l0 a1_0).f0) - a1_2)), ((rd_T25 l0 a1_0).f1), H', ⟨by first | omega | exact Nat.le_refl _⟩, ⟨bx_ BK265.out⟩, ⟨bx_ BK267.out⟩, ⟨by (with_reducible repeat (first | refine blk_drewN ?_ _ | refine blk_drew ?_ | refine blk_alloc ?_ _)); refine blk_far ?_ NB268_269.out _; (with_reducible repeat (first | refine blk_drewN ?_ _ | refine blk_drew ?_ | refine blk_alloc ?_ _)); refine blk_far ?_ NB268_269.out _; (with_reducible repeat (first | refine blk_drewN ?_ _ | refine blk_drew ?_ | refine blk_alloc ?_ _)); refine blk_put (cs := #[.int .i64 a1_2, .int .i64 0]) ?_ 1 _ rfl; (with_reducible repeat (first | refine blk_drewN ?_ _ | refine blk_drew ?_ | refine blk_alloc ?_ _)); refine blk_put (cs := #[.int .i64 0, .int .i64 0]) ?_ 0 _ rfl; (with_reducible repeat (first | refine blk_drewN ?_ _ | refine blk_drew ?_ | refine blk_alloc ?_ _)); exact BK268.out⟩, ⟨by (with_reducible repeat (first | refine blk_drewN ?_ _ | refine blk_drew ?_ | refine blk_alloc ?_ _)); refine blk_put (cs := #[.int .i64 (wrap64 (((rd_T25 l0 a1_0).f0) - a1_2)), .int .i64 0]) ?_ 1 _ rfl; (with_reducible repeat (first | refine blk_drewN ?_ _ | refine blk_drew ?_ | refine blk_alloc ?_ _)); refine blk_put (cs := #[.int .i64 0, .int .i64 0]) ?_ 0 _ rfl; (with_reducible repeat (first | refine blk_drewN ?_ _ | refine blk_drew ?_ | refine blk_alloc ?_ _)); refine blk_far ?_ NB269_268.out _; (with_reducible repeat (first | refine blk_drewN ?_ _ | refine blk_drew ?_ | refine blk_alloc ?_ _)); refine blk_far ?_ NB269_268.out _; (with_reducible repeat (first | refine blk_drewN ?_ _ | refine blk_drew ?_ | refine blk_alloc ?_ _)); exact BK269.out⟩, ⟨hx_ HB.out⟩⟩
   case rest =>
    clear HC5
    (try clear c2); (try clear p2); (try clear p6); (try clear c20); (try clear c21); (try clear c23); (try clear hcz22_0); (try clear hcz22_1); (try clear hcz22_2); (try clear hfz22_0); (try clear hfz22_1); (try clear hfz22_2)
    obtain ⟨kq, x269000_4, x269001_4, x270000_4, x270001_4, HA, HJ4, BK265, BK267, BK268, BK269, HB⟩ := hcut
    cases kq with
    | zero => exact absurd HA.out (by simp [spec_l09Cut.j0])
    | succ kj4 =>
     have H := HA.out
     clear HA
     simp only [spec_l09Cut.j0] at H
     obtain ⟨y270, hy270⟩ : ∃ y_ : List (S25), y_ = (([] : List (S25))) := ⟨_, rfl⟩
     replace H : (if 0 ≤ a1_0 then (if a1_0 ≤ (l0.length : Int) then ((some (l0.take (a1_0 : Int).toNat : List (S25))).bind fun y273 => (if y270.length + y273.length < 8796093022208 then ((some (y270 ++ y273 : List (S25))).bind fun y277 => ((some (([(⟨x269000_4, x269001_4⟩ : S25), (⟨x270000_4, x270001_4⟩ : S25)] : List (S25)) : List (S25))).bind fun y280 => (if y277.length + y280.length < 8796093022208 then ((some (y277 ++ y280 : List (S25))).bind fun y283 => (if 0 ≤ (wrap64 (a1_0 + 1)) then (if (wrap64 (a1_0 + 1)) ≤ (l0.length : Int) then ((some (l0.drop ((wrap64 (a1_0 + 1)) : Int).toNat : List (S25))).bind fun y286 => (if y283.length + y286.length < 8796093022208 then (some (y283 ++ y286)) else (none))) else (none)) else (none))) else (none)))) else (none))) else (none)) else (none)) = some r := by first | (rw [hy270]; with_reducible exact H) | (have H2_ := (Option.bind_some _ _).symm.trans H; rw [hy270]; with_reducible exact H2_) | (have H2_ := (Option.bind_some _ _).symm.trans H; with_reducible exact H2_) | with_reducible exact H | (rw [hy270]; exact H) | exact H
     have Ny270 := Aside0.mk hy270
     clear hy270
     by_cases c30 : 0 ≤ a1_0
     ·rw [if_pos c30] at H
      have c30b0 := eq_true c30
      have c30b1 : decide (0 ≤ a1_0) = true := decide_eq_true c30
      clear c30
      by_cases c31 : a1_0 ≤ (l0.length : Int)
      ·rw [if_pos c31] at H
       have c31b0 := eq_true c31
       have c31b1 : decide (a1_0 ≤ (l0.length : Int)) = true := decide_eq_true c31
       clear c31
       obtain ⟨y273, hy273⟩ : ∃ y_ : List (S25), y_ = (l0.take (a1_0 : Int).toNat) := ⟨_, rfl⟩
       replace H : (if y270.length + y273.length < 8796093022208 then ((some (y270 ++ y273 : List (S25))).bind fun y277 => ((some (([(⟨x269000_4, x269001_4⟩ : S25), (⟨x270000_4, x270001_4⟩ : S25)] : List (S25)) : List (S25))).bind fun y280 => (if y277.length + y280.length < 8796093022208 then ((some (y277 ++ y280 : List (S25))).bind fun y283 => (if 0 ≤ (wrap64 (a1_0 + 1)) then (if (wrap64 (a1_0 + 1)) ≤ (l0.length : Int) then ((some (l0.drop ((wrap64 (a1_0 + 1)) : Int).toNat : List (S25))).bind fun y286 => (if y283.length + y286.length < 8796093022208 then (some (y283 ++ y286)) else (none))) else (none)) else (none))) else (none)))) else (none)) = some r := by first | (rw [hy273]; with_reducible exact H) | (have H2_ := (Option.bind_some _ _).symm.trans H; rw [hy273]; with_reducible exact H2_) | (have H2_ := (Option.bind_some _ _).symm.trans H; with_reducible exact H2_) | with_reducible exact H | (rw [hy273]; exact H) | exact H
       have Ny273 := Aside0.mk hy273
       clear hy273
       by_cases c32 : y270.length + y273.length < 8796093022208
       ·rw [if_pos c32] at H
        have LMc32 := Aside0.mk c32
        clear c32
        obtain ⟨y277, hy277⟩ : ∃ y_ : List (S25), y_ = (y270 ++ y273) := ⟨_, rfl⟩
        replace H : ((some (([(⟨x269000_4, x269001_4⟩ : S25), (⟨x270000_4, x270001_4⟩ : S25)] : List (S25)) : List (S25))).bind fun y280 => (if y277.length + y280.length < 8796093022208 then ((some (y277 ++ y280 : List (S25))).bind fun y283 => (if 0 ≤ (wrap64 (a1_0 + 1)) then (if (wrap64 (a1_0 + 1)) ≤ (l0.length : Int) then ((some (l0.drop ((wrap64 (a1_0 + 1)) : Int).toNat : List (S25))).bind fun y286 => (if y283.length + y286.length < 8796093022208 then (some (y283 ++ y286)) else (none))) else (none)) else (none))) else (none))) = some r := by first | (rw [hy277]; with_reducible exact H) | (have H2_ := (Option.bind_some _ _).symm.trans H; rw [hy277]; with_reducible exact H2_) | (have H2_ := (Option.bind_some _ _).symm.trans H; with_reducible exact H2_) | with_reducible exact H | (rw [hy277]; exact H) | exact H
        have Ny277 := Aside0.mk hy277
        clear hy277
        obtain ⟨y280, hy280⟩ : ∃ y_ : List (S25), y_ = (([(⟨x269000_4, x269001_4⟩ : S25), (⟨x270000_4, x270001_4⟩ : S25)] : List (S25))) := ⟨_, rfl⟩
        replace H : (if y277.length + y280.length < 8796093022208 then ((some (y277 ++ y280 : List (S25))).bind fun y283 => (if 0 ≤ (wrap64 (a1_0 + 1)) then (if (wrap64 (a1_0 + 1)) ≤ (l0.length : Int) then ((some (l0.drop ((wrap64 (a1_0 + 1)) : Int).toNat : List (S25))).bind fun y286 => (if y283.length + y286.length < 8796093022208 then (some (y283 ++ y286)) else (none))) else (none)) else (none))) else (none)) = some r := by first | (rw [hy280]; with_reducible exact H) | (have H2_ := (Option.bind_some _ _).symm.trans H; rw [hy280]; with_reducible exact H2_) | (have H2_ := (Option.bind_some _ _).symm.trans H; with_reducible exact H2_) | with_reducible exact H | (rw [hy280]; exact H) | exact H
        have Ny280 := Aside0.mk hy280
        clear hy280
        by_cases c33 : y277.length + y280.length < 8796093022208
        ·rw [if_pos c33] at H
         have LMc33 := Aside0.mk c33
         clear c33
         obtain ⟨y283, hy283⟩ : ∃ y_ : List (S25), y_ = (y277 ++ y280) := ⟨_, rfl⟩
         replace H : (if 0 ≤ (wrap64 (a1_0 + 1)) then (if (wrap64 (a1_0 + 1)) ≤ (l0.length : Int) then ((some (l0.drop ((wrap64 (a1_0 + 1)) : Int).toNat : List (S25))).bind fun y286 => (if y283.length + y286.length < 8796093022208 then (some (y283 ++ y286)) else (none))) else (none)) else (none)) = some r := by first | (rw [hy283]; with_reducible exact H) | (have H2_ := (Option.bind_some _ _).symm.trans H; rw [hy283]; with_reducible exact H2_) | (have H2_ := (Option.bind_some _ _).symm.trans H; with_reducible exact H2_) | with_reducible exact H | (rw [hy283]; exact H) | exact H
         have Ny283 := Aside0.mk hy283
         clear hy283
         obtain ⟨ji34, hji34⟩ : ∃ j_ : Int, (wrap64 (a1_0 + 1)) = j_ := ⟨_, rfl⟩
         replace H : (if 0 ≤ (ji34) then (if (ji34) ≤ (l0.length : Int) then ((some (l0.drop ((ji34) : Int).toNat : List (S25))).bind fun y286 => (if y283.length + y286.length < 8796093022208 then (some (y283 ++ y286)) else (none))) else (none)) else (none)) = some r := by first | (rw [hji34] at H; exact H) | (simp only [hji34] at H ⊢; exact H)
         have hji34w : (IntKind.i64.wrap (a1_0 + 1)) = ji34 := (i64_w _).trans hji34
         by_cases c35 : 0 ≤ (ji34)
         ·rw [if_pos c35] at H
          have c35b0 := eq_true c35
          have c35b1 : decide (0 ≤ (ji34)) = true := decide_eq_true c35
          clear c35
          by_cases c36 : (ji34) ≤ (l0.length : Int)
          ·rw [if_pos c36] at H
           have c36b0 := eq_true c36
           have c36b1 : decide ((ji34) ≤ (l0.length : Int)) = true := decide_eq_true c36
           clear c36
           obtain ⟨y286, hy286⟩ : ∃ y_ : List (S25), y_ = (l0.drop ((ji34) : Int).toNat) := ⟨_, rfl⟩
           replace H : (if y283.length + y286.length < 8796093022208 then (some (y283 ++ y286)) else (none)) = some r := by first | (rw [hy286]; with_reducible exact H) | (have H2_ := (Option.bind_some _ _).symm.trans H; rw [hy286]; with_reducible exact H2_) | (have H2_ := (Option.bind_some _ _).symm.trans H; with_reducible exact H2_) | with_reducible exact H | (rw [hy286]; exact H) | exact H
           have Ny286 := Aside0.mk hy286
           clear hy286
           by_cases c37 : y283.length + y286.length < 8796093022208
           ·rw [if_pos c37] at H
            have LMc37 := Aside0.mk c37
            clear c37
            obtain ⟨y290, hy290⟩ : ∃ y_ : List (S25), y_ = (y283 ++ y286) := ⟨_, rfl⟩
            replace H : (some y290) = some r := by first | (rw [hy290]; with_reducible exact H) | (have H2_ := (Option.bind_some _ _).symm.trans H; rw [hy290]; with_reducible exact H2_) | (have H2_ := (Option.bind_some _ _).symm.trans H; with_reducible exact H2_) | with_reducible exact H | (rw [hy290]; exact H) | exact H
            have Ny290 := Aside0.mk hy290
            clear hy290
            obtain rfl := Option.some.inj H
            try go_wp2
            replace BK265 := am_ (blk_drew BK265.out); replace BK267 := am_ (blk_drew BK267.out); replace BK268 := am_ (blk_drew BK268.out); replace BK269 := am_ (blk_drew BK269.out); replace HB := am_ (below_drew1 HB.out)
            have q39 : (a1_0 : Int) ≤ ((l0.length : Int) : Int) := of_decide_eq_true (by first | (with_reducible assumption) | assumption)
            obtain ⟨i039, hi039, _, hsz39, _⟩ := info_parts info25
            have hroom39 : l0.length ≤ c0 := HC0.out
            have hC39 : Kd.C k25 _ (some ad266) l0.length l0 := HR0.out
            have hcut39 := cut_to (P := Tryz.prog) 37 25 .i64 Tryz.underlying37 hi039 (some ad266) l0.length c0 a1_0 (of_decide_eq_true (by first | (with_reducible assumption) | assumption)) q39 hroom39
            have hr39 := Kd.C_take (m := (a1_0 : Int).toNat) hC39 (by omega)
            have hy39 : y273.length = (a1_0 : Int).toNat := (by rw [Ny273.out, List.length_take]; omega)
            rw [← Ny273.out] at hr39
            rw [← hy39] at hcut39
            have HR276 := Aside0.mk hr39
            have HC276 := Aside0.mk (show y273.length ≤ c0 from by omega)
            clear hr39 hC39 hroom39 hi039 hsz39
            have KY39 := Aside0.mk hy39
            clear hy39
            replace q39 := eq_true q39
            have q40 : ((ji34) : Int) ≤ ((l0.length : Int) : Int) := of_decide_eq_true (by first | (with_reducible assumption) | assumption)
            obtain ⟨i040, hi040, _, hsz40, _⟩ := info_parts info25
            have hroom40 : l0.length ≤ c0 := HC0.out
            have hC40 : Kd.C k25 _ (some ad266) l0.length l0 := HR0.out
            have q040 : (0 : Int) ≤ ((ji34) : Int) := of_decide_eq_true (by first | (with_reducible assumption) | assumption)
            have hcut40 := cut_from (P := Tryz.prog) 37 25 .i64 Tryz.underlying37 hi040 2 hsz40 (some ad266) l0.length c0 (ji34) q040 q40
            have hr40 := Kd.C_drop (m := ((ji34) : Int).toNat) (c := c0) hC40 (by omega) hroom40
            obtain ⟨A40, hA40⟩ : ∃ A1, A1 = (if c0 = ((ji34) : Int).toNat then (some ad266) else ((some ad266) : Option Addr).map (·.add (((ji34) : Int).toNat * 2))) := ⟨_, rfl⟩
            obtain ⟨c40, hc40⟩ : ∃ c1, c1 = c0 - ((ji34) : Int).toNat := ⟨_, rfl⟩
            have hy40 : y286.length = l0.length - ((ji34) : Int).toNat := (by rw [Ny286.out, List.length_drop] <;> omega)
            rw [show (l0).drop ((ji34) : Int).toNat = y286 from Ny286.out.symm] at hr40
            replace hr40 : Kd.C k25 _ A40 y286.length y286 := (by rw [hA40]; exact hr40)
            rw [← hy40, ← hA40, ← hc40] at hcut40
            have HR289 := Aside0.mk hr40
            have HC289 := Aside0.mk (show y286.length ≤ c40 from by rw [hy40, hc40]; exact Nat.sub_le_sub_right hroom40 _)
            clear hr40 hC40 hroom40 hi040 hsz40 hc40
            have KY40 := Aside0.mk hy40
            have KA40 := Aside0.mk hA40
            clear hy40 hA40
            replace q40 := eq_true q40
            refine start_ (n := 17) (S := fun w' => w'.cell? ⟨gb265, 0, none⟩ = some (.int .i64 a1_0) ∧ w'.cell? ⟨gb265, 1, none⟩ = some (.bool a1_1) ∧ w'.cell? ⟨gb265, 2, none⟩ = some (.int .i64 a1_2) ∧ w'.cell? ⟨gb268, 0, none⟩ = some (.int .i64 x269000_4) ∧ w'.cell? ⟨gb268, 1, none⟩ = some (.int .i64 x269001_4) ∧ w'.cell? ⟨gb269, 0, none⟩ = some (.int .i64 x270000_4) ∧ w'.cell? ⟨gb269, 1, none⟩ = some (.int .i64 x270001_4)) (ds := []) #[false, false, false, false, false, false, false, false, false, false, false, false, false, false, false, false, false] (by kernel_rfl) rfl rfl ⟨(blk_cell BK265.out 0).trans rfl, (blk_cell BK265.out 1).trans rfl, (blk_cell BK265.out 2).trans rfl, (blk_cell BK268.out 0).trans rfl, (blk_cell BK268.out 1).trans rfl, (blk_cell BK269.out 0).trans rfl, (blk_cell BK269.out 1).trans rfl⟩ (fun hHeld => ?_); refine with_tabW spec_l09Cut.tab5 spec_l09Cut.bits5 (fun HT_ HW_ => ?_)
            generalize wc.drew = w38 at BK265 BK267 BK268 BK269 HB HR276 HR289 hHeld ⊢
            refine pu_ 1 (some 42) #[false, true, false, false, false, false, false, false, false, false, false, false, false, false, false, false, false] HT_ ?_
            refine pu_ 2 (some 43) #[false, true, true, false, false, false, false, false, false, false, false, false, false, false, false, false, false] HT_ ?_
            refine pu_ 10 (some 51) #[false, true, true, false, false, false, false, false, false, false, true, false, false, false, false, false, false] HT_ ?_
            refine pu_ 11 (some 52) #[false, true, true, false, false, false, false, false, false, false, true, true, false, false, false, false, false] HT_ ?_
            refine ta7_ 3 (some 44) #[false, true, true, true, false, false, false, false, false, false, true, true, false, false, false, false, false] HT_ HW_ hHeld ?_
            refine pu_ 4 (some 45) #[false, true, true, true, true, false, false, false, false, false, true, true, false, false, false, false, false] HT_ ?_
            refine ta7_ 6 (some 47) #[false, true, true, true, true, false, true, false, false, false, true, true, false, false, false, false, false] HT_ HW_ hHeld ?_
            refine ta7_ 7 (some 48) #[false, true, true, true, true, false, true, true, false, false, true, true, false, false, false, false, false] HT_ HW_ hHeld ?_
            refine ta7_ 12 (some 53) #[false, true, true, true, true, false, true, true, false, false, true, true, true, false, false, false, false] HT_ HW_ hHeld ?_
            refine pu_ 13 (some 54) #[false, true, true, true, true, false, true, true, false, false, true, true, true, true, false, false, false] HT_ ?_
            refine pu_ 14 (some 55) #[false, true, true, true, true, false, true, true, false, false, true, true, true, true, true, false, false] HT_ ?_
            refine join_ (σ := Value × Value × Value) 3 #[true, true, true, true, true, true, true, true, true, false, true, true, true, true, true, false, false] (fun s_ => [(41, s_.1), (46, s_.2.1), (49, s_.2.2)]) (fun s_ w' => (w'.cell? ⟨gb265, 0, none⟩ = some (.int .i64 a1_0) ∧ w'.cell? ⟨gb265, 1, none⟩ = some (.bool a1_1) ∧ w'.cell? ⟨gb265, 2, none⟩ = some (.int .i64 a1_2) ∧ w'.cell? ⟨gb268, 0, none⟩ = some (.int .i64 x269000_4) ∧ w'.cell? ⟨gb268, 1, none⟩ = some (.int .i64 x269001_4) ∧ w'.cell? ⟨gb269, 0, none⟩ = some (.int .i64 x270000_4) ∧ w'.cell? ⟨gb269, 1, none⟩ = some (.int .i64 x270001_4)) ∧ (Kd.R k25 25 w' w.heap.size (fun k_ => some k_ ≠ (s_.2.2 : Value).ownBlock ∧ k_ ≠ gb267 ∧ k_ ≠ gb268 ∧ k_ ≠ gb269) s_.2.1 y277) ∧ (Kd.R k25 25 w' w.heap.size (fun k_ => some k_ ≠ (s_.2.1 : Value).ownBlock ∧ k_ ≠ gb267 ∧ k_ ≠ gb268 ∧ k_ ≠ gb269) s_.2.2 y280) ∧ (w'.heap[gb265]? = some (.cells #[.int .i64 a1_0, .bool a1_1, .int .i64 a1_2] 50 (0, 0))) ∧ (w'.heap[gb267]? = some (.cells #[.int .i64 ((rd_T25 l0 a1_0).f0), .int .i64 ((rd_T25 l0 a1_0).f1)] 25 (0, 0))) ∧ (w'.heap[gb268]? = some (.cells #[.int .i64 x269000_4, .int .i64 x269001_4] 25 (0, 0))) ∧ (w'.heap[gb269]? = some (.cells #[.int .i64 x270000_4, .int .i64 x270001_4] 25 (0, 0))) ∧ (Below w.heap.size w w')) ?_ ?_
            rotate_left
            ·intro hCont
             refine two_ (i := 0) (j := 8) (Ni := some 41) (Nj := some 49) #[true, true, true, true, true, false, true, true, false, false, true, true, true, true, true, false, false] #[false, true, true, true, true, false, true, true, true, false, true, true, true, true, true, false, false] rfl rfl rfl rfl (two_of HT_.out (by kernel_rfl)) (by decide) (by decide) (fun K hK => ?_) (fun K hK => ?_)
             ·skip
              refine Kd.R_lit_step k25 _ 25 ?hg (N := 41) ?hd (xs := ([] : List (S25))) (inner := []) (ok := fun _ => True) (okp := fun _ => True) ?hr ?hp (fun _ hk => hk) trivial (Below.refl _ _) (Nat.le_refl _) (by simp) ?_; (case hd => rfl); (case hg => rfl); (case hr => first | (go_simp; done) | (go_simp; rfl)); (case hp => exact (Reps.none _ _))
              intro v271 w41 ho42 hb hg_ hnew_
              clear hg_ hnew_
              (first | rw [← Ny270.out] at ho42 | (simp only [Int.reduceToNat] at ho42; rw [← Ny270.out] at ho42))
              have HO272 := am_ (Kd.R_lower (Kd.R_newB (Kd.R_newB (Kd.R_newB ho42 (g := gb267) (o := .cells #[.int .i64 ((rd_T25 l0 a1_0).f0), .int .i64 ((rd_T25 l0 a1_0).f1)] 25 (0, 0)) (bx_ BK267.out)) (g := gb268) (o := .cells #[.int .i64 x269000_4, .int .i64 x269001_4] 25 (0, 0)) (bx_ BK268.out)) (g := gb269) (o := .cells #[.int .i64 x270000_4, .int .i64 x270001_4] 25 (0, 0)) (bx_ BK269.out)) (below_size (hx_ HB.out))); replace BK265 := bb_ BK265 hb; replace BK267 := bb_ BK267 hb; replace BK268 := bb_ BK268 hb; replace BK269 := bb_ BK269 hb; replace HB := hs_ HB hb
              clear hb ho42
              refine hK.out _ _ ⟨(blk_cell BK265.out 0).trans rfl, (blk_cell BK265.out 1).trans rfl, (blk_cell BK265.out 2).trans rfl, (blk_cell BK268.out 0).trans rfl, (blk_cell BK268.out 1).trans rfl, (blk_cell BK269.out 0).trans rfl, (blk_cell BK269.out 1).trans rfl⟩ (fun hHeld => ?_)
              clear hK K
              refine no_ (some 41) ?_
              refine two_ (i := 5) (j := 8) (Ni := some 46) (Nj := some 49) #[true, true, true, true, true, true, true, true, false, false, true, true, true, true, true, false, false] #[true, true, true, true, true, false, true, true, true, false, true, true, true, true, true, false, false] rfl rfl rfl rfl (two_of HT_.out (by kernel_rfl)) (by decide) (by decide) (fun K hK => ?_) (fun K hK => ?_)
              ·skip
               refine Kd.R_append_rows_step k25 (w0 := w) w.heap.size (by rfl) (.tmp 41) (.tmp 45) 37 25 (.agg #[(.int .i64 0), (.int .i64 0)]) 16 rfl Tryz.underlying37 info25 rfl (by decide) (by omega) v271 y270 y273 _ _ _ (fun k_ => k_ ≠ gb267 ∧ k_ ≠ gb268 ∧ k_ ≠ gb269) (fun _ => False) rfl rfl ?aO ?aR (fun _ _ h => h) (fun _ h => h.elim) ?aF ?aB ?aS ?aL ?_
               (case aR => repeat (first | exact (Kd.C_below HR276.out HB.out) | (with_reducible refine Kd.C_alloc ?_ _) | (with_reducible refine Kd.C_drewN ?_ _) | (with_reducible refine Kd.C_drew ?_)))
               (case aB => exact (hx_ HB.out))
               (case aF => exact (fun k_ hk => ⟨Kd.freshB (g := gb267) (o := .cells #[.int .i64 ((rd_T25 l0 a1_0).f0), .int .i64 ((rd_T25 l0 a1_0).f1)] 25 (0, 0)) (bx_ BK267.out) k_ hk, Kd.freshB (g := gb268) (o := .cells #[.int .i64 x269000_4, .int .i64 x269001_4] 25 (0, 0)) (bx_ BK268.out) k_ hk, Kd.freshB (g := gb269) (o := .cells #[.int .i64 x270000_4, .int .i64 x270001_4] 25 (0, 0)) (bx_ BK269.out) k_ hk⟩))
               (case aO => exact (by (with_reducible repeat (first | apply Kd.R_alloc | apply Kd.R_drewN | apply Kd.R_drew)); exact Kd.R_mono HO272.out (fun _ hk => ⟨hk.1.1.2, ⟨hk.1.2, hk.2⟩⟩)))
               (case aS => exact (below_size (hx_ HB.out)))
               (case aL => have := LMc32.out; omega)
               intro v278 w43 ho hb hg hat
               rw [← Ny277.out] at ho
               replace BK265 := am_ (blk_grown (g := gb265) (o := .cells #[.int .i64 a1_0, .bool a1_1, .int .i64 a1_2] 50 (0, 0)) (bx_ BK265.out) hg (Kd.R_ne HO272.out BK265.out (by decide))); replace BK267 := am_ (blk_grown (g := gb267) (o := .cells #[.int .i64 ((rd_T25 l0 a1_0).f0), .int .i64 ((rd_T25 l0 a1_0).f1)] 25 (0, 0)) (bx_ BK267.out) hg (Kd.R_away HO272.out (fun _ hk => hk.1.1.2))); replace BK268 := am_ (blk_grown (g := gb268) (o := .cells #[.int .i64 x269000_4, .int .i64 x269001_4] 25 (0, 0)) (bx_ BK268.out) hg (Kd.R_away HO272.out (fun _ hk => hk.1.2))); replace BK269 := am_ (blk_grown (g := gb269) (o := .cells #[.int .i64 x270000_4, .int .i64 x270001_4] 25 (0, 0)) (bx_ BK269.out) hg (Kd.R_away HO272.out (fun _ hk => hk.2))); replace HB := am_ hb; have HO279 := am_ ho; clear HO272
               clear ho hb hg hat
               refine hK.out _ _ ⟨(blk_cell BK265.out 0).trans rfl, (blk_cell BK265.out 1).trans rfl, (blk_cell BK265.out 2).trans rfl, (blk_cell BK268.out 0).trans rfl, (blk_cell BK268.out 1).trans rfl, (blk_cell BK269.out 0).trans rfl, (blk_cell BK269.out 1).trans rfl⟩ (fun hHeld => ?_)
               clear hK K
               refine no_ (some 46) ?_
               refine one_ (i := 8) (N := some 49) #[true, true, true, true, true, true, true, true, true, false, true, true, true, true, true, false, false] rfl rfl (one_of HT_.out (by kernel_rfl)) (by decide) (fun K hK => ?_)
               refine Kd.R_lit_step k25 _ 25 ?hg (N := 49) ?hd (xs := ([(⟨x269000_4, x269001_4⟩ : S25), (⟨x270000_4, x270001_4⟩ : S25)] : List (S25))) (inner := [.int .i64 x269000_4, .int .i64 x269001_4, .int .i64 x270000_4, .int .i64 x270001_4]) (ok := fun _ => True) (okp := fun _ => True) ?hr ?hp (fun _ hk => hk) trivial (Below.refl _ _) (Nat.le_refl _) (by simp) ?_; (case hd => rfl); (case hg => rfl); (case hr => first | (go_simp; done) | (go_simp; rfl)); (case hp => exact (Reps.c2 (show Kd.M k25 _ _ _ (⟨x269000_4, x269001_4⟩ : S25) [.int .i64 x269000_4, .int .i64 x269001_4] from (k25_mkM _ _ _ (⟨x269000_4, x269001_4⟩ : S25) )) (Reps.c2 (show Kd.M k25 _ _ _ (⟨x270000_4, x270001_4⟩ : S25) [.int .i64 x270000_4, .int .i64 x270001_4] from (k25_mkM _ _ _ (⟨x270000_4, x270001_4⟩ : S25) )) (Reps.none _ _))))
               intro v281 w44 ho45 hb hg_ hnew_
               clear hg_ hnew_
               (first | rw [← Ny280.out] at ho45 | (simp only [Int.reduceToNat] at ho45; rw [← Ny280.out] at ho45))
               have HO282 := am_ (Kd.R_lower (Kd.R_newB (Kd.R_newB (Kd.R_newB (Kd.R_new' ho45 (Kd.R_lt (rx_ HO279.out))) (g := gb267) (o := .cells #[.int .i64 ((rd_T25 l0 a1_0).f0), .int .i64 ((rd_T25 l0 a1_0).f1)] 25 (0, 0)) (bx_ BK267.out)) (g := gb268) (o := .cells #[.int .i64 x269000_4, .int .i64 x269001_4] 25 (0, 0)) (bx_ BK268.out)) (g := gb269) (o := .cells #[.int .i64 x270000_4, .int .i64 x270001_4] 25 (0, 0)) (bx_ BK269.out)) (below_size (hx_ HB.out))); replace HO279 := am_ (Kd.R_elder' (rx_ HO279.out) (Kd.R_base ho45) hb); replace BK265 := bb_ BK265 hb; replace BK267 := bb_ BK267 hb; replace BK268 := bb_ BK268 hb; replace BK269 := bb_ BK269 hb; replace HB := hs_ HB hb
               clear hb ho45
               refine hK.out _ _ ⟨(blk_cell BK265.out 0).trans rfl, (blk_cell BK265.out 1).trans rfl, (blk_cell BK265.out 2).trans rfl, (blk_cell BK268.out 0).trans rfl, (blk_cell BK268.out 1).trans rfl, (blk_cell BK269.out 0).trans rfl, (blk_cell BK269.out 1).trans rfl⟩ (fun hHeld => ?_)
               clear hK K
               refine no_ (some 49) ?_
               exact nm_ (hCont (v271, v278, v281) _ ⟨hHeld, (by (with_reducible repeat (first | apply Kd.R_alloc | apply Kd.R_drewN | apply Kd.R_drew)); exact Kd.R_mono HO279.out (fun _ hk => ⟨hk.2, ⟨hk.1.1, ⟨hk.1.2.1, hk.1.2.2⟩⟩⟩)), (by (with_reducible repeat (first | apply Kd.R_alloc | apply Kd.R_drewN | apply Kd.R_drew)); exact Kd.R_mono HO282.out (fun _ hk => ⟨hk.1.1.1.2, ⟨hk.1.1.2, ⟨hk.1.2, hk.2⟩⟩⟩)), (bx_ BK265.out), (bx_ BK267.out), (bx_ BK268.out), (bx_ BK269.out), (hx_ HB.out)⟩)
              ·skip
               refine Kd.R_lit_step k25 _ 25 ?hg (N := 49) ?hd (xs := ([(⟨x269000_4, x269001_4⟩ : S25), (⟨x270000_4, x270001_4⟩ : S25)] : List (S25))) (inner := [.int .i64 x269000_4, .int .i64 x269001_4, .int .i64 x270000_4, .int .i64 x270001_4]) (ok := fun _ => True) (okp := fun _ => True) ?hr ?hp (fun _ hk => hk) trivial (Below.refl _ _) (Nat.le_refl _) (by simp) ?_; (case hd => rfl); (case hg => rfl); (case hr => first | (go_simp; done) | (go_simp; rfl)); (case hp => exact (Reps.c2 (show Kd.M k25 _ _ _ (⟨x269000_4, x269001_4⟩ : S25) [.int .i64 x269000_4, .int .i64 x269001_4] from (k25_mkM _ _ _ (⟨x269000_4, x269001_4⟩ : S25) )) (Reps.c2 (show Kd.M k25 _ _ _ (⟨x270000_4, x270001_4⟩ : S25) [.int .i64 x270000_4, .int .i64 x270001_4] from (k25_mkM _ _ _ (⟨x270000_4, x270001_4⟩ : S25) )) (Reps.none _ _))))
               intro v281 w43 ho44 hb hg_ hnew_
               clear hg_ hnew_
               (first | rw [← Ny280.out] at ho44 | (simp only [Int.reduceToNat] at ho44; rw [← Ny280.out] at ho44))
               have HO282 := am_ (Kd.R_lower (Kd.R_newB (Kd.R_newB (Kd.R_newB (Kd.R_new' ho44 (Kd.R_lt (rx_ HO272.out))) (g := gb267) (o := .cells #[.int .i64 ((rd_T25 l0 a1_0).f0), .int .i64 ((rd_T25 l0 a1_0).f1)] 25 (0, 0)) (bx_ BK267.out)) (g := gb268) (o := .cells #[.int .i64 x269000_4, .int .i64 x269001_4] 25 (0, 0)) (bx_ BK268.out)) (g := gb269) (o := .cells #[.int .i64 x270000_4, .int .i64 x270001_4] 25 (0, 0)) (bx_ BK269.out)) (below_size (hx_ HB.out))); replace HO272 := am_ (Kd.R_elder' (rx_ HO272.out) (Kd.R_base ho44) hb); replace BK265 := bb_ BK265 hb; replace BK267 := bb_ BK267 hb; replace BK268 := bb_ BK268 hb; replace BK269 := bb_ BK269 hb; replace HB := hs_ HB hb
               clear hb ho44
               refine hK.out _ _ ⟨(blk_cell BK265.out 0).trans rfl, (blk_cell BK265.out 1).trans rfl, (blk_cell BK265.out 2).trans rfl, (blk_cell BK268.out 0).trans rfl, (blk_cell BK268.out 1).trans rfl, (blk_cell BK269.out 0).trans rfl, (blk_cell BK269.out 1).trans rfl⟩ (fun hHeld => ?_)
               clear hK K
               refine no_ (some 49) ?_
               refine one_ (i := 5) (N := some 46) #[true, true, true, true, true, true, true, true, true, false, true, true, true, true, true, false, false] rfl rfl (one_of HT_.out (by kernel_rfl)) (by decide) (fun K hK => ?_)
               refine Kd.R_append_rows_step k25 (w0 := w) w.heap.size (by rfl) (.tmp 41) (.tmp 45) 37 25 (.agg #[(.int .i64 0), (.int .i64 0)]) 16 rfl Tryz.underlying37 info25 rfl (by decide) (by omega) v271 y270 y273 _ _ _ (fun k_ => some k_ ≠ (v281 : Value).ownBlock ∧ k_ ≠ gb267 ∧ k_ ≠ gb268 ∧ k_ ≠ gb269) (fun _ => False) rfl rfl ?aO ?aR (fun _ _ h => h) (fun _ h => h.elim) ?aF ?aB ?aS ?aL ?_
               (case aR => repeat (first | exact (Kd.C_below HR276.out HB.out) | (with_reducible refine Kd.C_alloc ?_ _) | (with_reducible refine Kd.C_drewN ?_ _) | (with_reducible refine Kd.C_drew ?_)))
               (case aB => exact (hx_ HB.out))
               (case aF => exact (fun k_ hk => ⟨Kd.fresh' (Kd.R_lt (rx_ HO282.out)) k_ hk, Kd.freshB (g := gb267) (o := .cells #[.int .i64 ((rd_T25 l0 a1_0).f0), .int .i64 ((rd_T25 l0 a1_0).f1)] 25 (0, 0)) (bx_ BK267.out) k_ hk, Kd.freshB (g := gb268) (o := .cells #[.int .i64 x269000_4, .int .i64 x269001_4] 25 (0, 0)) (bx_ BK268.out) k_ hk, Kd.freshB (g := gb269) (o := .cells #[.int .i64 x270000_4, .int .i64 x270001_4] 25 (0, 0)) (bx_ BK269.out) k_ hk⟩))
               (case aO => exact (by (with_reducible repeat (first | apply Kd.R_alloc | apply Kd.R_drewN | apply Kd.R_drew)); exact Kd.R_mono HO272.out (fun _ hk => ⟨hk.2, ⟨hk.1.1.1.2, ⟨hk.1.1.2, hk.1.2⟩⟩⟩)))
               (case aS => exact (below_size (hx_ HB.out)))
               (case aL => have := LMc32.out; omega)
               intro v278 w45 ho hb hg hat
               rw [← Ny277.out] at ho
               replace BK265 := am_ (blk_grown (g := gb265) (o := .cells #[.int .i64 a1_0, .bool a1_1, .int .i64 a1_2] 50 (0, 0)) (bx_ BK265.out) hg (Kd.R_ne HO272.out BK265.out (by decide))); replace BK267 := am_ (blk_grown (g := gb267) (o := .cells #[.int .i64 ((rd_T25 l0 a1_0).f0), .int .i64 ((rd_T25 l0 a1_0).f1)] 25 (0, 0)) (bx_ BK267.out) hg (Kd.R_away HO272.out (fun _ hk => hk.1.1.1.2))); replace BK268 := am_ (blk_grown (g := gb268) (o := .cells #[.int .i64 x269000_4, .int .i64 x269001_4] 25 (0, 0)) (bx_ BK268.out) hg (Kd.R_away HO272.out (fun _ hk => hk.1.1.2))); replace BK269 := am_ (blk_grown (g := gb269) (o := .cells #[.int .i64 x270000_4, .int .i64 x270001_4] 25 (0, 0)) (bx_ BK269.out) hg (Kd.R_away HO272.out (fun _ hk => hk.1.2))); replace HO282 := am_ (Kd.R_after (ok := (fun k_ => k_ ≠ gb267 ∧ k_ ≠ gb268 ∧ k_ ≠ gb269)) (by (with_reducible repeat (first | apply Kd.R_alloc | apply Kd.R_drewN | apply Kd.R_drew)); exact Kd.R_mono HO282.out (fun _ hk => ⟨⟨hk.1.1.2, ⟨hk.1.2, hk.2⟩⟩, hk.1.1.1.2⟩)) hg hat); replace HB := am_ hb; have HO279 := am_ ho; clear HO272
               clear ho hb hg hat
               refine hK.out _ _ ⟨(blk_cell BK265.out 0).trans rfl, (blk_cell BK265.out 1).trans rfl, (blk_cell BK265.out 2).trans rfl, (blk_cell BK268.out 0).trans rfl, (blk_cell BK268.out 1).trans rfl, (blk_cell BK269.out 0).trans rfl, (blk_cell BK269.out 1).trans rfl⟩ (fun hHeld => ?_)
               clear hK K
               refine no_ (some 46) ?_
               exact nm_ (hCont (v271, v278, v281) _ ⟨hHeld, (rx_ HO279.out), (by (with_reducible repeat (first | apply Kd.R_alloc | apply Kd.R_drewN | apply Kd.R_drew)); exact Kd.R_mono HO282.out (fun _ hk => ⟨hk.2, ⟨hk.1.1, ⟨hk.1.2.1, hk.1.2.2⟩⟩⟩)), (bx_ BK265.out), (bx_ BK267.out), (bx_ BK268.out), (bx_ BK269.out), (hx_ HB.out)⟩)
             ·skip
              refine Kd.R_lit_step k25 _ 25 ?hg (N := 49) ?hd (xs := ([(⟨x269000_4, x269001_4⟩ : S25), (⟨x270000_4, x270001_4⟩ : S25)] : List (S25))) (inner := [.int .i64 x269000_4, .int .i64 x269001_4, .int .i64 x270000_4, .int .i64 x270001_4]) (ok := fun _ => True) (okp := fun _ => True) ?hr ?hp (fun _ hk => hk) trivial (Below.refl _ _) (Nat.le_refl _) (by simp) ?_; (case hd => rfl); (case hg => rfl); (case hr => first | (go_simp; done) | (go_simp; rfl)); (case hp => exact (Reps.c2 (show Kd.M k25 _ _ _ (⟨x269000_4, x269001_4⟩ : S25) [.int .i64 x269000_4, .int .i64 x269001_4] from (k25_mkM _ _ _ (⟨x269000_4, x269001_4⟩ : S25) )) (Reps.c2 (show Kd.M k25 _ _ _ (⟨x270000_4, x270001_4⟩ : S25) [.int .i64 x270000_4, .int .i64 x270001_4] from (k25_mkM _ _ _ (⟨x270000_4, x270001_4⟩ : S25) )) (Reps.none _ _))))
              intro v281 w41 ho42 hb hg_ hnew_
              clear hg_ hnew_
              (first | rw [← Ny280.out] at ho42 | (simp only [Int.reduceToNat] at ho42; rw [← Ny280.out] at ho42))
              have HO282 := am_ (Kd.R_lower (Kd.R_newB (Kd.R_newB (Kd.R_newB ho42 (g := gb267) (o := .cells #[.int .i64 ((rd_T25 l0 a1_0).f0), .int .i64 ((rd_T25 l0 a1_0).f1)] 25 (0, 0)) (bx_ BK267.out)) (g := gb268) (o := .cells #[.int .i64 x269000_4, .int .i64 x269001_4] 25 (0, 0)) (bx_ BK268.out)) (g := gb269) (o := .cells #[.int .i64 x270000_4, .int .i64 x270001_4] 25 (0, 0)) (bx_ BK269.out)) (below_size (hx_ HB.out))); replace BK265 := bb_ BK265 hb; replace BK267 := bb_ BK267 hb; replace BK268 := bb_ BK268 hb; replace BK269 := bb_ BK269 hb; replace HB := hs_ HB hb
              clear hb ho42
              refine hK.out _ _ ⟨(blk_cell BK265.out 0).trans rfl, (blk_cell BK265.out 1).trans rfl, (blk_cell BK265.out 2).trans rfl, (blk_cell BK268.out 0).trans rfl, (blk_cell BK268.out 1).trans rfl, (blk_cell BK269.out 0).trans rfl, (blk_cell BK269.out 1).trans rfl⟩ (fun hHeld => ?_)
              clear hK K
              refine no_ (some 49) ?_
              refine one_ (i := 0) (N := some 41) #[true, true, true, true, true, false, true, true, true, false, true, true, true, true, true, false, false] rfl rfl (one_of HT_.out (by kernel_rfl)) (by decide) (fun K hK => ?_)
              refine Kd.R_lit_step k25 _ 25 ?hg (N := 41) ?hd (xs := ([] : List (S25))) (inner := []) (ok := fun _ => True) (okp := fun _ => True) ?hr ?hp (fun _ hk => hk) trivial (Below.refl _ _) (Nat.le_refl _) (by simp) ?_; (case hd => rfl); (case hg => rfl); (case hr => first | (go_simp; done) | (go_simp; rfl)); (case hp => exact (Reps.none _ _))
              intro v271 w43 ho44 hb hg_ hnew_
              clear hg_ hnew_
              (first | rw [← Ny270.out] at ho44 | (simp only [Int.reduceToNat] at ho44; rw [← Ny270.out] at ho44))
              have HO272 := am_ (Kd.R_lower (Kd.R_newB (Kd.R_newB (Kd.R_newB (Kd.R_new' ho44 (Kd.R_lt (rx_ HO282.out))) (g := gb267) (o := .cells #[.int .i64 ((rd_T25 l0 a1_0).f0), .int .i64 ((rd_T25 l0 a1_0).f1)] 25 (0, 0)) (bx_ BK267.out)) (g := gb268) (o := .cells #[.int .i64 x269000_4, .int .i64 x269001_4] 25 (0, 0)) (bx_ BK268.out)) (g := gb269) (o := .cells #[.int .i64 x270000_4, .int .i64 x270001_4] 25 (0, 0)) (bx_ BK269.out)) (below_size (hx_ HB.out))); replace HO282 := am_ (Kd.R_elder' (rx_ HO282.out) (Kd.R_base ho44) hb); replace BK265 := bb_ BK265 hb; replace BK267 := bb_ BK267 hb; replace BK268 := bb_ BK268 hb; replace BK269 := bb_ BK269 hb; replace HB := hs_ HB hb
              clear hb ho44
              refine hK.out _ _ ⟨(blk_cell BK265.out 0).trans rfl, (blk_cell BK265.out 1).trans rfl, (blk_cell BK265.out 2).trans rfl, (blk_cell BK268.out 0).trans rfl, (blk_cell BK268.out 1).trans rfl, (blk_cell BK269.out 0).trans rfl, (blk_cell BK269.out 1).trans rfl⟩ (fun hHeld => ?_)
              clear hK K
              refine no_ (some 41) ?_
              refine one_ (i := 5) (N := some 46) #[true, true, true, true, true, true, true, true, true, false, true, true, true, true, true, false, false] rfl rfl (one_of HT_.out (by kernel_rfl)) (by decide) (fun K hK => ?_)
              refine Kd.R_append_rows_step k25 (w0 := w) w.heap.size (by rfl) (.tmp 41) (.tmp 45) 37 25 (.agg #[(.int .i64 0), (.int .i64 0)]) 16 rfl Tryz.underlying37 info25 rfl (by decide) (by omega) v271 y270 y273 _ _ _ (fun k_ => some k_ ≠ (v281 : Value).ownBlock ∧ k_ ≠ gb267 ∧ k_ ≠ gb268 ∧ k_ ≠ gb269) (fun _ => False) rfl rfl ?aO ?aR (fun _ _ h => h) (fun _ h => h.elim) ?aF ?aB ?aS ?aL ?_
              (case aR => repeat (first | exact (Kd.C_below HR276.out HB.out) | (with_reducible refine Kd.C_alloc ?_ _) | (with_reducible refine Kd.C_drewN ?_ _) | (with_reducible refine Kd.C_drew ?_)))
              (case aB => exact (hx_ HB.out))
              (case aF => exact (fun k_ hk => ⟨Kd.fresh' (Kd.R_lt (rx_ HO282.out)) k_ hk, Kd.freshB (g := gb267) (o := .cells #[.int .i64 ((rd_T25 l0 a1_0).f0), .int .i64 ((rd_T25 l0 a1_0).f1)] 25 (0, 0)) (bx_ BK267.out) k_ hk, Kd.freshB (g := gb268) (o := .cells #[.int .i64 x269000_4, .int .i64 x269001_4] 25 (0, 0)) (bx_ BK268.out) k_ hk, Kd.freshB (g := gb269) (o := .cells #[.int .i64 x270000_4, .int .i64 x270001_4] 25 (0, 0)) (bx_ BK269.out) k_ hk⟩))
              (case aO => exact (by (with_reducible repeat (first | apply Kd.R_alloc | apply Kd.R_drewN | apply Kd.R_drew)); exact Kd.R_mono HO272.out (fun _ hk => ⟨hk.1.1.1.2, ⟨hk.1.1.2, ⟨hk.1.2, hk.2⟩⟩⟩)))
              (case aS => exact (below_size (hx_ HB.out)))
              (case aL => have := LMc32.out; omega)
              intro v278 w45 ho hb hg hat
              rw [← Ny277.out] at ho
              replace BK265 := am_ (blk_grown (g := gb265) (o := .cells #[.int .i64 a1_0, .bool a1_1, .int .i64 a1_2] 50 (0, 0)) (bx_ BK265.out) hg (Kd.R_ne HO272.out BK265.out (by decide))); replace BK267 := am_ (blk_grown (g := gb267) (o := .cells #[.int .i64 ((rd_T25 l0 a1_0).f0), .int .i64 ((rd_T25 l0 a1_0).f1)] 25 (0, 0)) (bx_ BK267.out) hg (Kd.R_away HO272.out (fun _ hk => hk.1.1.2))); replace BK268 := am_ (blk_grown (g := gb268) (o := .cells #[.int .i64 x269000_4, .int .i64 x269001_4] 25 (0, 0)) (bx_ BK268.out) hg (Kd.R_away HO272.out (fun _ hk => hk.1.2))); replace BK269 := am_ (blk_grown (g := gb269) (o := .cells #[.int .i64 x270000_4, .int .i64 x270001_4] 25 (0, 0)) (bx_ BK269.out) hg (Kd.R_away HO272.out (fun _ hk => hk.2))); replace HO282 := am_ (Kd.R_after (ok := (fun k_ => k_ ≠ gb267 ∧ k_ ≠ gb268 ∧ k_ ≠ gb269)) (by (with_reducible repeat (first | apply Kd.R_alloc | apply Kd.R_drewN | apply Kd.R_drew)); exact Kd.R_mono HO282.out (fun _ hk => ⟨⟨hk.1.1.1.2, ⟨hk.1.1.2, hk.1.2⟩⟩, hk.2⟩)) hg hat); replace HB := am_ hb; have HO279 := am_ ho; clear HO272
              clear ho hb hg hat
              refine hK.out _ _ ⟨(blk_cell BK265.out 0).trans rfl, (blk_cell BK265.out 1).trans rfl, (blk_cell BK265.out 2).trans rfl, (blk_cell BK268.out 0).trans rfl, (blk_cell BK268.out 1).trans rfl, (blk_cell BK269.out 0).trans rfl, (blk_cell BK269.out 1).trans rfl⟩ (fun hHeld => ?_)
              clear hK K
              refine no_ (some 46) ?_
              exact nm_ (hCont (v271, v278, v281) _ ⟨hHeld, (rx_ HO279.out), (by (with_reducible repeat (first | apply Kd.R_alloc | apply Kd.R_drewN | apply Kd.R_drew)); exact Kd.R_mono HO282.out (fun _ hk => ⟨hk.2, ⟨hk.1.1, ⟨hk.1.2.1, hk.1.2.2⟩⟩⟩)), (bx_ BK265.out), (bx_ BK267.out), (bx_ BK268.out), (bx_ BK269.out), (hx_ HB.out)⟩)
            rintro ⟨v271, v278, v281⟩ w46 ⟨hS_, h0_, h1_, h2_, h3_, h4_, h5_, h6_⟩
            have HO279 : Aside0 (Kd.R k25 25 w46 w.heap.size (fun k_ => some k_ ≠ (v281 : Value).ownBlock ∧ k_ ≠ gb267 ∧ k_ ≠ gb268 ∧ k_ ≠ gb269) v278 y277) := ⟨h0_⟩; have HO282 : Aside0 (Kd.R k25 25 w46 w.heap.size (fun k_ => some k_ ≠ (v278 : Value).ownBlock ∧ k_ ≠ gb267 ∧ k_ ≠ gb268 ∧ k_ ≠ gb269) v281 y280) := ⟨h1_⟩; replace BK265 : Aside0 (w46.heap[gb265]? = some (.cells #[.int .i64 a1_0, .bool a1_1, .int .i64 a1_2] 50 (0, 0))) := ⟨h2_⟩; replace BK267 : Aside0 (w46.heap[gb267]? = some (.cells #[.int .i64 ((rd_T25 l0 a1_0).f0), .int .i64 ((rd_T25 l0 a1_0).f1)] 25 (0, 0))) := ⟨h3_⟩; replace BK268 : Aside0 (w46.heap[gb268]? = some (.cells #[.int .i64 x269000_4, .int .i64 x269001_4] 25 (0, 0))) := ⟨h4_⟩; replace BK269 : Aside0 (w46.heap[gb269]? = some (.cells #[.int .i64 x270000_4, .int .i64 x270001_4] 25 (0, 0))) := ⟨h5_⟩; replace HB : Aside0 (Below w.heap.size w w46) := ⟨h6_⟩; clear h0_ h1_ h2_ h3_ h4_ h5_ h6_
            have hHeld : w46.cell? ⟨gb265, 0, none⟩ = some (.int .i64 a1_0) ∧ w46.cell? ⟨gb265, 1, none⟩ = some (.bool a1_1) ∧ w46.cell? ⟨gb265, 2, none⟩ = some (.int .i64 a1_2) ∧ w46.cell? ⟨gb268, 0, none⟩ = some (.int .i64 x269000_4) ∧ w46.cell? ⟨gb268, 1, none⟩ = some (.int .i64 x269001_4) ∧ w46.cell? ⟨gb269, 0, none⟩ = some (.int .i64 x270000_4) ∧ w46.cell? ⟨gb269, 1, none⟩ = some (.int .i64 x270001_4) := hS_
            obtain ⟨Ao48, co48, eo48⟩ := Kd.R_slice HO282.out
            (first | subst eo48 | (injection eo48 with f1_ f2_ f3_; have f4_ := f1_.symm; have f5_ := f3_.symm; clear f1_ f2_ f3_; subst f4_; subst f5_))
            refine np_ ?_
            refine one_ (i := 9) (N := some 50) #[true, true, true, true, true, true, true, true, true, true, true, true, true, true, true, false, false] rfl rfl (one_of HT_.out (by kernel_rfl)) (by decide) (fun K hK => ?_)
            refine Kd.R_append_rows_step k25 (w0 := w) w.heap.size (by rfl) (.tmp 46) (.tmp 49) 37 25 (.agg #[(.int .i64 0), (.int .i64 0)]) 16 rfl Tryz.underlying37 info25 rfl (by decide) (by omega) v278 y277 y280 _ _ _ (fun k_ => some k_ ≠ (.slice Ao48 y280.length co48 : Value).ownBlock ∧ k_ ≠ gb267 ∧ k_ ≠ gb268 ∧ k_ ≠ gb269) (fun _ => False) rfl rfl ?aO ?aR (fun _ _ h => h) (fun _ h => h.elim) ?aF ?aB ?aS ?aL ?_
            (case aR => repeat (first | exact (Kd.R_reads' HO282.out).2.2 | (with_reducible refine Kd.C_alloc ?_ _) | (with_reducible refine Kd.C_drewN ?_ _) | (with_reducible refine Kd.C_drew ?_)))
            (case aB => exact (hx_ HB.out))
            (case aF => exact (fun k_ hk => ⟨Kd.fresh' (Kd.R_lt (rx_ HO282.out)) k_ hk, Kd.freshB (g := gb267) (o := .cells #[.int .i64 ((rd_T25 l0 a1_0).f0), .int .i64 ((rd_T25 l0 a1_0).f1)] 25 (0, 0)) (bx_ BK267.out) k_ hk, Kd.freshB (g := gb268) (o := .cells #[.int .i64 x269000_4, .int .i64 x269001_4] 25 (0, 0)) (bx_ BK268.out) k_ hk, Kd.freshB (g := gb269) (o := .cells #[.int .i64 x270000_4, .int .i64 x270001_4] 25 (0, 0)) (bx_ BK269.out) k_ hk⟩))
            (case aO => exact (rx_ HO279.out))
            (case aS => exact (below_size (hx_ HB.out)))
            (case aL => have := LMc33.out; omega)
            intro v284 w47 ho hb hg hat
            rw [← Ny283.out] at ho
            replace BK265 := am_ (blk_grown (g := gb265) (o := .cells #[.int .i64 a1_0, .bool a1_1, .int .i64 a1_2] 50 (0, 0)) (bx_ BK265.out) hg (Kd.R_ne HO279.out BK265.out (by decide))); replace BK267 := am_ (blk_grown (g := gb267) (o := .cells #[.int .i64 ((rd_T25 l0 a1_0).f0), .int .i64 ((rd_T25 l0 a1_0).f1)] 25 (0, 0)) (bx_ BK267.out) hg (Kd.R_away HO279.out (fun _ hk => hk.2.1))); replace BK268 := am_ (blk_grown (g := gb268) (o := .cells #[.int .i64 x269000_4, .int .i64 x269001_4] 25 (0, 0)) (bx_ BK268.out) hg (Kd.R_away HO279.out (fun _ hk => hk.2.2.1))); replace BK269 := am_ (blk_grown (g := gb269) (o := .cells #[.int .i64 x270000_4, .int .i64 x270001_4] 25 (0, 0)) (bx_ BK269.out) hg (Kd.R_away HO279.out (fun _ hk => hk.2.2.2))); replace HO282 := am_ (Kd.R_after (ok := (fun k_ => k_ ≠ gb267 ∧ k_ ≠ gb268 ∧ k_ ≠ gb269)) (by (with_reducible repeat (first | apply Kd.R_alloc | apply Kd.R_drewN | apply Kd.R_drew)); exact Kd.R_mono HO282.out (fun _ hk => ⟨⟨hk.2.1, ⟨hk.2.2.1, hk.2.2.2⟩⟩, hk.1⟩)) hg hat); replace HB := am_ hb; have HO285 := am_ ho; clear HO279
            clear ho hb hg hat
            refine hK.out _ _ ⟨(blk_cell BK265.out 0).trans rfl, (blk_cell BK265.out 1).trans rfl, (blk_cell BK265.out 2).trans rfl, (blk_cell BK268.out 0).trans rfl, (blk_cell BK268.out 1).trans rfl, (blk_cell BK269.out 0).trans rfl, (blk_cell BK269.out 1).trans rfl⟩ (fun hHeld => ?_)
            clear hK K
            refine no_ (some 50) ?_
            refine one_ (i := 15) (N := some 56) #[true, true, true, true, true, true, true, true, true, true, true, true, true, true, true, true, false] rfl rfl (one_of HT_.out (by kernel_rfl)) (by decide) (fun K hK => ?_)
            refine Kd.R_append_rows_step k25 (w0 := w) w.heap.size (by rfl) (.tmp 50) (.tmp 55) 37 25 (.agg #[(.int .i64 0), (.int .i64 0)]) 16 rfl Tryz.underlying37 info25 rfl (by decide) (by omega) v284 y283 y286 _ _ _ (fun k_ => some k_ ≠ (.slice Ao48 y280.length co48 : Value).ownBlock ∧ k_ ≠ gb267 ∧ k_ ≠ gb268 ∧ k_ ≠ gb269) (fun _ => False) rfl rfl ?aO ?aR (fun _ _ h => h) (fun _ h => h.elim) ?aF ?aB ?aS ?aL ?_
            (case aR => repeat (first | exact (Kd.C_below HR289.out HB.out) | (with_reducible refine Kd.C_alloc ?_ _) | (with_reducible refine Kd.C_drewN ?_ _) | (with_reducible refine Kd.C_drew ?_)))
            (case aB => exact (hx_ HB.out))
            (case aF => exact (fun k_ hk => ⟨Kd.fresh' (Kd.R_lt (rx_ HO282.out)) k_ hk, Kd.freshB (g := gb267) (o := .cells #[.int .i64 ((rd_T25 l0 a1_0).f0), .int .i64 ((rd_T25 l0 a1_0).f1)] 25 (0, 0)) (bx_ BK267.out) k_ hk, Kd.freshB (g := gb268) (o := .cells #[.int .i64 x269000_4, .int .i64 x269001_4] 25 (0, 0)) (bx_ BK268.out) k_ hk, Kd.freshB (g := gb269) (o := .cells #[.int .i64 x270000_4, .int .i64 x270001_4] 25 (0, 0)) (bx_ BK269.out) k_ hk⟩))
            (case aO => exact (rx_ HO285.out))
            (case aS => exact (below_size (hx_ HB.out)))
            (case aL => have := LMc37.out; omega)
            intro v291 w49 ho hb hg hat
            rw [← Ny290.out] at ho
            replace BK265 := am_ (blk_grown (g := gb265) (o := .cells #[.int .i64 a1_0, .bool a1_1, .int .i64 a1_2] 50 (0, 0)) (bx_ BK265.out) hg (Kd.R_ne HO285.out BK265.out (by decide))); replace BK267 := am_ (blk_grown (g := gb267) (o := .cells #[.int .i64 ((rd_T25 l0 a1_0).f0), .int .i64 ((rd_T25 l0 a1_0).f1)] 25 (0, 0)) (bx_ BK267.out) hg (Kd.R_away HO285.out (fun _ hk => hk.2.1))); replace BK268 := am_ (blk_grown (g := gb268) (o := .cells #[.int .i64 x269000_4, .int .i64 x269001_4] 25 (0, 0)) (bx_ BK268.out) hg (Kd.R_away HO285.out (fun _ hk => hk.2.2.1))); replace BK269 := am_ (blk_grown (g := gb269) (o := .cells #[.int .i64 x270000_4, .int .i64 x270001_4] 25 (0, 0)) (bx_ BK269.out) hg (Kd.R_away HO285.out (fun _ hk => hk.2.2.2))); replace HO282 := am_ (Kd.R_after (ok := (fun k_ => k_ ≠ gb267 ∧ k_ ≠ gb268 ∧ k_ ≠ gb269)) (rx_ HO282.out) hg hat); replace HB := am_ hb; have HO292 := am_ ho; clear HO285
            clear ho hb hg hat
            refine hK.out _ _ ⟨(blk_cell BK265.out 0).trans rfl, (blk_cell BK265.out 1).trans rfl, (blk_cell BK265.out 2).trans rfl, (blk_cell BK268.out 0).trans rfl, (blk_cell BK268.out 1).trans rfl, (blk_cell BK269.out 0).trans rfl, (blk_cell BK269.out 1).trans rfl⟩ (fun hHeld => ?_)
            clear hK K
            refine no_ (some 56) ?_
            refine pu_ 16 (some 4) #[true, true, true, true, true, true, true, true, true, true, true, true, true, true, true, true, true] HT_ ?_
            refine done_ (done_of HT_.out (by kernel_rfl)) ?_
            try go_wp2
            go_ret
            exact ⟨_, by first | rfl | (simp [errW_none, errW_some] <;> rfl) | (simp only [← hji34]; first | rfl | (simp [errW_none, errW_some] <;> rfl)) | (simp [*, errW_none, errW_some] <;> rfl), by (with_reducible repeat (first | apply Kd.R_alloc | apply Kd.R_drewN | apply Kd.R_drew)); exact Kd.R_mono HO292.out (fun _ hk => trivial), hx_ HB.out⟩
           ·rw [if_neg c37] at H
            exact absurd H (by simp)
          ·rw [if_neg c36] at H
           exact absurd H (by simp)
         ·rw [if_neg c35] at H
          exact absurd H (by simp)
        ·rw [if_neg c33] at H
         exact absurd H (by simp)
       ·rw [if_neg c32] at H
        exact absurd H (by simp)
      ·rw [if_neg c31] at H
       exact absurd H (by simp)
     ·rw [if_neg c30] at H
      exact absurd H (by simp)
  ·rw [if_neg c4] at H
   exact absurd H (by simp)
 ·rw [if_neg c3] at H
  exact absurd H (by simp)

end Go.Proofs.YtdafddgmeidclaaGreatDoor.PFnGridCuts
