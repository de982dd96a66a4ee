-- Written by wip/inject.py: a contract of each function that the law reaches; those of the stand-ins are proved in this seat's Hand texts
import Derived.Test.YtdafddgmeidclaaGreatDoorPFnGridCutsx0
import Derived.Test.YtdafddgmeidclaaGreatDoorPFnGridCutsx1
import Derived.Test.YtdafddgmeidclaaGreatDoorPFnGridCutsx5
import Derived.Test.YtdafddgmeidclaaGreatDoorPFnGridCutsx16
import Derived.Test.YtdafddgmeidclaaGreatDoorPFnGridCutsx17
namespace Go.Proofs.YtdafddgmeidclaaGreatDoor.PFnGridCuts
open Go.RowKit Go.Proofs.YtdafddgmeidclaaGreatDoorW.PrintWords Go.Proofs.YtdafddgmeidclaaGreatDoorW.PrintLast Go.Proofs.YtdafddgmeidclaaGreatDoorW.PrintMore
attribute [local go_sem] max2_int min2_int max_two min_two max_three min_three max_four min_four   -- for this text's walks alone
set_option linter.unusedVariables false
set_option linter.unusedSimpArgs false

attribute [local go_sem high] eqA25
/-! ### impl_RunCuts: function 15 -/
def impl_RunCuts.l0 : Nat → List (S25) → List (S50) → Int → Int → Option ((List (S25)) × Int)
 | 0, _, _, _, _ => none
 | k + 1, x6, x19, x20, x21 => if x21 < x20 then (if 0 ≤ x21 then (if x21 < (x19.length : Int) then ((impl_possible.f k x6 ((rd_T50 x19 x21).f0) ((rd_T50 x19 x21).f1) ((rd_T50 x19 x21).f2)).bind fun t536 => (if t536 = true then ((impl_cut.f k x6 ((rd_T50 x19 x21).f0) ((rd_T50 x19 x21).f1) ((rd_T50 x19 x21).f2)).bind fun t537 => (impl_RunCuts.l0 k t537 x19 x20 (wrap64 (x21 + 1)))) else (some (([] : List (S25)), 5)))) else (none)) else (none)) else (some (x6, 0))
def impl_RunCuts.f (k : Nat) (a0_0 : Int) (a0_1 : Int) (l1 : List (S50)) : Option ((List (S25)) × Int) := (impl_IsPiece.f a0_0 a0_1).bind fun t530 => (if t530 = true then (if (l1.length : Int) > 79 then (some (([] : List (S25)), 3)) else (impl_RunCuts.l0 k (([(⟨a0_0, a0_1⟩ : S25)] : List (S25))) l1 (l1.length : Int) 0)) else (some (([] : List (S25)), 1)))
theorem impl_RunCuts.mono_l : ∀ k, (∀ y0 y1 y2 y3, LeO (impl_RunCuts.l0 k y0 y1 y2 y3) (impl_RunCuts.l0 (k + 1) y0 y1 y2 y3))
 | 0 => fun _ _ _ _ r h => by simp [impl_RunCuts.l0] at h
 | k + 1 => by
  have ih0 := impl_RunCuts.mono_l k
  ·intro y0 y1 y2 y3
   unfold impl_RunCuts.l0
   repeat' first
   | (with_reducible exact ih0 _ _ _ _)
   | (with_reducible exact impl_cut.mono _ _ _ _ _)
   | (with_reducible exact impl_possible.mono _ _ _ _ _)
   | (with_reducible exact LeO.refl _)
   | (with_reducible exact LeO.none _)
   | (with_reducible refine LeO.ite ?_ ?_)
   | (with_reducible refine LeO.bind ?_ (fun _ => ?_))
   | exact ih0 _ _ _ _
   | exact impl_cut.mono _ _ _ _ _
   | exact impl_possible.mono _ _ _ _ _
   | exact LeO.none _
   | refine LeO.ite ?_ ?_
   | refine LeO.bind ?_ (fun _ => ?_)
theorem impl_RunCuts.mono : ∀ a0 a1 a2 k, LeO (impl_RunCuts.f k a0 a1 a2) (impl_RunCuts.f (k + 1) a0 a1 a2) := by
 intro a0 a1 a2 k
 have ih0 := impl_RunCuts.mono_l k
 unfold impl_RunCuts.f
 repeat' first
   | (with_reducible exact ih0 _ _ _ _)
   | (with_reducible exact impl_cut.mono _ _ _ _ _)
   | (with_reducible exact impl_possible.mono _ _ _ _ _)
   | (with_reducible exact LeO.refl _)
   | (with_reducible exact LeO.none _)
   | (with_reducible refine LeO.ite ?_ ?_)
   | (with_reducible refine LeO.bind ?_ (fun _ => ?_))
   | exact ih0 _ _ _ _
   | exact impl_cut.mono _ _ _ _ _
   | exact impl_possible.mono _ _ _ _ _
   | exact LeO.none _
   | refine LeO.ite ?_ ?_
   | refine LeO.bind ?_ (fun _ => ?_)
set_option maxHeartbeats 8000000 in
set_option maxRecDepth 100000 in
theorem impl_RunCuts.calls (k : Nat) (a0_0 : Int) (a0_1 : Int) (A1 : Option Addr) (c1 : Nat) (l1 : List (S50)) (r1 : List (S25)) (r2 : Int) (w : World) (hr1 : Kd.C k50 w A1 l1.length l1) (hc1 : l1.length ≤ c1) (h : impl_RunCuts.f k a0_0 a0_1 l1 = some (r1, r2)) :
  Calls Tryz.prog 15 #[.agg #[.int .i64 a0_0, .int .i64 a0_1], .slice A1 l1.length c1] w fun e w' => ∃ v0_ : Value, e = .returned (.tuple #[v0_, .int .i64 r2]) ∧ Kd.R k25 25 w' w.heap.size (fun _ => True) v0_ r1 ∧ Below w.heap.size w w' := by
 have hu25 := Tryz.underlying25
 have hu50 := Tryz.underlying50
 have HR1 := Aside0.mk hr1
 have HC1 := Aside0.mk hc1
 clear hr1 hc1
 have HB := Aside0.mk (Below.refl w.heap.size w)
 have H : ((impl_IsPiece.f a0_0 a0_1).bind fun t530 => (if t530 = true then (if (l1.length : Int) > 79 then (some (([] : List (S25)), 3)) else (impl_RunCuts.l0 k (([(⟨a0_0, a0_1⟩ : S25)] : List (S25))) l1 (l1.length : Int) 0)) else (some (([] : List (S25)), 1)))) = some (r1, r2) := h
 clear h
 replace H := Option.bind_eq_some_iff.mp H
 obtain ⟨t530, A30, H⟩ := H
 try dsimp only at H
 have A3 := Aside0.mk A30
 clear A30
 by_cases c4 : t530 = true
 ·subst c4
  have H1 : (if (l1.length : Int) > 79 then (some (([] : List (S25)), 3)) else (impl_RunCuts.l0 k (([(⟨a0_0, a0_1⟩ : S25)] : List (S25))) l1 (l1.length : Int) 0)) = some (r1, r2) := by rw [if_pos rfl] at H; exact H
  clear H
  have H := H1
  clear H1
  by_cases c5 : (l1.length : Int) > 79
  ·rw [if_pos c5] at H
   have c5b0 : decide (79 < (l1.length : Int)) = true := decide_eq_true c5
   have c5b1 : decide (79 < l1.length) = true := decide_eq_true (by omega)
   clear c5
   simp only [Option.some.injEq, Prod.mk.injEq] at H
   obtain ⟨rfl, rfl⟩ := H
   go_enter Tryz.func15, Tryz.ntmps15
   go_wp2_with (first | ((with_reducible refine gd_ 2 rfl ?_); refine be_ 2 #[.int .i64 a0_0, .int .i64 a0_1] 25 rfl rfl ?_; intro gb529 hg w6 hbox hb; have BK529 := am_ hbox; have GW529 := gw_ hg HB; have GE529 := gw_ hg HB; replace HB := hs_ HB hb; clear hb hbox hg; have hcz7_0 : w6.cell? ⟨gb529, 0, none⟩ = some (.int .i64 a0_0) := (blk_cell BK529.out 0).trans rfl; have hcz7_1 : w6.cell? ⟨gb529, 1, none⟩ = some (.int .i64 a0_1) := (blk_cell BK529.out 1).trans rfl; have hfz7_0 := blk_frozen BK529.out 0; have hfz7_1 := blk_frozen BK529.out 1) | ((with_reducible refine gc_ 20 rfl ?_); refine gl_ (some 11) rfl rfl Tryz.func20 rfl #[.agg #[.int .i64 a0_0, .int .i64 a0_1]] rfl ?_; (with_reducible refine (impl_IsPiece.calls a0_0 a0_1 true _ A3.out).mono ?_); rintro e w8 ⟨rfl, hb⟩; refine ⟨_, rfl, ?_⟩; replace BK529 := bb_ BK529 hb; replace HB := hs_ HB hb; (try clear hb); (try clear hb2); (try clear hk); (try clear hi)))
   go_ret2
   exact ⟨_, by first | rfl | (simp [errW_none, errW_some] <;> rfl) | (simp [*, errW_none, errW_some] <;> rfl), by first | exact Kd.R_nil _ _ _ _ _ | exact Kd.N_nil _ _ _ _ _ | exact Kd.V_nil _ _ _ _ _ | exact Kd.Q_nil _ _ _ _ _ | exact Kd.S_nil _ _ _ _ _, hx_ HB.out⟩
  ·rw [if_neg c5] at H
   have c5b0 : decide (79 < (l1.length : Int)) = false := decide_eq_false c5
   have c5b1 : decide (79 < l1.length) = false := decide_eq_false (by omega)
   clear c5
   obtain ⟨y531, hy531⟩ : ∃ y_ : List (S25), y_ = (([(⟨a0_0, a0_1⟩ : S25)] : List (S25))) := ⟨_, rfl⟩
   replace H : (impl_RunCuts.l0 k y531 l1 (l1.length : Int) 0) = some (r1, r2) := by first | (rw [hy531]; with_reducible exact H) | (have H2_ := (Option.bind_some _ _).symm.trans H; rw [hy531]; with_reducible exact H2_) | (have H2_ := (Option.bind_some _ _).symm.trans H; with_reducible exact H2_) | with_reducible exact H | (rw [hy531]; exact H) | exact H
   have Ny531 := Aside0.mk hy531
   clear hy531
   have H' := Aside0.mk H
   clear H
   go_enter Tryz.func15, Tryz.ntmps15
   go_wp2_with (first | ((with_reducible refine gd_ 2 rfl ?_); refine be_ 2 #[.int .i64 a0_0, .int .i64 a0_1] 25 rfl rfl ?_; intro gb529 hg w9 hbox hb; have BK529 := am_ hbox; have GW529 := gw_ hg HB; have GE529 := gw_ hg HB; replace HB := hs_ HB hb; clear hb hbox hg; have hcz10_0 : w9.cell? ⟨gb529, 0, none⟩ = some (.int .i64 a0_0) := (blk_cell BK529.out 0).trans rfl; have hcz10_1 : w9.cell? ⟨gb529, 1, none⟩ = some (.int .i64 a0_1) := (blk_cell BK529.out 1).trans rfl; have hfz10_0 := blk_frozen BK529.out 0; have hfz10_1 := blk_frozen BK529.out 1) | ((with_reducible refine gc_ 20 rfl ?_); refine gl_ (some 11) rfl rfl Tryz.func20 rfl #[.agg #[.int .i64 a0_0, .int .i64 a0_1]] rfl ?_; (with_reducible refine (impl_IsPiece.calls a0_0 a0_1 true _ A3.out).mono ?_); rintro e w11 ⟨rfl, hb⟩; refine ⟨_, rfl, ?_⟩; replace BK529 := bb_ BK529 hb; replace HB := hs_ HB hb; (try clear hb); (try clear hb2); (try clear hk); (try clear hi); have hcz12_0 : w11.cell? ⟨gb529, 0, none⟩ = some (.int .i64 a0_0) := (blk_cell BK529.out 0).trans rfl; have hcz12_1 : w11.cell? ⟨gb529, 1, none⟩ = some (.int .i64 a0_1) := (blk_cell BK529.out 1).trans rfl; have hfz12_0 := blk_frozen BK529.out 0; have hfz12_1 := blk_frozen BK529.out 1) | ((with_reducible refine gd_ 18 rfl ?_); refine Kd.R_lit k25 _ 25 ?hg (N := 18) ?hd (xs := ([(⟨a0_0, a0_1⟩ : S25)] : List (S25))) (inner := [.int .i64 a0_0, .int .i64 a0_1]) (ok := fun _ => True) (okp := fun _ => True) ?hr ?hp (fun _ hk => hk) trivial (Below.refl _ _) (Nat.le_refl _) (by simp) ?_; (case hd => rfl); (case hg => rfl); (case hr => first | (go_simp; done) | (go_simp; rfl)); (case hp => exact (Reps.c2 (show Kd.M k25 _ _ _ (⟨a0_0, a0_1⟩ : S25) [.int .i64 a0_0, .int .i64 a0_1] from (k25_mkM _ _ _ (⟨a0_0, a0_1⟩ : S25) )) (Reps.none _ _))); intro v532 w13 ho14 hb hg_ hnew_; clear hg_ hnew_; (first | rw [← Ny531.out] at ho14 | (simp only [Int.reduceToNat] at ho14; rw [← Ny531.out] at ho14)); have HO533 := am_ (Kd.R_lower (Kd.R_newB ho14 (g := gb529) (o := .cells #[.int .i64 a0_0, .int .i64 a0_1] 25 (0, 0)) (bx_ BK529.out)) (below_size (hx_ HB.out))); replace BK529 := bb_ BK529 hb; replace HB := hs_ HB hb; clear hb ho14))
   go_loopg [6, 21] k (fun kq v6 v21 w' => ∃ (x6_1 : List (S25)) (x21_1 : Int), v21 = .int .i64 x21_1 ∧ Aside0 (impl_RunCuts.l0 kq x6_1 l1 (l1.length : Int) x21_1 = some (r1, r2)) ∧ Aside0 (kq ≤ k) ∧ Aside0 (Kd.R k25 25 w' w.heap.size (fun k_ => k_ ≠ gb529) v6 x6_1) ∧ Aside0 (w'.heap[gb529]? = some (.cells #[.int .i64 a0_0, .int .i64 a0_1] 25 (0, 0))) ∧ Aside0 (Below w.heap.size w w'))
   case atStart => exact ⟨(y531), (0), (by first | rfl | (simp; done) | (simp [*]; done)), H', ⟨Nat.le_refl _⟩, ⟨by (with_reducible repeat (first | apply Kd.R_alloc | apply Kd.R_drewN | apply Kd.R_drew)); exact Kd.R_mono HO533.out (fun _ hk => hk.2)⟩, ⟨bx_ BK529.out⟩, ⟨hx_ HB.out⟩⟩
   case round =>
    clear H'
    (try clear c1); (try clear c2); (try clear p2); (try clear c4); (try clear c5); (try clear c5b0); (try clear c5b1); (try clear hcz10_0); (try clear hcz10_1); (try clear hcz12_0); (try clear hcz12_1); (try clear hcz7_0); (try clear hcz7_1); (try clear hfz10_0); (try clear hfz10_1); (try clear hfz12_0); (try clear hfz12_1); (try clear hfz7_0); (try clear hfz7_1)
    obtain ⟨x6_1, x21_1, rfl, HA, HK1, HO_6, BK529, HB⟩ := hrel
    cases gk with
    | zero => exact absurd HA.out (by simp [impl_RunCuts.l0])
    | succ k1 =>
     have H := HA.out
     clear HA
     simp only [impl_RunCuts.l0] at H
     by_cases c15 : x21_1 < (l1.length : Int)
     ·rw [if_pos c15] at H
      have c15b0 : decide (x21_1 < (l1.length : Int)) = true := decide_eq_true c15
      clear c15
      by_cases c16 : 0 ≤ x21_1
      ·rw [if_pos c16] at H
       have c16b0 : decide (0 ≤ x21_1) = true := decide_eq_true c16
       clear c16
       by_cases c17 : x21_1 < (l1.length : Int)
       ·rw [if_pos c17] at H
        have c17b0 : decide (x21_1 < (l1.length : Int)) = true := decide_eq_true c17
        clear c17
        replace H := Option.bind_eq_some_iff.mp H
        obtain ⟨t536, A180, H⟩ := H
        try dsimp only at H
        have A18 := Aside0.mk A180
        clear A180
        by_cases c19 : t536 = true
        ·subst c19
         have H1 : ((impl_cut.f k1 x6_1 ((rd_T50 l1 x21_1).f0) ((rd_T50 l1 x21_1).f1) ((rd_T50 l1 x21_1).f2)).bind fun t537 => (impl_RunCuts.l0 k1 t537 l1 (l1.length : Int) (wrap64 (x21_1 + 1)))) = some (r1, r2) := by rw [if_pos rfl] at H; exact H
         clear H
         have H := H1
         clear H1
         replace H := Option.bind_eq_some_iff.mp H
         obtain ⟨t537, A200, H⟩ := H
         try dsimp only at H
         have A20 := Aside0.mk A200
         clear A200
         have H' := Aside0.mk H
         clear H
         have p534 : 0 ≤ (x21_1 : Int) := of_decide_eq_true (by first | (with_reducible assumption) | assumption)
         have q534 : x21_1 < (l1.length : Int) := of_decide_eq_true (by first | (with_reducible assumption) | assumption)
         obtain ⟨ad534, e534, hx534_0, hx534_1, hx534_2⟩ := at_T50 HR1.out x21_1 p534 q534
         cases e534
         replace hx534_0 := (HB.out.cell (World.block_lt_of_cell? w _ hx534_0)).trans hx534_0
         replace hx534_1 := (HB.out.cell (World.block_lt_of_cell? w _ hx534_1)).trans hx534_1
         replace hx534_2 := (HB.out.cell (World.block_lt_of_cell? w _ hx534_2)).trans hx534_2
         replace p534 := eq_true p534
         replace q534 := eq_true q534
         go_wp2_with (first | ((with_reducible refine gd_ 8 rfl ?_); refine be_ 8 #[.int .i64 0, .bool false, .int .i64 0] 50 rfl rfl ?_; intro gb535 hg w21 hbox hb; replace HO_6 := am_ (Kd.R_below (rx_ HO_6.out) hb); have BK535 := am_ hbox; have GW535 := gw_ hg HB; have GE535 := gw_ hg HB; replace HB := hs_ HB hb; have NB529_535 := nl_ hg BK529; have NB535_529 := ng_ hg BK529; replace BK529 := bb_ BK529 hb; clear hb hbox hg; have hnb22 := NB535_529.out; have hnc22 := NB529_535.out; have hcz23_0 : w21.cell? ⟨gb535, 0, none⟩ = some (.int .i64 0) := (blk_cell BK535.out 0).trans rfl; have hcz23_1 : w21.cell? ⟨gb535, 1, none⟩ = some (.bool false) := (blk_cell BK535.out 1).trans rfl; have hcz23_2 : w21.cell? ⟨gb535, 2, none⟩ = some (.int .i64 0) := (blk_cell BK535.out 2).trans rfl; have hfz23_0 := blk_frozen BK535.out 0; have hfz23_1 := blk_frozen BK535.out 1; have hfz23_2 := blk_frozen BK535.out 2; obtain ⟨Ao24, co24, eo24⟩ := Kd.R_slice HO_6.out; subst eo24) | ((with_reducible refine gc_ 36 rfl ?_); refine gl_ (some 27) rfl rfl Tryz.func36 rfl #[.slice Ao24 x6_1.length co24, .agg #[.int .i64 ((rd_T50 l1 x21_1).f0), .bool ((rd_T50 l1 x21_1).f1), .int .i64 ((rd_T50 l1 x21_1).f2)]] rfl ?_; (with_reducible refine (impl_possible.calls k1 _ _ x6_1 ((rd_T50 l1 x21_1).f0) ((rd_T50 l1 x21_1).f1) ((rd_T50 l1 x21_1).f2) true _ ?side1 ?side2 A18.out).mono ?_); (case side1 => refine (Kd.R_reads' (e := 25) (base := w.heap.size) (ok := fun k_ => k_ ≠ gb529) (n := x6_1.length) (c := co24) ?_).2.2; exact (by (with_reducible repeat (first | apply Kd.R_alloc | apply Kd.R_drewN | apply Kd.R_drew)); exact (Kd.R_mono (Kd.R_far (p := ⟨gb535, 2, none⟩) (Kd.R_far (p := ⟨gb535, 1, none⟩) (Kd.R_far (p := ⟨gb535, 0, none⟩) (Kd.R_types HO_6.out BK535.out (by decide)) (fun _ hk => hk.2) (.int .i64 ((rd_T50 l1 x21_1).f0))) (fun _ hk => hk.2) (.bool ((rd_T50 l1 x21_1).f1))) (fun _ hk => hk.2) (.int .i64 ((rd_T50 l1 x21_1).f2))) (fun _ h_ => h_.1)))); (case side2 => exact (Kd.R_reads' HO_6.out).2.1); rintro e w25 ⟨rfl, hb⟩; refine ⟨_, rfl, ?_⟩; replace HO_6 := am_ (Kd.R_below (by (with_reducible repeat (first | apply Kd.R_alloc | apply Kd.R_drewN | apply Kd.R_drew)); exact (Kd.R_mono (Kd.R_far (p := ⟨gb535, 2, none⟩) (Kd.R_far (p := ⟨gb535, 1, none⟩) (Kd.R_far (p := ⟨gb535, 0, none⟩) (Kd.R_types HO_6.out BK535.out (by decide)) (fun _ hk => hk.2) (.int .i64 ((rd_T50 l1 x21_1).f0))) (fun _ hk => hk.2) (.bool ((rd_T50 l1 x21_1).f1))) (fun _ hk => hk.2) (.int .i64 ((rd_T50 l1 x21_1).f2))) (fun _ h_ => h_.1))) hb); replace BK529 := bb_ BK529 hb; replace BK535 := am_ (blk_below (g := gb535) (o := .cells #[.int .i64 ((rd_T50 l1 x21_1).f0), .bool ((rd_T50 l1 x21_1).f1), .int .i64 ((rd_T50 l1 x21_1).f2)] 50 (0, 0)) (by (with_reducible repeat (first | refine blk_drewN ?_ _ | refine blk_drew ?_ | refine blk_alloc ?_ _)); refine blk_put (cs := #[.int .i64 ((rd_T50 l1 x21_1).f0), .bool ((rd_T50 l1 x21_1).f1), .int .i64 0]) ?_ 2 _ rfl; (with_reducible repeat (first | refine blk_drewN ?_ _ | refine blk_drew ?_ | refine blk_alloc ?_ _)); refine blk_put (cs := #[.int .i64 ((rd_T50 l1 x21_1).f0), .bool false, .int .i64 0]) ?_ 1 _ rfl; (with_reducible repeat (first | refine blk_drewN ?_ _ | refine blk_drew ?_ | refine blk_alloc ?_ _)); refine blk_put (cs := #[.int .i64 0, .bool false, .int .i64 0]) ?_ 0 _ rfl; (with_reducible repeat (first | refine blk_drewN ?_ _ | refine blk_drew ?_ | refine blk_alloc ?_ _)); exact BK535.out) hb); replace HB := hs_ HB hb; (try clear hb); (try clear hb2); (try clear hk); (try clear hi); have hcz26_0 : w25.cell? ⟨gb535, 0, none⟩ = some (.int .i64 ((rd_T50 l1 x21_1).f0)) := (blk_cell BK535.out 0).trans rfl; have hcz26_1 : w25.cell? ⟨gb535, 1, none⟩ = some (.bool ((rd_T50 l1 x21_1).f1)) := (blk_cell BK535.out 1).trans rfl; have hcz26_2 : w25.cell? ⟨gb535, 2, none⟩ = some (.int .i64 ((rd_T50 l1 x21_1).f2)) := (blk_cell BK535.out 2).trans rfl; have hfz26_0 := blk_frozen BK535.out 0; have hfz26_1 := blk_frozen BK535.out 1; have hfz26_2 := blk_frozen BK535.out 2) | ((with_reducible refine gc_ 37 rfl ?_); refine gl_ (some 31) rfl rfl Tryz.func37 rfl #[.slice Ao24 x6_1.length co24, .agg #[.int .i64 ((rd_T50 l1 x21_1).f0), .bool ((rd_T50 l1 x21_1).f1), .int .i64 ((rd_T50 l1 x21_1).f2)]] rfl ?_; (with_reducible refine (impl_cut.calls k1 (fun k_ => some k_ = (.slice Ao24 x6_1.length co24 : Value).ownBlock) _ _ x6_1 ((rd_T50 l1 x21_1).f0) ((rd_T50 l1 x21_1).f1) ((rd_T50 l1 x21_1).f2) t537 _ ?side1 A20.out).mono ?_); (case side1 => exact Kd.R_V (Kd.R_tight rfl (Kd.R_types (HO_6.out) BK535.out (by decide)))); rintro e w27 ⟨v538, rfl, ho0, hb⟩; refine ⟨_, rfl, ?_⟩; have HO539 := am_ (Kd.R_lower (Kd.R_newB (Kd.R_new' (Kd.R_mono (ok' := fun k_ => True) ho0 (fun _ hk_ => trivial)) (Kd.R_lt (rx_ HO_6.out))) (g := gb529) (o := .cells #[.int .i64 a0_0, .int .i64 a0_1] 25 (0, 0)) (bx_ BK529.out)) (below_size (hx_ HB.out))); replace HO_6 := am_ (Kd.R_elder' (rx_ HO_6.out) (Kd.R_base ho0) hb); replace BK529 := bb_ BK529 hb; replace BK535 := bb_ BK535 hb; replace HB := hs_ HB hb; (try clear hb); (try clear hb2); (try clear hk); (try clear hi); (try clear ho0)))
         go_roundg k1
         case measure => have := HK1.out; omega
         case rel => exact ⟨(t537), (wrap64 (x21_1 + 1)), (by first | rfl | (simp; done) | (simp [*]; done)), H', ⟨by have := HK1.out; omega⟩, ⟨by (with_reducible repeat (first | apply Kd.R_alloc | apply Kd.R_drewN | apply Kd.R_drew)); exact Kd.R_mono HO539.out (fun _ hk => hk.2)⟩, ⟨bx_ BK529.out⟩, ⟨hx_ HB.out⟩⟩
        ·replace c19 := Bool.eq_false_iff.mpr c19
         subst c19
         have H1 : (some (([] : List (S25)), 5)) = some (r1, r2) := by rw [if_neg (show ¬ (false = true) by decide)] at H; exact H
         clear H
         have H := H1
         clear H1
         simp only [Option.some.injEq, Prod.mk.injEq] at H
         obtain ⟨rfl, rfl⟩ := H
         have p534 : 0 ≤ (x21_1 : Int) := of_decide_eq_true (by first | (with_reducible assumption) | assumption)
         have q534 : x21_1 < (l1.length : Int) := of_decide_eq_true (by first | (with_reducible assumption) | assumption)
         obtain ⟨ad534, e534, hx534_0, hx534_1, hx534_2⟩ := at_T50 HR1.out x21_1 p534 q534
         cases e534
         replace hx534_0 := (HB.out.cell (World.block_lt_of_cell? w _ hx534_0)).trans hx534_0
         replace hx534_1 := (HB.out.cell (World.block_lt_of_cell? w _ hx534_1)).trans hx534_1
         replace hx534_2 := (HB.out.cell (World.block_lt_of_cell? w _ hx534_2)).trans hx534_2
         replace p534 := eq_true p534
         replace q534 := eq_true q534
         go_wp2_with (first | ((with_reducible refine gd_ 8 rfl ?_); refine be_ 8 #[.int .i64 0, .bool false, .int .i64 0] 50 rfl rfl ?_; intro gb535 hg w28 hbox hb; replace HO_6 := am_ (Kd.R_below (rx_ HO_6.out) hb); have BK535 := am_ hbox; have GW535 := gw_ hg HB; have GE535 := gw_ hg HB; replace HB := hs_ HB hb; have NB529_535 := nl_ hg BK529; have NB535_529 := ng_ hg BK529; replace BK529 := bb_ BK529 hb; clear hb hbox hg; have hnb29 := NB535_529.out; have hnc29 := NB529_535.out; have hcz30_0 : w28.cell? ⟨gb535, 0, none⟩ = some (.int .i64 0) := (blk_cell BK535.out 0).trans rfl; have hcz30_1 : w28.cell? ⟨gb535, 1, none⟩ = some (.bool false) := (blk_cell BK535.out 1).trans rfl; have hcz30_2 : w28.cell? ⟨gb535, 2, none⟩ = some (.int .i64 0) := (blk_cell BK535.out 2).trans rfl; have hfz30_0 := blk_frozen BK535.out 0; have hfz30_1 := blk_frozen BK535.out 1; have hfz30_2 := blk_frozen BK535.out 2; obtain ⟨Ao31, co31, eo31⟩ := Kd.R_slice HO_6.out; subst eo31) | ((with_reducible refine gc_ 36 rfl ?_); refine gl_ (some 27) rfl rfl Tryz.func36 rfl #[.slice Ao31 x6_1.length co31, .agg #[.int .i64 ((rd_T50 l1 x21_1).f0), .bool ((rd_T50 l1 x21_1).f1), .int .i64 ((rd_T50 l1 x21_1).f2)]] rfl ?_; (with_reducible refine (impl_possible.calls k1 _ _ x6_1 ((rd_T50 l1 x21_1).f0) ((rd_T50 l1 x21_1).f1) ((rd_T50 l1 x21_1).f2) false _ ?side1 ?side2 A18.out).mono ?_); (case side1 => refine (Kd.R_reads' (e := 25) (base := w.heap.size) (ok := fun k_ => k_ ≠ gb529) (n := x6_1.length) (c := co31) ?_).2.2; exact (by (with_reducible repeat (first | apply Kd.R_alloc | apply Kd.R_drewN | apply Kd.R_drew)); exact (Kd.R_mono (Kd.R_far (p := ⟨gb535, 2, none⟩) (Kd.R_far (p := ⟨gb535, 1, none⟩) (Kd.R_far (p := ⟨gb535, 0, none⟩) (Kd.R_types HO_6.out BK535.out (by decide)) (fun _ hk => hk.2) (.int .i64 ((rd_T50 l1 x21_1).f0))) (fun _ hk => hk.2) (.bool ((rd_T50 l1 x21_1).f1))) (fun _ hk => hk.2) (.int .i64 ((rd_T50 l1 x21_1).f2))) (fun _ h_ => h_.1)))); (case side2 => exact (Kd.R_reads' HO_6.out).2.1); rintro e w32 ⟨rfl, hb⟩; refine ⟨_, rfl, ?_⟩; replace HO_6 := am_ (Kd.R_below (by (with_reducible repeat (first | apply Kd.R_alloc | apply Kd.R_drewN | apply Kd.R_drew)); exact (Kd.R_mono (Kd.R_far (p := ⟨gb535, 2, none⟩) (Kd.R_far (p := ⟨gb535, 1, none⟩) (Kd.R_far (p := ⟨gb535, 0, none⟩) (Kd.R_types HO_6.out BK535.out (by decide)) (fun _ hk => hk.2) (.int .i64 ((rd_T50 l1 x21_1).f0))) (fun _ hk => hk.2) (.bool ((rd_T50 l1 x21_1).f1))) (fun _ hk => hk.2) (.int .i64 ((rd_T50 l1 x21_1).f2))) (fun _ h_ => h_.1))) hb); replace BK529 := bb_ BK529 hb; replace BK535 := am_ (blk_below (g := gb535) (o := .cells #[.int .i64 ((rd_T50 l1 x21_1).f0), .bool ((rd_T50 l1 x21_1).f1), .int .i64 ((rd_T50 l1 x21_1).f2)] 50 (0, 0)) (by (with_reducible repeat (first | refine blk_drewN ?_ _ | refine blk_drew ?_ | refine blk_alloc ?_ _)); refine blk_put (cs := #[.int .i64 ((rd_T50 l1 x21_1).f0), .bool ((rd_T50 l1 x21_1).f1), .int .i64 0]) ?_ 2 _ rfl; (with_reducible repeat (first | refine blk_drewN ?_ _ | refine blk_drew ?_ | refine blk_alloc ?_ _)); refine blk_put (cs := #[.int .i64 ((rd_T50 l1 x21_1).f0), .bool false, .int .i64 0]) ?_ 1 _ rfl; (with_reducible repeat (first | refine blk_drewN ?_ _ | refine blk_drew ?_ | refine blk_alloc ?_ _)); refine blk_put (cs := #[.int .i64 0, .bool false, .int .i64 0]) ?_ 0 _ rfl; (with_reducible repeat (first | refine blk_drewN ?_ _ | refine blk_drew ?_ | refine blk_alloc ?_ _)); exact BK535.out) hb); replace HB := hs_ HB hb; (try clear hb); (try clear hb2); (try clear hk); (try clear hi)))
         go_ret2
         exact ⟨_, by first | rfl | (simp [errW_none, errW_some] <;> rfl) | (simp [*, errW_none, errW_some] <;> rfl), by first | exact Kd.R_nil _ _ _ _ _ | exact Kd.N_nil _ _ _ _ _ | exact Kd.V_nil _ _ _ _ _ | exact Kd.Q_nil _ _ _ _ _ | exact Kd.S_nil _ _ _ _ _, hx_ HB.out⟩
       ·rw [if_neg c17] at H
        exact absurd H (by simp)
      ·rw [if_neg c16] at H
       exact absurd H (by simp)
     ·rw [if_neg c15] at H
      have c15b0 : decide (x21_1 < (l1.length : Int)) = false := decide_eq_false c15
      clear c15
      simp only [Option.some.injEq, Prod.mk.injEq] at H
      obtain ⟨rfl, rfl⟩ := H
      go_wp2
      go_ret2
      exact ⟨_, by first | rfl | (simp [errW_none, errW_some] <;> rfl) | (simp [*, errW_none, errW_some] <;> rfl), by (with_reducible repeat (first | apply Kd.R_alloc | apply Kd.R_drewN | apply Kd.R_drew)); exact Kd.R_mono HO_6.out (fun _ hk => trivial), hx_ HB.out⟩
 ·replace c4 := Bool.eq_false_iff.mpr c4
  subst c4
  have H1 : (some (([] : List (S25)), 1)) = some (r1, r2) := by rw [if_neg (show ¬ (false = true) by decide)] at H; exact H
  clear H
  have H := H1
  clear H1
  simp only [Option.some.injEq, Prod.mk.injEq] at H
  obtain ⟨rfl, rfl⟩ := H
  go_enter Tryz.func15, Tryz.ntmps15
  go_wp2_with (first | ((with_reducible refine gd_ 2 rfl ?_); refine be_ 2 #[.int .i64 a0_0, .int .i64 a0_1] 25 rfl rfl ?_; intro gb529 hg w33 hbox hb; have BK529 := am_ hbox; have GW529 := gw_ hg HB; have GE529 := gw_ hg HB; replace HB := hs_ HB hb; clear hb hbox hg; have hcz34_0 : w33.cell? ⟨gb529, 0, none⟩ = some (.int .i64 a0_0) := (blk_cell BK529.out 0).trans rfl; have hcz34_1 : w33.cell? ⟨gb529, 1, none⟩ = some (.int .i64 a0_1) := (blk_cell BK529.out 1).trans rfl; have hfz34_0 := blk_frozen BK529.out 0; have hfz34_1 := blk_frozen BK529.out 1) | ((with_reducible refine gc_ 20 rfl ?_); refine gl_ (some 11) rfl rfl Tryz.func20 rfl #[.agg #[.int .i64 a0_0, .int .i64 a0_1]] rfl ?_; (with_reducible refine (impl_IsPiece.calls a0_0 a0_1 false _ A3.out).mono ?_); rintro e w35 ⟨rfl, hb⟩; refine ⟨_, rfl, ?_⟩; replace BK529 := bb_ BK529 hb; replace HB := hs_ HB hb; (try clear hb); (try clear hb2); (try clear hk); (try clear hi)))
  go_ret2
  exact ⟨_, by first | rfl | (simp [errW_none, errW_some] <;> rfl) | (simp [*, errW_none, errW_some] <;> rfl), by first | exact Kd.R_nil _ _ _ _ _ | exact Kd.N_nil _ _ _ _ _ | exact Kd.V_nil _ _ _ _ _ | exact Kd.Q_nil _ _ _ _ _ | exact Kd.S_nil _ _ _ _ _, hx_ HB.out⟩

-- NOT PRINTED: function 73 (impl_Piece_73)

-- NOT PRINTED: function 56 (impl_Piece_56)

/-! ### impl_arePieces: function 38 -/
def impl_arePieces.f (l0 : List S25) : Option (Bool) := some (decide (l0.length ≤ 80) && l0.all fun x => HandP.valid (x.f0, x.f1))
theorem pieces_reads {w : World} {A : Option Addr} {xs : List S25} (h : Kd.C k25 w A xs.length xs) : HandP.Reads w A (xs.map fun x => (x.f0, x.f1)) := by
 refine ⟨by rw [List.length_map]; exact h.2.1, fun j hj => ?_⟩
 have hj2 : j < xs.length := by simpa using hj
 obtain ⟨ad, e, h1, h2⟩ := at_T25 h (j : Int) (by omega) (by omega)
 have e2 : rd_T25 xs (j : Int) = xs[j] := by simp [rd_T25, List.getD_eq_getElem?_getD, List.getElem?_eq_getElem hj2]
 rw [Int.toNat_natCast, e2] at h1 h2
 exact ⟨ad, e, by rw [List.getElem_map]; exact h1, by rw [List.getElem_map]; exact h2⟩
set_option maxHeartbeats 8000000 in
set_option maxRecDepth 100000 in
theorem impl_arePieces.calls (A0 : Option Addr) (c0 : Nat) (l0 : List (S25)) (r : Bool) (w : World) (hr0 : Kd.C k25 w A0 l0.length l0) (hc0 : l0.length ≤ c0) (h : impl_arePieces.f l0 = some r) :
  Calls Tryz.prog 38 #[.slice A0 l0.length c0] w fun e w' => e = .returned (.bool r) ∧ Below w.heap.size w w' := by
 obtain rfl := Option.some.inj h
 have := HandP.arePieces_calls A0 c0 (l0.map fun x => (x.f0, x.f1)) w (pieces_reads hr0)
 rw [List.length_map, List.all_map] at this
 exact this

/-! ### impl_CountPieces: function 16 -/
mutual
def impl_CountPieces.j0 : Nat → List (S25) → Bool → Int → Int → Option (Int × Int)
 | 0, _, _, _, _ => none
 | k + 1, x0, x16, x543000, x543001 => if x16 = true then (some (0, 1)) else (impl_CountPieces.l0 k 0 x0 (x0.length : Int) 0 x543000 x543001)
def impl_CountPieces.l0 : Nat → Int → List (S25) → Int → Int → Int → Int → Option (Int × Int)
 | 0, _, _, _, _, _, _ => none
 | k + 1, x6, x17, x18, x19, x543000, x543001 => if x19 < x18 then (if 0 ≤ x19 then (if x19 < (x17.length : Int) then ((impl_toInt.f (((rd_T25 x17 x19).f0) == x543000 && (((rd_T25 x17 x19).f1) == x543001))).bind fun t547 => (impl_CountPieces.l0 k (wrap64 (x6 + t547)) x17 x18 (wrap64 (x19 + 1)) x543000 x543001)) else (none)) else (none)) else (some (x6, 0))
end
def impl_CountPieces.f (k : Nat) (l0 : List (S25)) (a1_0 : Int) (a1_1 : Int) : Option (Int × Int) := (impl_arePieces.f l0).bind fun t543 => (if t543 = true then ((impl_IsPiece.f a1_0 a1_1).bind fun t544 => (impl_CountPieces.j0 k l0 (!t544) a1_0 a1_1)) else (impl_CountPieces.j0 k l0 true a1_0 a1_1))
theorem impl_CountPieces.mono_l : ∀ k, (∀ y0 y1 y2 y3, LeO (impl_CountPieces.j0 k y0 y1 y2 y3) (impl_CountPieces.j0 (k + 1) y0 y1 y2 y3)) ∧ (∀ y0 y1 y2 y3 y4 y5, LeO (impl_CountPieces.l0 k y0 y1 y2 y3 y4 y5) (impl_CountPieces.l0 (k + 1) y0 y1 y2 y3 y4 y5))
 | 0 => ⟨fun _ _ _ _ r h => by simp [impl_CountPieces.j0] at h, fun _ _ _ _ _ _ r h => by simp [impl_CountPieces.l0] at h⟩
 | k + 1 => by
  obtain ⟨ih0, ih1⟩ := impl_CountPieces.mono_l k
  refine ⟨?_, ?_⟩
  ·intro y0 y1 y2 y3
   unfold impl_CountPieces.j0
   repeat' first
   | (with_reducible exact ih0 _ _ _ _)
   | (with_reducible exact ih1 _ _ _ _ _ _)
   | (with_reducible exact LeO.refl _)
   | (with_reducible exact LeO.none _)
   | (with_reducible refine LeO.ite ?_ ?_)
   | (with_reducible refine LeO.bind ?_ (fun _ => ?_))
   | exact ih0 _ _ _ _
   | exact ih1 _ _ _ _ _ _
   | exact LeO.none _
   | refine LeO.ite ?_ ?_
   | refine LeO.bind ?_ (fun _ => ?_)
  ·intro y0 y1 y2 y3 y4 y5
   unfold impl_CountPieces.l0
   repeat' first
   | (with_reducible exact ih0 _ _ _ _)
   | (with_reducible exact ih1 _ _ _ _ _ _)
   | (with_reducible exact LeO.refl _)
   | (with_reducible exact LeO.none _)
   | (with_reducible refine LeO.ite ?_ ?_)
   | (with_reducible refine LeO.bind ?_ (fun _ => ?_))
   | exact ih0 _ _ _ _
   | exact ih1 _ _ _ _ _ _
   | exact LeO.none _
   | refine LeO.ite ?_ ?_
   | refine LeO.bind ?_ (fun _ => ?_)
theorem impl_CountPieces.mono : ∀ a0 a1 a2 k, LeO (impl_CountPieces.f k a0 a1 a2) (impl_CountPieces.f (k + 1) a0 a1 a2) := by
 intro a0 a1 a2 k
 obtain ⟨ih0, ih1⟩ := impl_CountPieces.mono_l k
 unfold impl_CountPieces.f
 repeat' first
   | (with_reducible exact ih0 _ _ _ _)
   | (with_reducible exact ih1 _ _ _ _ _ _)
   | (with_reducible exact LeO.refl _)
   | (with_reducible exact LeO.none _)
   | (with_reducible refine LeO.ite ?_ ?_)
   | (with_reducible refine LeO.bind ?_ (fun _ => ?_))
   | exact ih0 _ _ _ _
   | exact ih1 _ _ _ _ _ _
   | exact LeO.none _
   | refine LeO.ite ?_ ?_
   | refine LeO.bind ?_ (fun _ => ?_)
set_option maxHeartbeats 8000000 in
set_option maxRecDepth 100000 in
theorem impl_CountPieces.calls (k : Nat) (A0 : Option Addr) (c0 : Nat) (l0 : List (S25)) (a1_0 : Int) (a1_1 : Int) (r1 : Int) (r2 : Int) (w : World) (hr0 : Kd.C k25 w A0 l0.length l0) (hc0 : l0.length ≤ c0) (h : impl_CountPieces.f k l0 a1_0 a1_1 = some (r1, r2)) :
  Calls Tryz.prog 16 #[.slice A0 l0.length c0, .agg #[.int .i64 a1_0, .int .i64 a1_1]] w fun e w' => e = .returned (.tuple #[.int .i64 r1, .int .i64 r2]) ∧ Below w.heap.size w w' := by
 have hu25 := Tryz.underlying25
 have HR0 := Aside0.mk hr0
 have HC0 := Aside0.mk hc0
 clear hr0 hc0
 have HB := Aside0.mk (Below.refl w.heap.size w)
 have H : ((impl_arePieces.f l0).bind fun t543 => (if t543 = true then ((impl_IsPiece.f a1_0 a1_1).bind fun t544 => (impl_CountPieces.j0 k l0 (!t544) a1_0 a1_1)) else (impl_CountPieces.j0 k l0 true a1_0 a1_1))) = some (r1, r2) := h
 clear h
 have HC3 := Aside0.mk H
 clear H
 go_enter Tryz.func16, Tryz.ntmps16
 go_upto_region 1 with (first | ((with_reducible refine gd_ 3 rfl ?_); refine be_ 3 #[.int .i64 a1_0, .int .i64 a1_1] 25 rfl rfl ?_; intro gb542 hg w4 hbox hb; have BK542 := am_ hbox; have GW542 := gw_ hg HB; have GE542 := gw_ hg HB; replace HB := hs_ HB hb; clear hb hbox hg))
 (try simp only [Act.put, List.setIfInBounds_toArray, List.set_cons_zero, List.set_cons_succ])
 go_cut [16] (fun v16 wc => ∃ (kq : Nat) (x16_2 : Bool), v16 = .bool x16_2 ∧ Aside0 (impl_CountPieces.j0 kq l0 x16_2 a1_0 a1_1 = some (r1, r2)) ∧ Aside0 (kq ≤ k) ∧ Aside0 (wc.heap[gb542]? = some (.cells #[.int .i64 a1_0, .int .i64 a1_1] 25 (0, 0))) ∧ Aside0 (Below w.heap.size w wc))
 case first =>
  have H := HC3.out
  clear HC3
  replace H := Option.bind_eq_some_iff.mp H
  obtain ⟨t543, A50, H⟩ := H
  try dsimp only at H
  have A5 := Aside0.mk A50
  clear A50
  by_cases c6 : t543 = true
  ·subst c6
   have H1 : ((impl_IsPiece.f a1_0 a1_1).bind fun t544 => (impl_CountPieces.j0 k l0 (!t544) a1_0 a1_1)) = some (r1, r2) := by rw [if_pos rfl] at H; exact H
   clear H
   have H := H1
   clear H1
   replace H := Option.bind_eq_some_iff.mp H
   obtain ⟨t544, A70, H⟩ := H
   try dsimp only at H
   have A7 := Aside0.mk A70
   clear A70
   have H' := Aside0.mk H
   clear H
   go_wp2_with (first | ((with_reducible refine gc_ 38 rfl ?_); refine gl_ (some 10) rfl rfl Tryz.func38 rfl #[.slice A0 l0.length c0] rfl ?_; (with_reducible refine (impl_arePieces.calls _ _ l0 true _ ?side1 ?side2 A5.out).mono ?_); (case side1 => repeat (first | exact (Kd.C_below HR0.out HB.out) | (with_reducible refine Kd.C_alloc ?_ _) | (with_reducible refine Kd.C_drewN ?_ _) | (with_reducible refine Kd.C_drew ?_))); (case side2 => exact HC0.out); rintro e w8 ⟨rfl, hb⟩; refine ⟨_, rfl, ?_⟩; replace BK542 := bb_ BK542 hb; replace HB := hs_ HB hb; (try clear hb); (try clear hb2); (try clear hk); (try clear hi); have hcz9_0 : w8.cell? ⟨gb542, 0, none⟩ = some (.int .i64 a1_0) := (blk_cell BK542.out 0).trans rfl; have hcz9_1 : w8.cell? ⟨gb542, 1, none⟩ = some (.int .i64 a1_1) := (blk_cell BK542.out 1).trans rfl; have hfz9_0 := blk_frozen BK542.out 0; have hfz9_1 := blk_frozen BK542.out 1) | (go_at_call 20; (with_reducible refine (impl_IsPiece.calls a1_0 a1_1 t544 _ A7.out).mono ?_); rintro e w10 ⟨rfl, hb⟩; replace BK542 := bb_ BK542 hb; replace HB := hs_ HB hb; (try clear hb); (try clear hb2); (try clear hk); (try clear hi)))
   go_meet
   case rel => exact ⟨_, (!t544), (by first | rfl | (simp; done) | (simp [*]; done)), H', ⟨by first | omega | exact Nat.le_refl _⟩, ⟨bx_ BK542.out⟩, ⟨hx_ HB.out⟩⟩
  ·replace c6 := Bool.eq_false_iff.mpr c6
   subst c6
   have H1 : (impl_CountPieces.j0 k l0 true a1_0 a1_1) = some (r1, r2) := by rw [if_neg (show ¬ (false = true) by decide)] at H; exact H
   clear H
   have H := H1
   clear H1
   have H' := Aside0.mk H
   clear H
   go_wp2_with (first | ((with_reducible refine gc_ 38 rfl ?_); refine gl_ (some 10) rfl rfl Tryz.func38 rfl #[.slice A0 l0.length c0] rfl ?_; (with_reducible refine (impl_arePieces.calls _ _ l0 false _ ?side1 ?side2 A5.out).mono ?_); (case side1 => repeat (first | exact (Kd.C_below HR0.out HB.out) | (with_reducible refine Kd.C_alloc ?_ _) | (with_reducible refine Kd.C_drewN ?_ _) | (with_reducible refine Kd.C_drew ?_))); (case side2 => exact HC0.out); rintro e w11 ⟨rfl, hb⟩; refine ⟨_, rfl, ?_⟩; replace BK542 := bb_ BK542 hb; replace HB := hs_ HB hb; (try clear hb); (try clear hb2); (try clear hk); (try clear hi)))
   go_meet
   case rel => exact ⟨_, (true), (by first | rfl | (simp; done) | (simp [*]; done)), H', ⟨by first | omega | exact Nat.le_refl _⟩, ⟨bx_ BK542.out⟩, ⟨hx_ HB.out⟩⟩
 case rest =>
  clear HC3
  (try clear c1); (try clear p2); (try clear c3); (try clear c6); (try clear hcz9_0); (try clear hcz9_1); (try clear hfz9_0); (try clear hfz9_1)
  obtain ⟨kq, x16_2, rfl, HA, HJ2, BK542, HB⟩ := hcut
  cases kq with
  | zero => exact absurd HA.out (by simp [impl_CountPieces.j0])
  | succ kj2 =>
   have H := HA.out
   clear HA
   simp only [impl_CountPieces.j0] at H
   by_cases c12 : x16_2 = true
   ·subst c12
    have H1 : (some (0, 1)) = some (r1, r2) := by rw [if_pos rfl] at H; exact H
    clear H
    have H := H1
    clear H1
    simp only [Option.some.injEq, Prod.mk.injEq] at H
    obtain ⟨rfl, rfl⟩ := H
    go_wp2
    go_ret2
    exact er_ (hx_ HB.out)
   ·replace c12 := Bool.eq_false_iff.mpr c12
    subst c12
    have H1 : (impl_CountPieces.l0 kj2 0 l0 (l0.length : Int) 0 a1_0 a1_1) = some (r1, r2) := by rw [if_neg (show ¬ (false = true) by decide)] at H; exact H
    clear H
    have H := H1
    clear H1
    have H' := Aside0.mk H
    clear H
    go_wp2
    go_loopg [6, 19] kj2 (fun kq v6 v19 w' => ∃ (x6_2 : Int) (x19_2 : Int), v6 = .int .i64 x6_2 ∧ v19 = .int .i64 x19_2 ∧ Aside0 (impl_CountPieces.l0 kq x6_2 l0 (l0.length : Int) x19_2 a1_0 a1_1 = some (r1, r2)) ∧ Aside0 (kq ≤ kj2) ∧ Aside0 (w'.heap[gb542]? = some (.cells #[.int .i64 a1_0, .int .i64 a1_1] 25 (0, 0))) ∧ Aside0 (Below w.heap.size w w'))
    case atStart => exact ⟨(0), (0), (by first | rfl | (simp; done) | (simp [*]; done)), (by first | rfl | (simp; done) | (simp [*]; done)), H', ⟨Nat.le_refl _⟩, ⟨bx_ BK542.out⟩, ⟨hx_ HB.out⟩⟩
    case round =>
     clear H'
     (try clear c1); (try clear p2); (try clear c3); (try clear c6); (try clear c12); (try clear hcz9_0); (try clear hcz9_1); (try clear hfz9_0); (try clear hfz9_1); (try clear p2)
     obtain ⟨x6_2, x19_2, rfl, rfl, HA, HK2, BK542, HB⟩ := hrel
     cases gk with
     | zero => exact absurd HA.out (by simp [impl_CountPieces.l0])
     | succ k2 =>
      have H := HA.out
      clear HA
      simp only [impl_CountPieces.l0] at H
      by_cases c13 : x19_2 < (l0.length : Int)
      ·rw [if_pos c13] at H
       have c13b0 : decide (x19_2 < (l0.length : Int)) = true := decide_eq_true c13
       clear c13
       by_cases c14 : 0 ≤ x19_2
       ·rw [if_pos c14] at H
        have c14b0 : decide (0 ≤ x19_2) = true := decide_eq_true c14
        clear c14
        by_cases c15 : x19_2 < (l0.length : Int)
        ·rw [if_pos c15] at H
         have c15b0 : decide (x19_2 < (l0.length : Int)) = true := decide_eq_true c15
         clear c15
         replace H := Option.bind_eq_some_iff.mp H
         obtain ⟨t547, A160, H⟩ := H
         try dsimp only at H
         have A16 := Aside0.mk A160
         clear A160
         have H' := Aside0.mk H
         clear H
         have p545 : 0 ≤ (x19_2 : Int) := of_decide_eq_true (by first | (with_reducible assumption) | assumption)
         have q545 : x19_2 < (l0.length : Int) := of_decide_eq_true (by first | (with_reducible assumption) | assumption)
         obtain ⟨ad545, e545, hx545_0, hx545_1⟩ := at_T25 HR0.out x19_2 p545 q545
         cases e545
         replace hx545_0 := (HB.out.cell (World.block_lt_of_cell? w _ hx545_0)).trans hx545_0
         replace hx545_1 := (HB.out.cell (World.block_lt_of_cell? w _ hx545_1)).trans hx545_1
         replace p545 := eq_true p545
         replace q545 := eq_true q545
         go_wp2_with (first | ((with_reducible refine gd_ 8 rfl ?_); refine be_ 8 #[.int .i64 0, .int .i64 0] 25 rfl rfl ?_; intro gb546 hg w17 hbox hb; have BK546 := am_ hbox; have GW546 := gw_ hg HB; have GE546 := gw_ hg HB; replace HB := hs_ HB hb; have NB542_546 := nl_ hg BK542; have NB546_542 := ng_ hg BK542; replace BK542 := bb_ BK542 hb; clear hb hbox hg; have hnb18 := NB546_542.out; have hnc18 := NB542_546.out; have hcz19_0 : w17.cell? ⟨gb546, 0, none⟩ = some (.int .i64 0) := (blk_cell BK546.out 0).trans rfl; have hcz19_1 : w17.cell? ⟨gb546, 1, none⟩ = some (.int .i64 0) := (blk_cell BK546.out 1).trans rfl; have hfz19_0 := blk_frozen BK546.out 0; have hfz19_1 := blk_frozen BK546.out 1; have hcz20_0 : w17.cell? ⟨gb542, 0, none⟩ = some (.int .i64 a1_0) := (blk_cell BK542.out 0).trans rfl; have hcz20_1 : w17.cell? ⟨gb542, 1, none⟩ = some (.int .i64 a1_1) := (blk_cell BK542.out 1).trans rfl; have hfz20_0 := blk_frozen BK542.out 0; have hfz20_1 := blk_frozen BK542.out 1) | ((with_reducible refine gc_ 22 rfl ?_); refine gl_ (some 27) rfl rfl Tryz.func22 rfl #[.bool (((rd_T25 l0 x19_2).f0) == a1_0 && (((rd_T25 l0 x19_2).f1) == a1_1))] rfl ?_; (with_reducible refine (impl_toInt.calls (((rd_T25 l0 x19_2).f0) == a1_0 && (((rd_T25 l0 x19_2).f1) == a1_1)) t547 _ A16.out).mono ?_); rintro e w' ⟨rfl, ⟨nd, rfl⟩⟩; refine ⟨_, rfl, ?_⟩))
         go_roundg k2
         case measure => have := HJ2.out; have := HK2.out; omega
         case rel => exact ⟨(wrap64 (x6_2 + t547)), (wrap64 (x19_2 + 1)), (by first | rfl | (simp; done) | (simp [*]; done)), (by first | rfl | (simp; done) | (simp [*]; done)), H', ⟨by have := HJ2.out; have := HK2.out; omega⟩, ⟨bx_ BK542.out⟩, ⟨hx_ HB.out⟩⟩
        ·rw [if_neg c15] at H
         exact absurd H (by simp)
       ·rw [if_neg c14] at H
        exact absurd H (by simp)
      ·rw [if_neg c13] at H
       have c13b0 : decide (x19_2 < (l0.length : Int)) = false := decide_eq_false c13
       clear c13
       simp only [Option.some.injEq, Prod.mk.injEq] at H
       obtain ⟨rfl, rfl⟩ := H
       go_wp2
       go_ret2
       exact er_ (hx_ HB.out)

end Go.Proofs.YtdafddgmeidclaaGreatDoor.PFnGridCuts
