-- Written by wip/inject.py: a contract of each function that the law reaches; those of the stand-ins are proved in this seat's Hand texts
import Derived.Test.YtdafddgmeidclaaGreatDoorPFnGridCutsx0
import Derived.Test.YtdafddgmeidclaaGreatDoorPFnGridCutsx16
namespace Go.Proofs.YtdafddgmeidclaaGreatDoor.PFnGridCuts
open Go.RowKit Go.Proofs.YtdafddgmeidclaaGreatDoorW.PrintWords Go.Proofs.YtdafddgmeidclaaGreatDoorW.PrintLast Go.Proofs.YtdafddgmeidclaaGreatDoorW.PrintMore
attribute [local go_sem] max2_int min2_int max_two min_two max_three min_three max_four min_four   -- for this text's walks alone
set_option linter.unusedVariables false
set_option linter.unusedSimpArgs false

/-! ### impl_cut: function 37 -/
def impl_cut.j0 : Nat → List (S25) → Int → Bool → Int → Int → Int → Int → Int → Option ((List (S25)))
 | 0, _, _, _, _, _, _, _, _ => none
 | k + 1, x0, x506000, x506001, x506002, x509000, x509001, x510000, x510001 => if 0 ≤ x506000 then (if x506000 ≤ (x0.length : Int) then (if 0 ≤ (wrap64 (x506000 + 1)) then (if (wrap64 (x506000 + 1)) ≤ (x0.length : Int) then ((slices_ConcatPiece.f k (([(x0.take (x506000 : Int).toNat), (([(⟨x509000, x509001⟩ : S25), (⟨x510000, x510001⟩ : S25)] : List (S25))), (x0.drop ((wrap64 (x506000 + 1)) : Int).toNat)] : List (List (S25))))).bind fun t526 => (some t526)) else (none)) else (none)) else (none)) else (none)
def impl_cut.f (k : Nat) (l0 : List (S25)) (a1_0 : Int) (a1_1 : Bool) (a1_2 : Int) : Option ((List (S25))) := if 0 ≤ a1_0 then (if a1_0 < (l0.length : Int) then (if a1_1 = true then (impl_cut.j0 k l0 a1_0 a1_1 a1_2 ((rd_T25 l0 a1_0).f0) a1_2 ((rd_T25 l0 a1_0).f0) (wrap64 (((rd_T25 l0 a1_0).f1) - a1_2))) else (impl_cut.j0 k l0 a1_0 a1_1 a1_2 a1_2 ((rd_T25 l0 a1_0).f1) (wrap64 (((rd_T25 l0 a1_0).f0) - a1_2)) ((rd_T25 l0 a1_0).f1))) else (none)) else (none)
theorem impl_cut.mono_l : ∀ k, (∀ y0 y1 y2 y3 y4 y5 y6 y7, LeO (impl_cut.j0 k y0 y1 y2 y3 y4 y5 y6 y7) (impl_cut.j0 (k + 1) y0 y1 y2 y3 y4 y5 y6 y7))
 | 0 => fun _ _ _ _ _ _ _ _ r h => by simp [impl_cut.j0] at h
 | k + 1 => by
  have ih0 := impl_cut.mono_l k
  ·intro y0 y1 y2 y3 y4 y5 y6 y7
   unfold impl_cut.j0
   repeat' first
   | (with_reducible exact ih0 _ _ _ _ _ _ _ _)
   | (with_reducible exact slices_ConcatPiece.mono _ _)
   | (with_reducible exact LeO.refl _)
   | (with_reducible exact LeO.none _)
   | (with_reducible refine LeO.ite ?_ ?_)
   | (with_reducible refine LeO.bind ?_ (fun _ => ?_))
   | exact ih0 _ _ _ _ _ _ _ _
   | exact slices_ConcatPiece.mono _ _
   | exact LeO.none _
   | refine LeO.ite ?_ ?_
   | refine LeO.bind ?_ (fun _ => ?_)
theorem impl_cut.mono : ∀ a0 a1 a2 a3 k, LeO (impl_cut.f k a0 a1 a2 a3) (impl_cut.f (k + 1) a0 a1 a2 a3) := by
 intro a0 a1 a2 a3 k
 have ih0 := impl_cut.mono_l k
 unfold impl_cut.f
 repeat' first
   | (with_reducible exact ih0 _ _ _ _ _ _ _ _)
   | (with_reducible exact slices_ConcatPiece.mono _ _)
   | (with_reducible exact LeO.refl _)
   | (with_reducible exact LeO.none _)
   | (with_reducible refine LeO.ite ?_ ?_)
   | (with_reducible refine LeO.bind ?_ (fun _ => ?_))
   | exact ih0 _ _ _ _ _ _ _ _
   | exact slices_ConcatPiece.mono _ _
   | exact LeO.none _
   | refine LeO.ite ?_ ?_
   | refine LeO.bind ?_ (fun _ => ?_)
def impl_cut.T1 : Bool × List (List Nat × List Nat) := (true, [([], []), ([], []), ([1], [1]), ([0, 2], [0, 2]), ([3], [3]), ([], []), ([], []), ([6], [6]), ([5, 7], [5, 7]), ([8], [8]), ([], []), ([], []), ([10, 4, 0, 1, 2, 3, 4, 10, 11], [4, 10]), ([11, 9, 12, 0, 1, 2, 3, 4, 5, 6, 7, 8, 9, 10, 11, 12], [9, 11])])
def impl_cut.B1 : List Nat := [0, 0, 2, 7, 15, 0, 0, 64, 224, 480, 0, 0, 3103, 8191]
theorem impl_cut.tab1 : rtab .any (opsOf Tryz.f37 1) = impl_cut.T1 := by kernel_rfl
theorem impl_cut.bits1 : waitsOk impl_cut.T1.2 impl_cut.B1 = true := by kernel_rfl
def impl_cut.T3 : Bool × List (List Nat × List Nat) := (true, [([], []), ([0], [0]), ([], []), ([2], [2]), ([], []), ([4], [4]), ([3, 5], [3, 5]), ([0, 1], []), ([7, 1, 0, 1], [1, 7]), ([0, 1, 2, 3, 4, 5, 6, 7, 8], []), ([9, 6, 8, 0, 1, 2, 3, 4, 5, 6, 7, 8], [6, 9])])
def impl_cut.B3 : List Nat := [0, 1, 0, 4, 0, 16, 60, 3, 131, 511, 1023]
theorem impl_cut.tab3 : rtab .any (opsOf Tryz.f37 3) = impl_cut.T3 := by kernel_rfl
theorem impl_cut.bits3 : waitsOk impl_cut.T3.2 impl_cut.B3 = true := by kernel_rfl
def impl_cut.T4 : Bool × List (List Nat × List Nat) := (true, [([], []), ([0], [0]), ([], []), ([2], [2]), ([], []), ([4], [4]), ([3, 5], [3, 5]), ([0, 1], []), ([7, 1, 0, 1], [1, 7]), ([0, 1, 2, 3, 4, 5, 6, 7, 8], []), ([9, 6, 8, 0, 1, 2, 3, 4, 5, 6, 7, 8], [6, 9])])
def impl_cut.B4 : List Nat := [0, 1, 0, 4, 0, 16, 60, 3, 131, 511, 1023]
theorem impl_cut.tab4 : rtab .any (opsOf Tryz.f37 4) = impl_cut.T4 := by kernel_rfl
theorem impl_cut.bits4 : waitsOk impl_cut.T4.2 impl_cut.B4 = true := by kernel_rfl
def impl_cut.T5 : Bool × List (List Nat × List Nat) := (true, [([], []), ([], []), ([1], [1]), ([0, 2], [0, 2]), ([], []), ([], []), ([4, 5], [4, 5]), ([], []), ([], []), ([8], [8]), ([9], [9]), ([7, 10], [7, 10]), ([3, 6, 11], [3, 6, 11]), ([12], [12]), ([13, 13, 0, 1, 2, 3, 4, 5, 6, 7, 8, 9, 10, 11, 12, 13], [13])])
def impl_cut.B5 : List Nat := [0, 0, 2, 7, 0, 0, 48, 0, 0, 256, 768, 1920, 4095, 8191, 16383]
theorem impl_cut.tab5 : rtab .any (opsOf Tryz.f37 5) = impl_cut.T5 := by kernel_rfl
theorem impl_cut.bits5 : waitsOk impl_cut.T5.2 impl_cut.B5 = true := by kernel_rfl
set_option maxHeartbeats 8000000 in
set_option maxRecDepth 100000 in
theorem impl_cut.calls (k : Nat) (P0_ : Nat → Prop) (A0 : Option Addr) (c0 : Nat) (l0 : List (S25)) (a1_0 : Int) (a1_1 : Bool) (a1_2 : Int) (r : List (S25)) (w : World) (hs0 : Kd.V k25 25 w w.heap.size (fun k_ => P0_ k_) (.slice A0 l0.length c0) l0) (h : impl_cut.f k l0 a1_0 a1_1 a1_2 = some r) :
  Calls Tryz.prog 37 #[.slice A0 l0.length c0, .agg #[.int .i64 a1_0, .bool a1_1, .int .i64 a1_2]] w fun e w' => ∃ v0_ : Value, e = .returned (v0_) ∧ Kd.R k25 25 w' w.heap.size (fun k_ => (w.heap.size ≤ k_)) v0_ r ∧ Below w.heap.size w w' := by
 have hu50 := Tryz.underlying50
 have hu25 := Tryz.underlying25
 have HO0 := Aside0.mk (show Kd.V k25 25 w w.heap.size (fun k_ => (P0_ k_ ∨ w.heap.size ≤ k_)) (.slice A0 l0.length c0) l0 from Kd.V_mono hs0 (fun k_ hk => .inl hk))
 have HB := Aside0.mk (Below.refl w.heap.size w)
 have H : (if 0 ≤ a1_0 then (if a1_0 < (l0.length : Int) then (if a1_1 = true then (impl_cut.j0 k l0 a1_0 a1_1 a1_2 ((rd_T25 l0 a1_0).f0) a1_2 ((rd_T25 l0 a1_0).f0) (wrap64 (((rd_T25 l0 a1_0).f1) - a1_2))) else (impl_cut.j0 k l0 a1_0 a1_1 a1_2 a1_2 ((rd_T25 l0 a1_0).f1) (wrap64 (((rd_T25 l0 a1_0).f0) - a1_2)) ((rd_T25 l0 a1_0).f1))) else (none)) else (none)) = some r := h
 clear h
 by_cases c3 : 0 ≤ a1_0
 ·rw [if_pos c3] at H
  have c3b0 : decide (0 ≤ a1_0) = true := decide_eq_true c3
  clear c3
  by_cases c4 : a1_0 < (l0.length : Int)
  ·rw [if_pos c4] at H
   have c4b0 : decide (a1_0 < (l0.length : Int)) = true := decide_eq_true c4
   have HP_ : Aside0 (0 < l0.length) := ⟨(by have h1_ : 0 ≤ a1_0 := of_decide_eq_true (by assumption); have h2_ : a1_0 < (l0.length : Int) := of_decide_eq_true (by assumption); omega)⟩
   clear c4
   have HC5 := Aside0.mk H
   clear H
   go_enter Tryz.func37, Tryz.ntmps37
   try go_wp2_with (first | ((with_reducible refine gd_ 3 rfl ?_); refine be_ 3 #[.int .i64 a1_0, .bool a1_1, .int .i64 a1_2] 50 rfl rfl ?_; intro gb505 hg w6 hbox hb; replace HO0 := am_ (Kd.V_below (Kd.V_elderB (by (with_reducible repeat (first | apply Kd.V_alloc | apply Kd.V_drewN | apply Kd.V_drew)); exact HO0.out) gb505 (Nat.le_of_eq hg.symm)) hb); have BK505 := am_ hbox; have GW505 := gw_ hg HB; have GE505 := gw_ hg HB; replace HB := hs_ HB hb; clear hb hbox hg))
   replace HO0 := am_ (Kd.V_drew HO0.out); replace BK505 := am_ (blk_drew BK505.out); replace HB := am_ (below_drew1 HB.out)
   have p506 : 0 ≤ (a1_0 : Int) := of_decide_eq_true (by first | (with_reducible assumption) | assumption)
   have q506 : a1_0 < (l0.length : Int) := of_decide_eq_true (by first | (with_reducible assumption) | assumption)
   obtain ⟨ad506, e506, hx506_0, hx506_1⟩ := at_T25 (Kd.V_reads' HO0.out).2.2 a1_0 p506 q506
   cases e506
   replace p506 := eq_true p506
   replace q506 := eq_true q506
   have p507 : 0 ≤ (a1_0 : Int) := of_decide_eq_true (by first | (with_reducible assumption) | assumption)
   have q507 : a1_0 < (l0.length : Int) := of_decide_eq_true (by first | (with_reducible assumption) | assumption)
   obtain ⟨ad507, e507, hx507_0, hx507_1⟩ := at_T25 (Kd.V_reads' HO0.out).2.2 a1_0 p507 q507
   obtain rfl : ad506 = ad507 := (by injection e507)
   replace p507 := eq_true p507
   replace q507 := eq_true q507
   refine start_ (n := 14) (S := fun w' => w'.cell? ⟨gb505, 0, none⟩ = some (.int .i64 a1_0) ∧ w'.cell? ⟨gb505, 1, none⟩ = some (.bool a1_1) ∧ w'.cell? ⟨gb505, 2, none⟩ = some (.int .i64 a1_2) ∧ w'.cell? (ad506.add ((a1_0).toNat * 2)) = some (.int .i64 ((rd_T25 l0 a1_0).f0)) ∧ w'.cell? ⟨(ad506.add ((a1_0).toNat * 2)).block, (ad506.add ((a1_0).toNat * 2)).off + 1, none⟩ = some (.int .i64 ((rd_T25 l0 a1_0).f1)) ∧ w'.cell? (ad506.add ((a1_0).toNat * 2)) = some (.int .i64 ((rd_T25 l0 a1_0).f0)) ∧ w'.cell? ⟨(ad506.add ((a1_0).toNat * 2)).block, (ad506.add ((a1_0).toNat * 2)).off + 1, none⟩ = some (.int .i64 ((rd_T25 l0 a1_0).f1))) (ds := []) #[false, false, false, false, false, false, false, false, false, false, false, false, false, false] (by kernel_rfl) rfl rfl ⟨(blk_cell BK505.out 0).trans rfl, (blk_cell BK505.out 1).trans rfl, (blk_cell BK505.out 2).trans rfl, hx506_0, hx506_1, hx507_0, hx507_1⟩ (fun hHeld => ?_); refine with_tabW impl_cut.tab1 impl_cut.bits1 (fun HT_ HW_ => ?_)
   generalize w6.drew = w7 at HO0 BK505 HB hx506_0 hx506_1 hx507_0 hx507_1 hHeld ⊢
   refine pu_ 0 (some 7) #[true, false, false, false, false, false, false, false, false, false, false, false, false, false] HT_ ?_
   refine pu_ 1 (some 8) #[true, true, false, false, false, false, false, false, false, false, false, false, false, false] HT_ ?_
   refine pu_ 5 (some 12) #[true, true, false, false, false, true, false, false, false, false, false, false, false, false] HT_ ?_
   refine pu_ 6 (some 13) #[true, true, false, false, false, true, true, false, false, false, false, false, false, false] HT_ ?_
   refine ta7_ 2 (some 9) #[true, true, true, false, false, true, true, false, false, false, false, false, false, false] HT_ HW_ hHeld ?_
   refine pu_ 3 (some 10) #[true, true, true, true, false, true, true, false, false, false, false, false, false, false] HT_ ?_
   refine ta7_ 4 (some 11) #[true, true, true, true, true, true, true, false, false, false, false, false, false, false] HT_ HW_ hHeld ?_
   refine ta7_ 7 (some 14) #[true, true, true, true, true, true, true, true, false, false, false, false, false, false] HT_ HW_ hHeld ?_
   refine pu_ 8 (some 15) #[true, true, true, true, true, true, true, true, true, false, false, false, false, false] HT_ ?_
   refine ta7_ 9 (some 16) #[true, true, true, true, true, true, true, true, true, true, false, false, false, false] HT_ HW_ hHeld ?_
   refine join_ (σ := Nat × Nat) 2 #[true, true, true, true, true, true, true, true, true, true, true, true, false, false] (fun s_ => [(5, .pointer (some ⟨s_.1, 0, none⟩)), (6, .pointer (some ⟨s_.2, 0, none⟩))]) (fun s_ w' => (w'.cell? ⟨gb505, 0, none⟩ = some (.int .i64 a1_0) ∧ w'.cell? ⟨gb505, 1, none⟩ = some (.bool a1_1) ∧ w'.cell? ⟨gb505, 2, none⟩ = some (.int .i64 a1_2) ∧ w'.cell? (ad506.add ((a1_0).toNat * 2)) = some (.int .i64 ((rd_T25 l0 a1_0).f0)) ∧ w'.cell? ⟨(ad506.add ((a1_0).toNat * 2)).block, (ad506.add ((a1_0).toNat * 2)).off + 1, none⟩ = some (.int .i64 ((rd_T25 l0 a1_0).f1)) ∧ w'.cell? (ad506.add ((a1_0).toNat * 2)) = some (.int .i64 ((rd_T25 l0 a1_0).f0)) ∧ w'.cell? ⟨(ad506.add ((a1_0).toNat * 2)).block, (ad506.add ((a1_0).toNat * 2)).off + 1, none⟩ = some (.int .i64 ((rd_T25 l0 a1_0).f1))) ∧ (Kd.V k25 25 w' w.heap.size (fun k_ => (P0_ k_ ∨ w.heap.size ≤ k_) ∧ k_ ≠ gb505 ∧ k_ ≠ s_.1 ∧ k_ ≠ s_.2) (.slice (some ad506) l0.length c0) l0) ∧ (w'.heap[gb505]? = some (.cells #[.int .i64 a1_0, .bool a1_1, .int .i64 a1_2] 50 (0, 0))) ∧ (w'.heap[s_.1]? = some (.cells #[.int .i64 0, .int .i64 0] 25 (0, 0))) ∧ (w'.heap[s_.2]? = some (.cells #[.int .i64 0, .int .i64 0] 25 (0, 0))) ∧ (w.heap.size ≤ s_.1) ∧ (w.heap.size ≤ s_.1) ∧ (gb505 ≠ s_.1) ∧ (s_.1 ≠ gb505) ∧ (s_.2 ≠ s_.1) ∧ (s_.1 ≠ s_.2) ∧ (w.heap.size ≤ s_.2) ∧ (w.heap.size ≤ s_.2) ∧ (gb505 ≠ s_.2) ∧ (s_.2 ≠ gb505) ∧ (Below w.heap.size w w')) ?_ ?_
   rotate_left
   ·intro hCont
    refine two_ (i := 10) (j := 11) (Ni := some 5) (Nj := some 6) #[true, true, true, true, true, true, true, true, true, true, true, false, false, false] #[true, true, true, true, true, true, true, true, true, true, false, true, false, false] rfl rfl rfl rfl (two_of HT_.out (by kernel_rfl)) (by decide) (by decide) (fun K hK => ?_) (fun K hK => ?_)
    ·skip
     refine box_step ?hg (N := 5) ?hd (cs := #[.int .i64 0, .int .i64 0]) (t := 25) ?hr ?_; (case hd => rfl); (case hg => rfl); (case hr => first | (go_simp; done) | (go_simp; rfl))
     intro gb508 hg w8 hbox hb
     have HS3_ := (hb.cell (World.block_lt_of_cell? _ _ (hHeld.2.2.2.1))).trans (hHeld.2.2.2.1)
     have HS4_ := (hb.cell (World.block_lt_of_cell? _ _ (hHeld.2.2.2.2.1))).trans (hHeld.2.2.2.2.1)
     have HS5_ := (hb.cell (World.block_lt_of_cell? _ _ (hHeld.2.2.2.2.2.1))).trans (hHeld.2.2.2.2.2.1)
     have HS6_ := (hb.cell (World.block_lt_of_cell? _ _ (hHeld.2.2.2.2.2.2))).trans (hHeld.2.2.2.2.2.2)
     replace HO0 := am_ (Kd.V_below (Kd.V_elderB (by (with_reducible repeat (first | apply Kd.V_alloc | apply Kd.V_drewN | apply Kd.V_drew)); exact HO0.out) gb508 (Nat.le_of_eq hg.symm)) hb); have BK508 := am_ hbox; have GW508 := gw_ hg HB; have GE508 := gw_ hg HB; replace HB := hs_ HB hb; have NB505_508 := nl_ hg BK505; have NB508_505 := ng_ hg BK505; replace BK505 := bb_ BK505 hb
     clear hb hbox hg
     refine hK.out _ _ ⟨(blk_cell BK505.out 0).trans rfl, (blk_cell BK505.out 1).trans rfl, (blk_cell BK505.out 2).trans rfl, HS3_, HS4_, HS5_, HS6_⟩ (fun hHeld => ?_)
     clear hK K
     refine no_ (some 5) ?_
     refine one_ (i := 11) (N := some 6) #[true, true, true, true, true, true, true, true, true, true, true, true, false, false] rfl rfl (one_of HT_.out (by kernel_rfl)) (by decide) (fun K hK => ?_)
     refine box_step ?hg (N := 6) ?hd (cs := #[.int .i64 0, .int .i64 0]) (t := 25) ?hr ?_; (case hd => rfl); (case hg => rfl); (case hr => first | (go_simp; done) | (go_simp; rfl))
     intro gb509 hg w9 hbox hb
     have HS3_ := (hb.cell (World.block_lt_of_cell? _ _ (hHeld.2.2.2.1))).trans (hHeld.2.2.2.1)
     have HS4_ := (hb.cell (World.block_lt_of_cell? _ _ (hHeld.2.2.2.2.1))).trans (hHeld.2.2.2.2.1)
     have HS5_ := (hb.cell (World.block_lt_of_cell? _ _ (hHeld.2.2.2.2.2.1))).trans (hHeld.2.2.2.2.2.1)
     have HS6_ := (hb.cell (World.block_lt_of_cell? _ _ (hHeld.2.2.2.2.2.2))).trans (hHeld.2.2.2.2.2.2)
     replace HO0 := am_ (Kd.V_below (Kd.V_elderB (by (with_reducible repeat (first | apply Kd.V_alloc | apply Kd.V_drewN | apply Kd.V_drew)); exact HO0.out) gb509 (Nat.le_of_eq hg.symm)) hb); have BK509 := am_ hbox; have GW509 := gw_ hg HB; have GE509 := gw_ hg HB; replace HB := hs_ HB hb; have NB505_509 := nl_ hg BK505; have NB509_505 := ng_ hg BK505; replace BK505 := bb_ BK505 hb; have NB508_509 := nl_ hg BK508; have NB509_508 := ng_ hg BK508; replace BK508 := bb_ BK508 hb
     clear hb hbox hg
     refine hK.out _ _ ⟨(blk_cell BK505.out 0).trans rfl, (blk_cell BK505.out 1).trans rfl, (blk_cell BK505.out 2).trans rfl, HS3_, HS4_, HS5_, HS6_⟩ (fun hHeld => ?_)
     clear hK K
     refine no_ (some 6) ?_
     exact nm_ (hCont (gb508, gb509) _ ⟨hHeld, (by (with_reducible repeat (first | apply Kd.V_alloc | apply Kd.V_drewN | apply Kd.V_drew)); exact Kd.V_mono HO0.out (fun _ hk => ⟨hk.1.1.1, ⟨hk.1.1.2, ⟨hk.1.2, hk.2⟩⟩⟩)), (bx_ BK505.out), (bx_ BK508.out), (bx_ BK509.out), GW508.out, GE508.out, NB505_508.out, NB508_505.out, NB509_508.out, NB508_509.out, GW509.out, GE509.out, NB505_509.out, NB509_505.out, (hx_ HB.out)⟩)
    ·skip
     refine box_step ?hg (N := 6) ?hd (cs := #[.int .i64 0, .int .i64 0]) (t := 25) ?hr ?_; (case hd => rfl); (case hg => rfl); (case hr => first | (go_simp; done) | (go_simp; rfl))
     intro gb509 hg w8 hbox hb
     have HS3_ := (hb.cell (World.block_lt_of_cell? _ _ (hHeld.2.2.2.1))).trans (hHeld.2.2.2.1)
     have HS4_ := (hb.cell (World.block_lt_of_cell? _ _ (hHeld.2.2.2.2.1))).trans (hHeld.2.2.2.2.1)
     have HS5_ := (hb.cell (World.block_lt_of_cell? _ _ (hHeld.2.2.2.2.2.1))).trans (hHeld.2.2.2.2.2.1)
     have HS6_ := (hb.cell (World.block_lt_of_cell? _ _ (hHeld.2.2.2.2.2.2))).trans (hHeld.2.2.2.2.2.2)
     replace HO0 := am_ (Kd.V_below (Kd.V_elderB (by (with_reducible repeat (first | apply Kd.V_alloc | apply Kd.V_drewN | apply Kd.V_drew)); exact HO0.out) gb509 (Nat.le_of_eq hg.symm)) hb); have BK509 := am_ hbox; have GW509 := gw_ hg HB; have GE509 := gw_ hg HB; replace HB := hs_ HB hb; have NB505_509 := nl_ hg BK505; have NB509_505 := ng_ hg BK505; replace BK505 := bb_ BK505 hb
     clear hb hbox hg
     refine hK.out _ _ ⟨(blk_cell BK505.out 0).trans rfl, (blk_cell BK505.out 1).trans rfl, (blk_cell BK505.out 2).trans rfl, HS3_, HS4_, HS5_, HS6_⟩ (fun hHeld => ?_)
     clear hK K
     refine no_ (some 6) ?_
     refine one_ (i := 10) (N := some 5) #[true, true, true, true, true, true, true, true, true, true, true, true, false, false] rfl rfl (one_of HT_.out (by kernel_rfl)) (by decide) (fun K hK => ?_)
     refine box_step ?hg (N := 5) ?hd (cs := #[.int .i64 0, .int .i64 0]) (t := 25) ?hr ?_; (case hd => rfl); (case hg => rfl); (case hr => first | (go_simp; done) | (go_simp; rfl))
     intro gb508 hg w9 hbox hb
     have HS3_ := (hb.cell (World.block_lt_of_cell? _ _ (hHeld.2.2.2.1))).trans (hHeld.2.2.2.1)
     have HS4_ := (hb.cell (World.block_lt_of_cell? _ _ (hHeld.2.2.2.2.1))).trans (hHeld.2.2.2.2.1)
     have HS5_ := (hb.cell (World.block_lt_of_cell? _ _ (hHeld.2.2.2.2.2.1))).trans (hHeld.2.2.2.2.2.1)
     have HS6_ := (hb.cell (World.block_lt_of_cell? _ _ (hHeld.2.2.2.2.2.2))).trans (hHeld.2.2.2.2.2.2)
     replace HO0 := am_ (Kd.V_below (Kd.V_elderB (by (with_reducible repeat (first | apply Kd.V_alloc | apply Kd.V_drewN | apply Kd.V_drew)); exact HO0.out) gb508 (Nat.le_of_eq hg.symm)) hb); have BK508 := am_ hbox; have GW508 := gw_ hg HB; have GE508 := gw_ hg HB; replace HB := hs_ HB hb; have NB505_508 := nl_ hg BK505; have NB508_505 := ng_ hg BK505; replace BK505 := bb_ BK505 hb; have NB509_508 := nl_ hg BK509; have NB508_509 := ng_ hg BK509; replace BK509 := bb_ BK509 hb
     clear hb hbox hg
     refine hK.out _ _ ⟨(blk_cell BK505.out 0).trans rfl, (blk_cell BK505.out 1).trans rfl, (blk_cell BK505.out 2).trans rfl, HS3_, HS4_, HS5_, HS6_⟩ (fun hHeld => ?_)
     clear hK K
     refine no_ (some 5) ?_
     exact nm_ (hCont (gb508, gb509) _ ⟨hHeld, (by (with_reducible repeat (first | apply Kd.V_alloc | apply Kd.V_drewN | apply Kd.V_drew)); exact Kd.V_mono HO0.out (fun _ hk => ⟨hk.1.1.1, ⟨hk.1.1.2, ⟨hk.2, hk.1.2⟩⟩⟩)), (bx_ BK505.out), (bx_ BK508.out), (bx_ BK509.out), GW508.out, GE508.out, NB505_508.out, NB508_505.out, NB509_508.out, NB508_509.out, GW509.out, GE509.out, NB505_509.out, NB509_505.out, (hx_ HB.out)⟩)
   rintro ⟨gb508, gb509⟩ w10 ⟨hS_, h0_, h1_, h2_, h3_, h4_, h5_, h6_, h7_, h8_, h9_, h10_, h11_, h12_, h13_, h14_⟩
   replace HO0 : Aside0 (Kd.V k25 25 w10 w.heap.size (fun k_ => (P0_ k_ ∨ w.heap.size ≤ k_) ∧ k_ ≠ gb505 ∧ k_ ≠ gb508 ∧ k_ ≠ gb509) (.slice (some ad506) l0.length c0) l0) := ⟨h0_⟩; replace BK505 : Aside0 (w10.heap[gb505]? = some (.cells #[.int .i64 a1_0, .bool a1_1, .int .i64 a1_2] 50 (0, 0))) := ⟨h1_⟩; have BK508 : Aside0 (w10.heap[gb508]? = some (.cells #[.int .i64 0, .int .i64 0] 25 (0, 0))) := ⟨h2_⟩; have BK509 : Aside0 (w10.heap[gb509]? = some (.cells #[.int .i64 0, .int .i64 0] 25 (0, 0))) := ⟨h3_⟩; have GW508 : Aside0 (w.heap.size ≤ gb508) := ⟨h4_⟩; have GE508 : Aside0 (w.heap.size ≤ gb508) := ⟨h5_⟩; have NB505_508 : Aside0 (gb505 ≠ gb508) := ⟨h6_⟩; have NB508_505 : Aside0 (gb508 ≠ gb505) := ⟨h7_⟩; have NB509_508 : Aside0 (gb509 ≠ gb508) := ⟨h8_⟩; have NB508_509 : Aside0 (gb508 ≠ gb509) := ⟨h9_⟩; have GW509 : Aside0 (w.heap.size ≤ gb509) := ⟨h10_⟩; have GE509 : Aside0 (w.heap.size ≤ gb509) := ⟨h11_⟩; have NB505_509 : Aside0 (gb505 ≠ gb509) := ⟨h12_⟩; have NB509_505 : Aside0 (gb509 ≠ gb505) := ⟨h13_⟩; replace HB : Aside0 (Below w.heap.size w w10) := ⟨h14_⟩; clear h0_ h1_ h2_ h3_ h4_ h5_ h6_ h7_ h8_ h9_ h10_ h11_ h12_ h13_ h14_
   have hHeld : w10.cell? ⟨gb505, 0, none⟩ = some (.int .i64 a1_0) ∧ w10.cell? ⟨gb505, 1, none⟩ = some (.bool a1_1) ∧ w10.cell? ⟨gb505, 2, none⟩ = some (.int .i64 a1_2) ∧ w10.cell? (ad506.add ((a1_0).toNat * 2)) = some (.int .i64 ((rd_T25 l0 a1_0).f0)) ∧ w10.cell? ⟨(ad506.add ((a1_0).toNat * 2)).block, (ad506.add ((a1_0).toNat * 2)).off + 1, none⟩ = some (.int .i64 ((rd_T25 l0 a1_0).f1)) ∧ w10.cell? (ad506.add ((a1_0).toNat * 2)) = some (.int .i64 ((rd_T25 l0 a1_0).f0)) ∧ w10.cell? ⟨(ad506.add ((a1_0).toNat * 2)).block, (ad506.add ((a1_0).toNat * 2)).off + 1, none⟩ = some (.int .i64 ((rd_T25 l0 a1_0).f1)) := hS_
   refine np_ ?_
   refine one_ (i := 12) (N := none) #[true, true, true, true, true, true, true, true, true, true, true, true, true, false] rfl rfl (one_of HT_.out (by kernel_rfl)) (by decide) (fun K hK => ?_)
   have hs11 : w10.cell? ⟨gb508, 0, none⟩ = some (.int .i64 0) := (blk_cell BK508.out 0).trans rfl
   have hfs11 := blk_frozen BK508.out 0
   have hns11_0 := NB505_508.out
   have hns11_2 := NB509_508.out
   have hms11_0 := NB508_505.out
   have hms11_2 := NB508_509.out
   have hs12 : w10.cell? ⟨gb508, 1, none⟩ = some (.int .i64 0) := (blk_cell BK508.out 1).trans rfl
   have hfs12 := blk_frozen BK508.out 1
   have hns12_0 := NB505_508.out
   have hns12_2 := NB509_508.out
   have hms12_0 := NB508_505.out
   have hms12_2 := NB508_509.out
   refine skip_ (w1 := ?_) (by rfl) rfl ?_ ?_
   rotate_left
   ·go_simp
    rfl
   refine hK.out _ _ ⟨((cell_far (p := ⟨gb508, _, none⟩) NB505_508.out _).trans (((cell_far (p := ⟨gb508, _, none⟩) NB505_508.out _).trans (hHeld.1)))), ((cell_far (p := ⟨gb508, _, none⟩) NB505_508.out _).trans (((cell_far (p := ⟨gb508, _, none⟩) NB505_508.out _).trans (hHeld.2.1)))), ((cell_far (p := ⟨gb508, _, none⟩) NB505_508.out _).trans (((cell_far (p := ⟨gb508, _, none⟩) NB505_508.out _).trans (hHeld.2.2.1)))), ((cell_far (p := ⟨gb508, _, none⟩) (by first | exact Kd.own_blk (HandG.va HO0.out (fun _ hk => hk.2.2.1)) | (rw [add_block]; exact Kd.own_blk (HandG.va HO0.out (fun _ hk => hk.2.2.1))) | (show (Addr.add _ _).block ≠ _; rw [add_block]; exact Kd.own_blk (HandG.va HO0.out (fun _ hk => hk.2.2.1))) | (dsimp only; exact Kd.own_blk (HandG.va HO0.out (fun _ hk => hk.2.2.1)))) _).trans (((cell_far (p := ⟨gb508, _, none⟩) (by first | exact Kd.own_blk (HandG.va HO0.out (fun _ hk => hk.2.2.1)) | (rw [add_block]; exact Kd.own_blk (HandG.va HO0.out (fun _ hk => hk.2.2.1))) | (show (Addr.add _ _).block ≠ _; rw [add_block]; exact Kd.own_blk (HandG.va HO0.out (fun _ hk => hk.2.2.1))) | (dsimp only; exact Kd.own_blk (HandG.va HO0.out (fun _ hk => hk.2.2.1)))) _).trans (hHeld.2.2.2.1)))), ((cell_far (p := ⟨gb508, _, none⟩) (by first | exact Kd.own_blk (HandG.va HO0.out (fun _ hk => hk.2.2.1)) | (rw [add_block]; exact Kd.own_blk (HandG.va HO0.out (fun _ hk => hk.2.2.1))) | (show (Addr.add _ _).block ≠ _; rw [add_block]; exact Kd.own_blk (HandG.va HO0.out (fun _ hk => hk.2.2.1))) | (dsimp only; exact Kd.own_blk (HandG.va HO0.out (fun _ hk => hk.2.2.1)))) _).trans (((cell_far (p := ⟨gb508, _, none⟩) (by first | exact Kd.own_blk (HandG.va HO0.out (fun _ hk => hk.2.2.1)) | (rw [add_block]; exact Kd.own_blk (HandG.va HO0.out (fun _ hk => hk.2.2.1))) | (show (Addr.add _ _).block ≠ _; rw [add_block]; exact Kd.own_blk (HandG.va HO0.out (fun _ hk => hk.2.2.1))) | (dsimp only; exact Kd.own_blk (HandG.va HO0.out (fun _ hk => hk.2.2.1)))) _).trans (hHeld.2.2.2.2.1)))), ((cell_far (p := ⟨gb508, _, none⟩) (by first | exact Kd.own_blk (HandG.va HO0.out (fun _ hk => hk.2.2.1)) | (rw [add_block]; exact Kd.own_blk (HandG.va HO0.out (fun _ hk => hk.2.2.1))) | (show (Addr.add _ _).block ≠ _; rw [add_block]; exact Kd.own_blk (HandG.va HO0.out (fun _ hk => hk.2.2.1))) | (dsimp only; exact Kd.own_blk (HandG.va HO0.out (fun _ hk => hk.2.2.1)))) _).trans (((cell_far (p := ⟨gb508, _, none⟩) (by first | exact Kd.own_blk (HandG.va HO0.out (fun _ hk => hk.2.2.1)) | (rw [add_block]; exact Kd.own_blk (HandG.va HO0.out (fun _ hk => hk.2.2.1))) | (show (Addr.add _ _).block ≠ _; rw [add_block]; exact Kd.own_blk (HandG.va HO0.out (fun _ hk => hk.2.2.1))) | (dsimp only; exact Kd.own_blk (HandG.va HO0.out (fun _ hk => hk.2.2.1)))) _).trans (hHeld.2.2.2.2.2.1)))), ((cell_far (p := ⟨gb508, _, none⟩) (by first | exact Kd.own_blk (HandG.va HO0.out (fun _ hk => hk.2.2.1)) | (rw [add_block]; exact Kd.own_blk (HandG.va HO0.out (fun _ hk => hk.2.2.1))) | (show (Addr.add _ _).block ≠ _; rw [add_block]; exact Kd.own_blk (HandG.va HO0.out (fun _ hk => hk.2.2.1))) | (dsimp only; exact Kd.own_blk (HandG.va HO0.out (fun _ hk => hk.2.2.1)))) _).trans (((cell_far (p := ⟨gb508, _, none⟩) (by first | exact Kd.own_blk (HandG.va HO0.out (fun _ hk => hk.2.2.1)) | (rw [add_block]; exact Kd.own_blk (HandG.va HO0.out (fun _ hk => hk.2.2.1))) | (show (Addr.add _ _).block ≠ _; rw [add_block]; exact Kd.own_blk (HandG.va HO0.out (fun _ hk => hk.2.2.1))) | (dsimp only; exact Kd.own_blk (HandG.va HO0.out (fun _ hk => hk.2.2.1)))) _).trans (hHeld.2.2.2.2.2.2))))⟩ (fun hHeld => ?_)
   clear hK K
   refine one_ (i := 13) (N := none) #[true, true, true, true, true, true, true, true, true, true, true, true, true, true] rfl rfl (one_of HT_.out (by kernel_rfl)) (by decide) (fun K hK => ?_)
   have hs13 : w10.cell? ⟨gb509, 0, none⟩ = some (.int .i64 0) := (blk_cell BK509.out 0).trans rfl
   have hfs13 := blk_frozen BK509.out 0
   have hns13_0 := NB505_509.out
   have hns13_1 := NB508_509.out
   have hms13_0 := NB509_505.out
   have hms13_1 := NB509_508.out
   have hs14 : w10.cell? ⟨gb509, 1, none⟩ = some (.int .i64 0) := (blk_cell BK509.out 1).trans rfl
   have hfs14 := blk_frozen BK509.out 1
   have hns14_0 := NB505_509.out
   have hns14_1 := NB508_509.out
   have hms14_0 := NB509_505.out
   have hms14_1 := NB509_508.out
   refine skip_ (w1 := ?_) (by rfl) rfl ?_ ?_
   rotate_left
   ·go_simp
    rfl
   refine hK.out _ _ ⟨((cell_far (p := ⟨gb509, _, none⟩) NB505_509.out _).trans (((cell_far (p := ⟨gb509, _, none⟩) NB505_509.out _).trans (hHeld.1)))), ((cell_far (p := ⟨gb509, _, none⟩) NB505_509.out _).trans (((cell_far (p := ⟨gb509, _, none⟩) NB505_509.out _).trans (hHeld.2.1)))), ((cell_far (p := ⟨gb509, _, none⟩) NB505_509.out _).trans (((cell_far (p := ⟨gb509, _, none⟩) NB505_509.out _).trans (hHeld.2.2.1)))), ((cell_far (p := ⟨gb509, _, none⟩) (by first | exact Kd.own_blk (HandG.va HO0.out (fun _ hk => hk.2.2.2)) | (rw [add_block]; exact Kd.own_blk (HandG.va HO0.out (fun _ hk => hk.2.2.2))) | (show (Addr.add _ _).block ≠ _; rw [add_block]; exact Kd.own_blk (HandG.va HO0.out (fun _ hk => hk.2.2.2))) | (dsimp only; exact Kd.own_blk (HandG.va HO0.out (fun _ hk => hk.2.2.2)))) _).trans (((cell_far (p := ⟨gb509, _, none⟩) (by first | exact Kd.own_blk (HandG.va HO0.out (fun _ hk => hk.2.2.2)) | (rw [add_block]; exact Kd.own_blk (HandG.va HO0.out (fun _ hk => hk.2.2.2))) | (show (Addr.add _ _).block ≠ _; rw [add_block]; exact Kd.own_blk (HandG.va HO0.out (fun _ hk => hk.2.2.2))) | (dsimp only; exact Kd.own_blk (HandG.va HO0.out (fun _ hk => hk.2.2.2)))) _).trans (hHeld.2.2.2.1)))), ((cell_far (p := ⟨gb509, _, none⟩) (by first | exact Kd.own_blk (HandG.va HO0.out (fun _ hk => hk.2.2.2)) | (rw [add_block]; exact Kd.own_blk (HandG.va HO0.out (fun _ hk => hk.2.2.2))) | (show (Addr.add _ _).block ≠ _; rw [add_block]; exact Kd.own_blk (HandG.va HO0.out (fun _ hk => hk.2.2.2))) | (dsimp only; exact Kd.own_blk (HandG.va HO0.out (fun _ hk => hk.2.2.2)))) _).trans (((cell_far (p := ⟨gb509, _, none⟩) (by first | exact Kd.own_blk (HandG.va HO0.out (fun _ hk => hk.2.2.2)) | (rw [add_block]; exact Kd.own_blk (HandG.va HO0.out (fun _ hk => hk.2.2.2))) | (show (Addr.add _ _).block ≠ _; rw [add_block]; exact Kd.own_blk (HandG.va HO0.out (fun _ hk => hk.2.2.2))) | (dsimp only; exact Kd.own_blk (HandG.va HO0.out (fun _ hk => hk.2.2.2)))) _).trans (hHeld.2.2.2.2.1)))), ((cell_far (p := ⟨gb509, _, none⟩) (by first | exact Kd.own_blk (HandG.va HO0.out (fun _ hk => hk.2.2.2)) | (rw [add_block]; exact Kd.own_blk (HandG.va HO0.out (fun _ hk => hk.2.2.2))) | (show (Addr.add _ _).block ≠ _; rw [add_block]; exact Kd.own_blk (HandG.va HO0.out (fun _ hk => hk.2.2.2))) | (dsimp only; exact Kd.own_blk (HandG.va HO0.out (fun _ hk => hk.2.2.2)))) _).trans (((cell_far (p := ⟨gb509, _, none⟩) (by first | exact Kd.own_blk (HandG.va HO0.out (fun _ hk => hk.2.2.2)) | (rw [add_block]; exact Kd.own_blk (HandG.va HO0.out (fun _ hk => hk.2.2.2))) | (show (Addr.add _ _).block ≠ _; rw [add_block]; exact Kd.own_blk (HandG.va HO0.out (fun _ hk => hk.2.2.2))) | (dsimp only; exact Kd.own_blk (HandG.va HO0.out (fun _ hk => hk.2.2.2)))) _).trans (hHeld.2.2.2.2.2.1)))), ((cell_far (p := ⟨gb509, _, none⟩) (by first | exact Kd.own_blk (HandG.va HO0.out (fun _ hk => hk.2.2.2)) | (rw [add_block]; exact Kd.own_blk (HandG.va HO0.out (fun _ hk => hk.2.2.2))) | (show (Addr.add _ _).block ≠ _; rw [add_block]; exact Kd.own_blk (HandG.va HO0.out (fun _ hk => hk.2.2.2))) | (dsimp only; exact Kd.own_blk (HandG.va HO0.out (fun _ hk => hk.2.2.2)))) _).trans (((cell_far (p := ⟨gb509, _, none⟩) (by first | exact Kd.own_blk (HandG.va HO0.out (fun _ hk => hk.2.2.2)) | (rw [add_block]; exact Kd.own_blk (HandG.va HO0.out (fun _ hk => hk.2.2.2))) | (show (Addr.add _ _).block ≠ _; rw [add_block]; exact Kd.own_blk (HandG.va HO0.out (fun _ hk => hk.2.2.2))) | (dsimp only; exact Kd.own_blk (HandG.va HO0.out (fun _ hk => hk.2.2.2)))) _).trans (hHeld.2.2.2.2.2.2))))⟩ (fun hHeld => ?_)
   clear hK K
   refine done_ (done_of HT_.out (by kernel_rfl)) ?_
   have hnb15 := NB505_508.out
   have hnc15 := NB508_505.out
   have hnb16 := NB505_509.out
   have hnc16 := NB509_505.out
   have hcz17_0 : w10.cell? ⟨gb505, 0, none⟩ = some (.int .i64 a1_0) := (blk_cell BK505.out 0).trans rfl
   have hcz17_1 : w10.cell? ⟨gb505, 1, none⟩ = some (.bool a1_1) := (blk_cell BK505.out 1).trans rfl
   have hcz17_2 : w10.cell? ⟨gb505, 2, none⟩ = some (.int .i64 a1_2) := (blk_cell BK505.out 2).trans rfl
   have hfz17_0 := blk_frozen BK505.out 0
   have hfz17_1 := blk_frozen BK505.out 1
   have hfz17_2 := blk_frozen BK505.out 2
   go_upto_if 18 with (fail)
   go_cut [] (fun wc => ∃ (kq : Nat) (x509000_4 : Int) (x509001_4 : Int) (x510000_4 : Int) (x510001_4 : Int), Aside0 (impl_cut.j0 kq l0 a1_0 a1_1 a1_2 x509000_4 x509001_4 x510000_4 x510001_4 = some r) ∧ Aside0 (kq ≤ k) ∧ Aside0 (Kd.V k25 25 wc w.heap.size (fun k_ => (P0_ k_ ∨ w.heap.size ≤ k_) ∧ k_ ≠ gb505 ∧ k_ ≠ gb508 ∧ k_ ≠ gb509) (.slice (some ad506) l0.length c0) l0) ∧ Aside0 (wc.heap[gb505]? = some (.cells #[.int .i64 a1_0, .bool a1_1, .int .i64 a1_2] 50 (0, 0))) ∧ Aside0 (wc.heap[gb508]? = some (.cells #[.int .i64 x509000_4, .int .i64 x509001_4] 25 (0, 0))) ∧ Aside0 (wc.heap[gb509]? = some (.cells #[.int .i64 x510000_4, .int .i64 x510001_4] 25 (0, 0))) ∧ Aside0 (Below w.heap.size w wc))
   case first =>
    have H := HC5.out
    clear HC5
    by_cases c18 : a1_1 = true
    ·subst c18
     have H1 : (impl_cut.j0 k l0 a1_0 true a1_2 ((rd_T25 l0 a1_0).f0) a1_2 ((rd_T25 l0 a1_0).f0) (wrap64 (((rd_T25 l0 a1_0).f1) - a1_2))) = some r := by rw [if_pos rfl] at H; exact H
     clear H
     have H := H1
     clear H1
     have H' := Aside0.mk H
     clear H
     try go_wp2
     have n0_ : Aside0 (Kd.V k25 25 ((((w10.setCell ⟨gb508, 0, none⟩ (.int .i64 ((rd_T25 l0 a1_0).f0))).setCell ⟨gb508, 1, none⟩ (.int .i64 ((rd_T25 l0 a1_0).f1))).setCell ⟨gb509, 0, none⟩ (.int .i64 ((rd_T25 l0 a1_0).f0))).setCell ⟨gb509, 1, none⟩ (.int .i64 ((rd_T25 l0 a1_0).f1))) w.heap.size (fun k_ => (P0_ k_ ∨ w.heap.size ≤ k_) ∧ k_ ≠ gb505 ∧ k_ ≠ gb508 ∧ k_ ≠ gb509) (.slice (some ad506) l0.length c0) l0) := ⟨by (with_reducible repeat (first | apply Kd.V_alloc | apply Kd.V_drewN | apply Kd.V_drew)); exact Kd.V_mono (Kd.V_far (p := ⟨gb509, 1, none⟩) (Kd.V_far (p := ⟨gb509, 0, none⟩) (Kd.V_far (p := ⟨gb508, 1, none⟩) (Kd.V_far (p := ⟨gb508, 0, none⟩) (Kd.V_mono (Kd.V_mono HO0.out (fun k_ hk => (⟨hk, hk.2.2.1⟩ : _ ∧ k_ ≠ gb508))) (fun k_ hk => (⟨hk, hk.1.2.2.2⟩ : _ ∧ k_ ≠ gb509))) (fun _ hk => hk.1.2) (.int .i64 ((rd_T25 l0 a1_0).f0))) (fun _ hk => hk.1.2) (.int .i64 ((rd_T25 l0 a1_0).f1))) (fun _ hk => hk.2) (.int .i64 ((rd_T25 l0 a1_0).f0))) (fun _ hk => hk.2) (.int .i64 ((rd_T25 l0 a1_0).f1))) (fun _ hk => ⟨hk.1.1.1, ⟨hk.1.1.2.1, ⟨hk.1.1.2.2.1, hk.1.1.2.2.2⟩⟩⟩)⟩
     have n1_ : Aside0 (((((w10.setCell ⟨gb508, 0, none⟩ (.int .i64 ((rd_T25 l0 a1_0).f0))).setCell ⟨gb508, 1, none⟩ (.int .i64 ((rd_T25 l0 a1_0).f1))).setCell ⟨gb509, 0, none⟩ (.int .i64 ((rd_T25 l0 a1_0).f0))).setCell ⟨gb509, 1, none⟩ (.int .i64 ((rd_T25 l0 a1_0).f1))).heap[gb505]? = some (.cells #[.int .i64 a1_0, .bool true, .int .i64 a1_2] 50 (0, 0))) := ⟨bx_ BK505.out⟩
     have n2_ : Aside0 (((((w10.setCell ⟨gb508, 0, none⟩ (.int .i64 ((rd_T25 l0 a1_0).f0))).setCell ⟨gb508, 1, none⟩ (.int .i64 ((rd_T25 l0 a1_0).f1))).setCell ⟨gb509, 0, none⟩ (.int .i64 ((rd_T25 l0 a1_0).f0))).setCell ⟨gb509, 1, none⟩ (.int .i64 ((rd_T25 l0 a1_0).f1))).heap[gb508]? = some (.cells #[.int .i64 ((rd_T25 l0 a1_0).f0), .int .i64 ((rd_T25 l0 a1_0).f1)] 25 (0, 0))) := ⟨by (with_reducible repeat (first | refine blk_drewN ?_ _ | refine blk_drew ?_ | refine blk_alloc ?_ _)); refine blk_far ?_ NB508_509.out _; (with_reducible repeat (first | refine blk_drewN ?_ _ | refine blk_drew ?_ | refine blk_alloc ?_ _)); refine blk_far ?_ NB508_509.out _; (with_reducible repeat (first | refine blk_drewN ?_ _ | refine blk_drew ?_ | refine blk_alloc ?_ _)); refine blk_put (cs := #[.int .i64 ((rd_T25 l0 a1_0).f0), .int .i64 0]) ?_ 1 _ rfl; (with_reducible repeat (first | refine blk_drewN ?_ _ | refine blk_drew ?_ | refine blk_alloc ?_ _)); refine blk_put (cs := #[.int .i64 0, .int .i64 0]) ?_ 0 _ rfl; (with_reducible repeat (first | refine blk_drewN ?_ _ | refine blk_drew ?_ | refine blk_alloc ?_ _)); exact BK508.out⟩
     have n3_ : Aside0 (((((w10.setCell ⟨gb508, 0, none⟩ (.int .i64 ((rd_T25 l0 a1_0).f0))).setCell ⟨gb508, 1, none⟩ (.int .i64 ((rd_T25 l0 a1_0).f1))).setCell ⟨gb509, 0, none⟩ (.int .i64 ((rd_T25 l0 a1_0).f0))).setCell ⟨gb509, 1, none⟩ (.int .i64 ((rd_T25 l0 a1_0).f1))).heap[gb509]? = some (.cells #[.int .i64 ((rd_T25 l0 a1_0).f0), .int .i64 ((rd_T25 l0 a1_0).f1)] 25 (0, 0))) := ⟨by (with_reducible repeat (first | refine blk_drewN ?_ _ | refine blk_drew ?_ | refine blk_alloc ?_ _)); refine blk_put (cs := #[.int .i64 ((rd_T25 l0 a1_0).f0), .int .i64 0]) ?_ 1 _ rfl; (with_reducible repeat (first | refine blk_drewN ?_ _ | refine blk_drew ?_ | refine blk_alloc ?_ _)); refine blk_put (cs := #[.int .i64 0, .int .i64 0]) ?_ 0 _ rfl; (with_reducible repeat (first | refine blk_drewN ?_ _ | refine blk_drew ?_ | refine blk_alloc ?_ _)); refine blk_far ?_ NB509_508.out _; (with_reducible repeat (first | refine blk_drewN ?_ _ | refine blk_drew ?_ | refine blk_alloc ?_ _)); refine blk_far ?_ NB509_508.out _; (with_reducible repeat (first | refine blk_drewN ?_ _ | refine blk_drew ?_ | refine blk_alloc ?_ _)); exact BK509.out⟩
     have n4_ : Aside0 (Below w.heap.size w ((((w10.setCell ⟨gb508, 0, none⟩ (.int .i64 ((rd_T25 l0 a1_0).f0))).setCell ⟨gb508, 1, none⟩ (.int .i64 ((rd_T25 l0 a1_0).f1))).setCell ⟨gb509, 0, none⟩ (.int .i64 ((rd_T25 l0 a1_0).f0))).setCell ⟨gb509, 1, none⟩ (.int .i64 ((rd_T25 l0 a1_0).f1)))) := ⟨hx_ HB.out⟩
     (try clear HO0)
     (try clear BK505)
     (try clear BK508)
     (try clear BK509)
     (try clear HB)
     generalize ((((w10.setCell ⟨gb508, 0, none⟩ (.int .i64 ((rd_T25 l0 a1_0).f0))).setCell ⟨gb508, 1, none⟩ (.int .i64 ((rd_T25 l0 a1_0).f1))).setCell ⟨gb509, 0, none⟩ (.int .i64 ((rd_T25 l0 a1_0).f0))).setCell ⟨gb509, 1, none⟩ (.int .i64 ((rd_T25 l0 a1_0).f1))) = w19 at n0_ n1_ n2_ n3_ n4_ ⊢
     have HO0 := n0_
     have BK505 := n1_
     have BK508 := n2_
     have BK509 := n3_
     have HB := n4_
     clear n0_ n1_ n2_ n3_ n4_
     replace HO0 := am_ (Kd.V_drew HO0.out); replace BK505 := am_ (blk_drew BK505.out); replace BK508 := am_ (blk_drew BK508.out); replace BK509 := am_ (blk_drew BK509.out); replace HB := am_ (below_drew1 HB.out)
     refine start_ (n := 11) (S := fun w' => w'.cell? ⟨gb505, 0, none⟩ = some (.int .i64 a1_0) ∧ w'.cell? ⟨gb505, 1, none⟩ = some (.bool true) ∧ w'.cell? ⟨gb505, 2, none⟩ = some (.int .i64 a1_2) ∧ w'.cell? ⟨gb509, 0, none⟩ = some (.int .i64 ((rd_T25 l0 a1_0).f0)) ∧ w'.cell? ⟨gb509, 1, none⟩ = some (.int .i64 ((rd_T25 l0 a1_0).f1))) (ds := [10]) #[false, false, false, false, false, false, false, false, false, false, false] (by kernel_rfl) rfl rfl ⟨(blk_cell BK505.out 0).trans rfl, (blk_cell BK505.out 1).trans rfl, (blk_cell BK505.out 2).trans rfl, (blk_cell BK509.out 0).trans rfl, (blk_cell BK509.out 1).trans rfl⟩ (fun hHeld => ?_); refine with_tabW impl_cut.tab3 impl_cut.bits3 (fun HT_ HW_ => ?_)
     generalize w19.drew = w20 at HO0 BK505 BK508 BK509 HB hHeld ⊢
     refine pu_ 0 (some 19) #[true, false, false, false, false, false, false, false, false, false, false] HT_ ?_
     refine pu_ 2 (some 21) #[true, false, true, false, false, false, false, false, false, false, false] HT_ ?_
     refine pu_ 4 (some 23) #[true, false, true, false, true, false, false, false, false, false, false] HT_ ?_
     refine ta5_ 1 (some 20) #[true, true, true, false, true, false, false, false, false, false, false] HT_ HW_ hHeld ?_
     refine pu_ 7 (some 26) #[true, true, true, false, true, false, false, true, false, false, false] HT_ ?_
     refine ta5_ 3 (some 22) #[true, true, true, true, true, false, false, true, false, false, false] HT_ HW_ hHeld ?_
     refine ta5_ 5 (some 24) #[true, true, true, true, true, true, false, true, false, false, false] HT_ HW_ hHeld ?_
     refine pu_ 6 (some 25) #[true, true, true, true, true, true, true, true, false, false, false] HT_ ?_
     refine one_ (i := 8) (N := none) #[true, true, true, true, true, true, true, true, true, false, false] rfl rfl (one_of HT_.out (by kernel_rfl)) (by decide) (fun K hK => ?_)
     have hs21 : w20.cell? ⟨gb508, 1, none⟩ = some (.int .i64 ((rd_T25 l0 a1_0).f1)) := (blk_cell BK508.out 1).trans rfl
     have hfs21 := blk_frozen BK508.out 1
     have hns21_0 := NB505_508.out
     have hns21_2 := NB509_508.out
     have hms21_0 := NB508_505.out
     have hms21_2 := NB508_509.out
     refine skip_ (w1 := ?_) (by rfl) rfl ?_ ?_
     rotate_left
     ·go_simp
      rfl
     refine hK.out _ _ ⟨((cell_far (p := ⟨gb508, _, none⟩) NB505_508.out _).trans (hHeld.1)), ((cell_far (p := ⟨gb508, _, none⟩) NB505_508.out _).trans (hHeld.2.1)), ((cell_far (p := ⟨gb508, _, none⟩) NB505_508.out _).trans (hHeld.2.2.1)), ((cell_far (p := ⟨gb508, _, none⟩) NB509_508.out _).trans (hHeld.2.2.2.1)), ((cell_far (p := ⟨gb508, _, none⟩) NB509_508.out _).trans (hHeld.2.2.2.2))⟩ (fun hHeld => ?_)
     clear hK K
     refine pu_ 9 (some 27) #[true, true, true, true, true, true, true, true, true, true, false] HT_ ?_
     refine last_ (i := 10) (N := none) #[true, true, true, true, true, true, true, true, true, true, true] rfl rfl (one_of HT_.out (by kernel_rfl)) (by decide) (fun K hK => ?_)
     have hs22 : w20.cell? ⟨gb509, 1, none⟩ = some (.int .i64 ((rd_T25 l0 a1_0).f1)) := (blk_cell BK509.out 1).trans rfl
     have hfs22 := blk_frozen BK509.out 1
     have hns22_0 := NB505_509.out
     have hns22_1 := NB508_509.out
     have hms22_0 := NB509_505.out
     have hms22_1 := NB509_508.out
     refine skip_ (w1 := ?_) (by rfl) rfl ?_ ?_
     rotate_left
     ·go_simp
      rfl
     refine hK.out _ _ ?_
     clear hK K
     refine done_ (done_of HT_.out (by kernel_rfl)) ?_
     try go_wp2
     go_meet
     case rel => exact ⟨_, ((rd_T25 l0 a1_0).f0), (a1_2), ((rd_T25 l0 a1_0).f0), (wrap64 (((rd_T25 l0 a1_0).f1) - a1_2)), H', ⟨by first | omega | exact Nat.le_refl _⟩, ⟨by (with_reducible repeat (first | apply Kd.V_alloc | apply Kd.V_drewN | apply Kd.V_drew)); exact Kd.V_mono (Kd.V_far (p := ⟨gb509, 1, none⟩) (Kd.V_far (p := ⟨gb508, 1, none⟩) (Kd.V_mono (Kd.V_mono HO0.out (fun k_ hk => (⟨hk, hk.2.2.1⟩ : _ ∧ k_ ≠ gb508))) (fun k_ hk => (⟨hk, hk.1.2.2.2⟩ : _ ∧ k_ ≠ gb509))) (fun _ hk => hk.1.2) (.int .i64 a1_2)) (fun _ hk => hk.2) (.int .i64 (wrap64 (((rd_T25 l0 a1_0).f1) - a1_2)))) (fun _ hk => ⟨hk.1.1.1, ⟨hk.1.1.2.1, ⟨hk.1.1.2.2.1, hk.1.1.2.2.2⟩⟩⟩)⟩, ⟨bx_ BK505.out⟩, ⟨by (with_reducible repeat (first | refine blk_drewN ?_ _ | refine blk_drew ?_ | refine blk_alloc ?_ _)); refine blk_far ?_ NB508_509.out _; (with_reducible repeat (first | refine blk_drewN ?_ _ | refine blk_drew ?_ | refine blk_alloc ?_ _)); refine blk_put (cs := #[.int .i64 ((rd_T25 l0 a1_0).f0), .int .i64 ((rd_T25 l0 a1_0).f1)]) ?_ 1 _ rfl; (with_reducible repeat (first | refine blk_drewN ?_ _ | refine blk_drew ?_ | refine blk_alloc ?_ _)); exact BK508.out⟩, ⟨by (with_reducible repeat (first | refine blk_drewN ?_ _ | refine blk_drew ?_ | refine blk_alloc ?_ _)); refine blk_put (cs := #[.int .i64 ((rd_T25 l0 a1_0).f0), .int .i64 ((rd_T25 l0 a1_0).f1)]) ?_ 1 _ rfl; (with_reducible repeat (first | refine blk_drewN ?_ _ | refine blk_drew ?_ | refine blk_alloc ?_ _)); refine blk_far ?_ NB509_508.out _; (with_reducible repeat (first | refine blk_drewN ?_ _ | refine blk_drew ?_ | refine blk_alloc ?_ _)); exact BK509.out⟩, ⟨hx_ HB.out⟩⟩
    ·replace c18 := Bool.eq_false_iff.mpr c18
     subst c18
     have H1 : (impl_cut.j0 k l0 a1_0 false a1_2 a1_2 ((rd_T25 l0 a1_0).f1) (wrap64 (((rd_T25 l0 a1_0).f0) - a1_2)) ((rd_T25 l0 a1_0).f1)) = some r := by rw [if_neg (show ¬ (false = true) by decide)] at H; exact H
     clear H
     have H := H1
     clear H1
     have H' := Aside0.mk H
     clear H
     try go_wp2
     have n0_ : Aside0 (Kd.V k25 25 ((((w10.setCell ⟨gb508, 0, none⟩ (.int .i64 ((rd_T25 l0 a1_0).f0))).setCell ⟨gb508, 1, none⟩ (.int .i64 ((rd_T25 l0 a1_0).f1))).setCell ⟨gb509, 0, none⟩ (.int .i64 ((rd_T25 l0 a1_0).f0))).setCell ⟨gb509, 1, none⟩ (.int .i64 ((rd_T25 l0 a1_0).f1))) w.heap.size (fun k_ => (P0_ k_ ∨ w.heap.size ≤ k_) ∧ k_ ≠ gb505 ∧ k_ ≠ gb508 ∧ k_ ≠ gb509) (.slice (some ad506) l0.length c0) l0) := ⟨by (with_reducible repeat (first | apply Kd.V_alloc | apply Kd.V_drewN | apply Kd.V_drew)); exact Kd.V_mono (Kd.V_far (p := ⟨gb509, 1, none⟩) (Kd.V_far (p := ⟨gb509, 0, none⟩) (Kd.V_far (p := ⟨gb508, 1, none⟩) (Kd.V_far (p := ⟨gb508, 0, none⟩) (Kd.V_mono (Kd.V_mono HO0.out (fun k_ hk => (⟨hk, hk.2.2.1⟩ : _ ∧ k_ ≠ gb508))) (fun k_ hk => (⟨hk, hk.1.2.2.2⟩ : _ ∧ k_ ≠ gb509))) (fun _ hk => hk.1.2) (.int .i64 ((rd_T25 l0 a1_0).f0))) (fun _ hk => hk.1.2) (.int .i64 ((rd_T25 l0 a1_0).f1))) (fun _ hk => hk.2) (.int .i64 ((rd_T25 l0 a1_0).f0))) (fun _ hk => hk.2) (.int .i64 ((rd_T25 l0 a1_0).f1))) (fun _ hk => ⟨hk.1.1.1, ⟨hk.1.1.2.1, ⟨hk.1.1.2.2.1, hk.1.1.2.2.2⟩⟩⟩)⟩
     have n1_ : Aside0 (((((w10.setCell ⟨gb508, 0, none⟩ (.int .i64 ((rd_T25 l0 a1_0).f0))).setCell ⟨gb508, 1, none⟩ (.int .i64 ((rd_T25 l0 a1_0).f1))).setCell ⟨gb509, 0, none⟩ (.int .i64 ((rd_T25 l0 a1_0).f0))).setCell ⟨gb509, 1, none⟩ (.int .i64 ((rd_T25 l0 a1_0).f1))).heap[gb505]? = some (.cells #[.int .i64 a1_0, .bool false, .int .i64 a1_2] 50 (0, 0))) := ⟨bx_ BK505.out⟩
     have n2_ : Aside0 (((((w10.setCell ⟨gb508, 0, none⟩ (.int .i64 ((rd_T25 l0 a1_0).f0))).setCell ⟨gb508, 1, none⟩ (.int .i64 ((rd_T25 l0 a1_0).f1))).setCell ⟨gb509, 0, none⟩ (.int .i64 ((rd_T25 l0 a1_0).f0))).setCell ⟨gb509, 1, none⟩ (.int .i64 ((rd_T25 l0 a1_0).f1))).heap[gb508]? = some (.cells #[.int .i64 ((rd_T25 l0 a1_0).f0), .int .i64 ((rd_T25 l0 a1_0).f1)] 25 (0, 0))) := ⟨by (with_reducible repeat (first | refine blk_drewN ?_ _ | refine blk_drew ?_ | refine blk_alloc ?_ _)); refine blk_far ?_ NB508_509.out _; (with_reducible repeat (first | refine blk_drewN ?_ _ | refine blk_drew ?_ | refine blk_alloc ?_ _)); refine blk_far ?_ NB508_509.out _; (with_reducible repeat (first | refine blk_drewN ?_ _ | refine blk_drew ?_ | refine blk_alloc ?_ _)); refine blk_put (cs := #[.int .i64 ((rd_T25 l0 a1_0).f0), .int .i64 0]) ?_ 1 _ rfl; (with_reducible repeat (first | refine blk_drewN ?_ _ | refine blk_drew ?_ | refine blk_alloc ?_ _)); refine blk_put (cs := #[.int .i64 0, .int .i64 0]) ?_ 0 _ rfl; (with_reducible repeat (first | refine blk_drewN ?_ _ | refine blk_drew ?_ | refine blk_alloc ?_ _)); exact BK508.out⟩
     have n3_ : Aside0 (((((w10.setCell ⟨gb508, 0, none⟩ (.int .i64 ((rd_T25 l0 a1_0).f0))).setCell ⟨gb508, 1, none⟩ (.int .i64 ((rd_T25 l0 a1_0).f1))).setCell ⟨gb509, 0, none⟩ (.int .i64 ((rd_T25 l0 a1_0).f0))).setCell ⟨gb509, 1, none⟩ (.int .i64 ((rd_T25 l0 a1_0).f1))).heap[gb509]? = some (.cells #[.int .i64 ((rd_T25 l0 a1_0).f0), .int .i64 ((rd_T25 l0 a1_0).f1)] 25 (0, 0))) := ⟨by (with_reducible repeat (first | refine blk_drewN ?_ _ | refine blk_drew ?_ | refine blk_alloc ?_ _)); refine blk_put (cs := #[.int .i64 ((rd_T25 l0 a1_0).f0), .int .i64 0]) ?_ 1 _ rfl; (with_reducible repeat (first | refine blk_drewN ?_ _ | refine blk_drew ?_ | refine blk_alloc ?_ _)); refine blk_put (cs := #[.int .i64 0, .int .i64 0]) ?_ 0 _ rfl; (with_reducible repeat (first | refine blk_drewN ?_ _ | refine blk_drew ?_ | refine blk_alloc ?_ _)); refine blk_far ?_ NB509_508.out _; (with_reducible repeat (first | refine blk_drewN ?_ _ | refine blk_drew ?_ | refine blk_alloc ?_ _)); refine blk_far ?_ NB509_508.out _; (with_reducible repeat (first | refine blk_drewN ?_ _ | refine blk_drew ?_ | refine blk_alloc ?_ _)); exact BK509.out⟩
     have n4_ : Aside0 (Below w.heap.size w ((((w10.setCell ⟨gb508, 0, none⟩ (.int .i64 ((rd_T25 l0 a1_0).f0))).setCell ⟨gb508, 1, none⟩ (.int .i64 ((rd_T25 l0 a1_0).f1))).setCell ⟨gb509, 0, none⟩ (.int .i64 ((rd_T25 l0 a1_0).f0))).setCell ⟨gb509, 1, none⟩ (.int .i64 ((rd_T25 l0 a1_0).f1)))) := ⟨hx_ HB.out⟩
     (try clear HO0)
     (try clear BK505)
     (try clear BK508)
     (try clear BK509)
     (try clear HB)
     generalize ((((w10.setCell ⟨gb508, 0, none⟩ (.int .i64 ((rd_T25 l0 a1_0).f0))).setCell ⟨gb508, 1, none⟩ (.int .i64 ((rd_T25 l0 a1_0).f1))).setCell ⟨gb509, 0, none⟩ (.int .i64 ((rd_T25 l0 a1_0).f0))).setCell ⟨gb509, 1, none⟩ (.int .i64 ((rd_T25 l0 a1_0).f1))) = w23 at n0_ n1_ n2_ n3_ n4_ ⊢
     have HO0 := n0_
     have BK505 := n1_
     have BK508 := n2_
     have BK509 := n3_
     have HB := n4_
     clear n0_ n1_ n2_ n3_ n4_
     replace HO0 := am_ (Kd.V_drew HO0.out); replace BK505 := am_ (blk_drew BK505.out); replace BK508 := am_ (blk_drew BK508.out); replace BK509 := am_ (blk_drew BK509.out); replace HB := am_ (below_drew1 HB.out)
     refine start_ (n := 11) (S := fun w' => w'.cell? ⟨gb505, 0, none⟩ = some (.int .i64 a1_0) ∧ w'.cell? ⟨gb505, 1, none⟩ = some (.bool false) ∧ w'.cell? ⟨gb505, 2, none⟩ = some (.int .i64 a1_2) ∧ w'.cell? ⟨gb509, 0, none⟩ = some (.int .i64 ((rd_T25 l0 a1_0).f0)) ∧ w'.cell? ⟨gb509, 1, none⟩ = some (.int .i64 ((rd_T25 l0 a1_0).f1))) (ds := [10]) #[false, false, false, false, false, false, false, false, false, false, false] (by kernel_rfl) rfl rfl ⟨(blk_cell BK505.out 0).trans rfl, (blk_cell BK505.out 1).trans rfl, (blk_cell BK505.out 2).trans rfl, (blk_cell BK509.out 0).trans rfl, (blk_cell BK509.out 1).trans rfl⟩ (fun hHeld => ?_); refine with_tabW impl_cut.tab4 impl_cut.bits4 (fun HT_ HW_ => ?_)
     generalize w23.drew = w24 at HO0 BK505 BK508 BK509 HB hHeld ⊢
     refine pu_ 0 (some 28) #[true, false, false, false, false, false, false, false, false, false, false] HT_ ?_
     refine pu_ 2 (some 30) #[true, false, true, false, false, false, false, false, false, false, false] HT_ ?_
     refine pu_ 4 (some 32) #[true, false, true, false, true, false, false, false, false, false, false] HT_ ?_
     refine ta5_ 1 (some 29) #[true, true, true, false, true, false, false, false, false, false, false] HT_ HW_ hHeld ?_
     refine pu_ 7 (some 35) #[true, true, true, false, true, false, false, true, false, false, false] HT_ ?_
     refine ta5_ 3 (some 31) #[true, true, true, true, true, false, false, true, false, false, false] HT_ HW_ hHeld ?_
     refine ta5_ 5 (some 33) #[true, true, true, true, true, true, false, true, false, false, false] HT_ HW_ hHeld ?_
     refine pu_ 6 (some 34) #[true, true, true, true, true, true, true, true, false, false, false] HT_ ?_
     refine one_ (i := 8) (N := none) #[true, true, true, true, true, true, true, true, true, false, false] rfl rfl (one_of HT_.out (by kernel_rfl)) (by decide) (fun K hK => ?_)
     have hs25 : w24.cell? ⟨gb508, 0, none⟩ = some (.int .i64 ((rd_T25 l0 a1_0).f0)) := (blk_cell BK508.out 0).trans rfl
     have hfs25 := blk_frozen BK508.out 0
     have hns25_0 := NB505_508.out
     have hns25_2 := NB509_508.out
     have hms25_0 := NB508_505.out
     have hms25_2 := NB508_509.out
     refine skip_ (w1 := ?_) (by rfl) rfl ?_ ?_
     rotate_left
     ·go_simp
      rfl
     refine hK.out _ _ ⟨((cell_far (p := ⟨gb508, _, none⟩) NB505_508.out _).trans (hHeld.1)), ((cell_far (p := ⟨gb508, _, none⟩) NB505_508.out _).trans (hHeld.2.1)), ((cell_far (p := ⟨gb508, _, none⟩) NB505_508.out _).trans (hHeld.2.2.1)), ((cell_far (p := ⟨gb508, _, none⟩) NB509_508.out _).trans (hHeld.2.2.2.1)), ((cell_far (p := ⟨gb508, _, none⟩) NB509_508.out _).trans (hHeld.2.2.2.2))⟩ (fun hHeld => ?_)
     clear hK K
     refine pu_ 9 (some 36) #[true, true, true, true, true, true, true, true, true, true, false] HT_ ?_
     refine last_ (i := 10) (N := none) #[true, true, true, true, true, true, true, true, true, true, true] rfl rfl (one_of HT_.out (by kernel_rfl)) (by decide) (fun K hK => ?_)
     have hs26 : w24.cell? ⟨gb509, 0, none⟩ = some (.int .i64 ((rd_T25 l0 a1_0).f0)) := (blk_cell BK509.out 0).trans rfl
     have hfs26 := blk_frozen BK509.out 0
     have hns26_0 := NB505_509.out
     have hns26_1 := NB508_509.out
     have hms26_0 := NB509_505.out
     have hms26_1 := NB509_508.out
     refine skip_ (w1 := ?_) (by rfl) rfl ?_ ?_
     rotate_left
     ·go_simp
      rfl
     refine hK.out _ _ ?_
     clear hK K
     refine done_ (done_of HT_.out (by kernel_rfl)) ?_
     try go_wp2
     go_meet
     case rel => exact ⟨_, (a1_2), ((rd_T25 l0 a1_0).f1), (wrap64 (((rd_T25 l0 a1_0).f0) - a1_2)), ((rd_T25 l0 a1_0).f1), H', ⟨by first | omega | exact Nat.le_refl _⟩, ⟨by (with_reducible repeat (first | apply Kd.V_alloc | apply Kd.V_drewN | apply Kd.V_drew)); exact Kd.V_mono (Kd.V_far (p := ⟨gb509, 0, none⟩) (Kd.V_far (p := ⟨gb508, 0, none⟩) (Kd.V_mono (Kd.V_mono HO0.out (fun k_ hk => (⟨hk, hk.2.2.1⟩ : _ ∧ k_ ≠ gb508))) (fun k_ hk => (⟨hk, hk.1.2.2.2⟩ : _ ∧ k_ ≠ gb509))) (fun _ hk => hk.1.2) (.int .i64 a1_2)) (fun _ hk => hk.2) (.int .i64 (wrap64 (((rd_T25 l0 a1_0).f0) - a1_2)))) (fun _ hk => ⟨hk.1.1.1, ⟨hk.1.1.2.1, ⟨hk.1.1.2.2.1, hk.1.1.2.2.2⟩⟩⟩)⟩, ⟨bx_ BK505.out⟩, ⟨by (with_reducible repeat (first | refine blk_drewN ?_ _ | refine blk_drew ?_ | refine blk_alloc ?_ _)); refine blk_far ?_ NB508_509.out _; (with_reducible repeat (first | refine blk_drewN ?_ _ | refine blk_drew ?_ | refine blk_alloc ?_ _)); refine blk_put (cs := #[.int .i64 ((rd_T25 l0 a1_0).f0), .int .i64 ((rd_T25 l0 a1_0).f1)]) ?_ 0 _ rfl; (with_reducible repeat (first | refine blk_drewN ?_ _ | refine blk_drew ?_ | refine blk_alloc ?_ _)); exact BK508.out⟩, ⟨by (with_reducible repeat (first | refine blk_drewN ?_ _ | refine blk_drew ?_ | refine blk_alloc ?_ _)); refine blk_put (cs := #[.int .i64 ((rd_T25 l0 a1_0).f0), .int .i64 ((rd_T25 l0 a1_0).f1)]) ?_ 0 _ rfl; (with_reducible repeat (first | refine blk_drewN ?_ _ | refine blk_drew ?_ | refine blk_alloc ?_ _)); refine blk_far ?_ NB509_508.out _; (with_reducible repeat (first | refine blk_drewN ?_ _ | refine blk_drew ?_ | refine blk_alloc ?_ _)); exact BK509.out⟩, ⟨hx_ HB.out⟩⟩
   case rest =>
    clear HC5
    (try clear c1); (try clear p2); (try clear p6); (try clear c15); (try clear c16); (try clear c18); (try clear hcz17_0); (try clear hcz17_1); (try clear hcz17_2); (try clear hfz17_0); (try clear hfz17_1); (try clear hfz17_2)
    obtain ⟨kq, x509000_4, x509001_4, x510000_4, x510001_4, HA, HJ4, HO_0, BK505, BK508, BK509, HB⟩ := hcut
    cases kq with
    | zero => exact absurd HA.out (by simp [impl_cut.j0])
    | succ kj4 =>
     have H := HA.out
     clear HA
     simp only [impl_cut.j0] at H
     by_cases c27 : 0 ≤ a1_0
     ·rw [if_pos c27] at H
      have c27b0 := eq_true c27
      have c27b1 : decide (0 ≤ a1_0) = true := decide_eq_true c27
      clear c27
      by_cases c28 : a1_0 ≤ (l0.length : Int)
      ·rw [if_pos c28] at H
       have c28b0 := eq_true c28
       have c28b1 : decide (a1_0 ≤ (l0.length : Int)) = true := decide_eq_true c28
       clear c28
       obtain ⟨y510, hy510⟩ : ∃ y_ : List (S25), y_ = (l0.take (a1_0 : Int).toNat) := ⟨_, rfl⟩
       replace H : (if 0 ≤ (wrap64 (a1_0 + 1)) then (if (wrap64 (a1_0 + 1)) ≤ (l0.length : Int) then ((slices_ConcatPiece.f kj4 (([y510, (([(⟨x509000_4, x509001_4⟩ : S25), (⟨x510000_4, x510001_4⟩ : S25)] : List (S25))), (l0.drop ((wrap64 (a1_0 + 1)) : Int).toNat)] : List (List (S25))))).bind fun t526 => (some t526)) else (none)) else (none)) = some r := by first | (rw [hy510]; with_reducible exact H) | (have H2_ := (Option.bind_some _ _).symm.trans H; rw [hy510]; with_reducible exact H2_) | (have H2_ := (Option.bind_some _ _).symm.trans H; with_reducible exact H2_) | with_reducible exact H | (rw [hy510]; exact H) | exact H
       have Ny510 := Aside0.mk hy510
       clear hy510
       obtain ⟨y515, hy515⟩ : ∃ y_ : List (S25), y_ = (([(⟨x509000_4, x509001_4⟩ : S25), (⟨x510000_4, x510001_4⟩ : S25)] : List (S25))) := ⟨_, rfl⟩
       replace H : (if 0 ≤ (wrap64 (a1_0 + 1)) then (if (wrap64 (a1_0 + 1)) ≤ (l0.length : Int) then ((slices_ConcatPiece.f kj4 (([y510, y515, (l0.drop ((wrap64 (a1_0 + 1)) : Int).toNat)] : List (List (S25))))).bind fun t526 => (some t526)) else (none)) else (none)) = some r := by first | (rw [hy515]; with_reducible exact H) | (have H2_ := (Option.bind_some _ _).symm.trans H; rw [hy515]; with_reducible exact H2_) | (have H2_ := (Option.bind_some _ _).symm.trans H; with_reducible exact H2_) | with_reducible exact H | (rw [hy515]; exact H) | exact H
       have Ny515 := Aside0.mk hy515
       clear hy515
       obtain ⟨ji29, hji29⟩ : ∃ j_ : Int, (wrap64 (a1_0 + 1)) = j_ := ⟨_, rfl⟩
       replace H : (if 0 ≤ (ji29) then (if (ji29) ≤ (l0.length : Int) then ((slices_ConcatPiece.f kj4 (([y510, y515, (l0.drop ((ji29) : Int).toNat)] : List (List (S25))))).bind fun t526 => (some t526)) else (none)) else (none)) = some r := by first | (rw [hji29] at H; exact H) | (simp only [hji29] at H ⊢; exact H)
       have hji29w : (IntKind.i64.wrap (a1_0 + 1)) = ji29 := (i64_w _).trans hji29
       by_cases c30 : 0 ≤ (ji29)
       ·rw [if_pos c30] at H
        have c30b0 := eq_true c30
        have c30b1 : decide (0 ≤ (ji29)) = true := decide_eq_true c30
        clear c30
        by_cases c31 : (ji29) ≤ (l0.length : Int)
        ·rw [if_pos c31] at H
         have c31b0 := eq_true c31
         have c31b1 : decide ((ji29) ≤ (l0.length : Int)) = true := decide_eq_true c31
         clear c31
         obtain ⟨y518, hy518⟩ : ∃ y_ : List (S25), y_ = (l0.drop ((ji29) : Int).toNat) := ⟨_, rfl⟩
         replace H : ((slices_ConcatPiece.f kj4 (([y510, y515, y518] : List (List (S25))))).bind fun t526 => (some t526)) = some r := by first | (rw [hy518]; with_reducible exact H) | (have H2_ := (Option.bind_some _ _).symm.trans H; rw [hy518]; with_reducible exact H2_) | (have H2_ := (Option.bind_some _ _).symm.trans H; with_reducible exact H2_) | with_reducible exact H | (rw [hy518]; exact H) | exact H
         have Ny518 := Aside0.mk hy518
         clear hy518
         obtain ⟨y523, hy523⟩ : ∃ y_ : List (List (S25)), y_ = (([y510, y515, y518] : List (List (S25)))) := ⟨_, rfl⟩
         replace H : ((slices_ConcatPiece.f kj4 y523).bind fun t526 => (some t526)) = some r := by first | (rw [hy523]; with_reducible exact H) | (have H2_ := (Option.bind_some _ _).symm.trans H; rw [hy523]; with_reducible exact H2_) | (have H2_ := (Option.bind_some _ _).symm.trans H; with_reducible exact H2_) | with_reducible exact H | (rw [hy523]; exact H) | exact H
         have Ny523 := Aside0.mk hy523
         clear hy523
         replace H := Option.bind_eq_some_iff.mp H
         obtain ⟨t526, A320, H⟩ := H
         try dsimp only at H
         have A32 := Aside0.mk A320
         clear A320
         obtain rfl := Option.some.inj H
         try go_wp2
         replace HO_0 := am_ (Kd.V_drew HO_0.out); replace BK505 := am_ (blk_drew BK505.out); replace BK508 := am_ (blk_drew BK508.out); replace BK509 := am_ (blk_drew BK509.out); replace HB := am_ (below_drew1 HB.out)
         have q34 : (a1_0 : Int) ≤ ((l0.length : Int) : Int) := of_decide_eq_true (by first | (with_reducible assumption) | assumption)
         obtain ⟨i034, hi034, _, hsz34, _⟩ := info_parts info25
         have hroom34 : l0.length ≤ c0 := (Kd.V_reads' HO_0.out).2.1
         have hC34 : Kd.F k25 _ _ (some ad506) l0.length l0 := (Kd.V_at (base := w.heap.size) HO_0.out).2.2
         have hcut34 := cut_to (P := Tryz.prog) 37 25 .i64 Tryz.underlying37 hi034 (some ad506) l0.length c0 a1_0 (of_decide_eq_true (by first | (with_reducible assumption) | assumption)) q34 hroom34
         have hr34 := Kd.F_take (m := (a1_0 : Int).toNat) hC34 (by omega)
         have hy34 : y510.length = (a1_0 : Int).toNat := (by rw [Ny510.out, List.length_take]; omega)
         rw [← Ny510.out] at hr34
         rw [← hy34] at hcut34
         have HO514 := Aside0.mk (show Kd.V k25 25 _ w.heap.size _ (.slice (some ad506) y510.length c0) y510 from Kd.V_mk (by omega) hr34)
         have HC514 := Aside0.mk (show y510.length ≤ c0 from by omega)
         clear hr34 hC34 hroom34 hi034 hsz34
         have KY34 := Aside0.mk hy34
         clear hy34
         replace q34 := eq_true q34
         have q35 : ((ji29) : Int) ≤ ((l0.length : Int) : Int) := of_decide_eq_true (by first | (with_reducible assumption) | assumption)
         obtain ⟨i035, hi035, _, hsz35, _⟩ := info_parts info25
         have hroom35 : l0.length ≤ c0 := (Kd.V_reads' HO_0.out).2.1
         have hC35 : Kd.F k25 _ _ (some ad506) l0.length l0 := (Kd.V_at (base := w.heap.size) HO_0.out).2.2
         have q035 : (0 : Int) ≤ ((ji29) : Int) := of_decide_eq_true (by first | (with_reducible assumption) | assumption)
         have hcut35 := cut_from (P := Tryz.prog) 37 25 .i64 Tryz.underlying37 hi035 2 hsz35 (some ad506) l0.length c0 (ji29) q035 q35
         have hr35 := Kd.F_cut (m := ((ji29) : Int).toNat) (c := c0) hC35 (by omega) hroom35
         obtain ⟨A35, hA35⟩ : ∃ A1, A1 = (if c0 = ((ji29) : Int).toNat then (some ad506) else ((some ad506) : Option Addr).map (·.add (((ji29) : Int).toNat * 2))) := ⟨_, rfl⟩
         obtain ⟨c35, hc35⟩ : ∃ c1, c1 = c0 - ((ji29) : Int).toNat := ⟨_, rfl⟩
         have hy35 : y518.length = l0.length - ((ji29) : Int).toNat := (by rw [Ny518.out, List.length_drop] <;> omega)
         rw [show (l0).drop ((ji29) : Int).toNat = y518 from Ny518.out.symm] at hr35
         replace hr35 : Kd.F k25 _ _ A35 y518.length y518 := (by rw [hA35]; exact hr35)
         rw [← hy35, ← hA35, ← hc35] at hcut35
         have HO522 := Aside0.mk (show Kd.V k25 25 _ w.heap.size _ (.slice A35 y518.length c35) y518 from Kd.V_mk (by rw [hy35, hc35]; exact Nat.sub_le_sub_right hroom35 _) hr35)
         have HC522 := Aside0.mk (show y518.length ≤ c35 from by rw [hy35, hc35]; exact Nat.sub_le_sub_right hroom35 _)
         clear hr35 hC35 hroom35 hi035 hsz35 hc35
         have KY35 := Aside0.mk hy35
         have KA35 := Aside0.mk hA35
         clear hy35 hA35
         replace q35 := eq_true q35
         refine start_ (n := 15) (S := fun w' => w'.cell? ⟨gb505, 0, none⟩ = some (.int .i64 a1_0) ∧ w'.cell? ⟨gb505, 1, none⟩ = some (.bool a1_1) ∧ w'.cell? ⟨gb505, 2, none⟩ = some (.int .i64 a1_2) ∧ w'.cell? ⟨gb508, 0, none⟩ = some (.int .i64 x509000_4) ∧ w'.cell? ⟨gb508, 1, none⟩ = some (.int .i64 x509001_4) ∧ w'.cell? ⟨gb509, 0, none⟩ = some (.int .i64 x510000_4) ∧ w'.cell? ⟨gb509, 1, none⟩ = some (.int .i64 x510001_4)) (ds := []) #[false, false, false, false, false, false, false, false, false, false, false, false, false, false, false] (by kernel_rfl) rfl rfl ⟨(blk_cell BK505.out 0).trans rfl, (blk_cell BK505.out 1).trans rfl, (blk_cell BK505.out 2).trans rfl, (blk_cell BK508.out 0).trans rfl, (blk_cell BK508.out 1).trans rfl, (blk_cell BK509.out 0).trans rfl, (blk_cell BK509.out 1).trans rfl⟩ (fun hHeld => ?_); refine with_tabW impl_cut.tab5 impl_cut.bits5 (fun HT_ HW_ => ?_)
         generalize wc.drew = w33 at HO_0 BK505 BK508 BK509 HB HO514 HO522 hHeld ⊢
         refine pu_ 0 (some 37) #[true, false, false, false, false, false, false, false, false, false, false, false, false, false, false] HT_ ?_
         refine pu_ 1 (some 38) #[true, true, false, false, false, false, false, false, false, false, false, false, false, false, false] HT_ ?_
         refine pu_ 7 (some 44) #[true, true, false, false, false, false, false, true, false, false, false, false, false, false, false] HT_ ?_
         refine pu_ 8 (some 45) #[true, true, false, false, false, false, false, true, true, false, false, false, false, false, false] HT_ ?_
         refine ta7_ 2 (some 39) #[true, true, true, false, false, false, false, true, true, false, false, false, false, false, false] HT_ HW_ hHeld ?_
         refine pu_ 3 (some 40) #[true, true, true, true, false, false, false, true, true, false, false, false, false, false, false] HT_ ?_
         refine ta7_ 4 (some 41) #[true, true, true, true, true, false, false, true, true, false, false, false, false, false, false] HT_ HW_ hHeld ?_
         refine ta7_ 5 (some 42) #[true, true, true, true, true, true, false, true, true, false, false, false, false, false, false] HT_ HW_ hHeld ?_
         refine ta7_ 9 (some 46) #[true, true, true, true, true, true, false, true, true, true, false, false, false, false, false] HT_ HW_ hHeld ?_
         refine pu_ 10 (some 47) #[true, true, true, true, true, true, false, true, true, true, true, false, false, false, false] HT_ ?_
         refine pu_ 11 (some 48) #[true, true, true, true, true, true, false, true, true, true, true, true, false, false, false] HT_ ?_
         refine one_ (i := 6) (N := some 43) #[true, true, true, true, true, true, true, true, true, true, true, true, false, false, false] rfl rfl (one_of HT_.out (by kernel_rfl)) (by decide) (fun K hK => ?_)
         refine Kd.R_lit_step k25 _ 25 ?hg (N := 43) ?hd (xs := ([(⟨x509000_4, x509001_4⟩ : S25), (⟨x510000_4, x510001_4⟩ : S25)] : List (S25))) (inner := [.int .i64 x509000_4, .int .i64 x509001_4, .int .i64 x510000_4, .int .i64 x510001_4]) (ok := fun _ => True) (okp := fun _ => True) ?hr ?hp (fun _ hk => hk) trivial (Below.refl _ _) (Nat.le_refl _) (by simp) ?_; (case hd => rfl); (case hg => rfl); (case hr => first | (go_simp; done) | (go_simp; rfl)); (case hp => exact (Reps.c2 (show Kd.M k25 _ _ _ (⟨x509000_4, x509001_4⟩ : S25) [.int .i64 x509000_4, .int .i64 x509001_4] from (k25_mkM _ _ _ (⟨x509000_4, x509001_4⟩ : S25) )) (Reps.c2 (show Kd.M k25 _ _ _ (⟨x510000_4, x510001_4⟩ : S25) [.int .i64 x510000_4, .int .i64 x510001_4] from (k25_mkM _ _ _ (⟨x510000_4, x510001_4⟩ : S25) )) (Reps.none _ _))))
         intro v516 w36 ho37 hb hg_ hnew_
         clear hg_ hnew_
         (first | rw [← Ny515.out] at ho37 | (simp only [Int.reduceToNat] at ho37; rw [← Ny515.out] at ho37))
         replace HO_0 := am_ (Kd.V_elder' (by (with_reducible repeat (first | apply Kd.V_alloc | apply Kd.V_drewN | apply Kd.V_drew)); exact HO_0.out) (Kd.R_base ho37) hb); replace HO514 := am_ (Kd.V_elder' (by (with_reducible repeat (first | apply Kd.V_alloc | apply Kd.V_drewN | apply Kd.V_drew)); exact HO514.out) (Kd.R_base ho37) hb); replace HO522 := am_ (Kd.V_elder' (by (with_reducible repeat (first | apply Kd.V_alloc | apply Kd.V_drewN | apply Kd.V_drew)); exact HO522.out) (Kd.R_base ho37) hb); have HO517 := am_ (Kd.R_lower (Kd.R_newB (Kd.R_newB (Kd.R_newM (M := fun k_ => (w.heap.size ≤ k_)) ho37 (below_size (hx_ HB.out)) (fun k_ h_ => h_)) (g := gb508) (o := .cells #[.int .i64 x509000_4, .int .i64 x509001_4] 25 (0, 0)) (bx_ BK508.out)) (g := gb509) (o := .cells #[.int .i64 x510000_4, .int .i64 x510001_4] 25 (0, 0)) (bx_ BK509.out)) (below_size (hx_ HB.out))); replace BK505 := bb_ BK505 hb; replace BK508 := bb_ BK508 hb; replace BK509 := bb_ BK509 hb; replace HB := hs_ HB hb
         clear hb ho37
         obtain ⟨Ao38, co38, eo38⟩ := Kd.R_slice HO517.out
         (first | subst eo38 | (injection eo38 with f1_ f2_ f3_; have f4_ := f1_.symm; have f5_ := f3_.symm; clear f1_ f2_ f3_; subst f4_; subst f5_))
         refine hK.out _ _ ⟨(blk_cell BK505.out 0).trans rfl, (blk_cell BK505.out 1).trans rfl, (blk_cell BK505.out 2).trans rfl, (blk_cell BK508.out 0).trans rfl, (blk_cell BK508.out 1).trans rfl, (blk_cell BK509.out 0).trans rfl, (blk_cell BK509.out 1).trans rfl⟩ (fun hHeld => ?_)
         clear hK K
         refine no_ (some 43) ?_
         refine one_ (i := 12) (N := some 49) #[true, true, true, true, true, true, true, true, true, true, true, true, true, false, false] rfl rfl (one_of HT_.out (by kernel_rfl)) (by decide) (fun K hK => ?_)
         refine Kd.N_lit_step (Kd.slice 25 k25) _ 37 ?hg (N' := 49) ?hd (xs := ([y510, y515, y518] : List (List (S25)))) (inner := [.slice (some ad506) y510.length c0, .slice Ao38 y515.length co38, .slice A35 y518.length c35]) (ok := (fun k_ => (P0_ k_ ∨ w.heap.size ≤ k_) ∧ k_ ≠ gb505 ∧ k_ ≠ gb508 ∧ k_ ≠ gb509)) (okp := (fun k_ => (P0_ k_ ∨ w.heap.size ≤ k_) ∧ k_ ≠ gb505 ∧ k_ ≠ gb508 ∧ k_ ≠ gb509)) ?hr ?hp (fun _ hk => hk) ((show ∀ k_, w36.heap.size ≤ k_ → (fun k_ => (P0_ k_ ∨ w.heap.size ≤ k_) ∧ k_ ≠ gb505 ∧ k_ ≠ gb508 ∧ k_ ≠ gb509) k_ from fun k_ hk => ⟨(.inr (Nat.le_trans (below_size (hx_ HB.out)) hk)), Kd.freshB (g := gb505) (o := .cells #[.int .i64 a1_0, .bool a1_1, .int .i64 a1_2] 50 (0, 0)) (bx_ BK505.out) k_ hk, Kd.freshB (g := gb508) (o := .cells #[.int .i64 x509000_4, .int .i64 x509001_4] 25 (0, 0)) (bx_ BK508.out) k_ hk, Kd.freshB (g := gb509) (o := .cells #[.int .i64 x510000_4, .int .i64 x510001_4] 25 (0, 0)) (bx_ BK509.out) k_ hk⟩) _ (Nat.le_refl _)) (Below.refl _ _) (Nat.le_refl _) (by simp) ?_; (case hd => rfl); (case hg => rfl); (case hr => first | (go_simp; done) | (go_simp; rfl)); (case hp => exact (Reps.one (show Kd.FK (Kd.slice 25 k25) _ _ y510 [.slice (some ad506) y510.length c0] from (Kd.FK_slice_mk (Kd.V_reads' (Kd.V_mono (ok' := (fun k_ => (P0_ k_ ∨ w.heap.size ≤ k_) ∧ k_ ≠ gb505 ∧ k_ ≠ gb508 ∧ k_ ≠ gb509)) (HO514.out) (fun k_ hk => ⟨hk.1.1, ⟨hk.1.2.1, ⟨hk.1.2.2.1, hk.1.2.2.2⟩⟩⟩))).2.1 (Kd.V_F (Kd.V_mono (ok' := (fun k_ => (P0_ k_ ∨ w.heap.size ≤ k_) ∧ k_ ≠ gb505 ∧ k_ ≠ gb508 ∧ k_ ≠ gb509)) (HO514.out) (fun k_ hk => ⟨hk.1.1, ⟨hk.1.2.1, ⟨hk.1.2.2.1, hk.1.2.2.2⟩⟩⟩))))) (Reps.one (show Kd.FK (Kd.slice 25 k25) _ _ y515 [.slice Ao38 y515.length co38] from (Kd.FK_slice_mk (Kd.R_reads' (Kd.R_mono (ok' := (fun k_ => (P0_ k_ ∨ w.heap.size ≤ k_) ∧ k_ ≠ gb505 ∧ k_ ≠ gb508 ∧ k_ ≠ gb509)) (Kd.R_types (HO517.out) BK505.out (by decide)) (fun k_ hk => ⟨(.inr (hk.1.1.1.1)), ⟨hk.2, ⟨hk.1.1.2, hk.1.2⟩⟩⟩))).2.1 (Kd.R_F (Kd.R_mono (ok' := (fun k_ => (P0_ k_ ∨ w.heap.size ≤ k_) ∧ k_ ≠ gb505 ∧ k_ ≠ gb508 ∧ k_ ≠ gb509)) (Kd.R_types (HO517.out) BK505.out (by decide)) (fun k_ hk => ⟨(.inr (hk.1.1.1.1)), ⟨hk.2, ⟨hk.1.1.2, hk.1.2⟩⟩⟩))))) (Reps.one (show Kd.FK (Kd.slice 25 k25) _ _ y518 [.slice A35 y518.length c35] from (Kd.FK_slice_mk (Kd.V_reads' (Kd.V_mono (ok' := (fun k_ => (P0_ k_ ∨ w.heap.size ≤ k_) ∧ k_ ≠ gb505 ∧ k_ ≠ gb508 ∧ k_ ≠ gb509)) (HO522.out) (fun k_ hk => ⟨hk.1.1, ⟨hk.1.2.1, ⟨hk.1.2.2.1, hk.1.2.2.2⟩⟩⟩))).2.1 (Kd.V_F (Kd.V_mono (ok' := (fun k_ => (P0_ k_ ∨ w.heap.size ≤ k_) ∧ k_ ≠ gb505 ∧ k_ ≠ gb508 ∧ k_ ≠ gb509)) (HO522.out) (fun k_ hk => ⟨hk.1.1, ⟨hk.1.2.1, ⟨hk.1.2.2.1, hk.1.2.2.2⟩⟩⟩))))) (Reps.none _ _)))))
         intro v524 w39 ho40 hb hg_ hnew_
         clear hg_ hnew_
         (first | rw [← Ny523.out] at ho40 | (simp only [Int.reduceToNat] at ho40; rw [← Ny523.out] at ho40))
         replace HO_0 := am_ (Kd.V_elder' (by (with_reducible repeat (first | apply Kd.V_alloc | apply Kd.V_drewN | apply Kd.V_drew)); exact HO_0.out) (Kd.N_base ho40) hb); replace HO514 := am_ (Kd.V_elder' (by (with_reducible repeat (first | apply Kd.V_alloc | apply Kd.V_drewN | apply Kd.V_drew)); exact HO514.out) (Kd.N_base ho40) hb); replace HO522 := am_ (Kd.V_elder' (by (with_reducible repeat (first | apply Kd.V_alloc | apply Kd.V_drewN | apply Kd.V_drew)); exact HO522.out) (Kd.N_base ho40) hb); have HO525 := am_ (Kd.N_lower ho40 (below_size (hx_ HB.out))); replace BK505 := bb_ BK505 hb; replace BK508 := bb_ BK508 hb; replace BK509 := bb_ BK509 hb; replace HB := hs_ HB hb; clear HO517
         clear hb ho40
         obtain ⟨Ao41, co41, eo41⟩ := Kd.N_slice HO525.out
         (first | subst eo41 | (injection eo41 with f1_ f2_ f3_; have f4_ := f1_.symm; have f5_ := f3_.symm; clear f1_ f2_ f3_; subst f4_; subst f5_))
         refine hK.out _ _ ⟨(blk_cell BK505.out 0).trans rfl, (blk_cell BK505.out 1).trans rfl, (blk_cell BK505.out 2).trans rfl, (blk_cell BK508.out 0).trans rfl, (blk_cell BK508.out 1).trans rfl, (blk_cell BK509.out 0).trans rfl, (blk_cell BK509.out 1).trans rfl⟩ (fun hHeld => ?_)
         clear hK K
         refine no_ (some 49) ?_
         refine one_ (i := 13) (N := some 50) #[true, true, true, true, true, true, true, true, true, true, true, true, true, true, false] rfl rfl (one_of HT_.out (by kernel_rfl)) (by decide) (fun K hK => ?_)
         refine goes_ Tryz.func55 (by kernel_rfl) rfl #[.slice Ao41 y523.length co41] (by rfl) rfl rfl (by (try simp only [List.map_toArray, List.map_cons, List.map_nil]); first | done | rfl | (simp only [List.length_drop, List.length_take]; rfl)) ?_
         with_reducible refine (slices_ConcatPiece.calls kj4 _ _ y523 t526 _ ?side1 ?side2 A32.out).mono ?_
         (case side1 => repeat (first | exact (Kd.N_reads' HO525.out).2.2 | (with_reducible refine Kd.C_alloc ?_ _) | (with_reducible refine Kd.C_drewN ?_ _) | (with_reducible refine Kd.C_drew ?_)))
         (case side2 => exact (Kd.N_reads' HO525.out).2.1)
         rintro e w42 ⟨v527, rfl, ho0, hb⟩
         refine ⟨_, rfl, ?_⟩
         replace HO_0 := am_ (Kd.V_elder' (by (with_reducible repeat (first | apply Kd.V_alloc | apply Kd.V_drewN | apply Kd.V_drew)); exact HO_0.out) (Kd.R_base ho0) hb); replace HO514 := am_ (Kd.V_elder' (by (with_reducible repeat (first | apply Kd.V_alloc | apply Kd.V_drewN | apply Kd.V_drew)); exact HO514.out) (Kd.R_base ho0) hb); replace HO522 := am_ (Kd.V_elder' (by (with_reducible repeat (first | apply Kd.V_alloc | apply Kd.V_drewN | apply Kd.V_drew)); exact HO522.out) (Kd.R_base ho0) hb); replace HO525 := am_ (Kd.N_elder' (by (with_reducible repeat (first | apply Kd.N_alloc | apply Kd.N_drewN | apply Kd.N_drew)); exact HO525.out) (Kd.R_base ho0) hb); have HO528 := am_ (Kd.R_lower (Kd.R_newB (Kd.R_newB (Kd.R_newM (M := fun k_ => (w.heap.size ≤ k_)) ho0 (below_size (hx_ HB.out)) (fun k_ h_ => h_)) (g := gb508) (o := .cells #[.int .i64 x509000_4, .int .i64 x509001_4] 25 (0, 0)) (bx_ BK508.out)) (g := gb509) (o := .cells #[.int .i64 x510000_4, .int .i64 x510001_4] 25 (0, 0)) (bx_ BK509.out)) (below_size (hx_ HB.out))); replace BK505 := bb_ BK505 hb; replace BK508 := bb_ BK508 hb; replace BK509 := bb_ BK509 hb; replace HB := hs_ HB hb
         (try clear hb)
         (try clear hb2)
         (try clear hk)
         (try clear hi)
         (try clear ho0)
         refine hK.out _ _ ⟨(blk_cell BK505.out 0).trans rfl, (blk_cell BK505.out 1).trans rfl, (blk_cell BK505.out 2).trans rfl, (blk_cell BK508.out 0).trans rfl, (blk_cell BK508.out 1).trans rfl, (blk_cell BK509.out 0).trans rfl, (blk_cell BK509.out 1).trans rfl⟩ (fun hHeld => ?_)
         clear hK K
         refine no_ (some 50) ?_
         refine pu_ 14 (some 4) #[true, true, true, true, true, true, true, true, true, true, true, true, true, true, true] HT_ ?_
         refine done_ (done_of HT_.out (by kernel_rfl)) ?_
         try go_wp2
         go_ret
         exact ⟨_, by first | rfl | (simp [errW_none, errW_some] <;> rfl) | (simp only [← hji29]; first | rfl | (simp [errW_none, errW_some] <;> rfl)) | (simp [*, errW_none, errW_some] <;> rfl), by (with_reducible repeat (first | apply Kd.R_alloc | apply Kd.R_drewN | apply Kd.R_drew)); exact Kd.R_mono HO528.out (fun _ hk => hk.1.1.1), hx_ HB.out⟩
        ·rw [if_neg c31] at H
         exact absurd H (by simp)
       ·rw [if_neg c30] at H
        exact absurd H (by simp)
      ·rw [if_neg c28] at H
       exact absurd H (by simp)
     ·rw [if_neg c27] at H
      exact absurd H (by simp)
  ·rw [if_neg c4] at H
   exact absurd H (by simp)
 ·rw [if_neg c3] at H
  exact absurd H (by simp)

end Go.Proofs.YtdafddgmeidclaaGreatDoor.PFnGridCuts
