-- Written by wip/inject.py: a contract of each function that the law reaches; those of the stand-ins are proved in this seat's Hand texts
import Derived.Test.YthapadejldlmfaaPFnCutsx0
import Derived.Test.YthapadejldlmfaaPFnCutsx6
namespace Go.Proofs.Ythapadejldlmfaa.PFnCuts
open Go.RowKit Go.Proofs.YthapadejldlmfaaW.PrintWords Go.Proofs.YthapadejldlmfaaW.PrintLast Go.Proofs.YthapadejldlmfaaW.PrintMore
attribute [local go_sem] max2_int min2_int max_two min_two max_three min_three max_four min_four   -- for this text's walks alone
set_option linter.unusedVariables false
set_option linter.unusedSimpArgs false

/-! ### impl_cut: function 170 -/
def impl_cut.f (k : Nat) (l0 : List (S77)) (a1_0 : Int) (a1_1 : Bool) (a1_2 : Int) : Option ((List (S77))) := if 0 ≤ a1_0 then (if a1_0 < (l0.length : Int) then (if a1_1 = true then (if a1_0 ≤ (l0.length : Int) then (if 0 ≤ (wrap64 (a1_0 + 1)) then (if (wrap64 (a1_0 + 1)) ≤ (l0.length : Int) then ((slices_ConcatPiece.f k (([(l0.take (a1_0 : Int).toNat), (([(⟨(rd_T77 l0 a1_0).f0, a1_2⟩ : S77), (⟨(rd_T77 l0 a1_0).f0, wrap64 (((rd_T77 l0 a1_0).f1) - a1_2)⟩ : S77)] : List (S77))), (l0.drop ((wrap64 (a1_0 + 1)) : Int).toNat)] : List (List (S77))))).bind fun t311 => (some t311)) else (none)) else (none)) else (none)) else (if a1_0 ≤ (l0.length : Int) then (if 0 ≤ (wrap64 (a1_0 + 1)) then (if (wrap64 (a1_0 + 1)) ≤ (l0.length : Int) then ((slices_ConcatPiece.f k (([(l0.take (a1_0 : Int).toNat), (([(⟨a1_2, (rd_T77 l0 a1_0).f1⟩ : S77), (⟨wrap64 (((rd_T77 l0 a1_0).f0) - a1_2), (rd_T77 l0 a1_0).f1⟩ : S77)] : List (S77))), (l0.drop ((wrap64 (a1_0 + 1)) : Int).toNat)] : List (List (S77))))).bind fun t330 => (some t330)) else (none)) else (none)) else (none))) else (none)) else (none)
theorem impl_cut.mono : ∀ a0 a1 a2 a3 k, LeO (impl_cut.f k a0 a1 a2 a3) (impl_cut.f (k + 1) a0 a1 a2 a3) := by
 intro a0 a1 a2 a3 k
 unfold impl_cut.f
 repeat' first
   | (with_reducible exact slices_ConcatPiece.mono _ _)
   | (with_reducible exact LeO.refl _)
   | (with_reducible exact LeO.none _)
   | (with_reducible refine LeO.ite ?_ ?_)
   | (with_reducible refine LeO.bind ?_ (fun _ => ?_))
   | exact slices_ConcatPiece.mono _ _
   | exact LeO.none _
   | refine LeO.ite ?_ ?_
   | refine LeO.bind ?_ (fun _ => ?_)
def impl_cut.T1 : Bool × List (List Nat × List Nat) := (true, [([], []), ([], []), ([1], [1]), ([0, 2], [0, 2]), ([3], [3]), ([], []), ([], []), ([6], [6]), ([5, 7], [5, 7]), ([8], [8]), ([], []), ([], []), ([10, 4, 0, 1, 2, 3, 4, 10, 11], [4, 10]), ([11, 9, 12, 0, 1, 2, 3, 4, 5, 6, 7, 8, 9, 10, 11, 12], [9, 11])])
def impl_cut.B1 : List Nat := [0, 0, 2, 7, 15, 0, 0, 64, 224, 480, 0, 0, 3103, 8191]
theorem impl_cut.tab1 : rtab .any (opsOf Try.f170 1) = impl_cut.T1 := by kernel_rfl
theorem impl_cut.bits1 : waitsOk impl_cut.T1.2 impl_cut.B1 = true := by kernel_rfl
def impl_cut.T3 : Bool × List (List Nat × List Nat) := (true, [([], []), ([0], [0]), ([], []), ([2], [2]), ([], []), ([4], [4]), ([3, 5], [3, 5]), ([0, 1], []), ([7, 1, 0, 1], [1, 7]), ([0, 1, 2, 3, 4, 5, 6, 7, 8], []), ([9, 6, 8, 0, 1, 2, 3, 4, 5, 6, 7, 8], [6, 9])])
def impl_cut.B3 : List Nat := [0, 1, 0, 4, 0, 16, 60, 3, 131, 511, 1023]
theorem impl_cut.tab3 : rtab .any (opsOf Try.f170 3) = impl_cut.T3 := by kernel_rfl
theorem impl_cut.bits3 : waitsOk impl_cut.T3.2 impl_cut.B3 = true := by kernel_rfl
def impl_cut.T4 : Bool × List (List Nat × List Nat) := (true, [([], []), ([0], [0]), ([], []), ([2], [2]), ([], []), ([4], [4]), ([3, 5], [3, 5]), ([0, 1], []), ([7, 1, 0, 1], [1, 7]), ([0, 1, 2, 3, 4, 5, 6, 7, 8], []), ([9, 6, 8, 0, 1, 2, 3, 4, 5, 6, 7, 8], [6, 9])])
def impl_cut.B4 : List Nat := [0, 1, 0, 4, 0, 16, 60, 3, 131, 511, 1023]
theorem impl_cut.tab4 : rtab .any (opsOf Try.f170 4) = impl_cut.T4 := by kernel_rfl
theorem impl_cut.bits4 : waitsOk impl_cut.T4.2 impl_cut.B4 = true := by kernel_rfl
def impl_cut.T5 : Bool × List (List Nat × List Nat) := (true, [([], []), ([], []), ([1], [1]), ([0, 2], [0, 2]), ([], []), ([], []), ([4, 5], [4, 5]), ([], []), ([], []), ([8], [8]), ([9], [9]), ([7, 10], [7, 10]), ([3, 6, 11], [3, 6, 11]), ([12], [12]), ([13, 13, 0, 1, 2, 3, 4, 5, 6, 7, 8, 9, 10, 11, 12, 13], [13])])
def impl_cut.B5 : List Nat := [0, 0, 2, 7, 0, 0, 48, 0, 0, 256, 768, 1920, 4095, 8191, 16383]
theorem impl_cut.tab5 : rtab .any (opsOf Try.f170 5) = impl_cut.T5 := by kernel_rfl
theorem impl_cut.bits5 : waitsOk impl_cut.T5.2 impl_cut.B5 = true := by kernel_rfl
set_option maxHeartbeats 8000000 in
set_option maxRecDepth 100000 in
theorem impl_cut.calls (k : Nat) (P0_ : Nat → Prop) (A0 : Option Addr) (c0 : Nat) (l0 : List (S77)) (a1_0 : Int) (a1_1 : Bool) (a1_2 : Int) (r : List (S77)) (w : World) (hs0 : Kd.V k77 77 w w.heap.size (fun k_ => P0_ k_) (.slice A0 l0.length c0) l0) (h : impl_cut.f k l0 a1_0 a1_1 a1_2 = some r) :
  Calls Try.prog 170 #[.slice A0 l0.length c0, .agg #[.int .i64 a1_0, .bool a1_1, .int .i64 a1_2]] w fun e w' => ∃ v0_ : Value, e = .returned (v0_) ∧ Kd.R k77 77 w' w.heap.size (fun k_ => (w.heap.size ≤ k_)) v0_ r ∧ Below w.heap.size w w' := by
 have hu85 := Try.underlying85
 have hu77 := Try.underlying77
 have HO0 := Aside0.mk (show Kd.V k77 77 w w.heap.size (fun k_ => (P0_ k_ ∨ w.heap.size ≤ k_)) (.slice A0 l0.length c0) l0 from Kd.V_mono hs0 (fun k_ hk => .inl hk))
 have HB := Aside0.mk (Below.refl w.heap.size w)
 have H : (if 0 ≤ a1_0 then (if a1_0 < (l0.length : Int) then (if a1_1 = true then (if a1_0 ≤ (l0.length : Int) then (if 0 ≤ (wrap64 (a1_0 + 1)) then (if (wrap64 (a1_0 + 1)) ≤ (l0.length : Int) then ((slices_ConcatPiece.f k (([(l0.take (a1_0 : Int).toNat), (([(⟨(rd_T77 l0 a1_0).f0, a1_2⟩ : S77), (⟨(rd_T77 l0 a1_0).f0, wrap64 (((rd_T77 l0 a1_0).f1) - a1_2)⟩ : S77)] : List (S77))), (l0.drop ((wrap64 (a1_0 + 1)) : Int).toNat)] : List (List (S77))))).bind fun t311 => (some t311)) else (none)) else (none)) else (none)) else (if a1_0 ≤ (l0.length : Int) then (if 0 ≤ (wrap64 (a1_0 + 1)) then (if (wrap64 (a1_0 + 1)) ≤ (l0.length : Int) then ((slices_ConcatPiece.f k (([(l0.take (a1_0 : Int).toNat), (([(⟨a1_2, (rd_T77 l0 a1_0).f1⟩ : S77), (⟨wrap64 (((rd_T77 l0 a1_0).f0) - a1_2), (rd_T77 l0 a1_0).f1⟩ : S77)] : List (S77))), (l0.drop ((wrap64 (a1_0 + 1)) : Int).toNat)] : List (List (S77))))).bind fun t330 => (some t330)) else (none)) else (none)) else (none))) else (none)) else (none)) = some r := h
 clear h
 by_cases c3 : 0 ≤ a1_0
 ·rw [if_pos c3] at H
  have c3b0 : decide (0 ≤ a1_0) = true := decide_eq_true c3
  clear c3
  by_cases c4 : a1_0 < (l0.length : Int)
  ·rw [if_pos c4] at H
   have c4b0 : decide (a1_0 < (l0.length : Int)) = true := decide_eq_true c4
   have HP_ : Aside0 (0 < l0.length) := ⟨(by have h1_ : 0 ≤ a1_0 := of_decide_eq_true (by assumption); have h2_ : a1_0 < (l0.length : Int) := of_decide_eq_true (by assumption); omega)⟩
   clear c4
   by_cases c5 : a1_1 = true
   ·subst c5
    have H1 : (if a1_0 ≤ (l0.length : Int) then (if 0 ≤ (wrap64 (a1_0 + 1)) then (if (wrap64 (a1_0 + 1)) ≤ (l0.length : Int) then ((slices_ConcatPiece.f k (([(l0.take (a1_0 : Int).toNat), (([(⟨(rd_T77 l0 a1_0).f0, a1_2⟩ : S77), (⟨(rd_T77 l0 a1_0).f0, wrap64 (((rd_T77 l0 a1_0).f1) - a1_2)⟩ : S77)] : List (S77))), (l0.drop ((wrap64 (a1_0 + 1)) : Int).toNat)] : List (List (S77))))).bind fun t311 => (some t311)) else (none)) else (none)) else (none)) = some r := by rw [if_pos rfl] at H; exact H
    clear H
    have H := H1
    clear H1
    have c6b0 := eq_true (of_decide_eq_true (by first | (with_reducible assumption) | assumption) : 0 ≤ a1_0)
    by_cases c7 : a1_0 ≤ (l0.length : Int)
    ·rw [if_pos c7] at H
     have c7b0 := eq_true c7
     have c7b1 : decide (a1_0 ≤ (l0.length : Int)) = true := decide_eq_true c7
     clear c7
     obtain ⟨y295, hy295⟩ : ∃ y_ : List (S77), y_ = (l0.take (a1_0 : Int).toNat) := ⟨_, rfl⟩
     replace H : (if 0 ≤ (wrap64 (a1_0 + 1)) then (if (wrap64 (a1_0 + 1)) ≤ (l0.length : Int) then ((slices_ConcatPiece.f k (([y295, (([(⟨(rd_T77 l0 a1_0).f0, a1_2⟩ : S77), (⟨(rd_T77 l0 a1_0).f0, wrap64 (((rd_T77 l0 a1_0).f1) - a1_2)⟩ : S77)] : List (S77))), (l0.drop ((wrap64 (a1_0 + 1)) : Int).toNat)] : List (List (S77))))).bind fun t311 => (some t311)) else (none)) else (none)) = some r := by first | (rw [hy295]; with_reducible exact H) | (have H2_ := (Option.bind_some _ _).symm.trans H; rw [hy295]; with_reducible exact H2_) | (have H2_ := (Option.bind_some _ _).symm.trans H; with_reducible exact H2_) | with_reducible exact H | (rw [hy295]; exact H) | exact H
     have Ny295 := Aside0.mk hy295
     clear hy295
     obtain ⟨y300, hy300⟩ : ∃ y_ : List (S77), y_ = (([(⟨(rd_T77 l0 a1_0).f0, a1_2⟩ : S77), (⟨(rd_T77 l0 a1_0).f0, wrap64 (((rd_T77 l0 a1_0).f1) - a1_2)⟩ : S77)] : List (S77))) := ⟨_, rfl⟩
     replace H : (if 0 ≤ (wrap64 (a1_0 + 1)) then (if (wrap64 (a1_0 + 1)) ≤ (l0.length : Int) then ((slices_ConcatPiece.f k (([y295, y300, (l0.drop ((wrap64 (a1_0 + 1)) : Int).toNat)] : List (List (S77))))).bind fun t311 => (some t311)) else (none)) else (none)) = some r := by first | (rw [hy300]; with_reducible exact H) | (have H2_ := (Option.bind_some _ _).symm.trans H; rw [hy300]; with_reducible exact H2_) | (have H2_ := (Option.bind_some _ _).symm.trans H; with_reducible exact H2_) | with_reducible exact H | (rw [hy300]; exact H) | exact H
     have Ny300 := Aside0.mk hy300
     clear hy300
     obtain ⟨ji8, hji8⟩ : ∃ j_ : Int, (wrap64 (a1_0 + 1)) = j_ := ⟨_, rfl⟩
     replace H : (if 0 ≤ (ji8) then (if (ji8) ≤ (l0.length : Int) then ((slices_ConcatPiece.f k (([y295, y300, (l0.drop ((ji8) : Int).toNat)] : List (List (S77))))).bind fun t311 => (some t311)) else (none)) else (none)) = some r := by first | (rw [hji8] at H; exact H) | (simp only [hji8] at H ⊢; exact H)
     have hji8w : (IntKind.i64.wrap (a1_0 + 1)) = ji8 := (i64_w _).trans hji8
     by_cases c9 : 0 ≤ (ji8)
     ·rw [if_pos c9] at H
      have c9b0 := eq_true c9
      have c9b1 : decide (0 ≤ (ji8)) = true := decide_eq_true c9
      clear c9
      by_cases c10 : (ji8) ≤ (l0.length : Int)
      ·rw [if_pos c10] at H
       have c10b0 := eq_true c10
       have c10b1 : decide ((ji8) ≤ (l0.length : Int)) = true := decide_eq_true c10
       clear c10
       obtain ⟨y303, hy303⟩ : ∃ y_ : List (S77), y_ = (l0.drop ((ji8) : Int).toNat) := ⟨_, rfl⟩
       replace H : ((slices_ConcatPiece.f k (([y295, y300, y303] : List (List (S77))))).bind fun t311 => (some t311)) = some r := by first | (rw [hy303]; with_reducible exact H) | (have H2_ := (Option.bind_some _ _).symm.trans H; rw [hy303]; with_reducible exact H2_) | (have H2_ := (Option.bind_some _ _).symm.trans H; with_reducible exact H2_) | with_reducible exact H | (rw [hy303]; exact H) | exact H
       have Ny303 := Aside0.mk hy303
       clear hy303
       obtain ⟨y308, hy308⟩ : ∃ y_ : List (List (S77)), y_ = (([y295, y300, y303] : List (List (S77)))) := ⟨_, rfl⟩
       replace H : ((slices_ConcatPiece.f k y308).bind fun t311 => (some t311)) = some r := by first | (rw [hy308]; with_reducible exact H) | (have H2_ := (Option.bind_some _ _).symm.trans H; rw [hy308]; with_reducible exact H2_) | (have H2_ := (Option.bind_some _ _).symm.trans H; with_reducible exact H2_) | with_reducible exact H | (rw [hy308]; exact H) | exact H
       have Ny308 := Aside0.mk hy308
       clear hy308
       replace H := Option.bind_eq_some_iff.mp H
       obtain ⟨t311, A110, H⟩ := H
       replace H : (some t311) = some r := H
       have A11 := Aside0.mk A110
       clear A110
       obtain rfl := Option.some.inj H
       go_enter Try.func170, Try.ntmps170
       try go_wp2_with (first | ((with_reducible refine gate_dst (N := 3) rfl ?_); refine box_event ?hg (N := 3) ?hd (cs := #[.int .i64 a1_0, .bool true, .int .i64 a1_2]) (t := 85) ?hr ?_; (case hd => rfl); (case hg => rfl); (case hr => first | (go_simp; done) | (go_simp; rfl)); intro gb290 hg w12 hbox hb; have n0_ := Aside0.mk (Kd.V_below (Kd.V_elderB (by (with_reducible repeat (first | apply Kd.V_alloc | apply Kd.V_drewN | apply Kd.V_drew)); exact HO0.out) gb290 (Nat.le_of_eq hg.symm)) hb); have n1_ := Aside0.mk (below_step (hx_ HB.out) hb); have n2_ := Aside0.mk (hbox); have n3_ := Aside0.mk ((by rw [hg]; exact (below_size (hx_ HB.out)) : w.heap.size ≤ gb290)); have n4_ := Aside0.mk ((by rw [hg]; exact (below_size (hx_ HB.out)) : w.heap.size ≤ gb290)); clear HO0; clear HB; have HO0 := n0_; have HB := n1_; have BK290 := n2_; have GW290 := n3_; have GE290 := n4_; clear n0_ n1_ n2_ n3_ n4_; clear hb hbox hg))
       have n0_ := Aside0.mk (Kd.V_drew HO0.out)
       have n1_ := Aside0.mk (blk_drew BK290.out)
       have n2_ := Aside0.mk (below_drew1 HB.out)
       clear HO0
       clear BK290
       clear HB
       have HO0 := n0_
       have BK290 := n1_
       have HB := n2_
       clear n0_ n1_ n2_
       have p291 : 0 ≤ (a1_0 : Int) := of_decide_eq_true (by first | (with_reducible assumption) | assumption)
       have q291 : a1_0 < (l0.length : Int) := of_decide_eq_true (by first | (with_reducible assumption) | assumption)
       obtain ⟨ad291, e291, hx291_0, hx291_1⟩ := at_T77 (Kd.V_reads' HO0.out).2.2 a1_0 p291 q291
       cases e291
       replace p291 := eq_true p291
       replace q291 := eq_true q291
       have p292 : 0 ≤ (a1_0 : Int) := of_decide_eq_true (by first | (with_reducible assumption) | assumption)
       have q292 : a1_0 < (l0.length : Int) := of_decide_eq_true (by first | (with_reducible assumption) | assumption)
       obtain ⟨ad292, e292, hx292_0, hx292_1⟩ := at_T77 (Kd.V_reads' HO0.out).2.2 a1_0 p292 q292
       obtain rfl : ad291 = ad292 := (by injection e292)
       replace p292 := eq_true p292
       replace q292 := eq_true q292
       refine start_ (n := 14) (S := fun w' => w'.cell? ⟨gb290, 0, none⟩ = some (.int .i64 a1_0) ∧ w'.cell? ⟨gb290, 1, none⟩ = some (.bool true) ∧ w'.cell? ⟨gb290, 2, none⟩ = some (.int .i64 a1_2) ∧ w'.cell? (ad291.add ((a1_0).toNat * 2)) = some (.int .i64 ((rd_T77 l0 a1_0).f0)) ∧ w'.cell? ⟨(ad291.add ((a1_0).toNat * 2)).block, (ad291.add ((a1_0).toNat * 2)).off + 1, none⟩ = some (.int .i64 ((rd_T77 l0 a1_0).f1)) ∧ w'.cell? (ad291.add ((a1_0).toNat * 2)) = some (.int .i64 ((rd_T77 l0 a1_0).f0)) ∧ w'.cell? ⟨(ad291.add ((a1_0).toNat * 2)).block, (ad291.add ((a1_0).toNat * 2)).off + 1, none⟩ = some (.int .i64 ((rd_T77 l0 a1_0).f1))) (ds := []) #[false, false, false, false, false, false, false, false, false, false, false, false, false, false] (by kernel_rfl) rfl rfl ⟨(blk_cell BK290.out 0).trans rfl, (blk_cell BK290.out 1).trans rfl, (blk_cell BK290.out 2).trans rfl, hx291_0, hx291_1, hx292_0, hx292_1⟩ (fun hHeld => ?_); refine with_tabW impl_cut.tab1 impl_cut.bits1 (fun HT_ HW_ => ?_)
       generalize w12.drew = w13 at HO0 BK290 HB hx291_0 hx291_1 hx292_0 hx292_1 hHeld ⊢
       refine pure_ (i := 0) (N := some 7) (v := ?_) (a' := ?_) #[true, false, false, false, false, false, false, false, false, false, false, false, false, false] rfl rfl (any_of HT_.out (by kernel_rfl)) (fun _ _ _ h => h) (Or.inl ⟨by rfl, ?_⟩) ?_ ?_
       rotate_left
       ·intro w'
        go_simp
        with_reducible rfl
       rotate_left
       ·simp only [Act.put, List.setIfInBounds_toArray, List.set_cons_zero, List.set_cons_succ, i64_w, i32_w]
        rfl
       refine pure_ (i := 1) (N := some 8) (v := ?_) (a' := ?_) #[true, true, false, false, false, false, false, false, false, false, false, false, false, false] rfl rfl (any_of HT_.out (by kernel_rfl)) (fun _ _ _ h => h) (Or.inl ⟨by rfl, ?_⟩) ?_ ?_
       rotate_left
       ·intro w'
        go_simp
        with_reducible rfl
       rotate_left
       ·simp only [Act.put, List.setIfInBounds_toArray, List.set_cons_zero, List.set_cons_succ, i64_w, i32_w]
        rfl
       refine pure_ (i := 5) (N := some 12) (v := ?_) (a' := ?_) #[true, true, false, false, false, true, false, false, false, false, false, false, false, false] rfl rfl (any_of HT_.out (by kernel_rfl)) (fun _ _ _ h => h) (Or.inl ⟨by rfl, ?_⟩) ?_ ?_
       rotate_left
       ·intro w'
        go_simp
        with_reducible rfl
       rotate_left
       ·simp only [Act.put, List.setIfInBounds_toArray, List.set_cons_zero, List.set_cons_succ, i64_w, i32_w]
        rfl
       refine pure_ (i := 6) (N := some 13) (v := ?_) (a' := ?_) #[true, true, false, false, false, true, true, false, false, false, false, false, false, false] rfl rfl (any_of HT_.out (by kernel_rfl)) (fun _ _ _ h => h) (Or.inl ⟨by rfl, ?_⟩) ?_ ?_
       rotate_left
       ·intro w'
        go_simp
        with_reducible rfl
       rotate_left
       ·simp only [Act.put, List.setIfInBounds_toArray, List.set_cons_zero, List.set_cons_succ, i64_w, i32_w]
        rfl
       refine take_ (i := 2) (N := some 9) (v := ?_) (a' := ?_) #[true, true, true, false, false, true, true, false, false, false, false, false, false, false] rfl rfl (take_ofW HT_.out HW_.out (by kernel_rfl)) (fun _ _ _ h => h) (Or.inl ⟨by rfl, ?_⟩) hHeld ?_ ?_
       rotate_left
       ·rintro w' ⟨s0, s1, s2, s3, s4, s5, s6⟩
        go_simp
        with_reducible rfl
       rotate_left
       ·simp only [Act.put, List.setIfInBounds_toArray, List.set_cons_zero, List.set_cons_succ, i64_w, i32_w]
        rfl
       refine pure_ (i := 3) (N := some 10) (v := ?_) (a' := ?_) #[true, true, true, true, false, true, true, false, false, false, false, false, false, false] rfl rfl (any_of HT_.out (by kernel_rfl)) (fun _ _ _ h => h) (Or.inl ⟨by rfl, ?_⟩) ?_ ?_
       rotate_left
       ·intro w'
        go_simp
        with_reducible rfl
       rotate_left
       ·simp only [Act.put, List.setIfInBounds_toArray, List.set_cons_zero, List.set_cons_succ, i64_w, i32_w]
        rfl
       refine take_ (i := 4) (N := some 11) (v := ?_) (a' := ?_) #[true, true, true, true, true, true, true, false, false, false, false, false, false, false] rfl rfl (take_ofW HT_.out HW_.out (by kernel_rfl)) (fun _ _ _ h => h) (Or.inl ⟨by rfl, ?_⟩) hHeld ?_ ?_
       rotate_left
       ·rintro w' ⟨s0, s1, s2, s3, s4, s5, s6⟩
        go_simp
        with_reducible rfl
       rotate_left
       ·simp only [Act.put, List.setIfInBounds_toArray, List.set_cons_zero, List.set_cons_succ, i64_w, i32_w]
        rfl
       refine take_ (i := 7) (N := some 14) (v := ?_) (a' := ?_) #[true, true, true, true, true, true, true, true, false, false, false, false, false, false] rfl rfl (take_ofW HT_.out HW_.out (by kernel_rfl)) (fun _ _ _ h => h) (Or.inl ⟨by rfl, ?_⟩) hHeld ?_ ?_
       rotate_left
       ·rintro w' ⟨s0, s1, s2, s3, s4, s5, s6⟩
        go_simp
        with_reducible rfl
       rotate_left
       ·simp only [Act.put, List.setIfInBounds_toArray, List.set_cons_zero, List.set_cons_succ, i64_w, i32_w]
        rfl
       refine pure_ (i := 8) (N := some 15) (v := ?_) (a' := ?_) #[true, true, true, true, true, true, true, true, true, false, false, false, false, false] rfl rfl (any_of HT_.out (by kernel_rfl)) (fun _ _ _ h => h) (Or.inl ⟨by rfl, ?_⟩) ?_ ?_
       rotate_left
       ·intro w'
        go_simp
        with_reducible rfl
       rotate_left
       ·simp only [Act.put, List.setIfInBounds_toArray, List.set_cons_zero, List.set_cons_succ, i64_w, i32_w]
        rfl
       refine take_ (i := 9) (N := some 16) (v := ?_) (a' := ?_) #[true, true, true, true, true, true, true, true, true, true, false, false, false, false] rfl rfl (take_ofW HT_.out HW_.out (by kernel_rfl)) (fun _ _ _ h => h) (Or.inl ⟨by rfl, ?_⟩) hHeld ?_ ?_
       rotate_left
       ·rintro w' ⟨s0, s1, s2, s3, s4, s5, s6⟩
        go_simp
        with_reducible rfl
       rotate_left
       ·simp only [Act.put, List.setIfInBounds_toArray, List.set_cons_zero, List.set_cons_succ, i64_w, i32_w]
        rfl
       refine join_ (σ := Nat × Nat) 2 #[true, true, true, true, true, true, true, true, true, true, true, true, false, false] (fun s_ => [(5, .pointer (some ⟨s_.1, 0, none⟩)), (6, .pointer (some ⟨s_.2, 0, none⟩))]) (fun s_ w' => (w'.cell? ⟨gb290, 0, none⟩ = some (.int .i64 a1_0) ∧ w'.cell? ⟨gb290, 1, none⟩ = some (.bool true) ∧ w'.cell? ⟨gb290, 2, none⟩ = some (.int .i64 a1_2) ∧ w'.cell? (ad291.add ((a1_0).toNat * 2)) = some (.int .i64 ((rd_T77 l0 a1_0).f0)) ∧ w'.cell? ⟨(ad291.add ((a1_0).toNat * 2)).block, (ad291.add ((a1_0).toNat * 2)).off + 1, none⟩ = some (.int .i64 ((rd_T77 l0 a1_0).f1)) ∧ w'.cell? (ad291.add ((a1_0).toNat * 2)) = some (.int .i64 ((rd_T77 l0 a1_0).f0)) ∧ w'.cell? ⟨(ad291.add ((a1_0).toNat * 2)).block, (ad291.add ((a1_0).toNat * 2)).off + 1, none⟩ = some (.int .i64 ((rd_T77 l0 a1_0).f1))) ∧ (Kd.V k77 77 w' w.heap.size (fun k_ => (P0_ k_ ∨ w.heap.size ≤ k_) ∧ k_ ≠ gb290 ∧ k_ ≠ s_.1 ∧ k_ ≠ s_.2) (.slice (some ad291) l0.length c0) l0) ∧ (w'.heap[gb290]? = some (.cells #[.int .i64 a1_0, .bool true, .int .i64 a1_2] 85 (0, 0))) ∧ (w'.heap[s_.1]? = some (.cells #[.int .i64 0, .int .i64 0] 77 (0, 0))) ∧ (w'.heap[s_.2]? = some (.cells #[.int .i64 0, .int .i64 0] 77 (0, 0))) ∧ (w.heap.size ≤ s_.1) ∧ (w.heap.size ≤ s_.1) ∧ (gb290 ≠ s_.1) ∧ (s_.1 ≠ gb290) ∧ (s_.2 ≠ s_.1) ∧ (s_.1 ≠ s_.2) ∧ (w.heap.size ≤ s_.2) ∧ (w.heap.size ≤ s_.2) ∧ (gb290 ≠ s_.2) ∧ (s_.2 ≠ gb290) ∧ (Below w.heap.size w w')) ?_ ?_
       rotate_left
       ·intro hCont
        refine two_ (i := 10) (j := 11) (Ni := some 5) (Nj := some 6) #[true, true, true, true, true, true, true, true, true, true, true, false, false, false] #[true, true, true, true, true, true, true, true, true, true, false, true, false, false] rfl rfl rfl rfl (two_of HT_.out (by kernel_rfl)) (by decide) (by decide) (fun K hK => ?_) (fun K hK => ?_)
        ·skip
         refine box_step ?hg (N := 5) ?hd (cs := #[.int .i64 0, .int .i64 0]) (t := 77) ?hr ?_; (case hd => rfl); (case hg => rfl); (case hr => first | (go_simp; done) | (go_simp; rfl))
         intro gb293 hg w14 hbox hb
         have HS3_ := (hb.cell (World.block_lt_of_cell? _ _ (hHeld.2.2.2.1))).trans (hHeld.2.2.2.1)
         have HS4_ := (hb.cell (World.block_lt_of_cell? _ _ (hHeld.2.2.2.2.1))).trans (hHeld.2.2.2.2.1)
         have HS5_ := (hb.cell (World.block_lt_of_cell? _ _ (hHeld.2.2.2.2.2.1))).trans (hHeld.2.2.2.2.2.1)
         have HS6_ := (hb.cell (World.block_lt_of_cell? _ _ (hHeld.2.2.2.2.2.2))).trans (hHeld.2.2.2.2.2.2)
         have n0_ := Aside0.mk (Kd.V_below (Kd.V_elderB (by (with_reducible repeat (first | apply Kd.V_alloc | apply Kd.V_drewN | apply Kd.V_drew)); exact HO0.out) gb293 (Nat.le_of_eq hg.symm)) hb)
         have n1_ := Aside0.mk (blk_below (g := gb290) (o := .cells #[.int .i64 a1_0, .bool true, .int .i64 a1_2] 85 (0, 0)) (bx_ BK290.out) hb)
         have n2_ := Aside0.mk (below_step (hx_ HB.out) hb)
         have n3_ := Aside0.mk (hbox)
         have n4_ := Aside0.mk ((by rw [hg]; exact (below_size (hx_ HB.out)) : w.heap.size ≤ gb293))
         have n5_ := Aside0.mk ((by rw [hg]; exact (below_size (hx_ HB.out)) : w.heap.size ≤ gb293))
         have n6_ := Aside0.mk ((by rw [hg]; exact Nat.ne_of_lt (blk_lt (g := gb290) (o := .cells #[.int .i64 a1_0, .bool true, .int .i64 a1_2] 85 (0, 0)) (bx_ BK290.out)) : gb290 ≠ gb293))
         have n7_ := Aside0.mk ((by rw [hg]; exact Nat.ne_of_gt (blk_lt (g := gb290) (o := .cells #[.int .i64 a1_0, .bool true, .int .i64 a1_2] 85 (0, 0)) (bx_ BK290.out)) : gb293 ≠ gb290))
         clear HO0
         clear BK290
         clear HB
         have HO0 := n0_
         have BK290 := n1_
         have HB := n2_
         have BK293 := n3_
         have GW293 := n4_
         have GE293 := n5_
         have NB290_293 := n6_
         have NB293_290 := n7_
         clear n0_ n1_ n2_ n3_ n4_ n5_ n6_ n7_
         clear hb hbox hg
         refine hK.out _ _ ⟨(blk_cell BK290.out 0).trans rfl, (blk_cell BK290.out 1).trans rfl, (blk_cell BK290.out 2).trans rfl, HS3_, HS4_, HS5_, HS6_⟩ (fun hHeld => ?_)
         clear hK K
         refine norm_ (a' := ?_) ?_ ?_
         rotate_left
         ·show Act.put _ (some 5) _ = _
          simp only [Act.put, List.setIfInBounds_toArray, List.set_cons_zero, List.set_cons_succ, i64_w, i32_w]
          rfl
         refine one_ (i := 11) (N := some 6) #[true, true, true, true, true, true, true, true, true, true, true, true, false, false] rfl rfl (one_of HT_.out (by kernel_rfl)) (by decide) (fun K hK => ?_)
         refine box_step ?hg (N := 6) ?hd (cs := #[.int .i64 0, .int .i64 0]) (t := 77) ?hr ?_; (case hd => rfl); (case hg => rfl); (case hr => first | (go_simp; done) | (go_simp; rfl))
         intro gb294 hg w15 hbox hb
         have HS3_ := (hb.cell (World.block_lt_of_cell? _ _ (hHeld.2.2.2.1))).trans (hHeld.2.2.2.1)
         have HS4_ := (hb.cell (World.block_lt_of_cell? _ _ (hHeld.2.2.2.2.1))).trans (hHeld.2.2.2.2.1)
         have HS5_ := (hb.cell (World.block_lt_of_cell? _ _ (hHeld.2.2.2.2.2.1))).trans (hHeld.2.2.2.2.2.1)
         have HS6_ := (hb.cell (World.block_lt_of_cell? _ _ (hHeld.2.2.2.2.2.2))).trans (hHeld.2.2.2.2.2.2)
         have n0_ := Aside0.mk (Kd.V_below (Kd.V_elderB (by (with_reducible repeat (first | apply Kd.V_alloc | apply Kd.V_drewN | apply Kd.V_drew)); exact HO0.out) gb294 (Nat.le_of_eq hg.symm)) hb)
         have n1_ := Aside0.mk (blk_below (g := gb290) (o := .cells #[.int .i64 a1_0, .bool true, .int .i64 a1_2] 85 (0, 0)) (bx_ BK290.out) hb)
         have n2_ := Aside0.mk (blk_below (g := gb293) (o := .cells #[.int .i64 0, .int .i64 0] 77 (0, 0)) (bx_ BK293.out) hb)
         have n3_ := Aside0.mk (below_step (hx_ HB.out) hb)
         have n4_ := Aside0.mk (hbox)
         have n5_ := Aside0.mk ((by rw [hg]; exact (below_size (hx_ HB.out)) : w.heap.size ≤ gb294))
         have n6_ := Aside0.mk ((by rw [hg]; exact (below_size (hx_ HB.out)) : w.heap.size ≤ gb294))
         have n7_ := Aside0.mk ((by rw [hg]; exact Nat.ne_of_lt (blk_lt (g := gb290) (o := .cells #[.int .i64 a1_0, .bool true, .int .i64 a1_2] 85 (0, 0)) (bx_ BK290.out)) : gb290 ≠ gb294))
         have n8_ := Aside0.mk ((by rw [hg]; exact Nat.ne_of_gt (blk_lt (g := gb290) (o := .cells #[.int .i64 a1_0, .bool true, .int .i64 a1_2] 85 (0, 0)) (bx_ BK290.out)) : gb294 ≠ gb290))
         have n9_ := Aside0.mk ((by rw [hg]; exact Nat.ne_of_lt (blk_lt (g := gb293) (o := .cells #[.int .i64 0, .int .i64 0] 77 (0, 0)) (bx_ BK293.out)) : gb293 ≠ gb294))
         have n10_ := Aside0.mk ((by rw [hg]; exact Nat.ne_of_gt (blk_lt (g := gb293) (o := .cells #[.int .i64 0, .int .i64 0] 77 (0, 0)) (bx_ BK293.out)) : gb294 ≠ gb293))
         clear HO0
         clear BK290
         clear BK293
         clear HB
         have HO0 := n0_
         have BK290 := n1_
         have BK293 := n2_
         have HB := n3_
         have BK294 := n4_
         have GW294 := n5_
         have GE294 := n6_
         have NB290_294 := n7_
         have NB294_290 := n8_
         have NB293_294 := n9_
         have NB294_293 := n10_
         clear n0_ n1_ n2_ n3_ n4_ n5_ n6_ n7_ n8_ n9_ n10_
         clear hb hbox hg
         refine hK.out _ _ ⟨(blk_cell BK290.out 0).trans rfl, (blk_cell BK290.out 1).trans rfl, (blk_cell BK290.out 2).trans rfl, HS3_, HS4_, HS5_, HS6_⟩ (fun hHeld => ?_)
         clear hK K
         refine norm_ (a' := ?_) ?_ ?_
         rotate_left
         ·show Act.put _ (some 6) _ = _
          simp only [Act.put, List.setIfInBounds_toArray, List.set_cons_zero, List.set_cons_succ, i64_w, i32_w]
          rfl
         exact norm_ (by simp only [putAll, Act.put, List.setIfInBounds_toArray, List.set_cons_zero, List.set_cons_succ]) (hCont (gb293, gb294) _ ⟨hHeld, (by (with_reducible repeat (first | apply Kd.V_alloc | apply Kd.V_drewN | apply Kd.V_drew)); exact Kd.V_mono HO0.out (fun _ hk => ⟨hk.1.1.1, ⟨hk.1.1.2, ⟨hk.1.2, hk.2⟩⟩⟩)), (bx_ BK290.out), (bx_ BK293.out), (bx_ BK294.out), GW293.out, GE293.out, NB290_293.out, NB293_290.out, NB294_293.out, NB293_294.out, GW294.out, GE294.out, NB290_294.out, NB294_290.out, (hx_ HB.out)⟩)
        ·skip
         refine box_step ?hg (N := 6) ?hd (cs := #[.int .i64 0, .int .i64 0]) (t := 77) ?hr ?_; (case hd => rfl); (case hg => rfl); (case hr => first | (go_simp; done) | (go_simp; rfl))
         intro gb294 hg w14 hbox hb
         have HS3_ := (hb.cell (World.block_lt_of_cell? _ _ (hHeld.2.2.2.1))).trans (hHeld.2.2.2.1)
         have HS4_ := (hb.cell (World.block_lt_of_cell? _ _ (hHeld.2.2.2.2.1))).trans (hHeld.2.2.2.2.1)
         have HS5_ := (hb.cell (World.block_lt_of_cell? _ _ (hHeld.2.2.2.2.2.1))).trans (hHeld.2.2.2.2.2.1)
         have HS6_ := (hb.cell (World.block_lt_of_cell? _ _ (hHeld.2.2.2.2.2.2))).trans (hHeld.2.2.2.2.2.2)
         have n0_ := Aside0.mk (Kd.V_below (Kd.V_elderB (by (with_reducible repeat (first | apply Kd.V_alloc | apply Kd.V_drewN | apply Kd.V_drew)); exact HO0.out) gb294 (Nat.le_of_eq hg.symm)) hb)
         have n1_ := Aside0.mk (blk_below (g := gb290) (o := .cells #[.int .i64 a1_0, .bool true, .int .i64 a1_2] 85 (0, 0)) (bx_ BK290.out) hb)
         have n2_ := Aside0.mk (below_step (hx_ HB.out) hb)
         have n3_ := Aside0.mk (hbox)
         have n4_ := Aside0.mk ((by rw [hg]; exact (below_size (hx_ HB.out)) : w.heap.size ≤ gb294))
         have n5_ := Aside0.mk ((by rw [hg]; exact (below_size (hx_ HB.out)) : w.heap.size ≤ gb294))
         have n6_ := Aside0.mk ((by rw [hg]; exact Nat.ne_of_lt (blk_lt (g := gb290) (o := .cells #[.int .i64 a1_0, .bool true, .int .i64 a1_2] 85 (0, 0)) (bx_ BK290.out)) : gb290 ≠ gb294))
         have n7_ := Aside0.mk ((by rw [hg]; exact Nat.ne_of_gt (blk_lt (g := gb290) (o := .cells #[.int .i64 a1_0, .bool true, .int .i64 a1_2] 85 (0, 0)) (bx_ BK290.out)) : gb294 ≠ gb290))
         clear HO0
         clear BK290
         clear HB
         have HO0 := n0_
         have BK290 := n1_
         have HB := n2_
         have BK294 := n3_
         have GW294 := n4_
         have GE294 := n5_
         have NB290_294 := n6_
         have NB294_290 := n7_
         clear n0_ n1_ n2_ n3_ n4_ n5_ n6_ n7_
         clear hb hbox hg
         refine hK.out _ _ ⟨(blk_cell BK290.out 0).trans rfl, (blk_cell BK290.out 1).trans rfl, (blk_cell BK290.out 2).trans rfl, HS3_, HS4_, HS5_, HS6_⟩ (fun hHeld => ?_)
         clear hK K
         refine norm_ (a' := ?_) ?_ ?_
         rotate_left
         ·show Act.put _ (some 6) _ = _
          simp only [Act.put, List.setIfInBounds_toArray, List.set_cons_zero, List.set_cons_succ, i64_w, i32_w]
          rfl
         refine one_ (i := 10) (N := some 5) #[true, true, true, true, true, true, true, true, true, true, true, true, false, false] rfl rfl (one_of HT_.out (by kernel_rfl)) (by decide) (fun K hK => ?_)
         refine box_step ?hg (N := 5) ?hd (cs := #[.int .i64 0, .int .i64 0]) (t := 77) ?hr ?_; (case hd => rfl); (case hg => rfl); (case hr => first | (go_simp; done) | (go_simp; rfl))
         intro gb293 hg w15 hbox hb
         have HS3_ := (hb.cell (World.block_lt_of_cell? _ _ (hHeld.2.2.2.1))).trans (hHeld.2.2.2.1)
         have HS4_ := (hb.cell (World.block_lt_of_cell? _ _ (hHeld.2.2.2.2.1))).trans (hHeld.2.2.2.2.1)
         have HS5_ := (hb.cell (World.block_lt_of_cell? _ _ (hHeld.2.2.2.2.2.1))).trans (hHeld.2.2.2.2.2.1)
         have HS6_ := (hb.cell (World.block_lt_of_cell? _ _ (hHeld.2.2.2.2.2.2))).trans (hHeld.2.2.2.2.2.2)
         have n0_ := Aside0.mk (Kd.V_below (Kd.V_elderB (by (with_reducible repeat (first | apply Kd.V_alloc | apply Kd.V_drewN | apply Kd.V_drew)); exact HO0.out) gb293 (Nat.le_of_eq hg.symm)) hb)
         have n1_ := Aside0.mk (blk_below (g := gb290) (o := .cells #[.int .i64 a1_0, .bool true, .int .i64 a1_2] 85 (0, 0)) (bx_ BK290.out) hb)
         have n2_ := Aside0.mk (blk_below (g := gb294) (o := .cells #[.int .i64 0, .int .i64 0] 77 (0, 0)) (bx_ BK294.out) hb)
         have n3_ := Aside0.mk (below_step (hx_ HB.out) hb)
         have n4_ := Aside0.mk (hbox)
         have n5_ := Aside0.mk ((by rw [hg]; exact (below_size (hx_ HB.out)) : w.heap.size ≤ gb293))
         have n6_ := Aside0.mk ((by rw [hg]; exact (below_size (hx_ HB.out)) : w.heap.size ≤ gb293))
         have n7_ := Aside0.mk ((by rw [hg]; exact Nat.ne_of_lt (blk_lt (g := gb290) (o := .cells #[.int .i64 a1_0, .bool true, .int .i64 a1_2] 85 (0, 0)) (bx_ BK290.out)) : gb290 ≠ gb293))
         have n8_ := Aside0.mk ((by rw [hg]; exact Nat.ne_of_gt (blk_lt (g := gb290) (o := .cells #[.int .i64 a1_0, .bool true, .int .i64 a1_2] 85 (0, 0)) (bx_ BK290.out)) : gb293 ≠ gb290))
         have n9_ := Aside0.mk ((by rw [hg]; exact Nat.ne_of_lt (blk_lt (g := gb294) (o := .cells #[.int .i64 0, .int .i64 0] 77 (0, 0)) (bx_ BK294.out)) : gb294 ≠ gb293))
         have n10_ := Aside0.mk ((by rw [hg]; exact Nat.ne_of_gt (blk_lt (g := gb294) (o := .cells #[.int .i64 0, .int .i64 0] 77 (0, 0)) (bx_ BK294.out)) : gb293 ≠ gb294))
         clear HO0
         clear BK290
         clear BK294
         clear HB
         have HO0 := n0_
         have BK290 := n1_
         have BK294 := n2_
         have HB := n3_
         have BK293 := n4_
         have GW293 := n5_
         have GE293 := n6_
         have NB290_293 := n7_
         have NB293_290 := n8_
         have NB294_293 := n9_
         have NB293_294 := n10_
         clear n0_ n1_ n2_ n3_ n4_ n5_ n6_ n7_ n8_ n9_ n10_
         clear hb hbox hg
         refine hK.out _ _ ⟨(blk_cell BK290.out 0).trans rfl, (blk_cell BK290.out 1).trans rfl, (blk_cell BK290.out 2).trans rfl, HS3_, HS4_, HS5_, HS6_⟩ (fun hHeld => ?_)
         clear hK K
         refine norm_ (a' := ?_) ?_ ?_
         rotate_left
         ·show Act.put _ (some 5) _ = _
          simp only [Act.put, List.setIfInBounds_toArray, List.set_cons_zero, List.set_cons_succ, i64_w, i32_w]
          rfl
         exact norm_ (by simp only [putAll, Act.put, List.setIfInBounds_toArray, List.set_cons_zero, List.set_cons_succ]) (hCont (gb293, gb294) _ ⟨hHeld, (by (with_reducible repeat (first | apply Kd.V_alloc | apply Kd.V_drewN | apply Kd.V_drew)); exact Kd.V_mono HO0.out (fun _ hk => ⟨hk.1.1.1, ⟨hk.1.1.2, ⟨hk.2, hk.1.2⟩⟩⟩)), (bx_ BK290.out), (bx_ BK293.out), (bx_ BK294.out), GW293.out, GE293.out, NB290_293.out, NB293_290.out, NB294_293.out, NB293_294.out, GW294.out, GE294.out, NB290_294.out, NB294_290.out, (hx_ HB.out)⟩)
       rintro ⟨gb293, gb294⟩ w16 ⟨hS_, h0_, h1_, h2_, h3_, h4_, h5_, h6_, h7_, h8_, h9_, h10_, h11_, h12_, h13_, h14_⟩
       have n0_ : Aside0 (Kd.V k77 77 w16 w.heap.size (fun k_ => (P0_ k_ ∨ w.heap.size ≤ k_) ∧ k_ ≠ gb290 ∧ k_ ≠ gb293 ∧ k_ ≠ gb294) (.slice (some ad291) l0.length c0) l0) := ⟨h0_⟩
       have n1_ : Aside0 (w16.heap[gb290]? = some (.cells #[.int .i64 a1_0, .bool true, .int .i64 a1_2] 85 (0, 0))) := ⟨h1_⟩
       have n2_ : Aside0 (w16.heap[gb293]? = some (.cells #[.int .i64 0, .int .i64 0] 77 (0, 0))) := ⟨h2_⟩
       have n3_ : Aside0 (w16.heap[gb294]? = some (.cells #[.int .i64 0, .int .i64 0] 77 (0, 0))) := ⟨h3_⟩
       have n4_ : Aside0 (w.heap.size ≤ gb293) := ⟨h4_⟩
       have n5_ : Aside0 (w.heap.size ≤ gb293) := ⟨h5_⟩
       have n6_ : Aside0 (gb290 ≠ gb293) := ⟨h6_⟩
       have n7_ : Aside0 (gb293 ≠ gb290) := ⟨h7_⟩
       have n8_ : Aside0 (gb294 ≠ gb293) := ⟨h8_⟩
       have n9_ : Aside0 (gb293 ≠ gb294) := ⟨h9_⟩
       have n10_ : Aside0 (w.heap.size ≤ gb294) := ⟨h10_⟩
       have n11_ : Aside0 (w.heap.size ≤ gb294) := ⟨h11_⟩
       have n12_ : Aside0 (gb290 ≠ gb294) := ⟨h12_⟩
       have n13_ : Aside0 (gb294 ≠ gb290) := ⟨h13_⟩
       have n14_ : Aside0 (Below w.heap.size w w16) := ⟨h14_⟩
       clear HO0
       clear BK290
       clear HB
       clear h0_ h1_ h2_ h3_ h4_ h5_ h6_ h7_ h8_ h9_ h10_ h11_ h12_ h13_ h14_
       have HO0 := n0_
       have BK290 := n1_
       have BK293 := n2_
       have BK294 := n3_
       have GW293 := n4_
       have GE293 := n5_
       have NB290_293 := n6_
       have NB293_290 := n7_
       have NB294_293 := n8_
       have NB293_294 := n9_
       have GW294 := n10_
       have GE294 := n11_
       have NB290_294 := n12_
       have NB294_290 := n13_
       have HB := n14_
       clear n0_ n1_ n2_ n3_ n4_ n5_ n6_ n7_ n8_ n9_ n10_ n11_ n12_ n13_ n14_
       have hHeld : w16.cell? ⟨gb290, 0, none⟩ = some (.int .i64 a1_0) ∧ w16.cell? ⟨gb290, 1, none⟩ = some (.bool true) ∧ w16.cell? ⟨gb290, 2, none⟩ = some (.int .i64 a1_2) ∧ w16.cell? (ad291.add ((a1_0).toNat * 2)) = some (.int .i64 ((rd_T77 l0 a1_0).f0)) ∧ w16.cell? ⟨(ad291.add ((a1_0).toNat * 2)).block, (ad291.add ((a1_0).toNat * 2)).off + 1, none⟩ = some (.int .i64 ((rd_T77 l0 a1_0).f1)) ∧ w16.cell? (ad291.add ((a1_0).toNat * 2)) = some (.int .i64 ((rd_T77 l0 a1_0).f0)) ∧ w16.cell? ⟨(ad291.add ((a1_0).toNat * 2)).block, (ad291.add ((a1_0).toNat * 2)).off + 1, none⟩ = some (.int .i64 ((rd_T77 l0 a1_0).f1)) := hS_
       refine norm_ (a' := ?_) ?_ ?_
       rotate_left
       ·simp only [putAll, Act.put, List.setIfInBounds_toArray, List.set_cons_zero, List.set_cons_succ]
        rfl
       refine one_ (i := 12) (N := none) #[true, true, true, true, true, true, true, true, true, true, true, true, true, false] rfl rfl (one_of HT_.out (by kernel_rfl)) (by decide) (fun K hK => ?_)
       have hs17 : w16.cell? ⟨gb293, 0, none⟩ = some (.int .i64 0) := (blk_cell BK293.out 0).trans rfl
       have hfs17 := blk_frozen BK293.out 0
       have hns17_0 := NB290_293.out
       have hns17_2 := NB294_293.out
       have hms17_0 := NB293_290.out
       have hms17_2 := NB293_294.out
       have hs18 : w16.cell? ⟨gb293, 1, none⟩ = some (.int .i64 0) := (blk_cell BK293.out 1).trans rfl
       have hfs18 := blk_frozen BK293.out 1
       have hns18_0 := NB290_293.out
       have hns18_2 := NB294_293.out
       have hms18_0 := NB293_290.out
       have hms18_2 := NB293_294.out
       refine skip_ (w1 := ?_) (by rfl) rfl ?_ ?_
       rotate_left
       ·go_simp
        rfl
       refine hK.out _ _ ⟨((cell_far (p := ⟨gb293, _, none⟩) NB290_293.out _).trans (((cell_far (p := ⟨gb293, _, none⟩) NB290_293.out _).trans (hHeld.1)))), ((cell_far (p := ⟨gb293, _, none⟩) NB290_293.out _).trans (((cell_far (p := ⟨gb293, _, none⟩) NB290_293.out _).trans (hHeld.2.1)))), ((cell_far (p := ⟨gb293, _, none⟩) NB290_293.out _).trans (((cell_far (p := ⟨gb293, _, none⟩) NB290_293.out _).trans (hHeld.2.2.1)))), ((cell_far (p := ⟨gb293, _, none⟩) (by first | exact Kd.own_blk (HandG.va HO0.out (fun _ hk => hk.2.2.1)) | (rw [add_block]; exact Kd.own_blk (HandG.va HO0.out (fun _ hk => hk.2.2.1))) | (show (Addr.add _ _).block ≠ _; rw [add_block]; exact Kd.own_blk (HandG.va HO0.out (fun _ hk => hk.2.2.1))) | (dsimp only; exact Kd.own_blk (HandG.va HO0.out (fun _ hk => hk.2.2.1)))) _).trans (((cell_far (p := ⟨gb293, _, none⟩) (by first | exact Kd.own_blk (HandG.va HO0.out (fun _ hk => hk.2.2.1)) | (rw [add_block]; exact Kd.own_blk (HandG.va HO0.out (fun _ hk => hk.2.2.1))) | (show (Addr.add _ _).block ≠ _; rw [add_block]; exact Kd.own_blk (HandG.va HO0.out (fun _ hk => hk.2.2.1))) | (dsimp only; exact Kd.own_blk (HandG.va HO0.out (fun _ hk => hk.2.2.1)))) _).trans (hHeld.2.2.2.1)))), ((cell_far (p := ⟨gb293, _, none⟩) (by first | exact Kd.own_blk (HandG.va HO0.out (fun _ hk => hk.2.2.1)) | (rw [add_block]; exact Kd.own_blk (HandG.va HO0.out (fun _ hk => hk.2.2.1))) | (show (Addr.add _ _).block ≠ _; rw [add_block]; exact Kd.own_blk (HandG.va HO0.out (fun _ hk => hk.2.2.1))) | (dsimp only; exact Kd.own_blk (HandG.va HO0.out (fun _ hk => hk.2.2.1)))) _).trans (((cell_far (p := ⟨gb293, _, none⟩) (by first | exact Kd.own_blk (HandG.va HO0.out (fun _ hk => hk.2.2.1)) | (rw [add_block]; exact Kd.own_blk (HandG.va HO0.out (fun _ hk => hk.2.2.1))) | (show (Addr.add _ _).block ≠ _; rw [add_block]; exact Kd.own_blk (HandG.va HO0.out (fun _ hk => hk.2.2.1))) | (dsimp only; exact Kd.own_blk (HandG.va HO0.out (fun _ hk => hk.2.2.1)))) _).trans (hHeld.2.2.2.2.1)))), ((cell_far (p := ⟨gb293, _, none⟩) (by first | exact Kd.own_blk (HandG.va HO0.out (fun _ hk => hk.2.2.1)) | (rw [add_block]; exact Kd.own_blk (HandG.va HO0.out (fun _ hk => hk.2.2.1))) | (show (Addr.add _ _).block ≠ _; rw [add_block]; exact Kd.own_blk (HandG.va HO0.out (fun _ hk => hk.2.2.1))) | (dsimp only; exact Kd.own_blk (HandG.va HO0.out (fun _ hk => hk.2.2.1)))) _).trans (((cell_far (p := ⟨gb293, _, none⟩) (by first | exact Kd.own_blk (HandG.va HO0.out (fun _ hk => hk.2.2.1)) | (rw [add_block]; exact Kd.own_blk (HandG.va HO0.out (fun _ hk => hk.2.2.1))) | (show (Addr.add _ _).block ≠ _; rw [add_block]; exact Kd.own_blk (HandG.va HO0.out (fun _ hk => hk.2.2.1))) | (dsimp only; exact Kd.own_blk (HandG.va HO0.out (fun _ hk => hk.2.2.1)))) _).trans (hHeld.2.2.2.2.2.1)))), ((cell_far (p := ⟨gb293, _, none⟩) (by first | exact Kd.own_blk (HandG.va HO0.out (fun _ hk => hk.2.2.1)) | (rw [add_block]; exact Kd.own_blk (HandG.va HO0.out (fun _ hk => hk.2.2.1))) | (show (Addr.add _ _).block ≠ _; rw [add_block]; exact Kd.own_blk (HandG.va HO0.out (fun _ hk => hk.2.2.1))) | (dsimp only; exact Kd.own_blk (HandG.va HO0.out (fun _ hk => hk.2.2.1)))) _).trans (((cell_far (p := ⟨gb293, _, none⟩) (by first | exact Kd.own_blk (HandG.va HO0.out (fun _ hk => hk.2.2.1)) | (rw [add_block]; exact Kd.own_blk (HandG.va HO0.out (fun _ hk => hk.2.2.1))) | (show (Addr.add _ _).block ≠ _; rw [add_block]; exact Kd.own_blk (HandG.va HO0.out (fun _ hk => hk.2.2.1))) | (dsimp only; exact Kd.own_blk (HandG.va HO0.out (fun _ hk => hk.2.2.1)))) _).trans (hHeld.2.2.2.2.2.2))))⟩ (fun hHeld => ?_)
       clear hK K
       refine one_ (i := 13) (N := none) #[true, true, true, true, true, true, true, true, true, true, true, true, true, true] rfl rfl (one_of HT_.out (by kernel_rfl)) (by decide) (fun K hK => ?_)
       have hs19 : w16.cell? ⟨gb294, 0, none⟩ = some (.int .i64 0) := (blk_cell BK294.out 0).trans rfl
       have hfs19 := blk_frozen BK294.out 0
       have hns19_0 := NB290_294.out
       have hns19_1 := NB293_294.out
       have hms19_0 := NB294_290.out
       have hms19_1 := NB294_293.out
       have hs20 : w16.cell? ⟨gb294, 1, none⟩ = some (.int .i64 0) := (blk_cell BK294.out 1).trans rfl
       have hfs20 := blk_frozen BK294.out 1
       have hns20_0 := NB290_294.out
       have hns20_1 := NB293_294.out
       have hms20_0 := NB294_290.out
       have hms20_1 := NB294_293.out
       refine skip_ (w1 := ?_) (by rfl) rfl ?_ ?_
       rotate_left
       ·go_simp
        rfl
       refine hK.out _ _ ⟨((cell_far (p := ⟨gb294, _, none⟩) NB290_294.out _).trans (((cell_far (p := ⟨gb294, _, none⟩) NB290_294.out _).trans (hHeld.1)))), ((cell_far (p := ⟨gb294, _, none⟩) NB290_294.out _).trans (((cell_far (p := ⟨gb294, _, none⟩) NB290_294.out _).trans (hHeld.2.1)))), ((cell_far (p := ⟨gb294, _, none⟩) NB290_294.out _).trans (((cell_far (p := ⟨gb294, _, none⟩) NB290_294.out _).trans (hHeld.2.2.1)))), ((cell_far (p := ⟨gb294, _, none⟩) (by first | exact Kd.own_blk (HandG.va HO0.out (fun _ hk => hk.2.2.2)) | (rw [add_block]; exact Kd.own_blk (HandG.va HO0.out (fun _ hk => hk.2.2.2))) | (show (Addr.add _ _).block ≠ _; rw [add_block]; exact Kd.own_blk (HandG.va HO0.out (fun _ hk => hk.2.2.2))) | (dsimp only; exact Kd.own_blk (HandG.va HO0.out (fun _ hk => hk.2.2.2)))) _).trans (((cell_far (p := ⟨gb294, _, none⟩) (by first | exact Kd.own_blk (HandG.va HO0.out (fun _ hk => hk.2.2.2)) | (rw [add_block]; exact Kd.own_blk (HandG.va HO0.out (fun _ hk => hk.2.2.2))) | (show (Addr.add _ _).block ≠ _; rw [add_block]; exact Kd.own_blk (HandG.va HO0.out (fun _ hk => hk.2.2.2))) | (dsimp only; exact Kd.own_blk (HandG.va HO0.out (fun _ hk => hk.2.2.2)))) _).trans (hHeld.2.2.2.1)))), ((cell_far (p := ⟨gb294, _, none⟩) (by first | exact Kd.own_blk (HandG.va HO0.out (fun _ hk => hk.2.2.2)) | (rw [add_block]; exact Kd.own_blk (HandG.va HO0.out (fun _ hk => hk.2.2.2))) | (show (Addr.add _ _).block ≠ _; rw [add_block]; exact Kd.own_blk (HandG.va HO0.out (fun _ hk => hk.2.2.2))) | (dsimp only; exact Kd.own_blk (HandG.va HO0.out (fun _ hk => hk.2.2.2)))) _).trans (((cell_far (p := ⟨gb294, _, none⟩) (by first | exact Kd.own_blk (HandG.va HO0.out (fun _ hk => hk.2.2.2)) | (rw [add_block]; exact Kd.own_blk (HandG.va HO0.out (fun _ hk => hk.2.2.2))) | (show (Addr.add _ _).block ≠ _; rw [add_block]; exact Kd.own_blk (HandG.va HO0.out (fun _ hk => hk.2.2.2))) | (dsimp only; exact Kd.own_blk (HandG.va HO0.out (fun _ hk => hk.2.2.2)))) _).trans (hHeld.2.2.2.2.1)))), ((cell_far (p := ⟨gb294, _, none⟩) (by first | exact Kd.own_blk (HandG.va HO0.out (fun _ hk => hk.2.2.2)) | (rw [add_block]; exact Kd.own_blk (HandG.va HO0.out (fun _ hk => hk.2.2.2))) | (show (Addr.add _ _).block ≠ _; rw [add_block]; exact Kd.own_blk (HandG.va HO0.out (fun _ hk => hk.2.2.2))) | (dsimp only; exact Kd.own_blk (HandG.va HO0.out (fun _ hk => hk.2.2.2)))) _).trans (((cell_far (p := ⟨gb294, _, none⟩) (by first | exact Kd.own_blk (HandG.va HO0.out (fun _ hk => hk.2.2.2)) | (rw [add_block]; exact Kd.own_blk (HandG.va HO0.out (fun _ hk => hk.2.2.2))) | (show (Addr.add _ _).block ≠ _; rw [add_block]; exact Kd.own_blk (HandG.va HO0.out (fun _ hk => hk.2.2.2))) | (dsimp only; exact Kd.own_blk (HandG.va HO0.out (fun _ hk => hk.2.2.2)))) _).trans (hHeld.2.2.2.2.2.1)))), ((cell_far (p := ⟨gb294, _, none⟩) (by first | exact Kd.own_blk (HandG.va HO0.out (fun _ hk => hk.2.2.2)) | (rw [add_block]; exact Kd.own_blk (HandG.va HO0.out (fun _ hk => hk.2.2.2))) | (show (Addr.add _ _).block ≠ _; rw [add_block]; exact Kd.own_blk (HandG.va HO0.out (fun _ hk => hk.2.2.2))) | (dsimp only; exact Kd.own_blk (HandG.va HO0.out (fun _ hk => hk.2.2.2)))) _).trans (((cell_far (p := ⟨gb294, _, none⟩) (by first | exact Kd.own_blk (HandG.va HO0.out (fun _ hk => hk.2.2.2)) | (rw [add_block]; exact Kd.own_blk (HandG.va HO0.out (fun _ hk => hk.2.2.2))) | (show (Addr.add _ _).block ≠ _; rw [add_block]; exact Kd.own_blk (HandG.va HO0.out (fun _ hk => hk.2.2.2))) | (dsimp only; exact Kd.own_blk (HandG.va HO0.out (fun _ hk => hk.2.2.2)))) _).trans (hHeld.2.2.2.2.2.2))))⟩ (fun hHeld => ?_)
       clear hK K
       refine done_ (done_of HT_.out (by kernel_rfl)) ?_
       have hnb21 := NB290_293.out
       have hnc21 := NB293_290.out
       have hnb22 := NB290_294.out
       have hnc22 := NB294_290.out
       have hcz23_0 : w16.cell? ⟨gb290, 0, none⟩ = some (.int .i64 a1_0) := (blk_cell BK290.out 0).trans rfl
       have hcz23_1 : w16.cell? ⟨gb290, 1, none⟩ = some (.bool true) := (blk_cell BK290.out 1).trans rfl
       have hcz23_2 : w16.cell? ⟨gb290, 2, none⟩ = some (.int .i64 a1_2) := (blk_cell BK290.out 2).trans rfl
       have hfz23_0 := blk_frozen BK290.out 0
       have hfz23_1 := blk_frozen BK290.out 1
       have hfz23_2 := blk_frozen BK290.out 2
       try go_wp2
       have n0_ : Aside0 (Kd.V k77 77 ((((w16.setCell ⟨gb293, 0, none⟩ (.int .i64 ((rd_T77 l0 a1_0).f0))).setCell ⟨gb293, 1, none⟩ (.int .i64 ((rd_T77 l0 a1_0).f1))).setCell ⟨gb294, 0, none⟩ (.int .i64 ((rd_T77 l0 a1_0).f0))).setCell ⟨gb294, 1, none⟩ (.int .i64 ((rd_T77 l0 a1_0).f1))) w.heap.size (fun k_ => (P0_ k_ ∨ w.heap.size ≤ k_) ∧ k_ ≠ gb290 ∧ k_ ≠ gb293 ∧ k_ ≠ gb294) (.slice (some ad291) l0.length c0) l0) := ⟨by (with_reducible repeat (first | apply Kd.V_alloc | apply Kd.V_drewN | apply Kd.V_drew)); exact Kd.V_mono (Kd.V_far (p := ⟨gb294, 1, none⟩) (Kd.V_far (p := ⟨gb294, 0, none⟩) (Kd.V_far (p := ⟨gb293, 1, none⟩) (Kd.V_far (p := ⟨gb293, 0, none⟩) (Kd.V_mono (Kd.V_mono HO0.out (fun k_ hk => (⟨hk, hk.2.2.1⟩ : _ ∧ k_ ≠ gb293))) (fun k_ hk => (⟨hk, hk.1.2.2.2⟩ : _ ∧ k_ ≠ gb294))) (fun _ hk => hk.1.2) (.int .i64 ((rd_T77 l0 a1_0).f0))) (fun _ hk => hk.1.2) (.int .i64 ((rd_T77 l0 a1_0).f1))) (fun _ hk => hk.2) (.int .i64 ((rd_T77 l0 a1_0).f0))) (fun _ hk => hk.2) (.int .i64 ((rd_T77 l0 a1_0).f1))) (fun _ hk => ⟨hk.1.1.1, ⟨hk.1.1.2.1, ⟨hk.1.1.2.2.1, hk.1.1.2.2.2⟩⟩⟩)⟩
       have n1_ : Aside0 (((((w16.setCell ⟨gb293, 0, none⟩ (.int .i64 ((rd_T77 l0 a1_0).f0))).setCell ⟨gb293, 1, none⟩ (.int .i64 ((rd_T77 l0 a1_0).f1))).setCell ⟨gb294, 0, none⟩ (.int .i64 ((rd_T77 l0 a1_0).f0))).setCell ⟨gb294, 1, none⟩ (.int .i64 ((rd_T77 l0 a1_0).f1))).heap[gb290]? = some (.cells #[.int .i64 a1_0, .bool true, .int .i64 a1_2] 85 (0, 0))) := ⟨bx_ BK290.out⟩
       have n2_ : Aside0 (((((w16.setCell ⟨gb293, 0, none⟩ (.int .i64 ((rd_T77 l0 a1_0).f0))).setCell ⟨gb293, 1, none⟩ (.int .i64 ((rd_T77 l0 a1_0).f1))).setCell ⟨gb294, 0, none⟩ (.int .i64 ((rd_T77 l0 a1_0).f0))).setCell ⟨gb294, 1, none⟩ (.int .i64 ((rd_T77 l0 a1_0).f1))).heap[gb293]? = some (.cells #[.int .i64 ((rd_T77 l0 a1_0).f0), .int .i64 ((rd_T77 l0 a1_0).f1)] 77 (0, 0))) := ⟨by (with_reducible repeat (first | refine blk_drewN ?_ _ | refine blk_drew ?_ | refine blk_alloc ?_ _)); refine blk_far ?_ NB293_294.out _; (with_reducible repeat (first | refine blk_drewN ?_ _ | refine blk_drew ?_ | refine blk_alloc ?_ _)); refine blk_far ?_ NB293_294.out _; (with_reducible repeat (first | refine blk_drewN ?_ _ | refine blk_drew ?_ | refine blk_alloc ?_ _)); refine blk_put (cs := #[.int .i64 ((rd_T77 l0 a1_0).f0), .int .i64 0]) ?_ 1 _ rfl; (with_reducible repeat (first | refine blk_drewN ?_ _ | refine blk_drew ?_ | refine blk_alloc ?_ _)); refine blk_put (cs := #[.int .i64 0, .int .i64 0]) ?_ 0 _ rfl; (with_reducible repeat (first | refine blk_drewN ?_ _ | refine blk_drew ?_ | refine blk_alloc ?_ _)); exact BK293.out⟩
       have n3_ : Aside0 (((((w16.setCell ⟨gb293, 0, none⟩ (.int .i64 ((rd_T77 l0 a1_0).f0))).setCell ⟨gb293, 1, none⟩ (.int .i64 ((rd_T77 l0 a1_0).f1))).setCell ⟨gb294, 0, none⟩ (.int .i64 ((rd_T77 l0 a1_0).f0))).setCell ⟨gb294, 1, none⟩ (.int .i64 ((rd_T77 l0 a1_0).f1))).heap[gb294]? = some (.cells #[.int .i64 ((rd_T77 l0 a1_0).f0), .int .i64 ((rd_T77 l0 a1_0).f1)] 77 (0, 0))) := ⟨by (with_reducible repeat (first | refine blk_drewN ?_ _ | refine blk_drew ?_ | refine blk_alloc ?_ _)); refine blk_put (cs := #[.int .i64 ((rd_T77 l0 a1_0).f0), .int .i64 0]) ?_ 1 _ rfl; (with_reducible repeat (first | refine blk_drewN ?_ _ | refine blk_drew ?_ | refine blk_alloc ?_ _)); refine blk_put (cs := #[.int .i64 0, .int .i64 0]) ?_ 0 _ rfl; (with_reducible repeat (first | refine blk_drewN ?_ _ | refine blk_drew ?_ | refine blk_alloc ?_ _)); refine blk_far ?_ NB294_293.out _; (with_reducible repeat (first | refine blk_drewN ?_ _ | refine blk_drew ?_ | refine blk_alloc ?_ _)); refine blk_far ?_ NB294_293.out _; (with_reducible repeat (first | refine blk_drewN ?_ _ | refine blk_drew ?_ | refine blk_alloc ?_ _)); exact BK294.out⟩
       have n4_ : Aside0 (Below w.heap.size w ((((w16.setCell ⟨gb293, 0, none⟩ (.int .i64 ((rd_T77 l0 a1_0).f0))).setCell ⟨gb293, 1, none⟩ (.int .i64 ((rd_T77 l0 a1_0).f1))).setCell ⟨gb294, 0, none⟩ (.int .i64 ((rd_T77 l0 a1_0).f0))).setCell ⟨gb294, 1, none⟩ (.int .i64 ((rd_T77 l0 a1_0).f1)))) := ⟨hx_ HB.out⟩
       (try clear HO0)
       (try clear BK290)
       (try clear BK293)
       (try clear BK294)
       (try clear HB)
       generalize ((((w16.setCell ⟨gb293, 0, none⟩ (.int .i64 ((rd_T77 l0 a1_0).f0))).setCell ⟨gb293, 1, none⟩ (.int .i64 ((rd_T77 l0 a1_0).f1))).setCell ⟨gb294, 0, none⟩ (.int .i64 ((rd_T77 l0 a1_0).f0))).setCell ⟨gb294, 1, none⟩ (.int .i64 ((rd_T77 l0 a1_0).f1))) = w24 at n0_ n1_ n2_ n3_ n4_ ⊢
       have HO0 := n0_
       have BK290 := n1_
       have BK293 := n2_
       have BK294 := n3_
       have HB := n4_
       clear n0_ n1_ n2_ n3_ n4_
       have n0_ := Aside0.mk (Kd.V_drew HO0.out)
       have n1_ := Aside0.mk (blk_drew BK290.out)
       have n2_ := Aside0.mk (blk_drew BK293.out)
       have n3_ := Aside0.mk (blk_drew BK294.out)
       have n4_ := Aside0.mk (below_drew1 HB.out)
       clear HO0
       clear BK290
       clear BK293
       clear BK294
       clear HB
       have HO0 := n0_
       have BK290 := n1_
       have BK293 := n2_
       have BK294 := n3_
       have HB := n4_
       clear n0_ n1_ n2_ n3_ n4_
       refine start_ (n := 11) (S := fun w' => w'.cell? ⟨gb290, 0, none⟩ = some (.int .i64 a1_0) ∧ w'.cell? ⟨gb290, 1, none⟩ = some (.bool true) ∧ w'.cell? ⟨gb290, 2, none⟩ = some (.int .i64 a1_2) ∧ w'.cell? ⟨gb294, 0, none⟩ = some (.int .i64 ((rd_T77 l0 a1_0).f0)) ∧ w'.cell? ⟨gb294, 1, none⟩ = some (.int .i64 ((rd_T77 l0 a1_0).f1))) (ds := [10]) #[false, false, false, false, false, false, false, false, false, false, false] (by kernel_rfl) rfl rfl ⟨(blk_cell BK290.out 0).trans rfl, (blk_cell BK290.out 1).trans rfl, (blk_cell BK290.out 2).trans rfl, (blk_cell BK294.out 0).trans rfl, (blk_cell BK294.out 1).trans rfl⟩ (fun hHeld => ?_); refine with_tabW impl_cut.tab3 impl_cut.bits3 (fun HT_ HW_ => ?_)
       generalize w24.drew = w25 at HO0 BK290 BK293 BK294 HB hHeld ⊢
       refine pure_ (i := 0) (N := some 19) (v := ?_) (a' := ?_) #[true, false, false, false, false, false, false, false, false, false, false] rfl rfl (any_of HT_.out (by kernel_rfl)) (fun _ _ _ h => h) (Or.inl ⟨by rfl, ?_⟩) ?_ ?_
       rotate_left
       ·intro w'
        go_simp
        with_reducible rfl
       rotate_left
       ·simp only [Act.put, List.setIfInBounds_toArray, List.set_cons_zero, List.set_cons_succ, i64_w, i32_w]
        rfl
       refine pure_ (i := 2) (N := some 21) (v := ?_) (a' := ?_) #[true, false, true, false, false, false, false, false, false, false, false] rfl rfl (any_of HT_.out (by kernel_rfl)) (fun _ _ _ h => h) (Or.inl ⟨by rfl, ?_⟩) ?_ ?_
       rotate_left
       ·intro w'
        go_simp
        with_reducible rfl
       rotate_left
       ·simp only [Act.put, List.setIfInBounds_toArray, List.set_cons_zero, List.set_cons_succ, i64_w, i32_w]
        rfl
       refine pure_ (i := 4) (N := some 23) (v := ?_) (a' := ?_) #[true, false, true, false, true, false, false, false, false, false, false] rfl rfl (any_of HT_.out (by kernel_rfl)) (fun _ _ _ h => h) (Or.inl ⟨by rfl, ?_⟩) ?_ ?_
       rotate_left
       ·intro w'
        go_simp
        with_reducible rfl
       rotate_left
       ·simp only [Act.put, List.setIfInBounds_toArray, List.set_cons_zero, List.set_cons_succ, i64_w, i32_w]
        rfl
       refine take_ (i := 1) (N := some 20) (v := ?_) (a' := ?_) #[true, true, true, false, true, false, false, false, false, false, false] rfl rfl (take_ofW HT_.out HW_.out (by kernel_rfl)) (fun _ _ _ h => h) (Or.inl ⟨by rfl, ?_⟩) hHeld ?_ ?_
       rotate_left
       ·rintro w' ⟨s0, s1, s2, s3, s4⟩
        go_simp
        with_reducible rfl
       rotate_left
       ·simp only [Act.put, List.setIfInBounds_toArray, List.set_cons_zero, List.set_cons_succ, i64_w, i32_w]
        rfl
       refine pure_ (i := 7) (N := some 26) (v := ?_) (a' := ?_) #[true, true, true, false, true, false, false, true, false, false, false] rfl rfl (any_of HT_.out (by kernel_rfl)) (fun _ _ _ h => h) (Or.inl ⟨by rfl, ?_⟩) ?_ ?_
       rotate_left
       ·intro w'
        go_simp
        with_reducible rfl
       rotate_left
       ·simp only [Act.put, List.setIfInBounds_toArray, List.set_cons_zero, List.set_cons_succ, i64_w, i32_w]
        rfl
       refine take_ (i := 3) (N := some 22) (v := ?_) (a' := ?_) #[true, true, true, true, true, false, false, true, false, false, false] rfl rfl (take_ofW HT_.out HW_.out (by kernel_rfl)) (fun _ _ _ h => h) (Or.inl ⟨by rfl, ?_⟩) hHeld ?_ ?_
       rotate_left
       ·rintro w' ⟨s0, s1, s2, s3, s4⟩
        go_simp
        with_reducible rfl
       rotate_left
       ·simp only [Act.put, List.setIfInBounds_toArray, List.set_cons_zero, List.set_cons_succ, i64_w, i32_w]
        rfl
       refine take_ (i := 5) (N := some 24) (v := ?_) (a' := ?_) #[true, true, true, true, true, true, false, true, false, false, false] rfl rfl (take_ofW HT_.out HW_.out (by kernel_rfl)) (fun _ _ _ h => h) (Or.inl ⟨by rfl, ?_⟩) hHeld ?_ ?_
       rotate_left
       ·rintro w' ⟨s0, s1, s2, s3, s4⟩
        go_simp
        with_reducible rfl
       rotate_left
       ·simp only [Act.put, List.setIfInBounds_toArray, List.set_cons_zero, List.set_cons_succ, i64_w, i32_w]
        rfl
       refine pure_ (i := 6) (N := some 25) (v := ?_) (a' := ?_) #[true, true, true, true, true, true, true, true, false, false, false] rfl rfl (any_of HT_.out (by kernel_rfl)) (fun _ _ _ h => h) (Or.inl ⟨by rfl, ?_⟩) ?_ ?_
       rotate_left
       ·intro w'
        go_simp
        with_reducible rfl
       rotate_left
       ·simp only [Act.put, List.setIfInBounds_toArray, List.set_cons_zero, List.set_cons_succ, i64_w, i32_w]
        rfl
       refine one_ (i := 8) (N := none) #[true, true, true, true, true, true, true, true, true, false, false] rfl rfl (one_of HT_.out (by kernel_rfl)) (by decide) (fun K hK => ?_)
       have hs26 : w25.cell? ⟨gb293, 1, none⟩ = some (.int .i64 ((rd_T77 l0 a1_0).f1)) := (blk_cell BK293.out 1).trans rfl
       have hfs26 := blk_frozen BK293.out 1
       have hns26_0 := NB290_293.out
       have hns26_2 := NB294_293.out
       have hms26_0 := NB293_290.out
       have hms26_2 := NB293_294.out
       refine skip_ (w1 := ?_) (by rfl) rfl ?_ ?_
       rotate_left
       ·go_simp
        rfl
       refine hK.out _ _ ⟨((cell_far (p := ⟨gb293, _, none⟩) NB290_293.out _).trans (hHeld.1)), ((cell_far (p := ⟨gb293, _, none⟩) NB290_293.out _).trans (hHeld.2.1)), ((cell_far (p := ⟨gb293, _, none⟩) NB290_293.out _).trans (hHeld.2.2.1)), ((cell_far (p := ⟨gb293, _, none⟩) NB294_293.out _).trans (hHeld.2.2.2.1)), ((cell_far (p := ⟨gb293, _, none⟩) NB294_293.out _).trans (hHeld.2.2.2.2))⟩ (fun hHeld => ?_)
       clear hK K
       refine pure_ (i := 9) (N := some 27) (v := ?_) (a' := ?_) #[true, true, true, true, true, true, true, true, true, true, false] rfl rfl (any_of HT_.out (by kernel_rfl)) (fun _ _ _ h => h) (Or.inl ⟨by rfl, ?_⟩) ?_ ?_
       rotate_left
       ·intro w'
        go_simp
        with_reducible rfl
       rotate_left
       ·simp only [Act.put, List.setIfInBounds_toArray, List.set_cons_zero, List.set_cons_succ, i64_w, i32_w]
        rfl
       refine last_ (i := 10) (N := none) #[true, true, true, true, true, true, true, true, true, true, true] rfl rfl (one_of HT_.out (by kernel_rfl)) (by decide) (fun K hK => ?_)
       have hs27 : w25.cell? ⟨gb294, 1, none⟩ = some (.int .i64 ((rd_T77 l0 a1_0).f1)) := (blk_cell BK294.out 1).trans rfl
       have hfs27 := blk_frozen BK294.out 1
       have hns27_0 := NB290_294.out
       have hns27_1 := NB293_294.out
       have hms27_0 := NB294_290.out
       have hms27_1 := NB294_293.out
       refine skip_ (w1 := ?_) (by rfl) rfl ?_ ?_
       rotate_left
       ·go_simp
        rfl
       refine hK.out _ _ ?_
       clear hK K
       refine done_ (done_of HT_.out (by kernel_rfl)) ?_
       try go_wp2
       have n0_ : Aside0 (Kd.V k77 77 ((w25.setCell ⟨gb293, 1, none⟩ (.int .i64 a1_2)).setCell ⟨gb294, 1, none⟩ (.int .i64 (wrap64 (((rd_T77 l0 a1_0).f1) - a1_2)))) w.heap.size (fun k_ => (P0_ k_ ∨ w.heap.size ≤ k_) ∧ k_ ≠ gb290 ∧ k_ ≠ gb293 ∧ k_ ≠ gb294) (.slice (some ad291) l0.length c0) l0) := ⟨by (with_reducible repeat (first | apply Kd.V_alloc | apply Kd.V_drewN | apply Kd.V_drew)); exact Kd.V_mono (Kd.V_far (p := ⟨gb294, 1, none⟩) (Kd.V_far (p := ⟨gb293, 1, none⟩) (Kd.V_mono (Kd.V_mono HO0.out (fun k_ hk => (⟨hk, hk.2.2.1⟩ : _ ∧ k_ ≠ gb293))) (fun k_ hk => (⟨hk, hk.1.2.2.2⟩ : _ ∧ k_ ≠ gb294))) (fun _ hk => hk.1.2) (.int .i64 a1_2)) (fun _ hk => hk.2) (.int .i64 (wrap64 (((rd_T77 l0 a1_0).f1) - a1_2)))) (fun _ hk => ⟨hk.1.1.1, ⟨hk.1.1.2.1, ⟨hk.1.1.2.2.1, hk.1.1.2.2.2⟩⟩⟩)⟩
       have n1_ : Aside0 (((w25.setCell ⟨gb293, 1, none⟩ (.int .i64 a1_2)).setCell ⟨gb294, 1, none⟩ (.int .i64 (wrap64 (((rd_T77 l0 a1_0).f1) - a1_2)))).heap[gb290]? = some (.cells #[.int .i64 a1_0, .bool true, .int .i64 a1_2] 85 (0, 0))) := ⟨bx_ BK290.out⟩
       have n2_ : Aside0 (((w25.setCell ⟨gb293, 1, none⟩ (.int .i64 a1_2)).setCell ⟨gb294, 1, none⟩ (.int .i64 (wrap64 (((rd_T77 l0 a1_0).f1) - a1_2)))).heap[gb293]? = some (.cells #[.int .i64 ((rd_T77 l0 a1_0).f0), .int .i64 a1_2] 77 (0, 0))) := ⟨by (with_reducible repeat (first | refine blk_drewN ?_ _ | refine blk_drew ?_ | refine blk_alloc ?_ _)); refine blk_far ?_ NB293_294.out _; (with_reducible repeat (first | refine blk_drewN ?_ _ | refine blk_drew ?_ | refine blk_alloc ?_ _)); refine blk_put (cs := #[.int .i64 ((rd_T77 l0 a1_0).f0), .int .i64 ((rd_T77 l0 a1_0).f1)]) ?_ 1 _ rfl; (with_reducible repeat (first | refine blk_drewN ?_ _ | refine blk_drew ?_ | refine blk_alloc ?_ _)); exact BK293.out⟩
       have n3_ : Aside0 (((w25.setCell ⟨gb293, 1, none⟩ (.int .i64 a1_2)).setCell ⟨gb294, 1, none⟩ (.int .i64 (wrap64 (((rd_T77 l0 a1_0).f1) - a1_2)))).heap[gb294]? = some (.cells #[.int .i64 ((rd_T77 l0 a1_0).f0), .int .i64 (wrap64 (((rd_T77 l0 a1_0).f1) - a1_2))] 77 (0, 0))) := ⟨by (with_reducible repeat (first | refine blk_drewN ?_ _ | refine blk_drew ?_ | refine blk_alloc ?_ _)); refine blk_put (cs := #[.int .i64 ((rd_T77 l0 a1_0).f0), .int .i64 ((rd_T77 l0 a1_0).f1)]) ?_ 1 _ rfl; (with_reducible repeat (first | refine blk_drewN ?_ _ | refine blk_drew ?_ | refine blk_alloc ?_ _)); refine blk_far ?_ NB294_293.out _; (with_reducible repeat (first | refine blk_drewN ?_ _ | refine blk_drew ?_ | refine blk_alloc ?_ _)); exact BK294.out⟩
       have n4_ : Aside0 (Below w.heap.size w ((w25.setCell ⟨gb293, 1, none⟩ (.int .i64 a1_2)).setCell ⟨gb294, 1, none⟩ (.int .i64 (wrap64 (((rd_T77 l0 a1_0).f1) - a1_2))))) := ⟨hx_ HB.out⟩
       (try clear HO0)
       (try clear BK290)
       (try clear BK293)
       (try clear BK294)
       (try clear HB)
       generalize ((w25.setCell ⟨gb293, 1, none⟩ (.int .i64 a1_2)).setCell ⟨gb294, 1, none⟩ (.int .i64 (wrap64 (((rd_T77 l0 a1_0).f1) - a1_2)))) = w28 at n0_ n1_ n2_ n3_ n4_ ⊢
       have HO0 := n0_
       have BK290 := n1_
       have BK293 := n2_
       have BK294 := n3_
       have HB := n4_
       clear n0_ n1_ n2_ n3_ n4_
       have n0_ := Aside0.mk (Kd.V_drew HO0.out)
       have n1_ := Aside0.mk (blk_drew BK290.out)
       have n2_ := Aside0.mk (blk_drew BK293.out)
       have n3_ := Aside0.mk (blk_drew BK294.out)
       have n4_ := Aside0.mk (below_drew1 HB.out)
       clear HO0
       clear BK290
       clear BK293
       clear BK294
       clear HB
       have HO0 := n0_
       have BK290 := n1_
       have BK293 := n2_
       have BK294 := n3_
       have HB := n4_
       clear n0_ n1_ n2_ n3_ n4_
       have q30 : (a1_0 : Int) ≤ ((l0.length : Int) : Int) := of_decide_eq_true (by first | (with_reducible assumption) | assumption)
       obtain ⟨i030, hi030, _, hsz30, _⟩ := info_parts info77
       have hroom30 : l0.length ≤ c0 := (Kd.V_reads' HO0.out).2.1
       have hC30 : Kd.F k77 _ _ (some ad291) l0.length l0 := (Kd.V_at (base := w.heap.size) HO0.out).2.2
       have hcut30 := cut_to (P := Try.prog) 81 77 .i64 Try.underlying81 hi030 (some ad291) l0.length c0 a1_0 (of_decide_eq_true (by first | (with_reducible assumption) | assumption)) q30 hroom30
       have hr30 := Kd.F_take (m := (a1_0 : Int).toNat) hC30 (by omega)
       have hy30 : y295.length = (a1_0 : Int).toNat := (by rw [Ny295.out, List.length_take]; omega)
       rw [← Ny295.out] at hr30
       rw [← hy30] at hcut30
       have HO299 := Aside0.mk (show Kd.V k77 77 _ w.heap.size _ (.slice (some ad291) y295.length c0) y295 from Kd.V_mk (by omega) hr30)
       have HC299 := Aside0.mk (show y295.length ≤ c0 from by omega)
       clear hr30 hC30 hroom30 hi030 hsz30
       have KY30 := Aside0.mk hy30
       clear hy30
       replace q30 := eq_true q30
       have q31 : ((ji8) : Int) ≤ ((l0.length : Int) : Int) := of_decide_eq_true (by first | (with_reducible assumption) | assumption)
       obtain ⟨i031, hi031, _, hsz31, _⟩ := info_parts info77
       have hroom31 : l0.length ≤ c0 := (Kd.V_reads' HO0.out).2.1
       have hC31 : Kd.F k77 _ _ (some ad291) l0.length l0 := (Kd.V_at (base := w.heap.size) HO0.out).2.2
       have q031 : (0 : Int) ≤ ((ji8) : Int) := of_decide_eq_true (by first | (with_reducible assumption) | assumption)
       have hcut31 := cut_from (P := Try.prog) 81 77 .i64 Try.underlying81 hi031 2 hsz31 (some ad291) l0.length c0 (ji8) q031 q31
       have hr31 := Kd.F_cut (m := ((ji8) : Int).toNat) (c := c0) hC31 (by omega) hroom31
       obtain ⟨A31, hA31⟩ : ∃ A1, A1 = (if c0 = ((ji8) : Int).toNat then (some ad291) else ((some ad291) : Option Addr).map (·.add (((ji8) : Int).toNat * 2))) := ⟨_, rfl⟩
       obtain ⟨c31, hc31⟩ : ∃ c1, c1 = c0 - ((ji8) : Int).toNat := ⟨_, rfl⟩
       have hy31 : y303.length = l0.length - ((ji8) : Int).toNat := (by rw [Ny303.out, List.length_drop] <;> omega)
       rw [show (l0).drop ((ji8) : Int).toNat = y303 from Ny303.out.symm] at hr31
       replace hr31 : Kd.F k77 _ _ A31 y303.length y303 := (by rw [hA31]; exact hr31)
       rw [← hy31, ← hA31, ← hc31] at hcut31
       have HO307 := Aside0.mk (show Kd.V k77 77 _ w.heap.size _ (.slice A31 y303.length c31) y303 from Kd.V_mk (by rw [hy31, hc31]; exact Nat.sub_le_sub_right hroom31 _) hr31)
       have HC307 := Aside0.mk (show y303.length ≤ c31 from by rw [hy31, hc31]; exact Nat.sub_le_sub_right hroom31 _)
       clear hr31 hC31 hroom31 hi031 hsz31 hc31
       have KY31 := Aside0.mk hy31
       have KA31 := Aside0.mk hA31
       clear hy31 hA31
       replace q31 := eq_true q31
       refine start_ (n := 15) (S := fun w' => w'.cell? ⟨gb290, 0, none⟩ = some (.int .i64 a1_0) ∧ w'.cell? ⟨gb290, 1, none⟩ = some (.bool true) ∧ w'.cell? ⟨gb290, 2, none⟩ = some (.int .i64 a1_2) ∧ w'.cell? ⟨gb293, 0, none⟩ = some (.int .i64 ((rd_T77 l0 a1_0).f0)) ∧ w'.cell? ⟨gb293, 1, none⟩ = some (.int .i64 a1_2) ∧ w'.cell? ⟨gb294, 0, none⟩ = some (.int .i64 ((rd_T77 l0 a1_0).f0)) ∧ w'.cell? ⟨gb294, 1, none⟩ = some (.int .i64 (wrap64 (((rd_T77 l0 a1_0).f1) - a1_2)))) (ds := []) #[false, false, false, false, false, false, false, false, false, false, false, false, false, false, false] (by kernel_rfl) rfl rfl ⟨(blk_cell BK290.out 0).trans rfl, (blk_cell BK290.out 1).trans rfl, (blk_cell BK290.out 2).trans rfl, (blk_cell BK293.out 0).trans rfl, (blk_cell BK293.out 1).trans rfl, (blk_cell BK294.out 0).trans rfl, (blk_cell BK294.out 1).trans rfl⟩ (fun hHeld => ?_); refine with_tabW impl_cut.tab5 impl_cut.bits5 (fun HT_ HW_ => ?_)
       generalize w28.drew = w29 at HO0 BK290 BK293 BK294 HB HO299 HO307 hHeld ⊢
       refine pure_ (i := 0) (N := some 37) (v := ?_) (a' := ?_) #[true, false, false, false, false, false, false, false, false, false, false, false, false, false, false] rfl rfl (any_of HT_.out (by kernel_rfl)) (fun _ _ _ h => h) (Or.inl ⟨by rfl, ?_⟩) ?_ ?_
       rotate_left
       ·intro w'
        go_simp
        with_reducible rfl
       rotate_left
       ·simp only [Act.put, List.setIfInBounds_toArray, List.set_cons_zero, List.set_cons_succ, i64_w, i32_w]
        rfl
       refine pure_ (i := 1) (N := some 38) (v := ?_) (a' := ?_) #[true, true, false, false, false, false, false, false, false, false, false, false, false, false, false] rfl rfl (any_of HT_.out (by kernel_rfl)) (fun _ _ _ h => h) (Or.inl ⟨by rfl, ?_⟩) ?_ ?_
       rotate_left
       ·intro w'
        go_simp
        with_reducible rfl
       rotate_left
       ·simp only [Act.put, List.setIfInBounds_toArray, List.set_cons_zero, List.set_cons_succ, i64_w, i32_w]
        rfl
       refine pure_ (i := 7) (N := some 44) (v := ?_) (a' := ?_) #[true, true, false, false, false, false, false, true, false, false, false, false, false, false, false] rfl rfl (any_of HT_.out (by kernel_rfl)) (fun _ _ _ h => h) (Or.inl ⟨by rfl, ?_⟩) ?_ ?_
       rotate_left
       ·intro w'
        go_simp
        with_reducible rfl
       rotate_left
       ·simp only [Act.put, List.setIfInBounds_toArray, List.set_cons_zero, List.set_cons_succ, i64_w, i32_w]
        rfl
       refine pure_ (i := 8) (N := some 45) (v := ?_) (a' := ?_) #[true, true, false, false, false, false, false, true, true, false, false, false, false, false, false] rfl rfl (any_of HT_.out (by kernel_rfl)) (fun _ _ _ h => h) (Or.inl ⟨by rfl, ?_⟩) ?_ ?_
       rotate_left
       ·intro w'
        go_simp
        with_reducible rfl
       rotate_left
       ·simp only [Act.put, List.setIfInBounds_toArray, List.set_cons_zero, List.set_cons_succ, i64_w, i32_w]
        rfl
       refine take_ (i := 2) (N := some 39) (v := ?_) (a' := ?_) #[true, true, true, false, false, false, false, true, true, false, false, false, false, false, false] rfl rfl (take_ofW HT_.out HW_.out (by kernel_rfl)) (fun _ _ _ h => h) (Or.inl ⟨by rfl, ?_⟩) hHeld ?_ ?_
       rotate_left
       ·rintro w' ⟨s0, s1, s2, s3, s4, s5, s6⟩
        go_simp
        with_reducible rfl
       rotate_left
       ·simp only [Act.put, List.setIfInBounds_toArray, List.set_cons_zero, List.set_cons_succ, i64_w, i32_w]
        rfl
       refine pure_ (i := 3) (N := some 40) (v := ?_) (a' := ?_) #[true, true, true, true, false, false, false, true, true, false, false, false, false, false, false] rfl rfl (any_of HT_.out (by kernel_rfl)) (fun _ _ _ h => h) (Or.inl ⟨by rfl, ?_⟩) ?_ ?_
       rotate_left
       ·intro w'
        go_simp
        with_reducible rfl
       rotate_left
       ·simp only [Act.put, List.setIfInBounds_toArray, List.set_cons_zero, List.set_cons_succ, i64_w, i32_w]
        rfl
       refine take_ (i := 4) (N := some 41) (v := ?_) (a' := ?_) #[true, true, true, true, true, false, false, true, true, false, false, false, false, false, false] rfl rfl (take_ofW HT_.out HW_.out (by kernel_rfl)) (fun _ _ _ h => h) (Or.inl ⟨by rfl, ?_⟩) hHeld ?_ ?_
       rotate_left
       ·rintro w' ⟨s0, s1, s2, s3, s4, s5, s6⟩
        go_simp
        with_reducible rfl
       rotate_left
       ·simp only [Act.put, List.setIfInBounds_toArray, List.set_cons_zero, List.set_cons_succ, i64_w, i32_w]
        rfl
       refine take_ (i := 5) (N := some 42) (v := ?_) (a' := ?_) #[true, true, true, true, true, true, false, true, true, false, false, false, false, false, false] rfl rfl (take_ofW HT_.out HW_.out (by kernel_rfl)) (fun _ _ _ h => h) (Or.inl ⟨by rfl, ?_⟩) hHeld ?_ ?_
       rotate_left
       ·rintro w' ⟨s0, s1, s2, s3, s4, s5, s6⟩
        go_simp
        with_reducible rfl
       rotate_left
       ·simp only [Act.put, List.setIfInBounds_toArray, List.set_cons_zero, List.set_cons_succ, i64_w, i32_w]
        rfl
       refine take_ (i := 9) (N := some 46) (v := ?_) (a' := ?_) #[true, true, true, true, true, true, false, true, true, true, false, false, false, false, false] rfl rfl (take_ofW HT_.out HW_.out (by kernel_rfl)) (fun _ _ _ h => h) (Or.inl ⟨by rfl, ?_⟩) hHeld ?_ ?_
       rotate_left
       ·rintro w' ⟨s0, s1, s2, s3, s4, s5, s6⟩
        go_simp
        with_reducible rfl
       rotate_left
       ·simp only [Act.put, List.setIfInBounds_toArray, List.set_cons_zero, List.set_cons_succ, i64_w, i32_w]
        rfl
       refine pure_ (i := 10) (N := some 47) (v := ?_) (a' := ?_) #[true, true, true, true, true, true, false, true, true, true, true, false, false, false, false] rfl rfl (any_of HT_.out (by kernel_rfl)) (fun _ _ _ h => h) (Or.inl ⟨by rfl, ?_⟩) ?_ ?_
       rotate_left
       ·intro w'
        go_simp
        with_reducible rfl
       rotate_left
       ·simp only [Act.put, List.setIfInBounds_toArray, List.set_cons_zero, List.set_cons_succ, i64_w, i32_w]
        rfl
       refine pure_ (i := 11) (N := some 48) (v := ?_) (a' := ?_) #[true, true, true, true, true, true, false, true, true, true, true, true, false, false, false] rfl rfl (any_of HT_.out (by kernel_rfl)) (fun _ _ _ h => h) (Or.inl ⟨by rfl, ?_⟩) ?_ ?_
       rotate_left
       ·intro w'
        go_simp
        with_reducible rfl
       rotate_left
       ·simp only [Act.put, List.setIfInBounds_toArray, List.set_cons_zero, List.set_cons_succ, i64_w, i32_w]
        rfl
       refine one_ (i := 6) (N := some 43) #[true, true, true, true, true, true, true, true, true, true, true, true, false, false, false] rfl rfl (one_of HT_.out (by kernel_rfl)) (by decide) (fun K hK => ?_)
       refine Kd.R_lit_step k77 _ 77 ?hg (N := 43) ?hd (xs := ([(⟨(rd_T77 l0 a1_0).f0, a1_2⟩ : S77), (⟨(rd_T77 l0 a1_0).f0, wrap64 (((rd_T77 l0 a1_0).f1) - a1_2)⟩ : S77)] : List (S77))) (inner := [.int .i64 ((rd_T77 l0 a1_0).f0), .int .i64 a1_2, .int .i64 ((rd_T77 l0 a1_0).f0), .int .i64 (wrap64 (((rd_T77 l0 a1_0).f1) - a1_2))]) (ok := fun _ => True) (okp := fun _ => True) ?hr ?hp (fun _ hk => hk) trivial (Below.refl _ _) (Nat.le_refl _) (by simp) ?_; (case hd => rfl); (case hg => rfl); (case hr => first | (go_simp; done) | (go_simp; rfl)); (case hp => exact (Reps.c2 (show Kd.M k77 _ _ _ (⟨(rd_T77 l0 a1_0).f0, a1_2⟩ : S77) [.int .i64 ((rd_T77 l0 a1_0).f0), .int .i64 a1_2] from (k77_mkM _ _ _ (⟨(rd_T77 l0 a1_0).f0, a1_2⟩ : S77) )) (Reps.c2 (show Kd.M k77 _ _ _ (⟨(rd_T77 l0 a1_0).f0, wrap64 (((rd_T77 l0 a1_0).f1) - a1_2)⟩ : S77) [.int .i64 ((rd_T77 l0 a1_0).f0), .int .i64 (wrap64 (((rd_T77 l0 a1_0).f1) - a1_2))] from (k77_mkM _ _ _ (⟨(rd_T77 l0 a1_0).f0, wrap64 (((rd_T77 l0 a1_0).f1) - a1_2)⟩ : S77) )) (Reps.none _ _))))
       intro v301 w32 ho33 hb hg_ hnew_
       clear hg_ hnew_
       (first | rw [← Ny300.out] at ho33 | (simp only [Int.reduceToNat] at ho33; rw [← Ny300.out] at ho33))
       have n0_ := Aside0.mk (Kd.V_elder' (by (with_reducible repeat (first | apply Kd.V_alloc | apply Kd.V_drewN | apply Kd.V_drew)); exact HO0.out) (Kd.R_base ho33) hb)
       have n1_ := Aside0.mk (Kd.V_elder' (by (with_reducible repeat (first | apply Kd.V_alloc | apply Kd.V_drewN | apply Kd.V_drew)); exact HO299.out) (Kd.R_base ho33) hb)
       have n2_ := Aside0.mk (Kd.V_elder' (by (with_reducible repeat (first | apply Kd.V_alloc | apply Kd.V_drewN | apply Kd.V_drew)); exact HO307.out) (Kd.R_base ho33) hb)
       have n3_ := Aside0.mk (Kd.R_lower (Kd.R_newB (Kd.R_newB (Kd.R_newM (M := fun k_ => (w.heap.size ≤ k_)) ho33 (below_size (hx_ HB.out)) (fun k_ h_ => h_)) (g := gb293) (o := .cells #[.int .i64 ((rd_T77 l0 a1_0).f0), .int .i64 a1_2] 77 (0, 0)) (bx_ BK293.out)) (g := gb294) (o := .cells #[.int .i64 ((rd_T77 l0 a1_0).f0), .int .i64 (wrap64 (((rd_T77 l0 a1_0).f1) - a1_2))] 77 (0, 0)) (bx_ BK294.out)) (below_size (hx_ HB.out)))
       have n4_ := Aside0.mk (blk_below (g := gb290) (o := .cells #[.int .i64 a1_0, .bool true, .int .i64 a1_2] 85 (0, 0)) (bx_ BK290.out) hb)
       have n5_ := Aside0.mk (blk_below (g := gb293) (o := .cells #[.int .i64 ((rd_T77 l0 a1_0).f0), .int .i64 a1_2] 77 (0, 0)) (bx_ BK293.out) hb)
       have n6_ := Aside0.mk (blk_below (g := gb294) (o := .cells #[.int .i64 ((rd_T77 l0 a1_0).f0), .int .i64 (wrap64 (((rd_T77 l0 a1_0).f1) - a1_2))] 77 (0, 0)) (bx_ BK294.out) hb)
       have n7_ := Aside0.mk (below_step (hx_ HB.out) hb)
       clear HO0
       clear HO299
       clear HO307
       clear BK290
       clear BK293
       clear BK294
       clear HB
       have HO0 := n0_
       have HO299 := n1_
       have HO307 := n2_
       have HO302 := n3_
       have BK290 := n4_
       have BK293 := n5_
       have BK294 := n6_
       have HB := n7_
       clear n0_ n1_ n2_ n3_ n4_ n5_ n6_ n7_
       clear hb ho33
       obtain ⟨Ao34, co34, eo34⟩ := Kd.R_slice HO302.out
       (first | subst eo34 | (injection eo34 with f1_ f2_ f3_; have f4_ := f1_.symm; have f5_ := f3_.symm; clear f1_ f2_ f3_; subst f4_; subst f5_))
       refine hK.out _ _ ⟨(blk_cell BK290.out 0).trans rfl, (blk_cell BK290.out 1).trans rfl, (blk_cell BK290.out 2).trans rfl, (blk_cell BK293.out 0).trans rfl, (blk_cell BK293.out 1).trans rfl, (blk_cell BK294.out 0).trans rfl, (blk_cell BK294.out 1).trans rfl⟩ (fun hHeld => ?_)
       clear hK K
       refine norm_ (a' := ?_) ?_ ?_
       rotate_left
       ·show Act.put _ (some 43) _ = _
        simp only [Act.put, List.setIfInBounds_toArray, List.set_cons_zero, List.set_cons_succ, i64_w, i32_w]
        rfl
       refine one_ (i := 12) (N := some 49) #[true, true, true, true, true, true, true, true, true, true, true, true, true, false, false] rfl rfl (one_of HT_.out (by kernel_rfl)) (by decide) (fun K hK => ?_)
       refine Kd.N_lit_step (Kd.slice 77 k77) _ 81 ?hg (N' := 49) ?hd (xs := ([y295, y300, y303] : List (List (S77)))) (inner := [.slice (some ad291) y295.length c0, .slice Ao34 y300.length co34, .slice A31 y303.length c31]) (ok := (fun k_ => (P0_ k_ ∨ w.heap.size ≤ k_) ∧ k_ ≠ gb290 ∧ k_ ≠ gb293 ∧ k_ ≠ gb294)) (okp := (fun k_ => (P0_ k_ ∨ w.heap.size ≤ k_) ∧ k_ ≠ gb290 ∧ k_ ≠ gb293 ∧ k_ ≠ gb294)) ?hr ?hp (fun _ hk => hk) ((show ∀ k_, w32.heap.size ≤ k_ → (fun k_ => (P0_ k_ ∨ w.heap.size ≤ k_) ∧ k_ ≠ gb290 ∧ k_ ≠ gb293 ∧ k_ ≠ gb294) k_ from fun k_ hk => ⟨(.inr (Nat.le_trans (below_size (hx_ HB.out)) hk)), Kd.freshB (g := gb290) (o := .cells #[.int .i64 a1_0, .bool true, .int .i64 a1_2] 85 (0, 0)) (bx_ BK290.out) k_ hk, Kd.freshB (g := gb293) (o := .cells #[.int .i64 ((rd_T77 l0 a1_0).f0), .int .i64 a1_2] 77 (0, 0)) (bx_ BK293.out) k_ hk, Kd.freshB (g := gb294) (o := .cells #[.int .i64 ((rd_T77 l0 a1_0).f0), .int .i64 (wrap64 (((rd_T77 l0 a1_0).f1) - a1_2))] 77 (0, 0)) (bx_ BK294.out) k_ hk⟩) _ (Nat.le_refl _)) (Below.refl _ _) (Nat.le_refl _) (by simp) ?_; (case hd => rfl); (case hg => rfl); (case hr => first | (go_simp; done) | (go_simp; rfl)); (case hp => exact (Reps.one (show Kd.FK (Kd.slice 77 k77) _ _ y295 [.slice (some ad291) y295.length c0] from (Kd.FK_slice_mk (Kd.V_reads' (Kd.V_mono (ok' := (fun k_ => (P0_ k_ ∨ w.heap.size ≤ k_) ∧ k_ ≠ gb290 ∧ k_ ≠ gb293 ∧ k_ ≠ gb294)) (HO299.out) (fun k_ hk => ⟨hk.1.1, ⟨hk.1.2.1, ⟨hk.1.2.2.1, hk.1.2.2.2⟩⟩⟩))).2.1 (Kd.V_F (Kd.V_mono (ok' := (fun k_ => (P0_ k_ ∨ w.heap.size ≤ k_) ∧ k_ ≠ gb290 ∧ k_ ≠ gb293 ∧ k_ ≠ gb294)) (HO299.out) (fun k_ hk => ⟨hk.1.1, ⟨hk.1.2.1, ⟨hk.1.2.2.1, hk.1.2.2.2⟩⟩⟩))))) (Reps.one (show Kd.FK (Kd.slice 77 k77) _ _ y300 [.slice Ao34 y300.length co34] from (Kd.FK_slice_mk (Kd.R_reads' (Kd.R_mono (ok' := (fun k_ => (P0_ k_ ∨ w.heap.size ≤ k_) ∧ k_ ≠ gb290 ∧ k_ ≠ gb293 ∧ k_ ≠ gb294)) (Kd.R_types (HO302.out) BK290.out (by decide)) (fun k_ hk => ⟨(.inr (hk.1.1.1.1)), ⟨hk.2, ⟨hk.1.1.2, hk.1.2⟩⟩⟩))).2.1 (Kd.R_F (Kd.R_mono (ok' := (fun k_ => (P0_ k_ ∨ w.heap.size ≤ k_) ∧ k_ ≠ gb290 ∧ k_ ≠ gb293 ∧ k_ ≠ gb294)) (Kd.R_types (HO302.out) BK290.out (by decide)) (fun k_ hk => ⟨(.inr (hk.1.1.1.1)), ⟨hk.2, ⟨hk.1.1.2, hk.1.2⟩⟩⟩))))) (Reps.one (show Kd.FK (Kd.slice 77 k77) _ _ y303 [.slice A31 y303.length c31] from (Kd.FK_slice_mk (Kd.V_reads' (Kd.V_mono (ok' := (fun k_ => (P0_ k_ ∨ w.heap.size ≤ k_) ∧ k_ ≠ gb290 ∧ k_ ≠ gb293 ∧ k_ ≠ gb294)) (HO307.out) (fun k_ hk => ⟨hk.1.1, ⟨hk.1.2.1, ⟨hk.1.2.2.1, hk.1.2.2.2⟩⟩⟩))).2.1 (Kd.V_F (Kd.V_mono (ok' := (fun k_ => (P0_ k_ ∨ w.heap.size ≤ k_) ∧ k_ ≠ gb290 ∧ k_ ≠ gb293 ∧ k_ ≠ gb294)) (HO307.out) (fun k_ hk => ⟨hk.1.1, ⟨hk.1.2.1, ⟨hk.1.2.2.1, hk.1.2.2.2⟩⟩⟩))))) (Reps.none _ _)))))
       intro v309 w35 ho36 hb hg_ hnew_
       clear hg_ hnew_
       (first | rw [← Ny308.out] at ho36 | (simp only [Int.reduceToNat] at ho36; rw [← Ny308.out] at ho36))
       have n0_ := Aside0.mk (Kd.V_elder' (by (with_reducible repeat (first | apply Kd.V_alloc | apply Kd.V_drewN | apply Kd.V_drew)); exact HO0.out) (Kd.N_base ho36) hb)
       have n1_ := Aside0.mk (Kd.V_elder' (by (with_reducible repeat (first | apply Kd.V_alloc | apply Kd.V_drewN | apply Kd.V_drew)); exact HO299.out) (Kd.N_base ho36) hb)
       have n2_ := Aside0.mk (Kd.V_elder' (by (with_reducible repeat (first | apply Kd.V_alloc | apply Kd.V_drewN | apply Kd.V_drew)); exact HO307.out) (Kd.N_base ho36) hb)
       have n3_ := Aside0.mk (Kd.N_lower ho36 (below_size (hx_ HB.out)))
       have n4_ := Aside0.mk (blk_below (g := gb290) (o := .cells #[.int .i64 a1_0, .bool true, .int .i64 a1_2] 85 (0, 0)) (bx_ BK290.out) hb)
       have n5_ := Aside0.mk (blk_below (g := gb293) (o := .cells #[.int .i64 ((rd_T77 l0 a1_0).f0), .int .i64 a1_2] 77 (0, 0)) (bx_ BK293.out) hb)
       have n6_ := Aside0.mk (blk_below (g := gb294) (o := .cells #[.int .i64 ((rd_T77 l0 a1_0).f0), .int .i64 (wrap64 (((rd_T77 l0 a1_0).f1) - a1_2))] 77 (0, 0)) (bx_ BK294.out) hb)
       have n7_ := Aside0.mk (below_step (hx_ HB.out) hb)
       clear HO0
       clear HO299
       clear HO307
       clear BK290
       clear BK293
       clear BK294
       clear HB
       clear HO302
       have HO0 := n0_
       have HO299 := n1_
       have HO307 := n2_
       have HO310 := n3_
       have BK290 := n4_
       have BK293 := n5_
       have BK294 := n6_
       have HB := n7_
       clear n0_ n1_ n2_ n3_ n4_ n5_ n6_ n7_
       clear hb ho36
       obtain ⟨Ao37, co37, eo37⟩ := Kd.N_slice HO310.out
       (first | subst eo37 | (injection eo37 with f1_ f2_ f3_; have f4_ := f1_.symm; have f5_ := f3_.symm; clear f1_ f2_ f3_; subst f4_; subst f5_))
       refine hK.out _ _ ⟨(blk_cell BK290.out 0).trans rfl, (blk_cell BK290.out 1).trans rfl, (blk_cell BK290.out 2).trans rfl, (blk_cell BK293.out 0).trans rfl, (blk_cell BK293.out 1).trans rfl, (blk_cell BK294.out 0).trans rfl, (blk_cell BK294.out 1).trans rfl⟩ (fun hHeld => ?_)
       clear hK K
       refine norm_ (a' := ?_) ?_ ?_
       rotate_left
       ·show Act.put _ (some 49) _ = _
        simp only [Act.put, List.setIfInBounds_toArray, List.set_cons_zero, List.set_cons_succ, i64_w, i32_w]
        rfl
       refine one_ (i := 13) (N := some 50) #[true, true, true, true, true, true, true, true, true, true, true, true, true, true, false] rfl rfl (one_of HT_.out (by kernel_rfl)) (by decide) (fun K hK => ?_)
       refine goes_ Try.func192 (by kernel_rfl) rfl #[.slice Ao37 y308.length co37] (by rfl) rfl rfl (by (try simp only [List.map_toArray, List.map_cons, List.map_nil]); first | done | rfl | (simp only [List.length_drop, List.length_take]; rfl)) ?_
       with_reducible refine (slices_ConcatPiece.calls k _ _ y308 t311 _ ?side1 ?side2 A11.out).mono ?_
       (case side1 => repeat (first | exact (Kd.N_reads' HO310.out).2.2 | (with_reducible refine Kd.C_alloc ?_ _) | (with_reducible refine Kd.C_drewN ?_ _) | (with_reducible refine Kd.C_drew ?_)))
       (case side2 => exact (Kd.N_reads' HO310.out).2.1)
       rintro e w38 ⟨v312, rfl, ho0, hb⟩
       refine ⟨_, rfl, ?_⟩
       have n0_ := Aside0.mk (Kd.V_elder' (by (with_reducible repeat (first | apply Kd.V_alloc | apply Kd.V_drewN | apply Kd.V_drew)); exact HO0.out) (Kd.R_base ho0) hb)
       have n1_ := Aside0.mk (Kd.V_elder' (by (with_reducible repeat (first | apply Kd.V_alloc | apply Kd.V_drewN | apply Kd.V_drew)); exact HO299.out) (Kd.R_base ho0) hb)
       have n2_ := Aside0.mk (Kd.V_elder' (by (with_reducible repeat (first | apply Kd.V_alloc | apply Kd.V_drewN | apply Kd.V_drew)); exact HO307.out) (Kd.R_base ho0) hb)
       have n3_ := Aside0.mk (Kd.N_elder' (by (with_reducible repeat (first | apply Kd.N_alloc | apply Kd.N_drewN | apply Kd.N_drew)); exact HO310.out) (Kd.R_base ho0) hb)
       have n4_ := Aside0.mk (Kd.R_lower (Kd.R_newB (Kd.R_newB (Kd.R_newM (M := fun k_ => (w.heap.size ≤ k_)) ho0 (below_size (hx_ HB.out)) (fun k_ h_ => h_)) (g := gb293) (o := .cells #[.int .i64 ((rd_T77 l0 a1_0).f0), .int .i64 a1_2] 77 (0, 0)) (bx_ BK293.out)) (g := gb294) (o := .cells #[.int .i64 ((rd_T77 l0 a1_0).f0), .int .i64 (wrap64 (((rd_T77 l0 a1_0).f1) - a1_2))] 77 (0, 0)) (bx_ BK294.out)) (below_size (hx_ HB.out)))
       have n5_ := Aside0.mk (blk_below (g := gb290) (o := .cells #[.int .i64 a1_0, .bool true, .int .i64 a1_2] 85 (0, 0)) (bx_ BK290.out) hb)
       have n6_ := Aside0.mk (blk_below (g := gb293) (o := .cells #[.int .i64 ((rd_T77 l0 a1_0).f0), .int .i64 a1_2] 77 (0, 0)) (bx_ BK293.out) hb)
       have n7_ := Aside0.mk (blk_below (g := gb294) (o := .cells #[.int .i64 ((rd_T77 l0 a1_0).f0), .int .i64 (wrap64 (((rd_T77 l0 a1_0).f1) - a1_2))] 77 (0, 0)) (bx_ BK294.out) hb)
       have n8_ := Aside0.mk (below_step (hx_ HB.out) hb)
       clear HO0
       clear HO299
       clear HO307
       clear HO310
       clear BK290
       clear BK293
       clear BK294
       clear HB
       have HO0 := n0_
       have HO299 := n1_
       have HO307 := n2_
       have HO310 := n3_
       have HO313 := n4_
       have BK290 := n5_
       have BK293 := n6_
       have BK294 := n7_
       have HB := n8_
       clear n0_ n1_ n2_ n3_ n4_ n5_ n6_ n7_ n8_
       (try clear hb)
       (try clear hb2)
       (try clear hk)
       (try clear hi)
       (try clear ho0)
       refine hK.out _ _ ⟨(blk_cell BK290.out 0).trans rfl, (blk_cell BK290.out 1).trans rfl, (blk_cell BK290.out 2).trans rfl, (blk_cell BK293.out 0).trans rfl, (blk_cell BK293.out 1).trans rfl, (blk_cell BK294.out 0).trans rfl, (blk_cell BK294.out 1).trans rfl⟩ (fun hHeld => ?_)
       clear hK K
       refine norm_ (a' := ?_) ?_ ?_
       rotate_left
       ·show Act.put _ (some 50) _ = _
        simp only [Act.put, List.setIfInBounds_toArray, List.set_cons_zero, List.set_cons_succ, i64_w, i32_w]
        rfl
       refine pure_ (i := 14) (N := some 4) (v := ?_) (a' := ?_) #[true, true, true, true, true, true, true, true, true, true, true, true, true, true, true] rfl rfl (any_of HT_.out (by kernel_rfl)) (fun _ _ _ h => h) (Or.inl ⟨by rfl, ?_⟩) ?_ ?_
       rotate_left
       ·intro w'
        go_simp
        with_reducible rfl
       rotate_left
       ·simp only [Act.put, List.setIfInBounds_toArray, List.set_cons_zero, List.set_cons_succ, i64_w, i32_w]
        rfl
       refine done_ (done_of HT_.out (by kernel_rfl)) ?_
       try go_wp2
       go_ret
       exact ⟨_, by first | rfl | (simp [errW_none, errW_some] <;> rfl) | (simp only [← hji8]; first | rfl | (simp [errW_none, errW_some] <;> rfl)) | (simp [*, errW_none, errW_some] <;> rfl), by (with_reducible repeat (first | apply Kd.R_alloc | apply Kd.R_drewN | apply Kd.R_drew)); exact Kd.R_mono HO313.out (fun _ hk => hk.1.1.1), hx_ HB.out⟩
      ·rw [if_neg c10] at H
       exact absurd H (by simp)
     ·rw [if_neg c9] at H
      exact absurd H (by simp)
    ·rw [if_neg c7] at H
     exact absurd H (by simp)
   ·replace c5 := Bool.eq_false_iff.mpr c5
    subst c5
    have H1 : (if a1_0 ≤ (l0.length : Int) then (if 0 ≤ (wrap64 (a1_0 + 1)) then (if (wrap64 (a1_0 + 1)) ≤ (l0.length : Int) then ((slices_ConcatPiece.f k (([(l0.take (a1_0 : Int).toNat), (([(⟨a1_2, (rd_T77 l0 a1_0).f1⟩ : S77), (⟨wrap64 (((rd_T77 l0 a1_0).f0) - a1_2), (rd_T77 l0 a1_0).f1⟩ : S77)] : List (S77))), (l0.drop ((wrap64 (a1_0 + 1)) : Int).toNat)] : List (List (S77))))).bind fun t330 => (some t330)) else (none)) else (none)) else (none)) = some r := by rw [if_neg (show ¬ (false = true) by decide)] at H; exact H
    clear H
    have H := H1
    clear H1
    have c39b0 := eq_true (of_decide_eq_true (by first | (with_reducible assumption) | assumption) : 0 ≤ a1_0)
    by_cases c40 : a1_0 ≤ (l0.length : Int)
    ·rw [if_pos c40] at H
     have c40b0 := eq_true c40
     have c40b1 : decide (a1_0 ≤ (l0.length : Int)) = true := decide_eq_true c40
     clear c40
     obtain ⟨y314, hy314⟩ : ∃ y_ : List (S77), y_ = (l0.take (a1_0 : Int).toNat) := ⟨_, rfl⟩
     replace H : (if 0 ≤ (wrap64 (a1_0 + 1)) then (if (wrap64 (a1_0 + 1)) ≤ (l0.length : Int) then ((slices_ConcatPiece.f k (([y314, (([(⟨a1_2, (rd_T77 l0 a1_0).f1⟩ : S77), (⟨wrap64 (((rd_T77 l0 a1_0).f0) - a1_2), (rd_T77 l0 a1_0).f1⟩ : S77)] : List (S77))), (l0.drop ((wrap64 (a1_0 + 1)) : Int).toNat)] : List (List (S77))))).bind fun t330 => (some t330)) else (none)) else (none)) = some r := by first | (rw [hy314]; with_reducible exact H) | (have H2_ := (Option.bind_some _ _).symm.trans H; rw [hy314]; with_reducible exact H2_) | (have H2_ := (Option.bind_some _ _).symm.trans H; with_reducible exact H2_) | with_reducible exact H | (rw [hy314]; exact H) | exact H
     have Ny314 := Aside0.mk hy314
     clear hy314
     obtain ⟨y319, hy319⟩ : ∃ y_ : List (S77), y_ = (([(⟨a1_2, (rd_T77 l0 a1_0).f1⟩ : S77), (⟨wrap64 (((rd_T77 l0 a1_0).f0) - a1_2), (rd_T77 l0 a1_0).f1⟩ : S77)] : List (S77))) := ⟨_, rfl⟩
     replace H : (if 0 ≤ (wrap64 (a1_0 + 1)) then (if (wrap64 (a1_0 + 1)) ≤ (l0.length : Int) then ((slices_ConcatPiece.f k (([y314, y319, (l0.drop ((wrap64 (a1_0 + 1)) : Int).toNat)] : List (List (S77))))).bind fun t330 => (some t330)) else (none)) else (none)) = some r := by first | (rw [hy319]; with_reducible exact H) | (have H2_ := (Option.bind_some _ _).symm.trans H; rw [hy319]; with_reducible exact H2_) | (have H2_ := (Option.bind_some _ _).symm.trans H; with_reducible exact H2_) | with_reducible exact H | (rw [hy319]; exact H) | exact H
     have Ny319 := Aside0.mk hy319
     clear hy319
     obtain ⟨ji41, hji41⟩ : ∃ j_ : Int, (wrap64 (a1_0 + 1)) = j_ := ⟨_, rfl⟩
     replace H : (if 0 ≤ (ji41) then (if (ji41) ≤ (l0.length : Int) then ((slices_ConcatPiece.f k (([y314, y319, (l0.drop ((ji41) : Int).toNat)] : List (List (S77))))).bind fun t330 => (some t330)) else (none)) else (none)) = some r := by first | (rw [hji41] at H; exact H) | (simp only [hji41] at H ⊢; exact H)
     have hji41w : (IntKind.i64.wrap (a1_0 + 1)) = ji41 := (i64_w _).trans hji41
     by_cases c42 : 0 ≤ (ji41)
     ·rw [if_pos c42] at H
      have c42b0 := eq_true c42
      have c42b1 : decide (0 ≤ (ji41)) = true := decide_eq_true c42
      clear c42
      by_cases c43 : (ji41) ≤ (l0.length : Int)
      ·rw [if_pos c43] at H
       have c43b0 := eq_true c43
       have c43b1 : decide ((ji41) ≤ (l0.length : Int)) = true := decide_eq_true c43
       clear c43
       obtain ⟨y322, hy322⟩ : ∃ y_ : List (S77), y_ = (l0.drop ((ji41) : Int).toNat) := ⟨_, rfl⟩
       replace H : ((slices_ConcatPiece.f k (([y314, y319, y322] : List (List (S77))))).bind fun t330 => (some t330)) = some r := by first | (rw [hy322]; with_reducible exact H) | (have H2_ := (Option.bind_some _ _).symm.trans H; rw [hy322]; with_reducible exact H2_) | (have H2_ := (Option.bind_some _ _).symm.trans H; with_reducible exact H2_) | with_reducible exact H | (rw [hy322]; exact H) | exact H
       have Ny322 := Aside0.mk hy322
       clear hy322
       obtain ⟨y327, hy327⟩ : ∃ y_ : List (List (S77)), y_ = (([y314, y319, y322] : List (List (S77)))) := ⟨_, rfl⟩
       replace H : ((slices_ConcatPiece.f k y327).bind fun t330 => (some t330)) = some r := by first | (rw [hy327]; with_reducible exact H) | (have H2_ := (Option.bind_some _ _).symm.trans H; rw [hy327]; with_reducible exact H2_) | (have H2_ := (Option.bind_some _ _).symm.trans H; with_reducible exact H2_) | with_reducible exact H | (rw [hy327]; exact H) | exact H
       have Ny327 := Aside0.mk hy327
       clear hy327
       replace H := Option.bind_eq_some_iff.mp H
       obtain ⟨t330, A440, H⟩ := H
       replace H : (some t330) = some r := H
       have A44 := Aside0.mk A440
       clear A440
       obtain rfl := Option.some.inj H
       go_enter Try.func170, Try.ntmps170
       try go_wp2_with (first | ((with_reducible refine gate_dst (N := 3) rfl ?_); refine box_event ?hg (N := 3) ?hd (cs := #[.int .i64 a1_0, .bool false, .int .i64 a1_2]) (t := 85) ?hr ?_; (case hd => rfl); (case hg => rfl); (case hr => first | (go_simp; done) | (go_simp; rfl)); intro gb290 hg w45 hbox hb; have n0_ := Aside0.mk (Kd.V_below (Kd.V_elderB (by (with_reducible repeat (first | apply Kd.V_alloc | apply Kd.V_drewN | apply Kd.V_drew)); exact HO0.out) gb290 (Nat.le_of_eq hg.symm)) hb); have n1_ := Aside0.mk (below_step (hx_ HB.out) hb); have n2_ := Aside0.mk (hbox); have n3_ := Aside0.mk ((by rw [hg]; exact (below_size (hx_ HB.out)) : w.heap.size ≤ gb290)); have n4_ := Aside0.mk ((by rw [hg]; exact (below_size (hx_ HB.out)) : w.heap.size ≤ gb290)); clear HO0; clear HB; have HO0 := n0_; have HB := n1_; have BK290 := n2_; have GW290 := n3_; have GE290 := n4_; clear n0_ n1_ n2_ n3_ n4_; clear hb hbox hg))
       have n0_ := Aside0.mk (Kd.V_drew HO0.out)
       have n1_ := Aside0.mk (blk_drew BK290.out)
       have n2_ := Aside0.mk (below_drew1 HB.out)
       clear HO0
       clear BK290
       clear HB
       have HO0 := n0_
       have BK290 := n1_
       have HB := n2_
       clear n0_ n1_ n2_
       have p291 : 0 ≤ (a1_0 : Int) := of_decide_eq_true (by first | (with_reducible assumption) | assumption)
       have q291 : a1_0 < (l0.length : Int) := of_decide_eq_true (by first | (with_reducible assumption) | assumption)
       obtain ⟨ad291, e291, hx291_0, hx291_1⟩ := at_T77 (Kd.V_reads' HO0.out).2.2 a1_0 p291 q291
       cases e291
       replace p291 := eq_true p291
       replace q291 := eq_true q291
       have p292 : 0 ≤ (a1_0 : Int) := of_decide_eq_true (by first | (with_reducible assumption) | assumption)
       have q292 : a1_0 < (l0.length : Int) := of_decide_eq_true (by first | (with_reducible assumption) | assumption)
       obtain ⟨ad292, e292, hx292_0, hx292_1⟩ := at_T77 (Kd.V_reads' HO0.out).2.2 a1_0 p292 q292
       obtain rfl : ad291 = ad292 := (by injection e292)
       replace p292 := eq_true p292
       replace q292 := eq_true q292
       refine start_ (n := 14) (S := fun w' => w'.cell? ⟨gb290, 0, none⟩ = some (.int .i64 a1_0) ∧ w'.cell? ⟨gb290, 1, none⟩ = some (.bool false) ∧ w'.cell? ⟨gb290, 2, none⟩ = some (.int .i64 a1_2) ∧ w'.cell? (ad291.add ((a1_0).toNat * 2)) = some (.int .i64 ((rd_T77 l0 a1_0).f0)) ∧ w'.cell? ⟨(ad291.add ((a1_0).toNat * 2)).block, (ad291.add ((a1_0).toNat * 2)).off + 1, none⟩ = some (.int .i64 ((rd_T77 l0 a1_0).f1)) ∧ w'.cell? (ad291.add ((a1_0).toNat * 2)) = some (.int .i64 ((rd_T77 l0 a1_0).f0)) ∧ w'.cell? ⟨(ad291.add ((a1_0).toNat * 2)).block, (ad291.add ((a1_0).toNat * 2)).off + 1, none⟩ = some (.int .i64 ((rd_T77 l0 a1_0).f1))) (ds := []) #[false, false, false, false, false, false, false, false, false, false, false, false, false, false] (by kernel_rfl) rfl rfl ⟨(blk_cell BK290.out 0).trans rfl, (blk_cell BK290.out 1).trans rfl, (blk_cell BK290.out 2).trans rfl, hx291_0, hx291_1, hx292_0, hx292_1⟩ (fun hHeld => ?_); refine with_tabW impl_cut.tab1 impl_cut.bits1 (fun HT_ HW_ => ?_)
       generalize w45.drew = w46 at HO0 BK290 HB hx291_0 hx291_1 hx292_0 hx292_1 hHeld ⊢
       refine pure_ (i := 0) (N := some 7) (v := ?_) (a' := ?_) #[true, false, false, false, false, false, false, false, false, false, false, false, false, false] rfl rfl (any_of HT_.out (by kernel_rfl)) (fun _ _ _ h => h) (Or.inl ⟨by rfl, ?_⟩) ?_ ?_
       rotate_left
       ·intro w'
        go_simp
        with_reducible rfl
       rotate_left
       ·simp only [Act.put, List.setIfInBounds_toArray, List.set_cons_zero, List.set_cons_succ, i64_w, i32_w]
        rfl
       refine pure_ (i := 1) (N := some 8) (v := ?_) (a' := ?_) #[true, true, false, false, false, false, false, false, false, false, false, false, false, false] rfl rfl (any_of HT_.out (by kernel_rfl)) (fun _ _ _ h => h) (Or.inl ⟨by rfl, ?_⟩) ?_ ?_
       rotate_left
       ·intro w'
        go_simp
        with_reducible rfl
       rotate_left
       ·simp only [Act.put, List.setIfInBounds_toArray, List.set_cons_zero, List.set_cons_succ, i64_w, i32_w]
        rfl
       refine pure_ (i := 5) (N := some 12) (v := ?_) (a' := ?_) #[true, true, false, false, false, true, false, false, false, false, false, false, false, false] rfl rfl (any_of HT_.out (by kernel_rfl)) (fun _ _ _ h => h) (Or.inl ⟨by rfl, ?_⟩) ?_ ?_
       rotate_left
       ·intro w'
        go_simp
        with_reducible rfl
       rotate_left
       ·simp only [Act.put, List.setIfInBounds_toArray, List.set_cons_zero, List.set_cons_succ, i64_w, i32_w]
        rfl
       refine pure_ (i := 6) (N := some 13) (v := ?_) (a' := ?_) #[true, true, false, false, false, true, true, false, false, false, false, false, false, false] rfl rfl (any_of HT_.out (by kernel_rfl)) (fun _ _ _ h => h) (Or.inl ⟨by rfl, ?_⟩) ?_ ?_
       rotate_left
       ·intro w'
        go_simp
        with_reducible rfl
       rotate_left
       ·simp only [Act.put, List.setIfInBounds_toArray, List.set_cons_zero, List.set_cons_succ, i64_w, i32_w]
        rfl
       refine take_ (i := 2) (N := some 9) (v := ?_) (a' := ?_) #[true, true, true, false, false, true, true, false, false, false, false, false, false, false] rfl rfl (take_ofW HT_.out HW_.out (by kernel_rfl)) (fun _ _ _ h => h) (Or.inl ⟨by rfl, ?_⟩) hHeld ?_ ?_
       rotate_left
       ·rintro w' ⟨s0, s1, s2, s3, s4, s5, s6⟩
        go_simp
        with_reducible rfl
       rotate_left
       ·simp only [Act.put, List.setIfInBounds_toArray, List.set_cons_zero, List.set_cons_succ, i64_w, i32_w]
        rfl
       refine pure_ (i := 3) (N := some 10) (v := ?_) (a' := ?_) #[true, true, true, true, false, true, true, false, false, false, false, false, false, false] rfl rfl (any_of HT_.out (by kernel_rfl)) (fun _ _ _ h => h) (Or.inl ⟨by rfl, ?_⟩) ?_ ?_
       rotate_left
       ·intro w'
        go_simp
        with_reducible rfl
       rotate_left
       ·simp only [Act.put, List.setIfInBounds_toArray, List.set_cons_zero, List.set_cons_succ, i64_w, i32_w]
        rfl
       refine take_ (i := 4) (N := some 11) (v := ?_) (a' := ?_) #[true, true, true, true, true, true, true, false, false, false, false, false, false, false] rfl rfl (take_ofW HT_.out HW_.out (by kernel_rfl)) (fun _ _ _ h => h) (Or.inl ⟨by rfl, ?_⟩) hHeld ?_ ?_
       rotate_left
       ·rintro w' ⟨s0, s1, s2, s3, s4, s5, s6⟩
        go_simp
        with_reducible rfl
       rotate_left
       ·simp only [Act.put, List.setIfInBounds_toArray, List.set_cons_zero, List.set_cons_succ, i64_w, i32_w]
        rfl
       refine take_ (i := 7) (N := some 14) (v := ?_) (a' := ?_) #[true, true, true, true, true, true, true, true, false, false, false, false, false, false] rfl rfl (take_ofW HT_.out HW_.out (by kernel_rfl)) (fun _ _ _ h => h) (Or.inl ⟨by rfl, ?_⟩) hHeld ?_ ?_
       rotate_left
       ·rintro w' ⟨s0, s1, s2, s3, s4, s5, s6⟩
        go_simp
        with_reducible rfl
       rotate_left
       ·simp only [Act.put, List.setIfInBounds_toArray, List.set_cons_zero, List.set_cons_succ, i64_w, i32_w]
        rfl
       refine pure_ (i := 8) (N := some 15) (v := ?_) (a' := ?_) #[true, true, true, true, true, true, true, true, true, false, false, false, false, false] rfl rfl (any_of HT_.out (by kernel_rfl)) (fun _ _ _ h => h) (Or.inl ⟨by rfl, ?_⟩) ?_ ?_
       rotate_left
       ·intro w'
        go_simp
        with_reducible rfl
       rotate_left
       ·simp only [Act.put, List.setIfInBounds_toArray, List.set_cons_zero, List.set_cons_succ, i64_w, i32_w]
        rfl
       refine take_ (i := 9) (N := some 16) (v := ?_) (a' := ?_) #[true, true, true, true, true, true, true, true, true, true, false, false, false, false] rfl rfl (take_ofW HT_.out HW_.out (by kernel_rfl)) (fun _ _ _ h => h) (Or.inl ⟨by rfl, ?_⟩) hHeld ?_ ?_
       rotate_left
       ·rintro w' ⟨s0, s1, s2, s3, s4, s5, s6⟩
        go_simp
        with_reducible rfl
       rotate_left
       ·simp only [Act.put, List.setIfInBounds_toArray, List.set_cons_zero, List.set_cons_succ, i64_w, i32_w]
        rfl
       refine join_ (σ := Nat × Nat) 2 #[true, true, true, true, true, true, true, true, true, true, true, true, false, false] (fun s_ => [(5, .pointer (some ⟨s_.1, 0, none⟩)), (6, .pointer (some ⟨s_.2, 0, none⟩))]) (fun s_ w' => (w'.cell? ⟨gb290, 0, none⟩ = some (.int .i64 a1_0) ∧ w'.cell? ⟨gb290, 1, none⟩ = some (.bool false) ∧ w'.cell? ⟨gb290, 2, none⟩ = some (.int .i64 a1_2) ∧ w'.cell? (ad291.add ((a1_0).toNat * 2)) = some (.int .i64 ((rd_T77 l0 a1_0).f0)) ∧ w'.cell? ⟨(ad291.add ((a1_0).toNat * 2)).block, (ad291.add ((a1_0).toNat * 2)).off + 1, none⟩ = some (.int .i64 ((rd_T77 l0 a1_0).f1)) ∧ w'.cell? (ad291.add ((a1_0).toNat * 2)) = some (.int .i64 ((rd_T77 l0 a1_0).f0)) ∧ w'.cell? ⟨(ad291.add ((a1_0).toNat * 2)).block, (ad291.add ((a1_0).toNat * 2)).off + 1, none⟩ = some (.int .i64 ((rd_T77 l0 a1_0).f1))) ∧ (Kd.V k77 77 w' w.heap.size (fun k_ => (P0_ k_ ∨ w.heap.size ≤ k_) ∧ k_ ≠ gb290 ∧ k_ ≠ s_.1 ∧ k_ ≠ s_.2) (.slice (some ad291) l0.length c0) l0) ∧ (w'.heap[gb290]? = some (.cells #[.int .i64 a1_0, .bool false, .int .i64 a1_2] 85 (0, 0))) ∧ (w'.heap[s_.1]? = some (.cells #[.int .i64 0, .int .i64 0] 77 (0, 0))) ∧ (w'.heap[s_.2]? = some (.cells #[.int .i64 0, .int .i64 0] 77 (0, 0))) ∧ (w.heap.size ≤ s_.1) ∧ (w.heap.size ≤ s_.1) ∧ (gb290 ≠ s_.1) ∧ (s_.1 ≠ gb290) ∧ (s_.2 ≠ s_.1) ∧ (s_.1 ≠ s_.2) ∧ (w.heap.size ≤ s_.2) ∧ (w.heap.size ≤ s_.2) ∧ (gb290 ≠ s_.2) ∧ (s_.2 ≠ gb290) ∧ (Below w.heap.size w w')) ?_ ?_
       rotate_left
       ·intro hCont
        refine two_ (i := 10) (j := 11) (Ni := some 5) (Nj := some 6) #[true, true, true, true, true, true, true, true, true, true, true, false, false, false] #[true, true, true, true, true, true, true, true, true, true, false, true, false, false] rfl rfl rfl rfl (two_of HT_.out (by kernel_rfl)) (by decide) (by decide) (fun K hK => ?_) (fun K hK => ?_)
        ·skip
         refine box_step ?hg (N := 5) ?hd (cs := #[.int .i64 0, .int .i64 0]) (t := 77) ?hr ?_; (case hd => rfl); (case hg => rfl); (case hr => first | (go_simp; done) | (go_simp; rfl))
         intro gb293 hg w47 hbox hb
         have HS3_ := (hb.cell (World.block_lt_of_cell? _ _ (hHeld.2.2.2.1))).trans (hHeld.2.2.2.1)
         have HS4_ := (hb.cell (World.block_lt_of_cell? _ _ (hHeld.2.2.2.2.1))).trans (hHeld.2.2.2.2.1)
         have HS5_ := (hb.cell (World.block_lt_of_cell? _ _ (hHeld.2.2.2.2.2.1))).trans (hHeld.2.2.2.2.2.1)
         have HS6_ := (hb.cell (World.block_lt_of_cell? _ _ (hHeld.2.2.2.2.2.2))).trans (hHeld.2.2.2.2.2.2)
         have n0_ := Aside0.mk (Kd.V_below (Kd.V_elderB (by (with_reducible repeat (first | apply Kd.V_alloc | apply Kd.V_drewN | apply Kd.V_drew)); exact HO0.out) gb293 (Nat.le_of_eq hg.symm)) hb)
         have n1_ := Aside0.mk (blk_below (g := gb290) (o := .cells #[.int .i64 a1_0, .bool false, .int .i64 a1_2] 85 (0, 0)) (bx_ BK290.out) hb)
         have n2_ := Aside0.mk (below_step (hx_ HB.out) hb)
         have n3_ := Aside0.mk (hbox)
         have n4_ := Aside0.mk ((by rw [hg]; exact (below_size (hx_ HB.out)) : w.heap.size ≤ gb293))
         have n5_ := Aside0.mk ((by rw [hg]; exact (below_size (hx_ HB.out)) : w.heap.size ≤ gb293))
         have n6_ := Aside0.mk ((by rw [hg]; exact Nat.ne_of_lt (blk_lt (g := gb290) (o := .cells #[.int .i64 a1_0, .bool false, .int .i64 a1_2] 85 (0, 0)) (bx_ BK290.out)) : gb290 ≠ gb293))
         have n7_ := Aside0.mk ((by rw [hg]; exact Nat.ne_of_gt (blk_lt (g := gb290) (o := .cells #[.int .i64 a1_0, .bool false, .int .i64 a1_2] 85 (0, 0)) (bx_ BK290.out)) : gb293 ≠ gb290))
         clear HO0
         clear BK290
         clear HB
         have HO0 := n0_
         have BK290 := n1_
         have HB := n2_
         have BK293 := n3_
         have GW293 := n4_
         have GE293 := n5_
         have NB290_293 := n6_
         have NB293_290 := n7_
         clear n0_ n1_ n2_ n3_ n4_ n5_ n6_ n7_
         clear hb hbox hg
         refine hK.out _ _ ⟨(blk_cell BK290.out 0).trans rfl, (blk_cell BK290.out 1).trans rfl, (blk_cell BK290.out 2).trans rfl, HS3_, HS4_, HS5_, HS6_⟩ (fun hHeld => ?_)
         clear hK K
         refine norm_ (a' := ?_) ?_ ?_
         rotate_left
         ·show Act.put _ (some 5) _ = _
          simp only [Act.put, List.setIfInBounds_toArray, List.set_cons_zero, List.set_cons_succ, i64_w, i32_w]
          rfl
         refine one_ (i := 11) (N := some 6) #[true, true, true, true, true, true, true, true, true, true, true, true, false, false] rfl rfl (one_of HT_.out (by kernel_rfl)) (by decide) (fun K hK => ?_)
         refine box_step ?hg (N := 6) ?hd (cs := #[.int .i64 0, .int .i64 0]) (t := 77) ?hr ?_; (case hd => rfl); (case hg => rfl); (case hr => first | (go_simp; done) | (go_simp; rfl))
         intro gb294 hg w48 hbox hb
         have HS3_ := (hb.cell (World.block_lt_of_cell? _ _ (hHeld.2.2.2.1))).trans (hHeld.2.2.2.1)
         have HS4_ := (hb.cell (World.block_lt_of_cell? _ _ (hHeld.2.2.2.2.1))).trans (hHeld.2.2.2.2.1)
         have HS5_ := (hb.cell (World.block_lt_of_cell? _ _ (hHeld.2.2.2.2.2.1))).trans (hHeld.2.2.2.2.2.1)
         have HS6_ := (hb.cell (World.block_lt_of_cell? _ _ (hHeld.2.2.2.2.2.2))).trans (hHeld.2.2.2.2.2.2)
         have n0_ := Aside0.mk (Kd.V_below (Kd.V_elderB (by (with_reducible repeat (first | apply Kd.V_alloc | apply Kd.V_drewN | apply Kd.V_drew)); exact HO0.out) gb294 (Nat.le_of_eq hg.symm)) hb)
         have n1_ := Aside0.mk (blk_below (g := gb290) (o := .cells #[.int .i64 a1_0, .bool false, .int .i64 a1_2] 85 (0, 0)) (bx_ BK290.out) hb)
         have n2_ := Aside0.mk (blk_below (g := gb293) (o := .cells #[.int .i64 0, .int .i64 0] 77 (0, 0)) (bx_ BK293.out) hb)
         have n3_ := Aside0.mk (below_step (hx_ HB.out) hb)
         have n4_ := Aside0.mk (hbox)
         have n5_ := Aside0.mk ((by rw [hg]; exact (below_size (hx_ HB.out)) : w.heap.size ≤ gb294))
         have n6_ := Aside0.mk ((by rw [hg]; exact (below_size (hx_ HB.out)) : w.heap.size ≤ gb294))
         have n7_ := Aside0.mk ((by rw [hg]; exact Nat.ne_of_lt (blk_lt (g := gb290) (o := .cells #[.int .i64 a1_0, .bool false, .int .i64 a1_2] 85 (0, 0)) (bx_ BK290.out)) : gb290 ≠ gb294))
         have n8_ := Aside0.mk ((by rw [hg]; exact Nat.ne_of_gt (blk_lt (g := gb290) (o := .cells #[.int .i64 a1_0, .bool false, .int .i64 a1_2] 85 (0, 0)) (bx_ BK290.out)) : gb294 ≠ gb290))
         have n9_ := Aside0.mk ((by rw [hg]; exact Nat.ne_of_lt (blk_lt (g := gb293) (o := .cells #[.int .i64 0, .int .i64 0] 77 (0, 0)) (bx_ BK293.out)) : gb293 ≠ gb294))
         have n10_ := Aside0.mk ((by rw [hg]; exact Nat.ne_of_gt (blk_lt (g := gb293) (o := .cells #[.int .i64 0, .int .i64 0] 77 (0, 0)) (bx_ BK293.out)) : gb294 ≠ gb293))
         clear HO0
         clear BK290
         clear BK293
         clear HB
         have HO0 := n0_
         have BK290 := n1_
         have BK293 := n2_
         have HB := n3_
         have BK294 := n4_
         have GW294 := n5_
         have GE294 := n6_
         have NB290_294 := n7_
         have NB294_290 := n8_
         have NB293_294 := n9_
         have NB294_293 := n10_
         clear n0_ n1_ n2_ n3_ n4_ n5_ n6_ n7_ n8_ n9_ n10_
         clear hb hbox hg
         refine hK.out _ _ ⟨(blk_cell BK290.out 0).trans rfl, (blk_cell BK290.out 1).trans rfl, (blk_cell BK290.out 2).trans rfl, HS3_, HS4_, HS5_, HS6_⟩ (fun hHeld => ?_)
         clear hK K
         refine norm_ (a' := ?_) ?_ ?_
         rotate_left
         ·show Act.put _ (some 6) _ = _
          simp only [Act.put, List.setIfInBounds_toArray, List.set_cons_zero, List.set_cons_succ, i64_w, i32_w]
          rfl
         exact norm_ (by simp only [putAll, Act.put, List.setIfInBounds_toArray, List.set_cons_zero, List.set_cons_succ]) (hCont (gb293, gb294) _ ⟨hHeld, (by (with_reducible repeat (first | apply Kd.V_alloc | apply Kd.V_drewN | apply Kd.V_drew)); exact Kd.V_mono HO0.out (fun _ hk => ⟨hk.1.1.1, ⟨hk.1.1.2, ⟨hk.1.2, hk.2⟩⟩⟩)), (bx_ BK290.out), (bx_ BK293.out), (bx_ BK294.out), GW293.out, GE293.out, NB290_293.out, NB293_290.out, NB294_293.out, NB293_294.out, GW294.out, GE294.out, NB290_294.out, NB294_290.out, (hx_ HB.out)⟩)
        ·skip
         refine box_step ?hg (N := 6) ?hd (cs := #[.int .i64 0, .int .i64 0]) (t := 77) ?hr ?_; (case hd => rfl); (case hg => rfl); (case hr => first | (go_simp; done) | (go_simp; rfl))
         intro gb294 hg w47 hbox hb
         have HS3_ := (hb.cell (World.block_lt_of_cell? _ _ (hHeld.2.2.2.1))).trans (hHeld.2.2.2.1)
         have HS4_ := (hb.cell (World.block_lt_of_cell? _ _ (hHeld.2.2.2.2.1))).trans (hHeld.2.2.2.2.1)
         have HS5_ := (hb.cell (World.block_lt_of_cell? _ _ (hHeld.2.2.2.2.2.1))).trans (hHeld.2.2.2.2.2.1)
         have HS6_ := (hb.cell (World.block_lt_of_cell? _ _ (hHeld.2.2.2.2.2.2))).trans (hHeld.2.2.2.2.2.2)
         have n0_ := Aside0.mk (Kd.V_below (Kd.V_elderB (by (with_reducible repeat (first | apply Kd.V_alloc | apply Kd.V_drewN | apply Kd.V_drew)); exact HO0.out) gb294 (Nat.le_of_eq hg.symm)) hb)
         have n1_ := Aside0.mk (blk_below (g := gb290) (o := .cells #[.int .i64 a1_0, .bool false, .int .i64 a1_2] 85 (0, 0)) (bx_ BK290.out) hb)
         have n2_ := Aside0.mk (below_step (hx_ HB.out) hb)
         have n3_ := Aside0.mk (hbox)
         have n4_ := Aside0.mk ((by rw [hg]; exact (below_size (hx_ HB.out)) : w.heap.size ≤ gb294))
         have n5_ := Aside0.mk ((by rw [hg]; exact (below_size (hx_ HB.out)) : w.heap.size ≤ gb294))
         have n6_ := Aside0.mk ((by rw [hg]; exact Nat.ne_of_lt (blk_lt (g := gb290) (o := .cells #[.int .i64 a1_0, .bool false, .int .i64 a1_2] 85 (0, 0)) (bx_ BK290.out)) : gb290 ≠ gb294))
         have n7_ := Aside0.mk ((by rw [hg]; exact Nat.ne_of_gt (blk_lt (g := gb290) (o := .cells #[.int .i64 a1_0, .bool false, .int .i64 a1_2] 85 (0, 0)) (bx_ BK290.out)) : gb294 ≠ gb290))
         clear HO0
         clear BK290
         clear HB
         have HO0 := n0_
         have BK290 := n1_
         have HB := n2_
         have BK294 := n3_
         have GW294 := n4_
         have GE294 := n5_
         have NB290_294 := n6_
         have NB294_290 := n7_
         clear n0_ n1_ n2_ n3_ n4_ n5_ n6_ n7_
         clear hb hbox hg
         refine hK.out _ _ ⟨(blk_cell BK290.out 0).trans rfl, (blk_cell BK290.out 1).trans rfl, (blk_cell BK290.out 2).trans rfl, HS3_, HS4_, HS5_, HS6_⟩ (fun hHeld => ?_)
         clear hK K
         refine norm_ (a' := ?_) ?_ ?_
         rotate_left
         ·show Act.put _ (some 6) _ = _
          simp only [Act.put, List.setIfInBounds_toArray, List.set_cons_zero, List.set_cons_succ, i64_w, i32_w]
          rfl
         refine one_ (i := 10) (N := some 5) #[true, true, true, true, true, true, true, true, true, true, true, true, false, false] rfl rfl (one_of HT_.out (by kernel_rfl)) (by decide) (fun K hK => ?_)
         refine box_step ?hg (N := 5) ?hd (cs := #[.int .i64 0, .int .i64 0]) (t := 77) ?hr ?_; (case hd => rfl); (case hg => rfl); (case hr => first | (go_simp; done) | (go_simp; rfl))
         intro gb293 hg w48 hbox hb
         have HS3_ := (hb.cell (World.block_lt_of_cell? _ _ (hHeld.2.2.2.1))).trans (hHeld.2.2.2.1)
         have HS4_ := (hb.cell (World.block_lt_of_cell? _ _ (hHeld.2.2.2.2.1))).trans (hHeld.2.2.2.2.1)
         have HS5_ := (hb.cell (World.block_lt_of_cell? _ _ (hHeld.2.2.2.2.2.1))).trans (hHeld.2.2.2.2.2.1)
         have HS6_ := (hb.cell (World.block_lt_of_cell? _ _ (hHeld.2.2.2.2.2.2))).trans (hHeld.2.2.2.2.2.2)
         have n0_ := Aside0.mk (Kd.V_below (Kd.V_elderB (by (with_reducible repeat (first | apply Kd.V_alloc | apply Kd.V_drewN | apply Kd.V_drew)); exact HO0.out) gb293 (Nat.le_of_eq hg.symm)) hb)
         have n1_ := Aside0.mk (blk_below (g := gb290) (o := .cells #[.int .i64 a1_0, .bool false, .int .i64 a1_2] 85 (0, 0)) (bx_ BK290.out) hb)
         have n2_ := Aside0.mk (blk_below (g := gb294) (o := .cells #[.int .i64 0, .int .i64 0] 77 (0, 0)) (bx_ BK294.out) hb)
         have n3_ := Aside0.mk (below_step (hx_ HB.out) hb)
         have n4_ := Aside0.mk (hbox)
         have n5_ := Aside0.mk ((by rw [hg]; exact (below_size (hx_ HB.out)) : w.heap.size ≤ gb293))
         have n6_ := Aside0.mk ((by rw [hg]; exact (below_size (hx_ HB.out)) : w.heap.size ≤ gb293))
         have n7_ := Aside0.mk ((by rw [hg]; exact Nat.ne_of_lt (blk_lt (g := gb290) (o := .cells #[.int .i64 a1_0, .bool false, .int .i64 a1_2] 85 (0, 0)) (bx_ BK290.out)) : gb290 ≠ gb293))
         have n8_ := Aside0.mk ((by rw [hg]; exact Nat.ne_of_gt (blk_lt (g := gb290) (o := .cells #[.int .i64 a1_0, .bool false, .int .i64 a1_2] 85 (0, 0)) (bx_ BK290.out)) : gb293 ≠ gb290))
         have n9_ := Aside0.mk ((by rw [hg]; exact Nat.ne_of_lt (blk_lt (g := gb294) (o := .cells #[.int .i64 0, .int .i64 0] 77 (0, 0)) (bx_ BK294.out)) : gb294 ≠ gb293))
         have n10_ := Aside0.mk ((by rw [hg]; exact Nat.ne_of_gt (blk_lt (g := gb294) (o := .cells #[.int .i64 0, .int .i64 0] 77 (0, 0)) (bx_ BK294.out)) : gb293 ≠ gb294))
         clear HO0
         clear BK290
         clear BK294
         clear HB
         have HO0 := n0_
         have BK290 := n1_
         have BK294 := n2_
         have HB := n3_
         have BK293 := n4_
         have GW293 := n5_
         have GE293 := n6_
         have NB290_293 := n7_
         have NB293_290 := n8_
         have NB294_293 := n9_
         have NB293_294 := n10_
         clear n0_ n1_ n2_ n3_ n4_ n5_ n6_ n7_ n8_ n9_ n10_
         clear hb hbox hg
         refine hK.out _ _ ⟨(blk_cell BK290.out 0).trans rfl, (blk_cell BK290.out 1).trans rfl, (blk_cell BK290.out 2).trans rfl, HS3_, HS4_, HS5_, HS6_⟩ (fun hHeld => ?_)
         clear hK K
         refine norm_ (a' := ?_) ?_ ?_
         rotate_left
         ·show Act.put _ (some 5) _ = _
          simp only [Act.put, List.setIfInBounds_toArray, List.set_cons_zero, List.set_cons_succ, i64_w, i32_w]
          rfl
         exact norm_ (by simp only [putAll, Act.put, List.setIfInBounds_toArray, List.set_cons_zero, List.set_cons_succ]) (hCont (gb293, gb294) _ ⟨hHeld, (by (with_reducible repeat (first | apply Kd.V_alloc | apply Kd.V_drewN | apply Kd.V_drew)); exact Kd.V_mono HO0.out (fun _ hk => ⟨hk.1.1.1, ⟨hk.1.1.2, ⟨hk.2, hk.1.2⟩⟩⟩)), (bx_ BK290.out), (bx_ BK293.out), (bx_ BK294.out), GW293.out, GE293.out, NB290_293.out, NB293_290.out, NB294_293.out, NB293_294.out, GW294.out, GE294.out, NB290_294.out, NB294_290.out, (hx_ HB.out)⟩)
       rintro ⟨gb293, gb294⟩ w49 ⟨hS_, h0_, h1_, h2_, h3_, h4_, h5_, h6_, h7_, h8_, h9_, h10_, h11_, h12_, h13_, h14_⟩
       have n0_ : Aside0 (Kd.V k77 77 w49 w.heap.size (fun k_ => (P0_ k_ ∨ w.heap.size ≤ k_) ∧ k_ ≠ gb290 ∧ k_ ≠ gb293 ∧ k_ ≠ gb294) (.slice (some ad291) l0.length c0) l0) := ⟨h0_⟩
       have n1_ : Aside0 (w49.heap[gb290]? = some (.cells #[.int .i64 a1_0, .bool false, .int .i64 a1_2] 85 (0, 0))) := ⟨h1_⟩
       have n2_ : Aside0 (w49.heap[gb293]? = some (.cells #[.int .i64 0, .int .i64 0] 77 (0, 0))) := ⟨h2_⟩
       have n3_ : Aside0 (w49.heap[gb294]? = some (.cells #[.int .i64 0, .int .i64 0] 77 (0, 0))) := ⟨h3_⟩
       have n4_ : Aside0 (w.heap.size ≤ gb293) := ⟨h4_⟩
       have n5_ : Aside0 (w.heap.size ≤ gb293) := ⟨h5_⟩
       have n6_ : Aside0 (gb290 ≠ gb293) := ⟨h6_⟩
       have n7_ : Aside0 (gb293 ≠ gb290) := ⟨h7_⟩
       have n8_ : Aside0 (gb294 ≠ gb293) := ⟨h8_⟩
       have n9_ : Aside0 (gb293 ≠ gb294) := ⟨h9_⟩
       have n10_ : Aside0 (w.heap.size ≤ gb294) := ⟨h10_⟩
       have n11_ : Aside0 (w.heap.size ≤ gb294) := ⟨h11_⟩
       have n12_ : Aside0 (gb290 ≠ gb294) := ⟨h12_⟩
       have n13_ : Aside0 (gb294 ≠ gb290) := ⟨h13_⟩
       have n14_ : Aside0 (Below w.heap.size w w49) := ⟨h14_⟩
       clear HO0
       clear BK290
       clear HB
       clear h0_ h1_ h2_ h3_ h4_ h5_ h6_ h7_ h8_ h9_ h10_ h11_ h12_ h13_ h14_
       have HO0 := n0_
       have BK290 := n1_
       have BK293 := n2_
       have BK294 := n3_
       have GW293 := n4_
       have GE293 := n5_
       have NB290_293 := n6_
       have NB293_290 := n7_
       have NB294_293 := n8_
       have NB293_294 := n9_
       have GW294 := n10_
       have GE294 := n11_
       have NB290_294 := n12_
       have NB294_290 := n13_
       have HB := n14_
       clear n0_ n1_ n2_ n3_ n4_ n5_ n6_ n7_ n8_ n9_ n10_ n11_ n12_ n13_ n14_
       have hHeld : w49.cell? ⟨gb290, 0, none⟩ = some (.int .i64 a1_0) ∧ w49.cell? ⟨gb290, 1, none⟩ = some (.bool false) ∧ w49.cell? ⟨gb290, 2, none⟩ = some (.int .i64 a1_2) ∧ w49.cell? (ad291.add ((a1_0).toNat * 2)) = some (.int .i64 ((rd_T77 l0 a1_0).f0)) ∧ w49.cell? ⟨(ad291.add ((a1_0).toNat * 2)).block, (ad291.add ((a1_0).toNat * 2)).off + 1, none⟩ = some (.int .i64 ((rd_T77 l0 a1_0).f1)) ∧ w49.cell? (ad291.add ((a1_0).toNat * 2)) = some (.int .i64 ((rd_T77 l0 a1_0).f0)) ∧ w49.cell? ⟨(ad291.add ((a1_0).toNat * 2)).block, (ad291.add ((a1_0).toNat * 2)).off + 1, none⟩ = some (.int .i64 ((rd_T77 l0 a1_0).f1)) := hS_
       refine norm_ (a' := ?_) ?_ ?_
       rotate_left
       ·simp only [putAll, Act.put, List.setIfInBounds_toArray, List.set_cons_zero, List.set_cons_succ]
        rfl
       refine one_ (i := 12) (N := none) #[true, true, true, true, true, true, true, true, true, true, true, true, true, false] rfl rfl (one_of HT_.out (by kernel_rfl)) (by decide) (fun K hK => ?_)
       have hs50 : w49.cell? ⟨gb293, 0, none⟩ = some (.int .i64 0) := (blk_cell BK293.out 0).trans rfl
       have hfs50 := blk_frozen BK293.out 0
       have hns50_0 := NB290_293.out
       have hns50_2 := NB294_293.out
       have hms50_0 := NB293_290.out
       have hms50_2 := NB293_294.out
       have hs51 : w49.cell? ⟨gb293, 1, none⟩ = some (.int .i64 0) := (blk_cell BK293.out 1).trans rfl
       have hfs51 := blk_frozen BK293.out 1
       have hns51_0 := NB290_293.out
       have hns51_2 := NB294_293.out
       have hms51_0 := NB293_290.out
       have hms51_2 := NB293_294.out
       refine skip_ (w1 := ?_) (by rfl) rfl ?_ ?_
       rotate_left
       ·go_simp
        rfl
       refine hK.out _ _ ⟨((cell_far (p := ⟨gb293, _, none⟩) NB290_293.out _).trans (((cell_far (p := ⟨gb293, _, none⟩) NB290_293.out _).trans (hHeld.1)))), ((cell_far (p := ⟨gb293, _, none⟩) NB290_293.out _).trans (((cell_far (p := ⟨gb293, _, none⟩) NB290_293.out _).trans (hHeld.2.1)))), ((cell_far (p := ⟨gb293, _, none⟩) NB290_293.out _).trans (((cell_far (p := ⟨gb293, _, none⟩) NB290_293.out _).trans (hHeld.2.2.1)))), ((cell_far (p := ⟨gb293, _, none⟩) (by first | exact Kd.own_blk (HandG.va HO0.out (fun _ hk => hk.2.2.1)) | (rw [add_block]; exact Kd.own_blk (HandG.va HO0.out (fun _ hk => hk.2.2.1))) | (show (Addr.add _ _).block ≠ _; rw [add_block]; exact Kd.own_blk (HandG.va HO0.out (fun _ hk => hk.2.2.1))) | (dsimp only; exact Kd.own_blk (HandG.va HO0.out (fun _ hk => hk.2.2.1)))) _).trans (((cell_far (p := ⟨gb293, _, none⟩) (by first | exact Kd.own_blk (HandG.va HO0.out (fun _ hk => hk.2.2.1)) | (rw [add_block]; exact Kd.own_blk (HandG.va HO0.out (fun _ hk => hk.2.2.1))) | (show (Addr.add _ _).block ≠ _; rw [add_block]; exact Kd.own_blk (HandG.va HO0.out (fun _ hk => hk.2.2.1))) | (dsimp only; exact Kd.own_blk (HandG.va HO0.out (fun _ hk => hk.2.2.1)))) _).trans (hHeld.2.2.2.1)))), ((cell_far (p := ⟨gb293, _, none⟩) (by first | exact Kd.own_blk (HandG.va HO0.out (fun _ hk => hk.2.2.1)) | (rw [add_block]; exact Kd.own_blk (HandG.va HO0.out (fun _ hk => hk.2.2.1))) | (show (Addr.add _ _).block ≠ _; rw [add_block]; exact Kd.own_blk (HandG.va HO0.out (fun _ hk => hk.2.2.1))) | (dsimp only; exact Kd.own_blk (HandG.va HO0.out (fun _ hk => hk.2.2.1)))) _).trans (((cell_far (p := ⟨gb293, _, none⟩) (by first | exact Kd.own_blk (HandG.va HO0.out (fun _ hk => hk.2.2.1)) | (rw [add_block]; exact Kd.own_blk (HandG.va HO0.out (fun _ hk => hk.2.2.1))) | (show (Addr.add _ _).block ≠ _; rw [add_block]; exact Kd.own_blk (HandG.va HO0.out (fun _ hk => hk.2.2.1))) | (dsimp only; exact Kd.own_blk (HandG.va HO0.out (fun _ hk => hk.2.2.1)))) _).trans (hHeld.2.2.2.2.1)))), ((cell_far (p := ⟨gb293, _, none⟩) (by first | exact Kd.own_blk (HandG.va HO0.out (fun _ hk => hk.2.2.1)) | (rw [add_block]; exact Kd.own_blk (HandG.va HO0.out (fun _ hk => hk.2.2.1))) | (show (Addr.add _ _).block ≠ _; rw [add_block]; exact Kd.own_blk (HandG.va HO0.out (fun _ hk => hk.2.2.1))) | (dsimp only; exact Kd.own_blk (HandG.va HO0.out (fun _ hk => hk.2.2.1)))) _).trans (((cell_far (p := ⟨gb293, _, none⟩) (by first | exact Kd.own_blk (HandG.va HO0.out (fun _ hk => hk.2.2.1)) | (rw [add_block]; exact Kd.own_blk (HandG.va HO0.out (fun _ hk => hk.2.2.1))) | (show (Addr.add _ _).block ≠ _; rw [add_block]; exact Kd.own_blk (HandG.va HO0.out (fun _ hk => hk.2.2.1))) | (dsimp only; exact Kd.own_blk (HandG.va HO0.out (fun _ hk => hk.2.2.1)))) _).trans (hHeld.2.2.2.2.2.1)))), ((cell_far (p := ⟨gb293, _, none⟩) (by first | exact Kd.own_blk (HandG.va HO0.out (fun _ hk => hk.2.2.1)) | (rw [add_block]; exact Kd.own_blk (HandG.va HO0.out (fun _ hk => hk.2.2.1))) | (show (Addr.add _ _).block ≠ _; rw [add_block]; exact Kd.own_blk (HandG.va HO0.out (fun _ hk => hk.2.2.1))) | (dsimp only; exact Kd.own_blk (HandG.va HO0.out (fun _ hk => hk.2.2.1)))) _).trans (((cell_far (p := ⟨gb293, _, none⟩) (by first | exact Kd.own_blk (HandG.va HO0.out (fun _ hk => hk.2.2.1)) | (rw [add_block]; exact Kd.own_blk (HandG.va HO0.out (fun _ hk => hk.2.2.1))) | (show (Addr.add _ _).block ≠ _; rw [add_block]; exact Kd.own_blk (HandG.va HO0.out (fun _ hk => hk.2.2.1))) | (dsimp only; exact Kd.own_blk (HandG.va HO0.out (fun _ hk => hk.2.2.1)))) _).trans (hHeld.2.2.2.2.2.2))))⟩ (fun hHeld => ?_)
       clear hK K
       refine one_ (i := 13) (N := none) #[true, true, true, true, true, true, true, true, true, true, true, true, true, true] rfl rfl (one_of HT_.out (by kernel_rfl)) (by decide) (fun K hK => ?_)
       have hs52 : w49.cell? ⟨gb294, 0, none⟩ = some (.int .i64 0) := (blk_cell BK294.out 0).trans rfl
       have hfs52 := blk_frozen BK294.out 0
       have hns52_0 := NB290_294.out
       have hns52_1 := NB293_294.out
       have hms52_0 := NB294_290.out
       have hms52_1 := NB294_293.out
       have hs53 : w49.cell? ⟨gb294, 1, none⟩ = some (.int .i64 0) := (blk_cell BK294.out 1).trans rfl
       have hfs53 := blk_frozen BK294.out 1
       have hns53_0 := NB290_294.out
       have hns53_1 := NB293_294.out
       have hms53_0 := NB294_290.out
       have hms53_1 := NB294_293.out
       refine skip_ (w1 := ?_) (by rfl) rfl ?_ ?_
       rotate_left
       ·go_simp
        rfl
       refine hK.out _ _ ⟨((cell_far (p := ⟨gb294, _, none⟩) NB290_294.out _).trans (((cell_far (p := ⟨gb294, _, none⟩) NB290_294.out _).trans (hHeld.1)))), ((cell_far (p := ⟨gb294, _, none⟩) NB290_294.out _).trans (((cell_far (p := ⟨gb294, _, none⟩) NB290_294.out _).trans (hHeld.2.1)))), ((cell_far (p := ⟨gb294, _, none⟩) NB290_294.out _).trans (((cell_far (p := ⟨gb294, _, none⟩) NB290_294.out _).trans (hHeld.2.2.1)))), ((cell_far (p := ⟨gb294, _, none⟩) (by first | exact Kd.own_blk (HandG.va HO0.out (fun _ hk => hk.2.2.2)) | (rw [add_block]; exact Kd.own_blk (HandG.va HO0.out (fun _ hk => hk.2.2.2))) | (show (Addr.add _ _).block ≠ _; rw [add_block]; exact Kd.own_blk (HandG.va HO0.out (fun _ hk => hk.2.2.2))) | (dsimp only; exact Kd.own_blk (HandG.va HO0.out (fun _ hk => hk.2.2.2)))) _).trans (((cell_far (p := ⟨gb294, _, none⟩) (by first | exact Kd.own_blk (HandG.va HO0.out (fun _ hk => hk.2.2.2)) | (rw [add_block]; exact Kd.own_blk (HandG.va HO0.out (fun _ hk => hk.2.2.2))) | (show (Addr.add _ _).block ≠ _; rw [add_block]; exact Kd.own_blk (HandG.va HO0.out (fun _ hk => hk.2.2.2))) | (dsimp only; exact Kd.own_blk (HandG.va HO0.out (fun _ hk => hk.2.2.2)))) _).trans (hHeld.2.2.2.1)))), ((cell_far (p := ⟨gb294, _, none⟩) (by first | exact Kd.own_blk (HandG.va HO0.out (fun _ hk => hk.2.2.2)) | (rw [add_block]; exact Kd.own_blk (HandG.va HO0.out (fun _ hk => hk.2.2.2))) | (show (Addr.add _ _).block ≠ _; rw [add_block]; exact Kd.own_blk (HandG.va HO0.out (fun _ hk => hk.2.2.2))) | (dsimp only; exact Kd.own_blk (HandG.va HO0.out (fun _ hk => hk.2.2.2)))) _).trans (((cell_far (p := ⟨gb294, _, none⟩) (by first | exact Kd.own_blk (HandG.va HO0.out (fun _ hk => hk.2.2.2)) | (rw [add_block]; exact Kd.own_blk (HandG.va HO0.out (fun _ hk => hk.2.2.2))) | (show (Addr.add _ _).block ≠ _; rw [add_block]; exact Kd.own_blk (HandG.va HO0.out (fun _ hk => hk.2.2.2))) | (dsimp only; exact Kd.own_blk (HandG.va HO0.out (fun _ hk => hk.2.2.2)))) _).trans (hHeld.2.2.2.2.1)))), ((cell_far (p := ⟨gb294, _, none⟩) (by first | exact Kd.own_blk (HandG.va HO0.out (fun _ hk => hk.2.2.2)) | (rw [add_block]; exact Kd.own_blk (HandG.va HO0.out (fun _ hk => hk.2.2.2))) | (show (Addr.add _ _).block ≠ _; rw [add_block]; exact Kd.own_blk (HandG.va HO0.out (fun _ hk => hk.2.2.2))) | (dsimp only; exact Kd.own_blk (HandG.va HO0.out (fun _ hk => hk.2.2.2)))) _).trans (((cell_far (p := ⟨gb294, _, none⟩) (by first | exact Kd.own_blk (HandG.va HO0.out (fun _ hk => hk.2.2.2)) | (rw [add_block]; exact Kd.own_blk (HandG.va HO0.out (fun _ hk => hk.2.2.2))) | (show (Addr.add _ _).block ≠ _; rw [add_block]; exact Kd.own_blk (HandG.va HO0.out (fun _ hk => hk.2.2.2))) | (dsimp only; exact Kd.own_blk (HandG.va HO0.out (fun _ hk => hk.2.2.2)))) _).trans (hHeld.2.2.2.2.2.1)))), ((cell_far (p := ⟨gb294, _, none⟩) (by first | exact Kd.own_blk (HandG.va HO0.out (fun _ hk => hk.2.2.2)) | (rw [add_block]; exact Kd.own_blk (HandG.va HO0.out (fun _ hk => hk.2.2.2))) | (show (Addr.add _ _).block ≠ _; rw [add_block]; exact Kd.own_blk (HandG.va HO0.out (fun _ hk => hk.2.2.2))) | (dsimp only; exact Kd.own_blk (HandG.va HO0.out (fun _ hk => hk.2.2.2)))) _).trans (((cell_far (p := ⟨gb294, _, none⟩) (by first | exact Kd.own_blk (HandG.va HO0.out (fun _ hk => hk.2.2.2)) | (rw [add_block]; exact Kd.own_blk (HandG.va HO0.out (fun _ hk => hk.2.2.2))) | (show (Addr.add _ _).block ≠ _; rw [add_block]; exact Kd.own_blk (HandG.va HO0.out (fun _ hk => hk.2.2.2))) | (dsimp only; exact Kd.own_blk (HandG.va HO0.out (fun _ hk => hk.2.2.2)))) _).trans (hHeld.2.2.2.2.2.2))))⟩ (fun hHeld => ?_)
       clear hK K
       refine done_ (done_of HT_.out (by kernel_rfl)) ?_
       have hnb54 := NB290_293.out
       have hnc54 := NB293_290.out
       have hnb55 := NB290_294.out
       have hnc55 := NB294_290.out
       have hcz56_0 : w49.cell? ⟨gb290, 0, none⟩ = some (.int .i64 a1_0) := (blk_cell BK290.out 0).trans rfl
       have hcz56_1 : w49.cell? ⟨gb290, 1, none⟩ = some (.bool false) := (blk_cell BK290.out 1).trans rfl
       have hcz56_2 : w49.cell? ⟨gb290, 2, none⟩ = some (.int .i64 a1_2) := (blk_cell BK290.out 2).trans rfl
       have hfz56_0 := blk_frozen BK290.out 0
       have hfz56_1 := blk_frozen BK290.out 1
       have hfz56_2 := blk_frozen BK290.out 2
       try go_wp2
       have n0_ : Aside0 (Kd.V k77 77 ((((w49.setCell ⟨gb293, 0, none⟩ (.int .i64 ((rd_T77 l0 a1_0).f0))).setCell ⟨gb293, 1, none⟩ (.int .i64 ((rd_T77 l0 a1_0).f1))).setCell ⟨gb294, 0, none⟩ (.int .i64 ((rd_T77 l0 a1_0).f0))).setCell ⟨gb294, 1, none⟩ (.int .i64 ((rd_T77 l0 a1_0).f1))) w.heap.size (fun k_ => (P0_ k_ ∨ w.heap.size ≤ k_) ∧ k_ ≠ gb290 ∧ k_ ≠ gb293 ∧ k_ ≠ gb294) (.slice (some ad291) l0.length c0) l0) := ⟨by (with_reducible repeat (first | apply Kd.V_alloc | apply Kd.V_drewN | apply Kd.V_drew)); exact Kd.V_mono (Kd.V_far (p := ⟨gb294, 1, none⟩) (Kd.V_far (p := ⟨gb294, 0, none⟩) (Kd.V_far (p := ⟨gb293, 1, none⟩) (Kd.V_far (p := ⟨gb293, 0, none⟩) (Kd.V_mono (Kd.V_mono HO0.out (fun k_ hk => (⟨hk, hk.2.2.1⟩ : _ ∧ k_ ≠ gb293))) (fun k_ hk => (⟨hk, hk.1.2.2.2⟩ : _ ∧ k_ ≠ gb294))) (fun _ hk => hk.1.2) (.int .i64 ((rd_T77 l0 a1_0).f0))) (fun _ hk => hk.1.2) (.int .i64 ((rd_T77 l0 a1_0).f1))) (fun _ hk => hk.2) (.int .i64 ((rd_T77 l0 a1_0).f0))) (fun _ hk => hk.2) (.int .i64 ((rd_T77 l0 a1_0).f1))) (fun _ hk => ⟨hk.1.1.1, ⟨hk.1.1.2.1, ⟨hk.1.1.2.2.1, hk.1.1.2.2.2⟩⟩⟩)⟩
       have n1_ : Aside0 (((((w49.setCell ⟨gb293, 0, none⟩ (.int .i64 ((rd_T77 l0 a1_0).f0))).setCell ⟨gb293, 1, none⟩ (.int .i64 ((rd_T77 l0 a1_0).f1))).setCell ⟨gb294, 0, none⟩ (.int .i64 ((rd_T77 l0 a1_0).f0))).setCell ⟨gb294, 1, none⟩ (.int .i64 ((rd_T77 l0 a1_0).f1))).heap[gb290]? = some (.cells #[.int .i64 a1_0, .bool false, .int .i64 a1_2] 85 (0, 0))) := ⟨bx_ BK290.out⟩
       have n2_ : Aside0 (((((w49.setCell ⟨gb293, 0, none⟩ (.int .i64 ((rd_T77 l0 a1_0).f0))).setCell ⟨gb293, 1, none⟩ (.int .i64 ((rd_T77 l0 a1_0).f1))).setCell ⟨gb294, 0, none⟩ (.int .i64 ((rd_T77 l0 a1_0).f0))).setCell ⟨gb294, 1, none⟩ (.int .i64 ((rd_T77 l0 a1_0).f1))).heap[gb293]? = some (.cells #[.int .i64 ((rd_T77 l0 a1_0).f0), .int .i64 ((rd_T77 l0 a1_0).f1)] 77 (0, 0))) := ⟨by (with_reducible repeat (first | refine blk_drewN ?_ _ | refine blk_drew ?_ | refine blk_alloc ?_ _)); refine blk_far ?_ NB293_294.out _; (with_reducible repeat (first | refine blk_drewN ?_ _ | refine blk_drew ?_ | refine blk_alloc ?_ _)); refine blk_far ?_ NB293_294.out _; (with_reducible repeat (first | refine blk_drewN ?_ _ | refine blk_drew ?_ | refine blk_alloc ?_ _)); refine blk_put (cs := #[.int .i64 ((rd_T77 l0 a1_0).f0), .int .i64 0]) ?_ 1 _ rfl; (with_reducible repeat (first | refine blk_drewN ?_ _ | refine blk_drew ?_ | refine blk_alloc ?_ _)); refine blk_put (cs := #[.int .i64 0, .int .i64 0]) ?_ 0 _ rfl; (with_reducible repeat (first | refine blk_drewN ?_ _ | refine blk_drew ?_ | refine blk_alloc ?_ _)); exact BK293.out⟩
       have n3_ : Aside0 (((((w49.setCell ⟨gb293, 0, none⟩ (.int .i64 ((rd_T77 l0 a1_0).f0))).setCell ⟨gb293, 1, none⟩ (.int .i64 ((rd_T77 l0 a1_0).f1))).setCell ⟨gb294, 0, none⟩ (.int .i64 ((rd_T77 l0 a1_0).f0))).setCell ⟨gb294, 1, none⟩ (.int .i64 ((rd_T77 l0 a1_0).f1))).heap[gb294]? = some (.cells #[.int .i64 ((rd_T77 l0 a1_0).f0), .int .i64 ((rd_T77 l0 a1_0).f1)] 77 (0, 0))) := ⟨by (with_reducible repeat (first | refine blk_drewN ?_ _ | refine blk_drew ?_ | refine blk_alloc ?_ _)); refine blk_put (cs := #[.int .i64 ((rd_T77 l0 a1_0).f0), .int .i64 0]) ?_ 1 _ rfl; (with_reducible repeat (first | refine blk_drewN ?_ _ | refine blk_drew ?_ | refine blk_alloc ?_ _)); refine blk_put (cs := #[.int .i64 0, .int .i64 0]) ?_ 0 _ rfl; (with_reducible repeat (first | refine blk_drewN ?_ _ | refine blk_drew ?_ | refine blk_alloc ?_ _)); refine blk_far ?_ NB294_293.out _; (with_reducible repeat (first | refine blk_drewN ?_ _ | refine blk_drew ?_ | refine blk_alloc ?_ _)); refine blk_far ?_ NB294_293.out _; (with_reducible repeat (first | refine blk_drewN ?_ _ | refine blk_drew ?_ | refine blk_alloc ?_ _)); exact BK294.out⟩
       have n4_ : Aside0 (Below w.heap.size w ((((w49.setCell ⟨gb293, 0, none⟩ (.int .i64 ((rd_T77 l0 a1_0).f0))).setCell ⟨gb293, 1, none⟩ (.int .i64 ((rd_T77 l0 a1_0).f1))).setCell ⟨gb294, 0, none⟩ (.int .i64 ((rd_T77 l0 a1_0).f0))).setCell ⟨gb294, 1, none⟩ (.int .i64 ((rd_T77 l0 a1_0).f1)))) := ⟨hx_ HB.out⟩
       (try clear HO0)
       (try clear BK290)
       (try clear BK293)
       (try clear BK294)
       (try clear HB)
       generalize ((((w49.setCell ⟨gb293, 0, none⟩ (.int .i64 ((rd_T77 l0 a1_0).f0))).setCell ⟨gb293, 1, none⟩ (.int .i64 ((rd_T77 l0 a1_0).f1))).setCell ⟨gb294, 0, none⟩ (.int .i64 ((rd_T77 l0 a1_0).f0))).setCell ⟨gb294, 1, none⟩ (.int .i64 ((rd_T77 l0 a1_0).f1))) = w57 at n0_ n1_ n2_ n3_ n4_ ⊢
       have HO0 := n0_
       have BK290 := n1_
       have BK293 := n2_
       have BK294 := n3_
       have HB := n4_
       clear n0_ n1_ n2_ n3_ n4_
       have n0_ := Aside0.mk (Kd.V_drew HO0.out)
       have n1_ := Aside0.mk (blk_drew BK290.out)
       have n2_ := Aside0.mk (blk_drew BK293.out)
       have n3_ := Aside0.mk (blk_drew BK294.out)
       have n4_ := Aside0.mk (below_drew1 HB.out)
       clear HO0
       clear BK290
       clear BK293
       clear BK294
       clear HB
       have HO0 := n0_
       have BK290 := n1_
       have BK293 := n2_
       have BK294 := n3_
       have HB := n4_
       clear n0_ n1_ n2_ n3_ n4_
       refine start_ (n := 11) (S := fun w' => w'.cell? ⟨gb290, 0, none⟩ = some (.int .i64 a1_0) ∧ w'.cell? ⟨gb290, 1, none⟩ = some (.bool false) ∧ w'.cell? ⟨gb290, 2, none⟩ = some (.int .i64 a1_2) ∧ w'.cell? ⟨gb294, 0, none⟩ = some (.int .i64 ((rd_T77 l0 a1_0).f0)) ∧ w'.cell? ⟨gb294, 1, none⟩ = some (.int .i64 ((rd_T77 l0 a1_0).f1))) (ds := [10]) #[false, false, false, false, false, false, false, false, false, false, false] (by kernel_rfl) rfl rfl ⟨(blk_cell BK290.out 0).trans rfl, (blk_cell BK290.out 1).trans rfl, (blk_cell BK290.out 2).trans rfl, (blk_cell BK294.out 0).trans rfl, (blk_cell BK294.out 1).trans rfl⟩ (fun hHeld => ?_); refine with_tabW impl_cut.tab4 impl_cut.bits4 (fun HT_ HW_ => ?_)
       generalize w57.drew = w58 at HO0 BK290 BK293 BK294 HB hHeld ⊢
       refine pure_ (i := 0) (N := some 28) (v := ?_) (a' := ?_) #[true, false, false, false, false, false, false, false, false, false, false] rfl rfl (any_of HT_.out (by kernel_rfl)) (fun _ _ _ h => h) (Or.inl ⟨by rfl, ?_⟩) ?_ ?_
       rotate_left
       ·intro w'
        go_simp
        with_reducible rfl
       rotate_left
       ·simp only [Act.put, List.setIfInBounds_toArray, List.set_cons_zero, List.set_cons_succ, i64_w, i32_w]
        rfl
       refine pure_ (i := 2) (N := some 30) (v := ?_) (a' := ?_) #[true, false, true, false, false, false, false, false, false, false, false] rfl rfl (any_of HT_.out (by kernel_rfl)) (fun _ _ _ h => h) (Or.inl ⟨by rfl, ?_⟩) ?_ ?_
       rotate_left
       ·intro w'
        go_simp
        with_reducible rfl
       rotate_left
       ·simp only [Act.put, List.setIfInBounds_toArray, List.set_cons_zero, List.set_cons_succ, i64_w, i32_w]
        rfl
       refine pure_ (i := 4) (N := some 32) (v := ?_) (a' := ?_) #[true, false, true, false, true, false, false, false, false, false, false] rfl rfl (any_of HT_.out (by kernel_rfl)) (fun _ _ _ h => h) (Or.inl ⟨by rfl, ?_⟩) ?_ ?_
       rotate_left
       ·intro w'
        go_simp
        with_reducible rfl
       rotate_left
       ·simp only [Act.put, List.setIfInBounds_toArray, List.set_cons_zero, List.set_cons_succ, i64_w, i32_w]
        rfl
       refine take_ (i := 1) (N := some 29) (v := ?_) (a' := ?_) #[true, true, true, false, true, false, false, false, false, false, false] rfl rfl (take_ofW HT_.out HW_.out (by kernel_rfl)) (fun _ _ _ h => h) (Or.inl ⟨by rfl, ?_⟩) hHeld ?_ ?_
       rotate_left
       ·rintro w' ⟨s0, s1, s2, s3, s4⟩
        go_simp
        with_reducible rfl
       rotate_left
       ·simp only [Act.put, List.setIfInBounds_toArray, List.set_cons_zero, List.set_cons_succ, i64_w, i32_w]
        rfl
       refine pure_ (i := 7) (N := some 35) (v := ?_) (a' := ?_) #[true, true, true, false, true, false, false, true, false, false, false] rfl rfl (any_of HT_.out (by kernel_rfl)) (fun _ _ _ h => h) (Or.inl ⟨by rfl, ?_⟩) ?_ ?_
       rotate_left
       ·intro w'
        go_simp
        with_reducible rfl
       rotate_left
       ·simp only [Act.put, List.setIfInBounds_toArray, List.set_cons_zero, List.set_cons_succ, i64_w, i32_w]
        rfl
       refine take_ (i := 3) (N := some 31) (v := ?_) (a' := ?_) #[true, true, true, true, true, false, false, true, false, false, false] rfl rfl (take_ofW HT_.out HW_.out (by kernel_rfl)) (fun _ _ _ h => h) (Or.inl ⟨by rfl, ?_⟩) hHeld ?_ ?_
       rotate_left
       ·rintro w' ⟨s0, s1, s2, s3, s4⟩
        go_simp
        with_reducible rfl
       rotate_left
       ·simp only [Act.put, List.setIfInBounds_toArray, List.set_cons_zero, List.set_cons_succ, i64_w, i32_w]
        rfl
       refine take_ (i := 5) (N := some 33) (v := ?_) (a' := ?_) #[true, true, true, true, true, true, false, true, false, false, false] rfl rfl (take_ofW HT_.out HW_.out (by kernel_rfl)) (fun _ _ _ h => h) (Or.inl ⟨by rfl, ?_⟩) hHeld ?_ ?_
       rotate_left
       ·rintro w' ⟨s0, s1, s2, s3, s4⟩
        go_simp
        with_reducible rfl
       rotate_left
       ·simp only [Act.put, List.setIfInBounds_toArray, List.set_cons_zero, List.set_cons_succ, i64_w, i32_w]
        rfl
       refine pure_ (i := 6) (N := some 34) (v := ?_) (a' := ?_) #[true, true, true, true, true, true, true, true, false, false, false] rfl rfl (any_of HT_.out (by kernel_rfl)) (fun _ _ _ h => h) (Or.inl ⟨by rfl, ?_⟩) ?_ ?_
       rotate_left
       ·intro w'
        go_simp
        with_reducible rfl
       rotate_left
       ·simp only [Act.put, List.setIfInBounds_toArray, List.set_cons_zero, List.set_cons_succ, i64_w, i32_w]
        rfl
       refine one_ (i := 8) (N := none) #[true, true, true, true, true, true, true, true, true, false, false] rfl rfl (one_of HT_.out (by kernel_rfl)) (by decide) (fun K hK => ?_)
       have hs59 : w58.cell? ⟨gb293, 0, none⟩ = some (.int .i64 ((rd_T77 l0 a1_0).f0)) := (blk_cell BK293.out 0).trans rfl
       have hfs59 := blk_frozen BK293.out 0
       have hns59_0 := NB290_293.out
       have hns59_2 := NB294_293.out
       have hms59_0 := NB293_290.out
       have hms59_2 := NB293_294.out
       refine skip_ (w1 := ?_) (by rfl) rfl ?_ ?_
       rotate_left
       ·go_simp
        rfl
       refine hK.out _ _ ⟨((cell_far (p := ⟨gb293, _, none⟩) NB290_293.out _).trans (hHeld.1)), ((cell_far (p := ⟨gb293, _, none⟩) NB290_293.out _).trans (hHeld.2.1)), ((cell_far (p := ⟨gb293, _, none⟩) NB290_293.out _).trans (hHeld.2.2.1)), ((cell_far (p := ⟨gb293, _, none⟩) NB294_293.out _).trans (hHeld.2.2.2.1)), ((cell_far (p := ⟨gb293, _, none⟩) NB294_293.out _).trans (hHeld.2.2.2.2))⟩ (fun hHeld => ?_)
       clear hK K
       refine pure_ (i := 9) (N := some 36) (v := ?_) (a' := ?_) #[true, true, true, true, true, true, true, true, true, true, false] rfl rfl (any_of HT_.out (by kernel_rfl)) (fun _ _ _ h => h) (Or.inl ⟨by rfl, ?_⟩) ?_ ?_
       rotate_left
       ·intro w'
        go_simp
        with_reducible rfl
       rotate_left
       ·simp only [Act.put, List.setIfInBounds_toArray, List.set_cons_zero, List.set_cons_succ, i64_w, i32_w]
        rfl
       refine last_ (i := 10) (N := none) #[true, true, true, true, true, true, true, true, true, true, true] rfl rfl (one_of HT_.out (by kernel_rfl)) (by decide) (fun K hK => ?_)
       have hs60 : w58.cell? ⟨gb294, 0, none⟩ = some (.int .i64 ((rd_T77 l0 a1_0).f0)) := (blk_cell BK294.out 0).trans rfl
       have hfs60 := blk_frozen BK294.out 0
       have hns60_0 := NB290_294.out
       have hns60_1 := NB293_294.out
       have hms60_0 := NB294_290.out
       have hms60_1 := NB294_293.out
       refine skip_ (w1 := ?_) (by rfl) rfl ?_ ?_
       rotate_left
       ·go_simp
        rfl
       refine hK.out _ _ ?_
       clear hK K
       refine done_ (done_of HT_.out (by kernel_rfl)) ?_
       try go_wp2
       have n0_ : Aside0 (Kd.V k77 77 ((w58.setCell ⟨gb293, 0, none⟩ (.int .i64 a1_2)).setCell ⟨gb294, 0, none⟩ (.int .i64 (wrap64 (((rd_T77 l0 a1_0).f0) - a1_2)))) w.heap.size (fun k_ => (P0_ k_ ∨ w.heap.size ≤ k_) ∧ k_ ≠ gb290 ∧ k_ ≠ gb293 ∧ k_ ≠ gb294) (.slice (some ad291) l0.length c0) l0) := ⟨by (with_reducible repeat (first | apply Kd.V_alloc | apply Kd.V_drewN | apply Kd.V_drew)); exact Kd.V_mono (Kd.V_far (p := ⟨gb294, 0, none⟩) (Kd.V_far (p := ⟨gb293, 0, none⟩) (Kd.V_mono (Kd.V_mono HO0.out (fun k_ hk => (⟨hk, hk.2.2.1⟩ : _ ∧ k_ ≠ gb293))) (fun k_ hk => (⟨hk, hk.1.2.2.2⟩ : _ ∧ k_ ≠ gb294))) (fun _ hk => hk.1.2) (.int .i64 a1_2)) (fun _ hk => hk.2) (.int .i64 (wrap64 (((rd_T77 l0 a1_0).f0) - a1_2)))) (fun _ hk => ⟨hk.1.1.1, ⟨hk.1.1.2.1, ⟨hk.1.1.2.2.1, hk.1.1.2.2.2⟩⟩⟩)⟩
       have n1_ : Aside0 (((w58.setCell ⟨gb293, 0, none⟩ (.int .i64 a1_2)).setCell ⟨gb294, 0, none⟩ (.int .i64 (wrap64 (((rd_T77 l0 a1_0).f0) - a1_2)))).heap[gb290]? = some (.cells #[.int .i64 a1_0, .bool false, .int .i64 a1_2] 85 (0, 0))) := ⟨bx_ BK290.out⟩
       have n2_ : Aside0 (((w58.setCell ⟨gb293, 0, none⟩ (.int .i64 a1_2)).setCell ⟨gb294, 0, none⟩ (.int .i64 (wrap64 (((rd_T77 l0 a1_0).f0) - a1_2)))).heap[gb293]? = some (.cells #[.int .i64 a1_2, .int .i64 ((rd_T77 l0 a1_0).f1)] 77 (0, 0))) := ⟨by (with_reducible repeat (first | refine blk_drewN ?_ _ | refine blk_drew ?_ | refine blk_alloc ?_ _)); refine blk_far ?_ NB293_294.out _; (with_reducible repeat (first | refine blk_drewN ?_ _ | refine blk_drew ?_ | refine blk_alloc ?_ _)); refine blk_put (cs := #[.int .i64 ((rd_T77 l0 a1_0).f0), .int .i64 ((rd_T77 l0 a1_0).f1)]) ?_ 0 _ rfl; (with_reducible repeat (first | refine blk_drewN ?_ _ | refine blk_drew ?_ | refine blk_alloc ?_ _)); exact BK293.out⟩
       have n3_ : Aside0 (((w58.setCell ⟨gb293, 0, none⟩ (.int .i64 a1_2)).setCell ⟨gb294, 0, none⟩ (.int .i64 (wrap64 (((rd_T77 l0 a1_0).f0) - a1_2)))).heap[gb294]? = some (.cells #[.int .i64 (wrap64 (((rd_T77 l0 a1_0).f0) - a1_2)), .int .i64 ((rd_T77 l0 a1_0).f1)] 77 (0, 0))) := ⟨by (with_reducible repeat (first | refine blk_drewN ?_ _ | refine blk_drew ?_ | refine blk_alloc ?_ _)); refine blk_put (cs := #[.int .i64 ((rd_T77 l0 a1_0).f0), .int .i64 ((rd_T77 l0 a1_0).f1)]) ?_ 0 _ rfl; (with_reducible repeat (first | refine blk_drewN ?_ _ | refine blk_drew ?_ | refine blk_alloc ?_ _)); refine blk_far ?_ NB294_293.out _; (with_reducible repeat (first | refine blk_drewN ?_ _ | refine blk_drew ?_ | refine blk_alloc ?_ _)); exact BK294.out⟩
       have n4_ : Aside0 (Below w.heap.size w ((w58.setCell ⟨gb293, 0, none⟩ (.int .i64 a1_2)).setCell ⟨gb294, 0, none⟩ (.int .i64 (wrap64 (((rd_T77 l0 a1_0).f0) - a1_2))))) := ⟨hx_ HB.out⟩
       (try clear HO0)
       (try clear BK290)
       (try clear BK293)
       (try clear BK294)
       (try clear HB)
       generalize ((w58.setCell ⟨gb293, 0, none⟩ (.int .i64 a1_2)).setCell ⟨gb294, 0, none⟩ (.int .i64 (wrap64 (((rd_T77 l0 a1_0).f0) - a1_2)))) = w61 at n0_ n1_ n2_ n3_ n4_ ⊢
       have HO0 := n0_
       have BK290 := n1_
       have BK293 := n2_
       have BK294 := n3_
       have HB := n4_
       clear n0_ n1_ n2_ n3_ n4_
       have n0_ := Aside0.mk (Kd.V_drew HO0.out)
       have n1_ := Aside0.mk (blk_drew BK290.out)
       have n2_ := Aside0.mk (blk_drew BK293.out)
       have n3_ := Aside0.mk (blk_drew BK294.out)
       have n4_ := Aside0.mk (below_drew1 HB.out)
       clear HO0
       clear BK290
       clear BK293
       clear BK294
       clear HB
       have HO0 := n0_
       have BK290 := n1_
       have BK293 := n2_
       have BK294 := n3_
       have HB := n4_
       clear n0_ n1_ n2_ n3_ n4_
       have q63 : (a1_0 : Int) ≤ ((l0.length : Int) : Int) := of_decide_eq_true (by first | (with_reducible assumption) | assumption)
       obtain ⟨i063, hi063, _, hsz63, _⟩ := info_parts info77
       have hroom63 : l0.length ≤ c0 := (Kd.V_reads' HO0.out).2.1
       have hC63 : Kd.F k77 _ _ (some ad291) l0.length l0 := (Kd.V_at (base := w.heap.size) HO0.out).2.2
       have hcut63 := cut_to (P := Try.prog) 81 77 .i64 Try.underlying81 hi063 (some ad291) l0.length c0 a1_0 (of_decide_eq_true (by first | (with_reducible assumption) | assumption)) q63 hroom63
       have hr63 := Kd.F_take (m := (a1_0 : Int).toNat) hC63 (by omega)
       have hy63 : y314.length = (a1_0 : Int).toNat := (by rw [Ny314.out, List.length_take]; omega)
       rw [← Ny314.out] at hr63
       rw [← hy63] at hcut63
       have HO318 := Aside0.mk (show Kd.V k77 77 _ w.heap.size _ (.slice (some ad291) y314.length c0) y314 from Kd.V_mk (by omega) hr63)
       have HC318 := Aside0.mk (show y314.length ≤ c0 from by omega)
       clear hr63 hC63 hroom63 hi063 hsz63
       have KY63 := Aside0.mk hy63
       clear hy63
       replace q63 := eq_true q63
       have q64 : ((ji41) : Int) ≤ ((l0.length : Int) : Int) := of_decide_eq_true (by first | (with_reducible assumption) | assumption)
       obtain ⟨i064, hi064, _, hsz64, _⟩ := info_parts info77
       have hroom64 : l0.length ≤ c0 := (Kd.V_reads' HO0.out).2.1
       have hC64 : Kd.F k77 _ _ (some ad291) l0.length l0 := (Kd.V_at (base := w.heap.size) HO0.out).2.2
       have q064 : (0 : Int) ≤ ((ji41) : Int) := of_decide_eq_true (by first | (with_reducible assumption) | assumption)
       have hcut64 := cut_from (P := Try.prog) 81 77 .i64 Try.underlying81 hi064 2 hsz64 (some ad291) l0.length c0 (ji41) q064 q64
       have hr64 := Kd.F_cut (m := ((ji41) : Int).toNat) (c := c0) hC64 (by omega) hroom64
       obtain ⟨A64, hA64⟩ : ∃ A1, A1 = (if c0 = ((ji41) : Int).toNat then (some ad291) else ((some ad291) : Option Addr).map (·.add (((ji41) : Int).toNat * 2))) := ⟨_, rfl⟩
       obtain ⟨c64, hc64⟩ : ∃ c1, c1 = c0 - ((ji41) : Int).toNat := ⟨_, rfl⟩
       have hy64 : y322.length = l0.length - ((ji41) : Int).toNat := (by rw [Ny322.out, List.length_drop] <;> omega)
       rw [show (l0).drop ((ji41) : Int).toNat = y322 from Ny322.out.symm] at hr64
       replace hr64 : Kd.F k77 _ _ A64 y322.length y322 := (by rw [hA64]; exact hr64)
       rw [← hy64, ← hA64, ← hc64] at hcut64
       have HO326 := Aside0.mk (show Kd.V k77 77 _ w.heap.size _ (.slice A64 y322.length c64) y322 from Kd.V_mk (by rw [hy64, hc64]; exact Nat.sub_le_sub_right hroom64 _) hr64)
       have HC326 := Aside0.mk (show y322.length ≤ c64 from by rw [hy64, hc64]; exact Nat.sub_le_sub_right hroom64 _)
       clear hr64 hC64 hroom64 hi064 hsz64 hc64
       have KY64 := Aside0.mk hy64
       have KA64 := Aside0.mk hA64
       clear hy64 hA64
       replace q64 := eq_true q64
       refine start_ (n := 15) (S := fun w' => w'.cell? ⟨gb290, 0, none⟩ = some (.int .i64 a1_0) ∧ w'.cell? ⟨gb290, 1, none⟩ = some (.bool false) ∧ w'.cell? ⟨gb290, 2, none⟩ = some (.int .i64 a1_2) ∧ w'.cell? ⟨gb293, 0, none⟩ = some (.int .i64 a1_2) ∧ w'.cell? ⟨gb293, 1, none⟩ = some (.int .i64 ((rd_T77 l0 a1_0).f1)) ∧ w'.cell? ⟨gb294, 0, none⟩ = some (.int .i64 (wrap64 (((rd_T77 l0 a1_0).f0) - a1_2))) ∧ w'.cell? ⟨gb294, 1, none⟩ = some (.int .i64 ((rd_T77 l0 a1_0).f1))) (ds := []) #[false, false, false, false, false, false, false, false, false, false, false, false, false, false, false] (by kernel_rfl) rfl rfl ⟨(blk_cell BK290.out 0).trans rfl, (blk_cell BK290.out 1).trans rfl, (blk_cell BK290.out 2).trans rfl, (blk_cell BK293.out 0).trans rfl, (blk_cell BK293.out 1).trans rfl, (blk_cell BK294.out 0).trans rfl, (blk_cell BK294.out 1).trans rfl⟩ (fun hHeld => ?_); refine with_tabW impl_cut.tab5 impl_cut.bits5 (fun HT_ HW_ => ?_)
       generalize w61.drew = w62 at HO0 BK290 BK293 BK294 HB HO318 HO326 hHeld ⊢
       refine pure_ (i := 0) (N := some 37) (v := ?_) (a' := ?_) #[true, false, false, false, false, false, false, false, false, false, false, false, false, false, false] rfl rfl (any_of HT_.out (by kernel_rfl)) (fun _ _ _ h => h) (Or.inl ⟨by rfl, ?_⟩) ?_ ?_
       rotate_left
       ·intro w'
        go_simp
        with_reducible rfl
       rotate_left
       ·simp only [Act.put, List.setIfInBounds_toArray, List.set_cons_zero, List.set_cons_succ, i64_w, i32_w]
        rfl
       refine pure_ (i := 1) (N := some 38) (v := ?_) (a' := ?_) #[true, true, false, false, false, false, false, false, false, false, false, false, false, false, false] rfl rfl (any_of HT_.out (by kernel_rfl)) (fun _ _ _ h => h) (Or.inl ⟨by rfl, ?_⟩) ?_ ?_
       rotate_left
       ·intro w'
        go_simp
        with_reducible rfl
       rotate_left
       ·simp only [Act.put, List.setIfInBounds_toArray, List.set_cons_zero, List.set_cons_succ, i64_w, i32_w]
        rfl
       refine pure_ (i := 7) (N := some 44) (v := ?_) (a' := ?_) #[true, true, false, false, false, false, false, true, false, false, false, false, false, false, false] rfl rfl (any_of HT_.out (by kernel_rfl)) (fun _ _ _ h => h) (Or.inl ⟨by rfl, ?_⟩) ?_ ?_
       rotate_left
       ·intro w'
        go_simp
        with_reducible rfl
       rotate_left
       ·simp only [Act.put, List.setIfInBounds_toArray, List.set_cons_zero, List.set_cons_succ, i64_w, i32_w]
        rfl
       refine pure_ (i := 8) (N := some 45) (v := ?_) (a' := ?_) #[true, true, false, false, false, false, false, true, true, false, false, false, false, false, false] rfl rfl (any_of HT_.out (by kernel_rfl)) (fun _ _ _ h => h) (Or.inl ⟨by rfl, ?_⟩) ?_ ?_
       rotate_left
       ·intro w'
        go_simp
        with_reducible rfl
       rotate_left
       ·simp only [Act.put, List.setIfInBounds_toArray, List.set_cons_zero, List.set_cons_succ, i64_w, i32_w]
        rfl
       refine take_ (i := 2) (N := some 39) (v := ?_) (a' := ?_) #[true, true, true, false, false, false, false, true, true, false, false, false, false, false, false] rfl rfl (take_ofW HT_.out HW_.out (by kernel_rfl)) (fun _ _ _ h => h) (Or.inl ⟨by rfl, ?_⟩) hHeld ?_ ?_
       rotate_left
       ·rintro w' ⟨s0, s1, s2, s3, s4, s5, s6⟩
        go_simp
        with_reducible rfl
       rotate_left
       ·simp only [Act.put, List.setIfInBounds_toArray, List.set_cons_zero, List.set_cons_succ, i64_w, i32_w]
        rfl
       refine pure_ (i := 3) (N := some 40) (v := ?_) (a' := ?_) #[true, true, true, true, false, false, false, true, true, false, false, false, false, false, false] rfl rfl (any_of HT_.out (by kernel_rfl)) (fun _ _ _ h => h) (Or.inl ⟨by rfl, ?_⟩) ?_ ?_
       rotate_left
       ·intro w'
        go_simp
        with_reducible rfl
       rotate_left
       ·simp only [Act.put, List.setIfInBounds_toArray, List.set_cons_zero, List.set_cons_succ, i64_w, i32_w]
        rfl
       refine take_ (i := 4) (N := some 41) (v := ?_) (a' := ?_) #[true, true, true, true, true, false, false, true, true, false, false, false, false, false, false] rfl rfl (take_ofW HT_.out HW_.out (by kernel_rfl)) (fun _ _ _ h => h) (Or.inl ⟨by rfl, ?_⟩) hHeld ?_ ?_
       rotate_left
       ·rintro w' ⟨s0, s1, s2, s3, s4, s5, s6⟩
        go_simp
        with_reducible rfl
       rotate_left
       ·simp only [Act.put, List.setIfInBounds_toArray, List.set_cons_zero, List.set_cons_succ, i64_w, i32_w]
        rfl
       refine take_ (i := 5) (N := some 42) (v := ?_) (a' := ?_) #[true, true, true, true, true, true, false, true, true, false, false, false, false, false, false] rfl rfl (take_ofW HT_.out HW_.out (by kernel_rfl)) (fun _ _ _ h => h) (Or.inl ⟨by rfl, ?_⟩) hHeld ?_ ?_
       rotate_left
       ·rintro w' ⟨s0, s1, s2, s3, s4, s5, s6⟩
        go_simp
        with_reducible rfl
       rotate_left
       ·simp only [Act.put, List.setIfInBounds_toArray, List.set_cons_zero, List.set_cons_succ, i64_w, i32_w]
        rfl
       refine take_ (i := 9) (N := some 46) (v := ?_) (a' := ?_) #[true, true, true, true, true, true, false, true, true, true, false, false, false, false, false] rfl rfl (take_ofW HT_.out HW_.out (by kernel_rfl)) (fun _ _ _ h => h) (Or.inl ⟨by rfl, ?_⟩) hHeld ?_ ?_
       rotate_left
       ·rintro w' ⟨s0, s1, s2, s3, s4, s5, s6⟩
        go_simp
        with_reducible rfl
       rotate_left
       ·simp only [Act.put, List.setIfInBounds_toArray, List.set_cons_zero, List.set_cons_succ, i64_w, i32_w]
        rfl
       refine pure_ (i := 10) (N := some 47) (v := ?_) (a' := ?_) #[true, true, true, true, true, true, false, true, true, true, true, false, false, false, false] rfl rfl (any_of HT_.out (by kernel_rfl)) (fun _ _ _ h => h) (Or.inl ⟨by rfl, ?_⟩) ?_ ?_
       rotate_left
       ·intro w'
        go_simp
        with_reducible rfl
       rotate_left
       ·simp only [Act.put, List.setIfInBounds_toArray, List.set_cons_zero, List.set_cons_succ, i64_w, i32_w]
        rfl
       refine pure_ (i := 11) (N := some 48) (v := ?_) (a' := ?_) #[true, true, true, true, true, true, false, true, true, true, true, true, false, false, false] rfl rfl (any_of HT_.out (by kernel_rfl)) (fun _ _ _ h => h) (Or.inl ⟨by rfl, ?_⟩) ?_ ?_
       rotate_left
       ·intro w'
        go_simp
        with_reducible rfl
       rotate_left
       ·simp only [Act.put, List.setIfInBounds_toArray, List.set_cons_zero, List.set_cons_succ, i64_w, i32_w]
        rfl
       refine one_ (i := 6) (N := some 43) #[true, true, true, true, true, true, true, true, true, true, true, true, false, false, false] rfl rfl (one_of HT_.out (by kernel_rfl)) (by decide) (fun K hK => ?_)
       refine Kd.R_lit_step k77 _ 77 ?hg (N := 43) ?hd (xs := ([(⟨a1_2, (rd_T77 l0 a1_0).f1⟩ : S77), (⟨wrap64 (((rd_T77 l0 a1_0).f0) - a1_2), (rd_T77 l0 a1_0).f1⟩ : S77)] : List (S77))) (inner := [.int .i64 a1_2, .int .i64 ((rd_T77 l0 a1_0).f1), .int .i64 (wrap64 (((rd_T77 l0 a1_0).f0) - a1_2)), .int .i64 ((rd_T77 l0 a1_0).f1)]) (ok := fun _ => True) (okp := fun _ => True) ?hr ?hp (fun _ hk => hk) trivial (Below.refl _ _) (Nat.le_refl _) (by simp) ?_; (case hd => rfl); (case hg => rfl); (case hr => first | (go_simp; done) | (go_simp; rfl)); (case hp => exact (Reps.c2 (show Kd.M k77 _ _ _ (⟨a1_2, (rd_T77 l0 a1_0).f1⟩ : S77) [.int .i64 a1_2, .int .i64 ((rd_T77 l0 a1_0).f1)] from (k77_mkM _ _ _ (⟨a1_2, (rd_T77 l0 a1_0).f1⟩ : S77) )) (Reps.c2 (show Kd.M k77 _ _ _ (⟨wrap64 (((rd_T77 l0 a1_0).f0) - a1_2), (rd_T77 l0 a1_0).f1⟩ : S77) [.int .i64 (wrap64 (((rd_T77 l0 a1_0).f0) - a1_2)), .int .i64 ((rd_T77 l0 a1_0).f1)] from (k77_mkM _ _ _ (⟨wrap64 (((rd_T77 l0 a1_0).f0) - a1_2), (rd_T77 l0 a1_0).f1⟩ : S77) )) (Reps.none _ _))))
       intro v320 w65 ho66 hb hg_ hnew_
       clear hg_ hnew_
       (first | rw [← Ny319.out] at ho66 | (simp only [Int.reduceToNat] at ho66; rw [← Ny319.out] at ho66))
       have n0_ := Aside0.mk (Kd.V_elder' (by (with_reducible repeat (first | apply Kd.V_alloc | apply Kd.V_drewN | apply Kd.V_drew)); exact HO0.out) (Kd.R_base ho66) hb)
       have n1_ := Aside0.mk (Kd.V_elder' (by (with_reducible repeat (first | apply Kd.V_alloc | apply Kd.V_drewN | apply Kd.V_drew)); exact HO318.out) (Kd.R_base ho66) hb)
       have n2_ := Aside0.mk (Kd.V_elder' (by (with_reducible repeat (first | apply Kd.V_alloc | apply Kd.V_drewN | apply Kd.V_drew)); exact HO326.out) (Kd.R_base ho66) hb)
       have n3_ := Aside0.mk (Kd.R_lower (Kd.R_newB (Kd.R_newB (Kd.R_newM (M := fun k_ => (w.heap.size ≤ k_)) ho66 (below_size (hx_ HB.out)) (fun k_ h_ => h_)) (g := gb293) (o := .cells #[.int .i64 a1_2, .int .i64 ((rd_T77 l0 a1_0).f1)] 77 (0, 0)) (bx_ BK293.out)) (g := gb294) (o := .cells #[.int .i64 (wrap64 (((rd_T77 l0 a1_0).f0) - a1_2)), .int .i64 ((rd_T77 l0 a1_0).f1)] 77 (0, 0)) (bx_ BK294.out)) (below_size (hx_ HB.out)))
       have n4_ := Aside0.mk (blk_below (g := gb290) (o := .cells #[.int .i64 a1_0, .bool false, .int .i64 a1_2] 85 (0, 0)) (bx_ BK290.out) hb)
       have n5_ := Aside0.mk (blk_below (g := gb293) (o := .cells #[.int .i64 a1_2, .int .i64 ((rd_T77 l0 a1_0).f1)] 77 (0, 0)) (bx_ BK293.out) hb)
       have n6_ := Aside0.mk (blk_below (g := gb294) (o := .cells #[.int .i64 (wrap64 (((rd_T77 l0 a1_0).f0) - a1_2)), .int .i64 ((rd_T77 l0 a1_0).f1)] 77 (0, 0)) (bx_ BK294.out) hb)
       have n7_ := Aside0.mk (below_step (hx_ HB.out) hb)
       clear HO0
       clear HO318
       clear HO326
       clear BK290
       clear BK293
       clear BK294
       clear HB
       have HO0 := n0_
       have HO318 := n1_
       have HO326 := n2_
       have HO321 := n3_
       have BK290 := n4_
       have BK293 := n5_
       have BK294 := n6_
       have HB := n7_
       clear n0_ n1_ n2_ n3_ n4_ n5_ n6_ n7_
       clear hb ho66
       obtain ⟨Ao67, co67, eo67⟩ := Kd.R_slice HO321.out
       (first | subst eo67 | (injection eo67 with f1_ f2_ f3_; have f4_ := f1_.symm; have f5_ := f3_.symm; clear f1_ f2_ f3_; subst f4_; subst f5_))
       refine hK.out _ _ ⟨(blk_cell BK290.out 0).trans rfl, (blk_cell BK290.out 1).trans rfl, (blk_cell BK290.out 2).trans rfl, (blk_cell BK293.out 0).trans rfl, (blk_cell BK293.out 1).trans rfl, (blk_cell BK294.out 0).trans rfl, (blk_cell BK294.out 1).trans rfl⟩ (fun hHeld => ?_)
       clear hK K
       refine norm_ (a' := ?_) ?_ ?_
       rotate_left
       ·show Act.put _ (some 43) _ = _
        simp only [Act.put, List.setIfInBounds_toArray, List.set_cons_zero, List.set_cons_succ, i64_w, i32_w]
        rfl
       refine one_ (i := 12) (N := some 49) #[true, true, true, true, true, true, true, true, true, true, true, true, true, false, false] rfl rfl (one_of HT_.out (by kernel_rfl)) (by decide) (fun K hK => ?_)
       refine Kd.N_lit_step (Kd.slice 77 k77) _ 81 ?hg (N' := 49) ?hd (xs := ([y314, y319, y322] : List (List (S77)))) (inner := [.slice (some ad291) y314.length c0, .slice Ao67 y319.length co67, .slice A64 y322.length c64]) (ok := (fun k_ => (P0_ k_ ∨ w.heap.size ≤ k_) ∧ k_ ≠ gb290 ∧ k_ ≠ gb293 ∧ k_ ≠ gb294)) (okp := (fun k_ => (P0_ k_ ∨ w.heap.size ≤ k_) ∧ k_ ≠ gb290 ∧ k_ ≠ gb293 ∧ k_ ≠ gb294)) ?hr ?hp (fun _ hk => hk) ((show ∀ k_, w65.heap.size ≤ k_ → (fun k_ => (P0_ k_ ∨ w.heap.size ≤ k_) ∧ k_ ≠ gb290 ∧ k_ ≠ gb293 ∧ k_ ≠ gb294) k_ from fun k_ hk => ⟨(.inr (Nat.le_trans (below_size (hx_ HB.out)) hk)), Kd.freshB (g := gb290) (o := .cells #[.int .i64 a1_0, .bool false, .int .i64 a1_2] 85 (0, 0)) (bx_ BK290.out) k_ hk, Kd.freshB (g := gb293) (o := .cells #[.int .i64 a1_2, .int .i64 ((rd_T77 l0 a1_0).f1)] 77 (0, 0)) (bx_ BK293.out) k_ hk, Kd.freshB (g := gb294) (o := .cells #[.int .i64 (wrap64 (((rd_T77 l0 a1_0).f0) - a1_2)), .int .i64 ((rd_T77 l0 a1_0).f1)] 77 (0, 0)) (bx_ BK294.out) k_ hk⟩) _ (Nat.le_refl _)) (Below.refl _ _) (Nat.le_refl _) (by simp) ?_; (case hd => rfl); (case hg => rfl); (case hr => first | (go_simp; done) | (go_simp; rfl)); (case hp => exact (Reps.one (show Kd.FK (Kd.slice 77 k77) _ _ y314 [.slice (some ad291) y314.length c0] from (Kd.FK_slice_mk (Kd.V_reads' (Kd.V_mono (ok' := (fun k_ => (P0_ k_ ∨ w.heap.size ≤ k_) ∧ k_ ≠ gb290 ∧ k_ ≠ gb293 ∧ k_ ≠ gb294)) (HO318.out) (fun k_ hk => ⟨hk.1.1, ⟨hk.1.2.1, ⟨hk.1.2.2.1, hk.1.2.2.2⟩⟩⟩))).2.1 (Kd.V_F (Kd.V_mono (ok' := (fun k_ => (P0_ k_ ∨ w.heap.size ≤ k_) ∧ k_ ≠ gb290 ∧ k_ ≠ gb293 ∧ k_ ≠ gb294)) (HO318.out) (fun k_ hk => ⟨hk.1.1, ⟨hk.1.2.1, ⟨hk.1.2.2.1, hk.1.2.2.2⟩⟩⟩))))) (Reps.one (show Kd.FK (Kd.slice 77 k77) _ _ y319 [.slice Ao67 y319.length co67] from (Kd.FK_slice_mk (Kd.R_reads' (Kd.R_mono (ok' := (fun k_ => (P0_ k_ ∨ w.heap.size ≤ k_) ∧ k_ ≠ gb290 ∧ k_ ≠ gb293 ∧ k_ ≠ gb294)) (Kd.R_types (HO321.out) BK290.out (by decide)) (fun k_ hk => ⟨(.inr (hk.1.1.1.1)), ⟨hk.2, ⟨hk.1.1.2, hk.1.2⟩⟩⟩))).2.1 (Kd.R_F (Kd.R_mono (ok' := (fun k_ => (P0_ k_ ∨ w.heap.size ≤ k_) ∧ k_ ≠ gb290 ∧ k_ ≠ gb293 ∧ k_ ≠ gb294)) (Kd.R_types (HO321.out) BK290.out (by decide)) (fun k_ hk => ⟨(.inr (hk.1.1.1.1)), ⟨hk.2, ⟨hk.1.1.2, hk.1.2⟩⟩⟩))))) (Reps.one (show Kd.FK (Kd.slice 77 k77) _ _ y322 [.slice A64 y322.length c64] from (Kd.FK_slice_mk (Kd.V_reads' (Kd.V_mono (ok' := (fun k_ => (P0_ k_ ∨ w.heap.size ≤ k_) ∧ k_ ≠ gb290 ∧ k_ ≠ gb293 ∧ k_ ≠ gb294)) (HO326.out) (fun k_ hk => ⟨hk.1.1, ⟨hk.1.2.1, ⟨hk.1.2.2.1, hk.1.2.2.2⟩⟩⟩))).2.1 (Kd.V_F (Kd.V_mono (ok' := (fun k_ => (P0_ k_ ∨ w.heap.size ≤ k_) ∧ k_ ≠ gb290 ∧ k_ ≠ gb293 ∧ k_ ≠ gb294)) (HO326.out) (fun k_ hk => ⟨hk.1.1, ⟨hk.1.2.1, ⟨hk.1.2.2.1, hk.1.2.2.2⟩⟩⟩))))) (Reps.none _ _)))))
       intro v328 w68 ho69 hb hg_ hnew_
       clear hg_ hnew_
       (first | rw [← Ny327.out] at ho69 | (simp only [Int.reduceToNat] at ho69; rw [← Ny327.out] at ho69))
       have n0_ := Aside0.mk (Kd.V_elder' (by (with_reducible repeat (first | apply Kd.V_alloc | apply Kd.V_drewN | apply Kd.V_drew)); exact HO0.out) (Kd.N_base ho69) hb)
       have n1_ := Aside0.mk (Kd.V_elder' (by (with_reducible repeat (first | apply Kd.V_alloc | apply Kd.V_drewN | apply Kd.V_drew)); exact HO318.out) (Kd.N_base ho69) hb)
       have n2_ := Aside0.mk (Kd.V_elder' (by (with_reducible repeat (first | apply Kd.V_alloc | apply Kd.V_drewN | apply Kd.V_drew)); exact HO326.out) (Kd.N_base ho69) hb)
       have n3_ := Aside0.mk (Kd.N_lower ho69 (below_size (hx_ HB.out)))
       have n4_ := Aside0.mk (blk_below (g := gb290) (o := .cells #[.int .i64 a1_0, .bool false, .int .i64 a1_2] 85 (0, 0)) (bx_ BK290.out) hb)
       have n5_ := Aside0.mk (blk_below (g := gb293) (o := .cells #[.int .i64 a1_2, .int .i64 ((rd_T77 l0 a1_0).f1)] 77 (0, 0)) (bx_ BK293.out) hb)
       have n6_ := Aside0.mk (blk_below (g := gb294) (o := .cells #[.int .i64 (wrap64 (((rd_T77 l0 a1_0).f0) - a1_2)), .int .i64 ((rd_T77 l0 a1_0).f1)] 77 (0, 0)) (bx_ BK294.out) hb)
       have n7_ := Aside0.mk (below_step (hx_ HB.out) hb)
       clear HO0
       clear HO318
       clear HO326
       clear BK290
       clear BK293
       clear BK294
       clear HB
       clear HO321
       have HO0 := n0_
       have HO318 := n1_
       have HO326 := n2_
       have HO329 := n3_
       have BK290 := n4_
       have BK293 := n5_
       have BK294 := n6_
       have HB := n7_
       clear n0_ n1_ n2_ n3_ n4_ n5_ n6_ n7_
       clear hb ho69
       obtain ⟨Ao70, co70, eo70⟩ := Kd.N_slice HO329.out
       (first | subst eo70 | (injection eo70 with f1_ f2_ f3_; have f4_ := f1_.symm; have f5_ := f3_.symm; clear f1_ f2_ f3_; subst f4_; subst f5_))
       refine hK.out _ _ ⟨(blk_cell BK290.out 0).trans rfl, (blk_cell BK290.out 1).trans rfl, (blk_cell BK290.out 2).trans rfl, (blk_cell BK293.out 0).trans rfl, (blk_cell BK293.out 1).trans rfl, (blk_cell BK294.out 0).trans rfl, (blk_cell BK294.out 1).trans rfl⟩ (fun hHeld => ?_)
       clear hK K
       refine norm_ (a' := ?_) ?_ ?_
       rotate_left
       ·show Act.put _ (some 49) _ = _
        simp only [Act.put, List.setIfInBounds_toArray, List.set_cons_zero, List.set_cons_succ, i64_w, i32_w]
        rfl
       refine one_ (i := 13) (N := some 50) #[true, true, true, true, true, true, true, true, true, true, true, true, true, true, false] rfl rfl (one_of HT_.out (by kernel_rfl)) (by decide) (fun K hK => ?_)
       refine goes_ Try.func192 (by kernel_rfl) rfl #[.slice Ao70 y327.length co70] (by rfl) rfl rfl (by (try simp only [List.map_toArray, List.map_cons, List.map_nil]); first | done | rfl | (simp only [List.length_drop, List.length_take]; rfl)) ?_
       with_reducible refine (slices_ConcatPiece.calls k _ _ y327 t330 _ ?side1 ?side2 A44.out).mono ?_
       (case side1 => repeat (first | exact (Kd.N_reads' HO329.out).2.2 | (with_reducible refine Kd.C_alloc ?_ _) | (with_reducible refine Kd.C_drewN ?_ _) | (with_reducible refine Kd.C_drew ?_)))
       (case side2 => exact (Kd.N_reads' HO329.out).2.1)
       rintro e w71 ⟨v331, rfl, ho0, hb⟩
       refine ⟨_, rfl, ?_⟩
       have n0_ := Aside0.mk (Kd.V_elder' (by (with_reducible repeat (first | apply Kd.V_alloc | apply Kd.V_drewN | apply Kd.V_drew)); exact HO0.out) (Kd.R_base ho0) hb)
       have n1_ := Aside0.mk (Kd.V_elder' (by (with_reducible repeat (first | apply Kd.V_alloc | apply Kd.V_drewN | apply Kd.V_drew)); exact HO318.out) (Kd.R_base ho0) hb)
       have n2_ := Aside0.mk (Kd.V_elder' (by (with_reducible repeat (first | apply Kd.V_alloc | apply Kd.V_drewN | apply Kd.V_drew)); exact HO326.out) (Kd.R_base ho0) hb)
       have n3_ := Aside0.mk (Kd.N_elder' (by (with_reducible repeat (first | apply Kd.N_alloc | apply Kd.N_drewN | apply Kd.N_drew)); exact HO329.out) (Kd.R_base ho0) hb)
       have n4_ := Aside0.mk (Kd.R_lower (Kd.R_newB (Kd.R_newB (Kd.R_newM (M := fun k_ => (w.heap.size ≤ k_)) ho0 (below_size (hx_ HB.out)) (fun k_ h_ => h_)) (g := gb293) (o := .cells #[.int .i64 a1_2, .int .i64 ((rd_T77 l0 a1_0).f1)] 77 (0, 0)) (bx_ BK293.out)) (g := gb294) (o := .cells #[.int .i64 (wrap64 (((rd_T77 l0 a1_0).f0) - a1_2)), .int .i64 ((rd_T77 l0 a1_0).f1)] 77 (0, 0)) (bx_ BK294.out)) (below_size (hx_ HB.out)))
       have n5_ := Aside0.mk (blk_below (g := gb290) (o := .cells #[.int .i64 a1_0, .bool false, .int .i64 a1_2] 85 (0, 0)) (bx_ BK290.out) hb)
       have n6_ := Aside0.mk (blk_below (g := gb293) (o := .cells #[.int .i64 a1_2, .int .i64 ((rd_T77 l0 a1_0).f1)] 77 (0, 0)) (bx_ BK293.out) hb)
       have n7_ := Aside0.mk (blk_below (g := gb294) (o := .cells #[.int .i64 (wrap64 (((rd_T77 l0 a1_0).f0) - a1_2)), .int .i64 ((rd_T77 l0 a1_0).f1)] 77 (0, 0)) (bx_ BK294.out) hb)
       have n8_ := Aside0.mk (below_step (hx_ HB.out) hb)
       clear HO0
       clear HO318
       clear HO326
       clear HO329
       clear BK290
       clear BK293
       clear BK294
       clear HB
       have HO0 := n0_
       have HO318 := n1_
       have HO326 := n2_
       have HO329 := n3_
       have HO332 := n4_
       have BK290 := n5_
       have BK293 := n6_
       have BK294 := n7_
       have HB := n8_
       clear n0_ n1_ n2_ n3_ n4_ n5_ n6_ n7_ n8_
       (try clear hb)
       (try clear hb2)
       (try clear hk)
       (try clear hi)
       (try clear ho0)
       refine hK.out _ _ ⟨(blk_cell BK290.out 0).trans rfl, (blk_cell BK290.out 1).trans rfl, (blk_cell BK290.out 2).trans rfl, (blk_cell BK293.out 0).trans rfl, (blk_cell BK293.out 1).trans rfl, (blk_cell BK294.out 0).trans rfl, (blk_cell BK294.out 1).trans rfl⟩ (fun hHeld => ?_)
       clear hK K
       refine norm_ (a' := ?_) ?_ ?_
       rotate_left
       ·show Act.put _ (some 50) _ = _
        simp only [Act.put, List.setIfInBounds_toArray, List.set_cons_zero, List.set_cons_succ, i64_w, i32_w]
        rfl
       refine pure_ (i := 14) (N := some 4) (v := ?_) (a' := ?_) #[true, true, true, true, true, true, true, true, true, true, true, true, true, true, true] rfl rfl (any_of HT_.out (by kernel_rfl)) (fun _ _ _ h => h) (Or.inl ⟨by rfl, ?_⟩) ?_ ?_
       rotate_left
       ·intro w'
        go_simp
        with_reducible rfl
       rotate_left
       ·simp only [Act.put, List.setIfInBounds_toArray, List.set_cons_zero, List.set_cons_succ, i64_w, i32_w]
        rfl
       refine done_ (done_of HT_.out (by kernel_rfl)) ?_
       try go_wp2
       go_ret
       exact ⟨_, by first | rfl | (simp [errW_none, errW_some] <;> rfl) | (simp only [← hji41]; first | rfl | (simp [errW_none, errW_some] <;> rfl)) | (simp [*, errW_none, errW_some] <;> rfl), by (with_reducible repeat (first | apply Kd.R_alloc | apply Kd.R_drewN | apply Kd.R_drew)); exact Kd.R_mono HO332.out (fun _ hk => hk.1.1.1), hx_ HB.out⟩
      ·rw [if_neg c43] at H
       exact absurd H (by simp)
     ·rw [if_neg c42] at H
      exact absurd H (by simp)
    ·rw [if_neg c40] at H
     exact absurd H (by simp)
  ·rw [if_neg c4] at H
   exact absurd H (by simp)
 ·rw [if_neg c3] at H
  exact absurd H (by simp)

end Go.Proofs.Ythapadejldlmfaa.PFnCuts
