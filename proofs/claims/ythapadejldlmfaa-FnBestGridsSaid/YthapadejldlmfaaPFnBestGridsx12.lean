-- Written by wip/inject.py: a contract of each function that the law reaches; those of the stand-ins are proved in this seat's Hand texts
import Derived.Test.YthapadejldlmfaaPFnBestGridsx0
import Derived.Test.YthapadejldlmfaaPFnBestGridsx3
import Derived.Test.YthapadejldlmfaaPFnBestGridsx8
import Derived.Test.YthapadejldlmfaaPFnBestGridsx9
namespace Go.Proofs.Ythapadejldlmfaa.PFnBestGrids
open Go.RowKit Go.Proofs.YthapadejldlmfaaW.PrintWords Go.Proofs.YthapadejldlmfaaW.PrintLast Go.Proofs.YthapadejldlmfaaW.PrintMore
attribute [local go_sem] max2_int min2_int max_two min_two max_three min_three max_four min_four   -- for this text's walks alone
set_option linter.unusedVariables false
set_option linter.unusedSimpArgs false

/-! ### impl_LeastSheet: function 76 -/
def impl_LeastSheet.j0 : Nat → Int → Int → Int → Bool → Int → Int → Int → Int → Option (Int × Int × Int × Bool × Int)
  | 0, _, _, _, _, _, _, _, _ => none
  | k + 1, x1, x2, x3, x16, x353000, x353001, x353002, x353003 => if x16 = true then (some (0, 0, 0, false, 2)) else (if (wrap64 ((wrap64 ((wrap64 (x1 * x353000)) + (wrap64 ((wrap64 (x1 - 1)) * x353003)))) + (wrap64 (2 * x353002)))) > 20000 then (some (0, 0, 0, false, 3)) else (if (wrap64 ((wrap64 ((wrap64 ((wrap64 (x2 * x353001)) + (wrap64 ((wrap64 (x2 - 1)) * x353003)))) + (wrap64 (2 * x353002)))) + x3)) > 20000 then (some (0, 0, 0, false, 3)) else (some (wrap64 ((wrap64 ((wrap64 (x1 * x353000)) + (wrap64 ((wrap64 (x1 - 1)) * x353003)))) + (wrap64 (2 * x353002))), wrap64 ((wrap64 ((wrap64 ((wrap64 (x2 * x353001)) + (wrap64 ((wrap64 (x2 - 1)) * x353003)))) + (wrap64 (2 * x353002)))) + x3), x3, true, 0))))
def impl_LeastSheet.f (k : Nat) (a0_0 : Int) (a0_1 : Int) (a0_2 : Int) (a0_3 : Int) (a1 : Int) (a2 : Int) (a3 : Int) : Option (Int × Int × Int × Bool × Int) := (impl_IsTrim.f a0_0 a0_1 a0_2 a0_3).bind fun t354 => (if t354 = true then ((impl_inRange.f a1 1 20000).bind fun t355 => (if t355 = true then ((impl_inRange.f a2 1 20000).bind fun t356 => (if t356 = true then ((impl_inRange.f a3 0 20000).bind fun t357 => (impl_LeastSheet.j0 k a1 a2 a3 (!t357) a0_0 a0_1 a0_2 a0_3)) else (impl_LeastSheet.j0 k a1 a2 a3 true a0_0 a0_1 a0_2 a0_3))) else (impl_LeastSheet.j0 k a1 a2 a3 true a0_0 a0_1 a0_2 a0_3))) else (some (0, 0, 0, false, 1)))
theorem impl_LeastSheet.mono_l : ∀ k, (∀ y0 y1 y2 y3 y4 y5 y6 y7, LeO (impl_LeastSheet.j0 k y0 y1 y2 y3 y4 y5 y6 y7) (impl_LeastSheet.j0 (k + 1) y0 y1 y2 y3 y4 y5 y6 y7))
  | 0 => fun _ _ _ _ _ _ _ _ r h => by simp [impl_LeastSheet.j0] at h
  | k + 1 => by
    have ih0 := impl_LeastSheet.mono_l k
    · intro y0 y1 y2 y3 y4 y5 y6 y7
      unfold impl_LeastSheet.j0
      repeat' first
      | (with_reducible exact ih0 _ _ _ _ _ _ _ _)
      | (with_reducible exact LeO.refl _)
      | (with_reducible exact LeO.none _)
      | (with_reducible refine LeO.ite ?_ ?_)
      | (with_reducible refine LeO.bind ?_ (fun _ => ?_))
      | exact ih0 _ _ _ _ _ _ _ _
      | exact LeO.none _
      | refine LeO.ite ?_ ?_
      | refine LeO.bind ?_ (fun _ => ?_)
theorem impl_LeastSheet.mono : ∀ a0 a1 a2 a3 a4 a5 a6 k, LeO (impl_LeastSheet.f k a0 a1 a2 a3 a4 a5 a6) (impl_LeastSheet.f (k + 1) a0 a1 a2 a3 a4 a5 a6) := by
  intro a0 a1 a2 a3 a4 a5 a6 k
  have ih0 := impl_LeastSheet.mono_l k
  unfold impl_LeastSheet.f
  repeat' first
      | (with_reducible exact ih0 _ _ _ _ _ _ _ _)
      | (with_reducible exact LeO.refl _)
      | (with_reducible exact LeO.none _)
      | (with_reducible refine LeO.ite ?_ ?_)
      | (with_reducible refine LeO.bind ?_ (fun _ => ?_))
      | exact ih0 _ _ _ _ _ _ _ _
      | exact LeO.none _
      | refine LeO.ite ?_ ?_
      | refine LeO.bind ?_ (fun _ => ?_)
set_option maxHeartbeats 8000000 in
set_option maxRecDepth 100000 in
theorem impl_LeastSheet.calls (k : Nat) (a0_0 : Int) (a0_1 : Int) (a0_2 : Int) (a0_3 : Int) (a1 : Int) (a2 : Int) (a3 : Int) (r1 : Int) (r2 : Int) (r3 : Int) (r4 : Bool) (r5 : Int) (w : World) (h : impl_LeastSheet.f k a0_0 a0_1 a0_2 a0_3 a1 a2 a3 = some (r1, r2, r3, r4, r5)) :
    Calls Try.prog 76 #[.agg #[.int .i64 a0_0, .int .i64 a0_1, .int .i64 a0_2, .int .i64 a0_3], .int .i64 a1, .int .i64 a2, .int .i64 a3] w fun e w' => e = .returned (.tuple #[.agg #[.int .i64 r1, .int .i64 r2, .int .i64 r3, .bool r4], .int .i64 r5]) ∧ Below w.heap.size w w' := by
  have hu41 := Try.underlying41
  have hu39 := Try.underlying39
  have HB := Aside0.mk (Below.refl w.heap.size w)
  have H : ((impl_IsTrim.f a0_0 a0_1 a0_2 a0_3).bind fun t354 => (if t354 = true then ((impl_inRange.f a1 1 20000).bind fun t355 => (if t355 = true then ((impl_inRange.f a2 1 20000).bind fun t356 => (if t356 = true then ((impl_inRange.f a3 0 20000).bind fun t357 => (impl_LeastSheet.j0 k a1 a2 a3 (!t357) a0_0 a0_1 a0_2 a0_3)) else (impl_LeastSheet.j0 k a1 a2 a3 true a0_0 a0_1 a0_2 a0_3))) else (impl_LeastSheet.j0 k a1 a2 a3 true a0_0 a0_1 a0_2 a0_3))) else (some (0, 0, 0, false, 1)))) = some (r1, r2, r3, r4, r5) := h
  clear h
  replace H := Option.bind_eq_some_iff.mp H
  obtain ⟨t354, A50, H⟩ := H
  replace H : (if t354 = true then ((impl_inRange.f a1 1 20000).bind fun t355 => (if t355 = true then ((impl_inRange.f a2 1 20000).bind fun t356 => (if t356 = true then ((impl_inRange.f a3 0 20000).bind fun t357 => (impl_LeastSheet.j0 k a1 a2 a3 (!t357) a0_0 a0_1 a0_2 a0_3)) else (impl_LeastSheet.j0 k a1 a2 a3 true a0_0 a0_1 a0_2 a0_3))) else (impl_LeastSheet.j0 k a1 a2 a3 true a0_0 a0_1 a0_2 a0_3))) else (some (0, 0, 0, false, 1))) = some (r1, r2, r3, r4, r5) := H
  have A5 := Aside0.mk A50
  clear A50
  by_cases c6 : t354 = true
  · subst c6
    have H1 : ((impl_inRange.f a1 1 20000).bind fun t355 => (if t355 = true then ((impl_inRange.f a2 1 20000).bind fun t356 => (if t356 = true then ((impl_inRange.f a3 0 20000).bind fun t357 => (impl_LeastSheet.j0 k a1 a2 a3 (!t357) a0_0 a0_1 a0_2 a0_3)) else (impl_LeastSheet.j0 k a1 a2 a3 true a0_0 a0_1 a0_2 a0_3))) else (impl_LeastSheet.j0 k a1 a2 a3 true a0_0 a0_1 a0_2 a0_3))) = some (r1, r2, r3, r4, r5) := by rw [if_pos rfl] at H; exact H
    clear H
    have H := H1
    clear H1
    have HC7 := Aside0.mk H
    clear H
    go_enter Try.func76, Try.ntmps76
    go_upto_region 3 with (first | ((with_reducible refine gate_dst (N := 4) rfl ?_); refine box_event ?hg (N := 4) ?hd (cs := #[.int .i64 a0_0, .int .i64 a0_1, .int .i64 a0_2, .int .i64 a0_3]) (t := 41) ?hr ?_; (case hd => rfl); (case hg => rfl); (case hr => first | (go_simp; done) | (go_simp; rfl)); intro gb352 hg w8 hbox hb; have n0_ := Aside0.mk (below_step (hx_ HB.out) hb); have n1_ := Aside0.mk (hbox); have n2_ := Aside0.mk ((by rw [hg]; exact (below_size (hx_ HB.out)) : w.heap.size ≤ gb352)); have n3_ := Aside0.mk ((by rw [hg]; exact (below_size (hx_ HB.out)) : w.heap.size ≤ gb352)); clear HB; have HB := n0_; have BK352 := n1_; have GW352 := n2_; have GE352 := n3_; clear n0_ n1_ n2_ n3_; clear hb hbox hg) | ((with_reducible refine gate_dst (N := 8) rfl ?_); refine box_event ?hg (N := 8) ?hd (cs := #[.int .i64 0, .int .i64 0, .int .i64 0, .bool false]) (t := 39) ?hr ?_; (case hd => rfl); (case hg => rfl); (case hr => first | (go_simp; done) | (go_simp; rfl)); intro gb353 hg w9 hbox hb; have n0_ := Aside0.mk (blk_below (g := gb352) (o := .cells #[.int .i64 a0_0, .int .i64 a0_1, .int .i64 a0_2, .int .i64 a0_3] 41 (0, 0)) (bx_ BK352.out) hb); have n1_ := Aside0.mk (below_step (hx_ HB.out) hb); have n2_ := Aside0.mk (hbox); have n3_ := Aside0.mk ((by rw [hg]; exact (below_size (hx_ HB.out)) : w.heap.size ≤ gb353)); have n4_ := Aside0.mk ((by rw [hg]; exact (below_size (hx_ HB.out)) : w.heap.size ≤ gb353)); have n5_ := Aside0.mk ((by rw [hg]; exact Nat.ne_of_lt (blk_lt (g := gb352) (o := .cells #[.int .i64 a0_0, .int .i64 a0_1, .int .i64 a0_2, .int .i64 a0_3] 41 (0, 0)) (bx_ BK352.out)) : gb352 ≠ gb353)); have n6_ := Aside0.mk ((by rw [hg]; exact Nat.ne_of_gt (blk_lt (g := gb352) (o := .cells #[.int .i64 a0_0, .int .i64 a0_1, .int .i64 a0_2, .int .i64 a0_3] 41 (0, 0)) (bx_ BK352.out)) : gb353 ≠ gb352)); clear BK352; clear HB; have BK352 := n0_; have HB := n1_; have BK353 := n2_; have GW353 := n3_; have GE353 := n4_; have NB352_353 := n5_; have NB353_352 := n6_; clear n0_ n1_ n2_ n3_ n4_ n5_ n6_; clear hb hbox hg; have hnb10 := NB352_353.out; have hnc10 := NB353_352.out; have hcz11_0 : w9.cell? ⟨gb352, 0, none⟩ = some (.int .i64 a0_0) := (blk_cell BK352.out 0).trans rfl; have hcz11_1 : w9.cell? ⟨gb352, 1, none⟩ = some (.int .i64 a0_1) := (blk_cell BK352.out 1).trans rfl; have hcz11_2 : w9.cell? ⟨gb352, 2, none⟩ = some (.int .i64 a0_2) := (blk_cell BK352.out 2).trans rfl; have hcz11_3 : w9.cell? ⟨gb352, 3, none⟩ = some (.int .i64 a0_3) := (blk_cell BK352.out 3).trans rfl; have hfz11_0 := blk_frozen BK352.out 0; have hfz11_1 := blk_frozen BK352.out 1; have hfz11_2 := blk_frozen BK352.out 2; have hfz11_3 := blk_frozen BK352.out 3) | ((with_reducible refine gate_callee (f := 45) rfl ?_); refine goesL_ (some 13) rfl rfl Try.func45 (by kernel_rfl) rfl #[.agg #[.int .i64 a0_0, .int .i64 a0_1, .int .i64 a0_2, .int .i64 a0_3]] rfl (by (try simp only [List.map_toArray, List.map_cons, List.map_nil]); first | done | rfl | (simp only [List.length_drop, List.length_take]; rfl)) ?_; (with_reducible refine (impl_IsTrim.calls a0_0 a0_1 a0_2 a0_3 true _ A5.out).mono ?_); rintro e w12 ⟨rfl, hb⟩; refine ⟨_, rfl, ?_⟩; have n0_ := Aside0.mk (blk_below (g := gb352) (o := .cells #[.int .i64 a0_0, .int .i64 a0_1, .int .i64 a0_2, .int .i64 a0_3] 41 (0, 0)) (bx_ BK352.out) hb); have n1_ := Aside0.mk (blk_below (g := gb353) (o := .cells #[.int .i64 0, .int .i64 0, .int .i64 0, .bool false] 39 (0, 0)) (bx_ BK353.out) hb); have n2_ := Aside0.mk (below_step (hx_ HB.out) hb); clear BK352; clear BK353; clear HB; have BK352 := n0_; have BK353 := n1_; have HB := n2_; clear n0_ n1_ n2_; (try clear hb); (try clear hb2); (try clear hk); (try clear hi)))
    (try simp only [Act.put, List.setIfInBounds_toArray, List.set_cons_zero, List.set_cons_succ])
    go_cut [16] (fun v16 wc => ∃ (kq : Nat) (x16_6 : Bool), v16 = .bool x16_6 ∧ Aside0 (impl_LeastSheet.j0 kq a1 a2 a3 x16_6 a0_0 a0_1 a0_2 a0_3 = some (r1, r2, r3, r4, r5)) ∧ Aside0 (kq ≤ k) ∧ Aside0 (wc.heap[gb352]? = some (.cells #[.int .i64 a0_0, .int .i64 a0_1, .int .i64 a0_2, .int .i64 a0_3] 41 (0, 0))) ∧ Aside0 (wc.heap[gb353]? = some (.cells #[.int .i64 0, .int .i64 0, .int .i64 0, .bool false] 39 (0, 0))) ∧ Aside0 (Below w.heap.size w wc))
    case first =>
      have H := HC7.out
      clear HC7
      replace H := Option.bind_eq_some_iff.mp H
      obtain ⟨t355, A130, H⟩ := H
      replace H : (if t355 = true then ((impl_inRange.f a2 1 20000).bind fun t356 => (if t356 = true then ((impl_inRange.f a3 0 20000).bind fun t357 => (impl_LeastSheet.j0 k a1 a2 a3 (!t357) a0_0 a0_1 a0_2 a0_3)) else (impl_LeastSheet.j0 k a1 a2 a3 true a0_0 a0_1 a0_2 a0_3))) else (impl_LeastSheet.j0 k a1 a2 a3 true a0_0 a0_1 a0_2 a0_3)) = some (r1, r2, r3, r4, r5) := H
      have A13 := Aside0.mk A130
      clear A130
      by_cases c14 : t355 = true
      · subst c14
        have H1 : ((impl_inRange.f a2 1 20000).bind fun t356 => (if t356 = true then ((impl_inRange.f a3 0 20000).bind fun t357 => (impl_LeastSheet.j0 k a1 a2 a3 (!t357) a0_0 a0_1 a0_2 a0_3)) else (impl_LeastSheet.j0 k a1 a2 a3 true a0_0 a0_1 a0_2 a0_3))) = some (r1, r2, r3, r4, r5) := by rw [if_pos rfl] at H; exact H
        clear H
        have H := H1
        clear H1
        replace H := Option.bind_eq_some_iff.mp H
        obtain ⟨t356, A150, H⟩ := H
        replace H : (if t356 = true then ((impl_inRange.f a3 0 20000).bind fun t357 => (impl_LeastSheet.j0 k a1 a2 a3 (!t357) a0_0 a0_1 a0_2 a0_3)) else (impl_LeastSheet.j0 k a1 a2 a3 true a0_0 a0_1 a0_2 a0_3)) = some (r1, r2, r3, r4, r5) := H
        have A15 := Aside0.mk A150
        clear A150
        by_cases c16 : t356 = true
        · subst c16
          have H1 : ((impl_inRange.f a3 0 20000).bind fun t357 => (impl_LeastSheet.j0 k a1 a2 a3 (!t357) a0_0 a0_1 a0_2 a0_3)) = some (r1, r2, r3, r4, r5) := by rw [if_pos rfl] at H; exact H
          clear H
          have H := H1
          clear H1
          replace H := Option.bind_eq_some_iff.mp H
          obtain ⟨t357, A170, H⟩ := H
          replace H : (impl_LeastSheet.j0 k a1 a2 a3 (!t357) a0_0 a0_1 a0_2 a0_3) = some (r1, r2, r3, r4, r5) := H
          have A17 := Aside0.mk A170
          clear A170
          have H' := Aside0.mk H
          clear H
          go_wp2_with (first | ((with_reducible refine gate_callee (f := 118) rfl ?_); refine goesL_ (some 18) rfl rfl Try.func118 (by kernel_rfl) rfl #[.int .i64 a1, .int .i64 1, .int .i64 20000] rfl (by (try simp only [List.map_toArray, List.map_cons, List.map_nil]); first | done | rfl | (simp only [List.length_drop, List.length_take]; rfl)) ?_; (with_reducible refine (impl_inRange.calls a1 1 20000 true _ A13.out).mono ?_); rintro e w' ⟨rfl, ⟨nd, rfl⟩⟩; refine ⟨_, rfl, ?_⟩) | (go_at_call 118; (with_reducible refine (impl_inRange.calls a2 1 20000 true _ A15.out).mono ?_); rintro e w' ⟨rfl, ⟨nd, rfl⟩⟩) | (go_at_call 118; (with_reducible refine (impl_inRange.calls a3 0 20000 t357 _ A17.out).mono ?_); rintro e w' ⟨rfl, ⟨nd, rfl⟩⟩))
          go_meet
          case rel => exact ⟨_, (!t357), (by first | rfl | (simp; done) | (simp [*]; done)), H', ⟨by first | omega | exact Nat.le_refl _⟩, ⟨bx_ BK352.out⟩, ⟨bx_ BK353.out⟩, ⟨hx_ HB.out⟩⟩
        · replace c16 := Bool.eq_false_iff.mpr c16
          subst c16
          have H1 : (impl_LeastSheet.j0 k a1 a2 a3 true a0_0 a0_1 a0_2 a0_3) = some (r1, r2, r3, r4, r5) := by rw [if_neg (show ¬ (false = true) by decide)] at H; exact H
          clear H
          have H := H1
          clear H1
          have H' := Aside0.mk H
          clear H
          go_wp2_with (first | ((with_reducible refine gate_callee (f := 118) rfl ?_); refine goesL_ (some 18) rfl rfl Try.func118 (by kernel_rfl) rfl #[.int .i64 a1, .int .i64 1, .int .i64 20000] rfl (by (try simp only [List.map_toArray, List.map_cons, List.map_nil]); first | done | rfl | (simp only [List.length_drop, List.length_take]; rfl)) ?_; (with_reducible refine (impl_inRange.calls a1 1 20000 true _ A13.out).mono ?_); rintro e w' ⟨rfl, ⟨nd, rfl⟩⟩; refine ⟨_, rfl, ?_⟩) | (go_at_call 118; (with_reducible refine (impl_inRange.calls a2 1 20000 false _ A15.out).mono ?_); rintro e w' ⟨rfl, ⟨nd, rfl⟩⟩))
          go_meet
          case rel => exact ⟨_, (true), (by first | rfl | (simp; done) | (simp [*]; done)), H', ⟨by first | omega | exact Nat.le_refl _⟩, ⟨bx_ BK352.out⟩, ⟨bx_ BK353.out⟩, ⟨hx_ HB.out⟩⟩
      · replace c14 := Bool.eq_false_iff.mpr c14
        subst c14
        have H1 : (impl_LeastSheet.j0 k a1 a2 a3 true a0_0 a0_1 a0_2 a0_3) = some (r1, r2, r3, r4, r5) := by rw [if_neg (show ¬ (false = true) by decide)] at H; exact H
        clear H
        have H := H1
        clear H1
        have H' := Aside0.mk H
        clear H
        go_wp2_with (first | ((with_reducible refine gate_callee (f := 118) rfl ?_); refine goesL_ (some 18) rfl rfl Try.func118 (by kernel_rfl) rfl #[.int .i64 a1, .int .i64 1, .int .i64 20000] rfl (by (try simp only [List.map_toArray, List.map_cons, List.map_nil]); first | done | rfl | (simp only [List.length_drop, List.length_take]; rfl)) ?_; (with_reducible refine (impl_inRange.calls a1 1 20000 false _ A13.out).mono ?_); rintro e w' ⟨rfl, ⟨nd, rfl⟩⟩; refine ⟨_, rfl, ?_⟩))
        go_meet
        case rel => exact ⟨_, (true), (by first | rfl | (simp; done) | (simp [*]; done)), H', ⟨by first | omega | exact Nat.le_refl _⟩, ⟨bx_ BK352.out⟩, ⟨bx_ BK353.out⟩, ⟨hx_ HB.out⟩⟩
    case rest =>
      clear HC7
      try clear c1
      try clear p2
      try clear c4
      try clear c6
      try clear c7
      try clear c10
      try clear c11
      try clear c14
      try clear c16
      try clear hcz11_0
      try clear hcz11_1
      try clear hcz11_2
      try clear hcz11_3
      try clear hfz11_0
      try clear hfz11_1
      try clear hfz11_2
      try clear hfz11_3
      obtain ⟨kq, x16_6, rfl, HA, HJ6, BK352, BK353, HB⟩ := hcut
      cases kq with
      | zero => exact absurd HA.out (by simp [impl_LeastSheet.j0])
      | succ kj6 =>
        have H := HA.out
        clear HA
        simp only [impl_LeastSheet.j0] at H
        by_cases c18 : x16_6 = true
        · subst c18
          have H1 : (some (0, 0, 0, false, 2)) = some (r1, r2, r3, r4, r5) := by rw [if_pos rfl] at H; exact H
          clear H
          have H := H1
          clear H1
          simp only [Option.some.injEq, Prod.mk.injEq] at H
          obtain ⟨rfl, rfl, rfl, rfl, rfl⟩ := H
          have hnb19 := NB353_352.out
          have hnc19 := NB352_353.out
          have hcz20_0 : wc.cell? ⟨gb353, 0, none⟩ = some (.int .i64 0) := (blk_cell BK353.out 0).trans rfl
          have hcz20_1 : wc.cell? ⟨gb353, 1, none⟩ = some (.int .i64 0) := (blk_cell BK353.out 1).trans rfl
          have hcz20_2 : wc.cell? ⟨gb353, 2, none⟩ = some (.int .i64 0) := (blk_cell BK353.out 2).trans rfl
          have hcz20_3 : wc.cell? ⟨gb353, 3, none⟩ = some (.bool false) := (blk_cell BK353.out 3).trans rfl
          have hfz20_0 := blk_frozen BK353.out 0
          have hfz20_1 := blk_frozen BK353.out 1
          have hfz20_2 := blk_frozen BK353.out 2
          have hfz20_3 := blk_frozen BK353.out 3
          go_wp2
          refine bodyPost_ret (results_ct rfl _ _ gb353 39 #[.int .i64 0, .int .i64 0, .int .i64 0, .bool false] (0, 0) _ rfl (by (with_reducible repeat (first | refine blk_drewN ?_ _ | refine blk_drew ?_ | refine blk_alloc ?_ _)); refine blk_put (cs := #[.int .i64 0, .int .i64 0, .int .i64 0, .bool false]) ?_ 3 _ rfl; (with_reducible repeat (first | refine blk_drewN ?_ _ | refine blk_drew ?_ | refine blk_alloc ?_ _)); refine blk_put (cs := #[.int .i64 0, .int .i64 0, .int .i64 0, .bool false]) ?_ 2 _ rfl; (with_reducible repeat (first | refine blk_drewN ?_ _ | refine blk_drew ?_ | refine blk_alloc ?_ _)); refine blk_put (cs := #[.int .i64 0, .int .i64 0, .int .i64 0, .bool false]) ?_ 1 _ rfl; (with_reducible repeat (first | refine blk_drewN ?_ _ | refine blk_drew ?_ | refine blk_alloc ?_ _)); refine blk_put (cs := #[.int .i64 0, .int .i64 0, .int .i64 0, .bool false]) ?_ 0 _ rfl; (with_reducible repeat (first | refine blk_drewN ?_ _ | refine blk_drew ?_ | refine blk_alloc ?_ _)); exact BK353.out) Try.underlying39 rfl (by kernel_rfl)) rfl ?_
          exact ⟨by first | rfl | (simp [errW_none, errW_some] <;> rfl) | (simp [*, errW_none, errW_some] <;> rfl), hx_ HB.out⟩
        · replace c18 := Bool.eq_false_iff.mpr c18
          subst c18
          have H1 : (if (wrap64 ((wrap64 ((wrap64 (a1 * a0_0)) + (wrap64 ((wrap64 (a1 - 1)) * a0_3)))) + (wrap64 (2 * a0_2)))) > 20000 then (some (0, 0, 0, false, 3)) else (if (wrap64 ((wrap64 ((wrap64 ((wrap64 (a2 * a0_1)) + (wrap64 ((wrap64 (a2 - 1)) * a0_3)))) + (wrap64 (2 * a0_2)))) + a3)) > 20000 then (some (0, 0, 0, false, 3)) else (some (wrap64 ((wrap64 ((wrap64 (a1 * a0_0)) + (wrap64 ((wrap64 (a1 - 1)) * a0_3)))) + (wrap64 (2 * a0_2))), wrap64 ((wrap64 ((wrap64 ((wrap64 (a2 * a0_1)) + (wrap64 ((wrap64 (a2 - 1)) * a0_3)))) + (wrap64 (2 * a0_2)))) + a3), a3, true, 0)))) = some (r1, r2, r3, r4, r5) := by rw [if_neg (show ¬ (false = true) by decide)] at H; exact H
          clear H
          have H := H1
          clear H1
          by_cases c21 : (wrap64 ((wrap64 ((wrap64 (a1 * a0_0)) + (wrap64 ((wrap64 (a1 - 1)) * a0_3)))) + (wrap64 (2 * a0_2)))) > 20000
          · rw [if_pos c21] at H
            have c21b0 : decide (20000 < (wrap64 ((wrap64 ((wrap64 (a1 * a0_0)) + (wrap64 ((wrap64 (a1 - 1)) * a0_3)))) + (wrap64 (2 * a0_2))))) = true := decide_eq_true c21
            clear c21
            simp only [Option.some.injEq, Prod.mk.injEq] at H
            obtain ⟨rfl, rfl, rfl, rfl, rfl⟩ := H
            have hnb22 := NB352_353.out
            have hnc22 := NB353_352.out
            have hcz23_0 : wc.cell? ⟨gb352, 0, none⟩ = some (.int .i64 a0_0) := (blk_cell BK352.out 0).trans rfl
            have hcz23_1 : wc.cell? ⟨gb352, 1, none⟩ = some (.int .i64 a0_1) := (blk_cell BK352.out 1).trans rfl
            have hcz23_2 : wc.cell? ⟨gb352, 2, none⟩ = some (.int .i64 a0_2) := (blk_cell BK352.out 2).trans rfl
            have hcz23_3 : wc.cell? ⟨gb352, 3, none⟩ = some (.int .i64 a0_3) := (blk_cell BK352.out 3).trans rfl
            have hfz23_0 := blk_frozen BK352.out 0
            have hfz23_1 := blk_frozen BK352.out 1
            have hfz23_2 := blk_frozen BK352.out 2
            have hfz23_3 := blk_frozen BK352.out 3
            go_wp2_with (first | ((with_reducible refine gate_dst (N := 10) rfl ?_); refine box_event ?hg (N := 10) ?hd (cs := #[.int .i64 0, .int .i64 0, .int .i64 0, .bool false]) (t := 39) ?hr ?_; (case hd => rfl); (case hg => rfl); (case hr => first | (go_simp; done) | (go_simp; rfl)); intro gb358 hg w24 hbox hb; have n0_ := Aside0.mk (blk_below (g := gb352) (o := .cells #[.int .i64 a0_0, .int .i64 a0_1, .int .i64 a0_2, .int .i64 a0_3] 41 (0, 0)) (bx_ BK352.out) hb); have n1_ := Aside0.mk (blk_below (g := gb353) (o := .cells #[.int .i64 0, .int .i64 0, .int .i64 0, .bool false] 39 (0, 0)) (bx_ BK353.out) hb); have n2_ := Aside0.mk (below_step (hx_ HB.out) hb); have n3_ := Aside0.mk (hbox); have n4_ := Aside0.mk ((by rw [hg]; exact (below_size (hx_ HB.out)) : w.heap.size ≤ gb358)); have n5_ := Aside0.mk ((by rw [hg]; exact (below_size (hx_ HB.out)) : w.heap.size ≤ gb358)); have n6_ := Aside0.mk ((by rw [hg]; exact Nat.ne_of_lt (blk_lt (g := gb352) (o := .cells #[.int .i64 a0_0, .int .i64 a0_1, .int .i64 a0_2, .int .i64 a0_3] 41 (0, 0)) (bx_ BK352.out)) : gb352 ≠ gb358)); have n7_ := Aside0.mk ((by rw [hg]; exact Nat.ne_of_gt (blk_lt (g := gb352) (o := .cells #[.int .i64 a0_0, .int .i64 a0_1, .int .i64 a0_2, .int .i64 a0_3] 41 (0, 0)) (bx_ BK352.out)) : gb358 ≠ gb352)); have n8_ := Aside0.mk ((by rw [hg]; exact Nat.ne_of_lt (blk_lt (g := gb353) (o := .cells #[.int .i64 0, .int .i64 0, .int .i64 0, .bool false] 39 (0, 0)) (bx_ BK353.out)) : gb353 ≠ gb358)); have n9_ := Aside0.mk ((by rw [hg]; exact Nat.ne_of_gt (blk_lt (g := gb353) (o := .cells #[.int .i64 0, .int .i64 0, .int .i64 0, .bool false] 39 (0, 0)) (bx_ BK353.out)) : gb358 ≠ gb353)); clear BK352; clear BK353; clear HB; have BK352 := n0_; have BK353 := n1_; have HB := n2_; have BK358 := n3_; have GW358 := n4_; have GE358 := n5_; have NB352_358 := n6_; have NB358_352 := n7_; have NB353_358 := n8_; have NB358_353 := n9_; clear n0_ n1_ n2_ n3_ n4_ n5_ n6_ n7_ n8_ n9_; clear hb hbox hg; have hnb25 := NB358_352.out; have hnc25 := NB352_358.out; have hnb26 := NB358_353.out; have hnc26 := NB353_358.out; have hcz27_0 : w24.cell? ⟨gb358, 0, none⟩ = some (.int .i64 0) := (blk_cell BK358.out 0).trans rfl; have hcz27_1 : w24.cell? ⟨gb358, 1, none⟩ = some (.int .i64 0) := (blk_cell BK358.out 1).trans rfl; have hcz27_2 : w24.cell? ⟨gb358, 2, none⟩ = some (.int .i64 0) := (blk_cell BK358.out 2).trans rfl; have hcz27_3 : w24.cell? ⟨gb358, 3, none⟩ = some (.bool false) := (blk_cell BK358.out 3).trans rfl; have hfz27_0 := blk_frozen BK358.out 0; have hfz27_1 := blk_frozen BK358.out 1; have hfz27_2 := blk_frozen BK358.out 2; have hfz27_3 := blk_frozen BK358.out 3; have hcz28_0 : w24.cell? ⟨gb353, 0, none⟩ = some (.int .i64 0) := (blk_cell BK353.out 0).trans rfl; have hcz28_1 : w24.cell? ⟨gb353, 1, none⟩ = some (.int .i64 0) := (blk_cell BK353.out 1).trans rfl; have hcz28_2 : w24.cell? ⟨gb353, 2, none⟩ = some (.int .i64 0) := (blk_cell BK353.out 2).trans rfl; have hcz28_3 : w24.cell? ⟨gb353, 3, none⟩ = some (.bool false) := (blk_cell BK353.out 3).trans rfl; have hfz28_0 := blk_frozen BK353.out 0; have hfz28_1 := blk_frozen BK353.out 1; have hfz28_2 := blk_frozen BK353.out 2; have hfz28_3 := blk_frozen BK353.out 3))
            refine bodyPost_ret (results_ct rfl _ _ gb353 39 #[.int .i64 0, .int .i64 0, .int .i64 0, .bool false] (0, 0) _ rfl (by (with_reducible repeat (first | refine blk_drewN ?_ _ | refine blk_drew ?_ | refine blk_alloc ?_ _)); refine blk_put (cs := #[.int .i64 0, .int .i64 0, .int .i64 0, .bool false]) ?_ 3 _ rfl; (with_reducible repeat (first | refine blk_drewN ?_ _ | refine blk_drew ?_ | refine blk_alloc ?_ _)); refine blk_put (cs := #[.int .i64 0, .int .i64 0, .int .i64 0, .bool false]) ?_ 2 _ rfl; (with_reducible repeat (first | refine blk_drewN ?_ _ | refine blk_drew ?_ | refine blk_alloc ?_ _)); refine blk_put (cs := #[.int .i64 0, .int .i64 0, .int .i64 0, .bool false]) ?_ 1 _ rfl; (with_reducible repeat (first | refine blk_drewN ?_ _ | refine blk_drew ?_ | refine blk_alloc ?_ _)); refine blk_put (cs := #[.int .i64 0, .int .i64 0, .int .i64 0, .bool false]) ?_ 0 _ rfl; (with_reducible repeat (first | refine blk_drewN ?_ _ | refine blk_drew ?_ | refine blk_alloc ?_ _)); refine blk_far ?_ NB353_358.out _; (with_reducible repeat (first | refine blk_drewN ?_ _ | refine blk_drew ?_ | refine blk_alloc ?_ _)); refine blk_far ?_ NB353_358.out _; (with_reducible repeat (first | refine blk_drewN ?_ _ | refine blk_drew ?_ | refine blk_alloc ?_ _)); refine blk_far ?_ NB353_358.out _; (with_reducible repeat (first | refine blk_drewN ?_ _ | refine blk_drew ?_ | refine blk_alloc ?_ _)); refine blk_far ?_ NB353_358.out _; (with_reducible repeat (first | refine blk_drewN ?_ _ | refine blk_drew ?_ | refine blk_alloc ?_ _)); exact BK353.out) Try.underlying39 rfl (by kernel_rfl)) rfl ?_
            exact ⟨by first | rfl | (simp [errW_none, errW_some] <;> rfl) | (simp [*, errW_none, errW_some] <;> rfl), hx_ HB.out⟩
          · rw [if_neg c21] at H
            have c21b0 : decide (20000 < (wrap64 ((wrap64 ((wrap64 (a1 * a0_0)) + (wrap64 ((wrap64 (a1 - 1)) * a0_3)))) + (wrap64 (2 * a0_2))))) = false := decide_eq_false c21
            clear c21
            by_cases c29 : (wrap64 ((wrap64 ((wrap64 ((wrap64 (a2 * a0_1)) + (wrap64 ((wrap64 (a2 - 1)) * a0_3)))) + (wrap64 (2 * a0_2)))) + a3)) > 20000
            · rw [if_pos c29] at H
              have c29b0 : decide (20000 < (wrap64 ((wrap64 ((wrap64 ((wrap64 (a2 * a0_1)) + (wrap64 ((wrap64 (a2 - 1)) * a0_3)))) + (wrap64 (2 * a0_2)))) + a3))) = true := decide_eq_true c29
              clear c29
              simp only [Option.some.injEq, Prod.mk.injEq] at H
              obtain ⟨rfl, rfl, rfl, rfl, rfl⟩ := H
              have hnb30 := NB352_353.out
              have hnc30 := NB353_352.out
              have hcz31_0 : wc.cell? ⟨gb352, 0, none⟩ = some (.int .i64 a0_0) := (blk_cell BK352.out 0).trans rfl
              have hcz31_1 : wc.cell? ⟨gb352, 1, none⟩ = some (.int .i64 a0_1) := (blk_cell BK352.out 1).trans rfl
              have hcz31_2 : wc.cell? ⟨gb352, 2, none⟩ = some (.int .i64 a0_2) := (blk_cell BK352.out 2).trans rfl
              have hcz31_3 : wc.cell? ⟨gb352, 3, none⟩ = some (.int .i64 a0_3) := (blk_cell BK352.out 3).trans rfl
              have hfz31_0 := blk_frozen BK352.out 0
              have hfz31_1 := blk_frozen BK352.out 1
              have hfz31_2 := blk_frozen BK352.out 2
              have hfz31_3 := blk_frozen BK352.out 3
              go_wp2_with (first | ((with_reducible refine gate_dst (N := 10) rfl ?_); refine box_event ?hg (N := 10) ?hd (cs := #[.int .i64 0, .int .i64 0, .int .i64 0, .bool false]) (t := 39) ?hr ?_; (case hd => rfl); (case hg => rfl); (case hr => first | (go_simp; done) | (go_simp; rfl)); intro gb358 hg w32 hbox hb; have n0_ := Aside0.mk (blk_below (g := gb352) (o := .cells #[.int .i64 a0_0, .int .i64 a0_1, .int .i64 a0_2, .int .i64 a0_3] 41 (0, 0)) (bx_ BK352.out) hb); have n1_ := Aside0.mk (blk_below (g := gb353) (o := .cells #[.int .i64 0, .int .i64 0, .int .i64 0, .bool false] 39 (0, 0)) (bx_ BK353.out) hb); have n2_ := Aside0.mk (below_step (hx_ HB.out) hb); have n3_ := Aside0.mk (hbox); have n4_ := Aside0.mk ((by rw [hg]; exact (below_size (hx_ HB.out)) : w.heap.size ≤ gb358)); have n5_ := Aside0.mk ((by rw [hg]; exact (below_size (hx_ HB.out)) : w.heap.size ≤ gb358)); have n6_ := Aside0.mk ((by rw [hg]; exact Nat.ne_of_lt (blk_lt (g := gb352) (o := .cells #[.int .i64 a0_0, .int .i64 a0_1, .int .i64 a0_2, .int .i64 a0_3] 41 (0, 0)) (bx_ BK352.out)) : gb352 ≠ gb358)); have n7_ := Aside0.mk ((by rw [hg]; exact Nat.ne_of_gt (blk_lt (g := gb352) (o := .cells #[.int .i64 a0_0, .int .i64 a0_1, .int .i64 a0_2, .int .i64 a0_3] 41 (0, 0)) (bx_ BK352.out)) : gb358 ≠ gb352)); have n8_ := Aside0.mk ((by rw [hg]; exact Nat.ne_of_lt (blk_lt (g := gb353) (o := .cells #[.int .i64 0, .int .i64 0, .int .i64 0, .bool false] 39 (0, 0)) (bx_ BK353.out)) : gb353 ≠ gb358)); have n9_ := Aside0.mk ((by rw [hg]; exact Nat.ne_of_gt (blk_lt (g := gb353) (o := .cells #[.int .i64 0, .int .i64 0, .int .i64 0, .bool false] 39 (0, 0)) (bx_ BK353.out)) : gb358 ≠ gb353)); clear BK352; clear BK353; clear HB; have BK352 := n0_; have BK353 := n1_; have HB := n2_; have BK358 := n3_; have GW358 := n4_; have GE358 := n5_; have NB352_358 := n6_; have NB358_352 := n7_; have NB353_358 := n8_; have NB358_353 := n9_; clear n0_ n1_ n2_ n3_ n4_ n5_ n6_ n7_ n8_ n9_; clear hb hbox hg; have hnb33 := NB358_352.out; have hnc33 := NB352_358.out; have hnb34 := NB358_353.out; have hnc34 := NB353_358.out; have hcz35_0 : w32.cell? ⟨gb358, 0, none⟩ = some (.int .i64 0) := (blk_cell BK358.out 0).trans rfl; have hcz35_1 : w32.cell? ⟨gb358, 1, none⟩ = some (.int .i64 0) := (blk_cell BK358.out 1).trans rfl; have hcz35_2 : w32.cell? ⟨gb358, 2, none⟩ = some (.int .i64 0) := (blk_cell BK358.out 2).trans rfl; have hcz35_3 : w32.cell? ⟨gb358, 3, none⟩ = some (.bool false) := (blk_cell BK358.out 3).trans rfl; have hfz35_0 := blk_frozen BK358.out 0; have hfz35_1 := blk_frozen BK358.out 1; have hfz35_2 := blk_frozen BK358.out 2; have hfz35_3 := blk_frozen BK358.out 3; have hcz36_0 : w32.cell? ⟨gb353, 0, none⟩ = some (.int .i64 0) := (blk_cell BK353.out 0).trans rfl; have hcz36_1 : w32.cell? ⟨gb353, 1, none⟩ = some (.int .i64 0) := (blk_cell BK353.out 1).trans rfl; have hcz36_2 : w32.cell? ⟨gb353, 2, none⟩ = some (.int .i64 0) := (blk_cell BK353.out 2).trans rfl; have hcz36_3 : w32.cell? ⟨gb353, 3, none⟩ = some (.bool false) := (blk_cell BK353.out 3).trans rfl; have hfz36_0 := blk_frozen BK353.out 0; have hfz36_1 := blk_frozen BK353.out 1; have hfz36_2 := blk_frozen BK353.out 2; have hfz36_3 := blk_frozen BK353.out 3))
              refine bodyPost_ret (results_ct rfl _ _ gb353 39 #[.int .i64 0, .int .i64 0, .int .i64 0, .bool false] (0, 0) _ rfl (by (with_reducible repeat (first | refine blk_drewN ?_ _ | refine blk_drew ?_ | refine blk_alloc ?_ _)); refine blk_put (cs := #[.int .i64 0, .int .i64 0, .int .i64 0, .bool false]) ?_ 3 _ rfl; (with_reducible repeat (first | refine blk_drewN ?_ _ | refine blk_drew ?_ | refine blk_alloc ?_ _)); refine blk_put (cs := #[.int .i64 0, .int .i64 0, .int .i64 0, .bool false]) ?_ 2 _ rfl; (with_reducible repeat (first | refine blk_drewN ?_ _ | refine blk_drew ?_ | refine blk_alloc ?_ _)); refine blk_put (cs := #[.int .i64 0, .int .i64 0, .int .i64 0, .bool false]) ?_ 1 _ rfl; (with_reducible repeat (first | refine blk_drewN ?_ _ | refine blk_drew ?_ | refine blk_alloc ?_ _)); refine blk_put (cs := #[.int .i64 0, .int .i64 0, .int .i64 0, .bool false]) ?_ 0 _ rfl; (with_reducible repeat (first | refine blk_drewN ?_ _ | refine blk_drew ?_ | refine blk_alloc ?_ _)); refine blk_far ?_ NB353_358.out _; (with_reducible repeat (first | refine blk_drewN ?_ _ | refine blk_drew ?_ | refine blk_alloc ?_ _)); refine blk_far ?_ NB353_358.out _; (with_reducible repeat (first | refine blk_drewN ?_ _ | refine blk_drew ?_ | refine blk_alloc ?_ _)); refine blk_far ?_ NB353_358.out _; (with_reducible repeat (first | refine blk_drewN ?_ _ | refine blk_drew ?_ | refine blk_alloc ?_ _)); refine blk_far ?_ NB353_358.out _; (with_reducible repeat (first | refine blk_drewN ?_ _ | refine blk_drew ?_ | refine blk_alloc ?_ _)); exact BK353.out) Try.underlying39 rfl (by kernel_rfl)) rfl ?_
              exact ⟨by first | rfl | (simp [errW_none, errW_some] <;> rfl) | (simp [*, errW_none, errW_some] <;> rfl), hx_ HB.out⟩
            · rw [if_neg c29] at H
              have c29b0 : decide (20000 < (wrap64 ((wrap64 ((wrap64 ((wrap64 (a2 * a0_1)) + (wrap64 ((wrap64 (a2 - 1)) * a0_3)))) + (wrap64 (2 * a0_2)))) + a3))) = false := decide_eq_false c29
              clear c29
              simp only [Option.some.injEq, Prod.mk.injEq] at H
              obtain ⟨rfl, rfl, rfl, rfl, rfl⟩ := H
              have hnb37 := NB352_353.out
              have hnc37 := NB353_352.out
              have hcz38_0 : wc.cell? ⟨gb352, 0, none⟩ = some (.int .i64 a0_0) := (blk_cell BK352.out 0).trans rfl
              have hcz38_1 : wc.cell? ⟨gb352, 1, none⟩ = some (.int .i64 a0_1) := (blk_cell BK352.out 1).trans rfl
              have hcz38_2 : wc.cell? ⟨gb352, 2, none⟩ = some (.int .i64 a0_2) := (blk_cell BK352.out 2).trans rfl
              have hcz38_3 : wc.cell? ⟨gb352, 3, none⟩ = some (.int .i64 a0_3) := (blk_cell BK352.out 3).trans rfl
              have hfz38_0 := blk_frozen BK352.out 0
              have hfz38_1 := blk_frozen BK352.out 1
              have hfz38_2 := blk_frozen BK352.out 2
              have hfz38_3 := blk_frozen BK352.out 3
              go_wp2_with (first | ((with_reducible refine gate_dst (N := 10) rfl ?_); refine box_event ?hg (N := 10) ?hd (cs := #[.int .i64 0, .int .i64 0, .int .i64 0, .bool false]) (t := 39) ?hr ?_; (case hd => rfl); (case hg => rfl); (case hr => first | (go_simp; done) | (go_simp; rfl)); intro gb358 hg w39 hbox hb; have n0_ := Aside0.mk (blk_below (g := gb352) (o := .cells #[.int .i64 a0_0, .int .i64 a0_1, .int .i64 a0_2, .int .i64 a0_3] 41 (0, 0)) (bx_ BK352.out) hb); have n1_ := Aside0.mk (blk_below (g := gb353) (o := .cells #[.int .i64 0, .int .i64 0, .int .i64 0, .bool false] 39 (0, 0)) (bx_ BK353.out) hb); have n2_ := Aside0.mk (below_step (hx_ HB.out) hb); have n3_ := Aside0.mk (hbox); have n4_ := Aside0.mk ((by rw [hg]; exact (below_size (hx_ HB.out)) : w.heap.size ≤ gb358)); have n5_ := Aside0.mk ((by rw [hg]; exact (below_size (hx_ HB.out)) : w.heap.size ≤ gb358)); have n6_ := Aside0.mk ((by rw [hg]; exact Nat.ne_of_lt (blk_lt (g := gb352) (o := .cells #[.int .i64 a0_0, .int .i64 a0_1, .int .i64 a0_2, .int .i64 a0_3] 41 (0, 0)) (bx_ BK352.out)) : gb352 ≠ gb358)); have n7_ := Aside0.mk ((by rw [hg]; exact Nat.ne_of_gt (blk_lt (g := gb352) (o := .cells #[.int .i64 a0_0, .int .i64 a0_1, .int .i64 a0_2, .int .i64 a0_3] 41 (0, 0)) (bx_ BK352.out)) : gb358 ≠ gb352)); have n8_ := Aside0.mk ((by rw [hg]; exact Nat.ne_of_lt (blk_lt (g := gb353) (o := .cells #[.int .i64 0, .int .i64 0, .int .i64 0, .bool false] 39 (0, 0)) (bx_ BK353.out)) : gb353 ≠ gb358)); have n9_ := Aside0.mk ((by rw [hg]; exact Nat.ne_of_gt (blk_lt (g := gb353) (o := .cells #[.int .i64 0, .int .i64 0, .int .i64 0, .bool false] 39 (0, 0)) (bx_ BK353.out)) : gb358 ≠ gb353)); clear BK352; clear BK353; clear HB; have BK352 := n0_; have BK353 := n1_; have HB := n2_; have BK358 := n3_; have GW358 := n4_; have GE358 := n5_; have NB352_358 := n6_; have NB358_352 := n7_; have NB353_358 := n8_; have NB358_353 := n9_; clear n0_ n1_ n2_ n3_ n4_ n5_ n6_ n7_ n8_ n9_; clear hb hbox hg; have hnb40 := NB358_352.out; have hnc40 := NB352_358.out; have hnb41 := NB358_353.out; have hnc41 := NB353_358.out; have hcz42_0 : w39.cell? ⟨gb358, 0, none⟩ = some (.int .i64 0) := (blk_cell BK358.out 0).trans rfl; have hcz42_1 : w39.cell? ⟨gb358, 1, none⟩ = some (.int .i64 0) := (blk_cell BK358.out 1).trans rfl; have hcz42_2 : w39.cell? ⟨gb358, 2, none⟩ = some (.int .i64 0) := (blk_cell BK358.out 2).trans rfl; have hcz42_3 : w39.cell? ⟨gb358, 3, none⟩ = some (.bool false) := (blk_cell BK358.out 3).trans rfl; have hfz42_0 := blk_frozen BK358.out 0; have hfz42_1 := blk_frozen BK358.out 1; have hfz42_2 := blk_frozen BK358.out 2; have hfz42_3 := blk_frozen BK358.out 3; have hcz43_0 : w39.cell? ⟨gb353, 0, none⟩ = some (.int .i64 0) := (blk_cell BK353.out 0).trans rfl; have hcz43_1 : w39.cell? ⟨gb353, 1, none⟩ = some (.int .i64 0) := (blk_cell BK353.out 1).trans rfl; have hcz43_2 : w39.cell? ⟨gb353, 2, none⟩ = some (.int .i64 0) := (blk_cell BK353.out 2).trans rfl; have hcz43_3 : w39.cell? ⟨gb353, 3, none⟩ = some (.bool false) := (blk_cell BK353.out 3).trans rfl; have hfz43_0 := blk_frozen BK353.out 0; have hfz43_1 := blk_frozen BK353.out 1; have hfz43_2 := blk_frozen BK353.out 2; have hfz43_3 := blk_frozen BK353.out 3))
              refine bodyPost_ret (results_ct rfl _ _ gb353 39 #[.int .i64 (wrap64 ((wrap64 ((wrap64 (a1 * a0_0)) + (wrap64 ((wrap64 (a1 - 1)) * a0_3)))) + (wrap64 (2 * a0_2)))), .int .i64 (wrap64 ((wrap64 ((wrap64 ((wrap64 (a2 * a0_1)) + (wrap64 ((wrap64 (a2 - 1)) * a0_3)))) + (wrap64 (2 * a0_2)))) + a3)), .int .i64 a3, .bool true] (0, 0) _ rfl (by (with_reducible repeat (first | refine blk_drewN ?_ _ | refine blk_drew ?_ | refine blk_alloc ?_ _)); refine blk_put (cs := #[.int .i64 (wrap64 ((wrap64 ((wrap64 (a1 * a0_0)) + (wrap64 ((wrap64 (a1 - 1)) * a0_3)))) + (wrap64 (2 * a0_2)))), .int .i64 (wrap64 ((wrap64 ((wrap64 ((wrap64 (a2 * a0_1)) + (wrap64 ((wrap64 (a2 - 1)) * a0_3)))) + (wrap64 (2 * a0_2)))) + a3)), .int .i64 a3, .bool false]) ?_ 3 _ rfl; (with_reducible repeat (first | refine blk_drewN ?_ _ | refine blk_drew ?_ | refine blk_alloc ?_ _)); refine blk_put (cs := #[.int .i64 (wrap64 ((wrap64 ((wrap64 (a1 * a0_0)) + (wrap64 ((wrap64 (a1 - 1)) * a0_3)))) + (wrap64 (2 * a0_2)))), .int .i64 (wrap64 ((wrap64 ((wrap64 ((wrap64 (a2 * a0_1)) + (wrap64 ((wrap64 (a2 - 1)) * a0_3)))) + (wrap64 (2 * a0_2)))) + a3)), .int .i64 0, .bool false]) ?_ 2 _ rfl; (with_reducible repeat (first | refine blk_drewN ?_ _ | refine blk_drew ?_ | refine blk_alloc ?_ _)); refine blk_put (cs := #[.int .i64 (wrap64 ((wrap64 ((wrap64 (a1 * a0_0)) + (wrap64 ((wrap64 (a1 - 1)) * a0_3)))) + (wrap64 (2 * a0_2)))), .int .i64 0, .int .i64 0, .bool false]) ?_ 1 _ rfl; (with_reducible repeat (first | refine blk_drewN ?_ _ | refine blk_drew ?_ | refine blk_alloc ?_ _)); refine blk_put (cs := #[.int .i64 0, .int .i64 0, .int .i64 0, .bool false]) ?_ 0 _ rfl; (with_reducible repeat (first | refine blk_drewN ?_ _ | refine blk_drew ?_ | refine blk_alloc ?_ _)); refine blk_far ?_ NB353_358.out _; (with_reducible repeat (first | refine blk_drewN ?_ _ | refine blk_drew ?_ | refine blk_alloc ?_ _)); refine blk_far ?_ NB353_358.out _; (with_reducible repeat (first | refine blk_drewN ?_ _ | refine blk_drew ?_ | refine blk_alloc ?_ _)); refine blk_far ?_ NB353_358.out _; (with_reducible repeat (first | refine blk_drewN ?_ _ | refine blk_drew ?_ | refine blk_alloc ?_ _)); refine blk_far ?_ NB353_358.out _; (with_reducible repeat (first | refine blk_drewN ?_ _ | refine blk_drew ?_ | refine blk_alloc ?_ _)); exact BK353.out) Try.underlying39 rfl (by kernel_rfl)) rfl ?_
              exact ⟨by first | rfl | (simp [errW_none, errW_some] <;> rfl) | (simp [*, errW_none, errW_some] <;> rfl), hx_ HB.out⟩
  · replace c6 := Bool.eq_false_iff.mpr c6
    subst c6
    have H1 : (some (0, 0, 0, false, 1)) = some (r1, r2, r3, r4, r5) := by rw [if_neg (show ¬ (false = true) by decide)] at H; exact H
    clear H
    have H := H1
    clear H1
    simp only [Option.some.injEq, Prod.mk.injEq] at H
    obtain ⟨rfl, rfl, rfl, rfl, rfl⟩ := H
    go_enter Try.func76, Try.ntmps76
    go_wp2_with (first | ((with_reducible refine gate_dst (N := 4) rfl ?_); refine box_event ?hg (N := 4) ?hd (cs := #[.int .i64 a0_0, .int .i64 a0_1, .int .i64 a0_2, .int .i64 a0_3]) (t := 41) ?hr ?_; (case hd => rfl); (case hg => rfl); (case hr => first | (go_simp; done) | (go_simp; rfl)); intro gb352 hg w44 hbox hb; have n0_ := Aside0.mk (below_step (hx_ HB.out) hb); have n1_ := Aside0.mk (hbox); have n2_ := Aside0.mk ((by rw [hg]; exact (below_size (hx_ HB.out)) : w.heap.size ≤ gb352)); have n3_ := Aside0.mk ((by rw [hg]; exact (below_size (hx_ HB.out)) : w.heap.size ≤ gb352)); clear HB; have HB := n0_; have BK352 := n1_; have GW352 := n2_; have GE352 := n3_; clear n0_ n1_ n2_ n3_; clear hb hbox hg) | ((with_reducible refine gate_dst (N := 8) rfl ?_); refine box_event ?hg (N := 8) ?hd (cs := #[.int .i64 0, .int .i64 0, .int .i64 0, .bool false]) (t := 39) ?hr ?_; (case hd => rfl); (case hg => rfl); (case hr => first | (go_simp; done) | (go_simp; rfl)); intro gb353 hg w45 hbox hb; have n0_ := Aside0.mk (blk_below (g := gb352) (o := .cells #[.int .i64 a0_0, .int .i64 a0_1, .int .i64 a0_2, .int .i64 a0_3] 41 (0, 0)) (bx_ BK352.out) hb); have n1_ := Aside0.mk (below_step (hx_ HB.out) hb); have n2_ := Aside0.mk (hbox); have n3_ := Aside0.mk ((by rw [hg]; exact (below_size (hx_ HB.out)) : w.heap.size ≤ gb353)); have n4_ := Aside0.mk ((by rw [hg]; exact (below_size (hx_ HB.out)) : w.heap.size ≤ gb353)); have n5_ := Aside0.mk ((by rw [hg]; exact Nat.ne_of_lt (blk_lt (g := gb352) (o := .cells #[.int .i64 a0_0, .int .i64 a0_1, .int .i64 a0_2, .int .i64 a0_3] 41 (0, 0)) (bx_ BK352.out)) : gb352 ≠ gb353)); have n6_ := Aside0.mk ((by rw [hg]; exact Nat.ne_of_gt (blk_lt (g := gb352) (o := .cells #[.int .i64 a0_0, .int .i64 a0_1, .int .i64 a0_2, .int .i64 a0_3] 41 (0, 0)) (bx_ BK352.out)) : gb353 ≠ gb352)); clear BK352; clear HB; have BK352 := n0_; have HB := n1_; have BK353 := n2_; have GW353 := n3_; have GE353 := n4_; have NB352_353 := n5_; have NB353_352 := n6_; clear n0_ n1_ n2_ n3_ n4_ n5_ n6_; clear hb hbox hg; have hnb46 := NB352_353.out; have hnc46 := NB353_352.out; have hcz47_0 : w45.cell? ⟨gb352, 0, none⟩ = some (.int .i64 a0_0) := (blk_cell BK352.out 0).trans rfl; have hcz47_1 : w45.cell? ⟨gb352, 1, none⟩ = some (.int .i64 a0_1) := (blk_cell BK352.out 1).trans rfl; have hcz47_2 : w45.cell? ⟨gb352, 2, none⟩ = some (.int .i64 a0_2) := (blk_cell BK352.out 2).trans rfl; have hcz47_3 : w45.cell? ⟨gb352, 3, none⟩ = some (.int .i64 a0_3) := (blk_cell BK352.out 3).trans rfl; have hfz47_0 := blk_frozen BK352.out 0; have hfz47_1 := blk_frozen BK352.out 1; have hfz47_2 := blk_frozen BK352.out 2; have hfz47_3 := blk_frozen BK352.out 3) | ((with_reducible refine gate_callee (f := 45) rfl ?_); refine goesL_ (some 13) rfl rfl Try.func45 (by kernel_rfl) rfl #[.agg #[.int .i64 a0_0, .int .i64 a0_1, .int .i64 a0_2, .int .i64 a0_3]] rfl (by (try simp only [List.map_toArray, List.map_cons, List.map_nil]); first | done | rfl | (simp only [List.length_drop, List.length_take]; rfl)) ?_; (with_reducible refine (impl_IsTrim.calls a0_0 a0_1 a0_2 a0_3 false _ A5.out).mono ?_); rintro e w48 ⟨rfl, hb⟩; refine ⟨_, rfl, ?_⟩; have n0_ := Aside0.mk (blk_below (g := gb352) (o := .cells #[.int .i64 a0_0, .int .i64 a0_1, .int .i64 a0_2, .int .i64 a0_3] 41 (0, 0)) (bx_ BK352.out) hb); have n1_ := Aside0.mk (blk_below (g := gb353) (o := .cells #[.int .i64 0, .int .i64 0, .int .i64 0, .bool false] 39 (0, 0)) (bx_ BK353.out) hb); have n2_ := Aside0.mk (below_step (hx_ HB.out) hb); clear BK352; clear BK353; clear HB; have BK352 := n0_; have BK353 := n1_; have HB := n2_; clear n0_ n1_ n2_; (try clear hb); (try clear hb2); (try clear hk); (try clear hi); have hcz49_0 : w48.cell? ⟨gb353, 0, none⟩ = some (.int .i64 0) := (blk_cell BK353.out 0).trans rfl; have hcz49_1 : w48.cell? ⟨gb353, 1, none⟩ = some (.int .i64 0) := (blk_cell BK353.out 1).trans rfl; have hcz49_2 : w48.cell? ⟨gb353, 2, none⟩ = some (.int .i64 0) := (blk_cell BK353.out 2).trans rfl; have hcz49_3 : w48.cell? ⟨gb353, 3, none⟩ = some (.bool false) := (blk_cell BK353.out 3).trans rfl; have hfz49_0 := blk_frozen BK353.out 0; have hfz49_1 := blk_frozen BK353.out 1; have hfz49_2 := blk_frozen BK353.out 2; have hfz49_3 := blk_frozen BK353.out 3))
    refine bodyPost_ret (results_ct rfl _ _ gb353 39 #[.int .i64 0, .int .i64 0, .int .i64 0, .bool false] (0, 0) _ rfl (by (with_reducible repeat (first | refine blk_drewN ?_ _ | refine blk_drew ?_ | refine blk_alloc ?_ _)); refine blk_put (cs := #[.int .i64 0, .int .i64 0, .int .i64 0, .bool false]) ?_ 3 _ rfl; (with_reducible repeat (first | refine blk_drewN ?_ _ | refine blk_drew ?_ | refine blk_alloc ?_ _)); refine blk_put (cs := #[.int .i64 0, .int .i64 0, .int .i64 0, .bool false]) ?_ 2 _ rfl; (with_reducible repeat (first | refine blk_drewN ?_ _ | refine blk_drew ?_ | refine blk_alloc ?_ _)); refine blk_put (cs := #[.int .i64 0, .int .i64 0, .int .i64 0, .bool false]) ?_ 1 _ rfl; (with_reducible repeat (first | refine blk_drewN ?_ _ | refine blk_drew ?_ | refine blk_alloc ?_ _)); refine blk_put (cs := #[.int .i64 0, .int .i64 0, .int .i64 0, .bool false]) ?_ 0 _ rfl; (with_reducible repeat (first | refine blk_drewN ?_ _ | refine blk_drew ?_ | refine blk_alloc ?_ _)); exact BK353.out) Try.underlying39 rfl (by kernel_rfl)) rfl ?_
    exact ⟨by first | rfl | (simp [errW_none, errW_some] <;> rfl) | (simp [*, errW_none, errW_some] <;> rfl), hx_ HB.out⟩

/-! ### spec_LeastSheet: function 77 -/
def spec_LeastSheet.j0 : Nat → Int → Int → Int → Bool → Int → Int → Int → Int → Option (Int × Int × Int × Bool × Int)
  | 0, _, _, _, _, _, _, _, _ => none
  | k + 1, x1, x2, x3, x27, x360000, x360001, x360002, x360003 => if x27 = true then (some (0, 0, 0, false, 2)) else ((spec_IsPress.f (wrap64 ((wrap64 ((wrap64 (x1 * x360000)) + (wrap64 ((wrap64 (x1 - 1)) * x360003)))) + (wrap64 (2 * x360002)))) (wrap64 ((wrap64 ((wrap64 ((wrap64 (x2 * x360001)) + (wrap64 ((wrap64 (x2 - 1)) * x360003)))) + (wrap64 (2 * x360002)))) + x3)) x3 true).bind fun t366 => (if t366 = true then (some (wrap64 ((wrap64 ((wrap64 (x1 * x360000)) + (wrap64 ((wrap64 (x1 - 1)) * x360003)))) + (wrap64 (2 * x360002))), wrap64 ((wrap64 ((wrap64 ((wrap64 (x2 * x360001)) + (wrap64 ((wrap64 (x2 - 1)) * x360003)))) + (wrap64 (2 * x360002)))) + x3), x3, true, 0)) else (some (0, 0, 0, false, 3))))
def spec_LeastSheet.f (k : Nat) (a0_0 : Int) (a0_1 : Int) (a0_2 : Int) (a0_3 : Int) (a1 : Int) (a2 : Int) (a3 : Int) : Option (Int × Int × Int × Bool × Int) := (spec_IsTrim.f a0_0 a0_1 a0_2 a0_3).bind fun t361 => (if t361 = true then ((spec_l01In.f a1 1 20000).bind fun t362 => (if t362 = true then ((spec_l01In.f a2 1 20000).bind fun t363 => (if t363 = true then ((spec_l01In.f a3 0 20000).bind fun t364 => (spec_LeastSheet.j0 k a1 a2 a3 (!t364) a0_0 a0_1 a0_2 a0_3)) else (spec_LeastSheet.j0 k a1 a2 a3 true a0_0 a0_1 a0_2 a0_3))) else (spec_LeastSheet.j0 k a1 a2 a3 true a0_0 a0_1 a0_2 a0_3))) else (some (0, 0, 0, false, 1)))
theorem spec_LeastSheet.mono_l : ∀ k, (∀ y0 y1 y2 y3 y4 y5 y6 y7, LeO (spec_LeastSheet.j0 k y0 y1 y2 y3 y4 y5 y6 y7) (spec_LeastSheet.j0 (k + 1) y0 y1 y2 y3 y4 y5 y6 y7))
  | 0 => fun _ _ _ _ _ _ _ _ r h => by simp [spec_LeastSheet.j0] at h
  | k + 1 => by
    have ih0 := spec_LeastSheet.mono_l k
    · intro y0 y1 y2 y3 y4 y5 y6 y7
      unfold spec_LeastSheet.j0
      repeat' first
      | (with_reducible exact ih0 _ _ _ _ _ _ _ _)
      | (with_reducible exact LeO.refl _)
      | (with_reducible exact LeO.none _)
      | (with_reducible refine LeO.ite ?_ ?_)
      | (with_reducible refine LeO.bind ?_ (fun _ => ?_))
      | exact ih0 _ _ _ _ _ _ _ _
      | exact LeO.none _
      | refine LeO.ite ?_ ?_
      | refine LeO.bind ?_ (fun _ => ?_)
theorem spec_LeastSheet.mono : ∀ a0 a1 a2 a3 a4 a5 a6 k, LeO (spec_LeastSheet.f k a0 a1 a2 a3 a4 a5 a6) (spec_LeastSheet.f (k + 1) a0 a1 a2 a3 a4 a5 a6) := by
  intro a0 a1 a2 a3 a4 a5 a6 k
  have ih0 := spec_LeastSheet.mono_l k
  unfold spec_LeastSheet.f
  repeat' first
      | (with_reducible exact ih0 _ _ _ _ _ _ _ _)
      | (with_reducible exact LeO.refl _)
      | (with_reducible exact LeO.none _)
      | (with_reducible refine LeO.ite ?_ ?_)
      | (with_reducible refine LeO.bind ?_ (fun _ => ?_))
      | exact ih0 _ _ _ _ _ _ _ _
      | exact LeO.none _
      | refine LeO.ite ?_ ?_
      | refine LeO.bind ?_ (fun _ => ?_)
set_option maxHeartbeats 8000000 in
set_option maxRecDepth 100000 in
theorem spec_LeastSheet.calls (k : Nat) (a0_0 : Int) (a0_1 : Int) (a0_2 : Int) (a0_3 : Int) (a1 : Int) (a2 : Int) (a3 : Int) (r1 : Int) (r2 : Int) (r3 : Int) (r4 : Bool) (r5 : Int) (w : World) (h : spec_LeastSheet.f k a0_0 a0_1 a0_2 a0_3 a1 a2 a3 = some (r1, r2, r3, r4, r5)) :
    Calls Try.prog 77 #[.agg #[.int .i64 a0_0, .int .i64 a0_1, .int .i64 a0_2, .int .i64 a0_3], .int .i64 a1, .int .i64 a2, .int .i64 a3] w fun e w' => e = .returned (.tuple #[.agg #[.int .i64 r1, .int .i64 r2, .int .i64 r3, .bool r4], .int .i64 r5]) ∧ Below w.heap.size w w' := by
  have hu41 := Try.underlying41
  have hu39 := Try.underlying39
  have HB := Aside0.mk (Below.refl w.heap.size w)
  have H : ((spec_IsTrim.f a0_0 a0_1 a0_2 a0_3).bind fun t361 => (if t361 = true then ((spec_l01In.f a1 1 20000).bind fun t362 => (if t362 = true then ((spec_l01In.f a2 1 20000).bind fun t363 => (if t363 = true then ((spec_l01In.f a3 0 20000).bind fun t364 => (spec_LeastSheet.j0 k a1 a2 a3 (!t364) a0_0 a0_1 a0_2 a0_3)) else (spec_LeastSheet.j0 k a1 a2 a3 true a0_0 a0_1 a0_2 a0_3))) else (spec_LeastSheet.j0 k a1 a2 a3 true a0_0 a0_1 a0_2 a0_3))) else (some (0, 0, 0, false, 1)))) = some (r1, r2, r3, r4, r5) := h
  clear h
  replace H := Option.bind_eq_some_iff.mp H
  obtain ⟨t361, A50, H⟩ := H
  replace H : (if t361 = true then ((spec_l01In.f a1 1 20000).bind fun t362 => (if t362 = true then ((spec_l01In.f a2 1 20000).bind fun t363 => (if t363 = true then ((spec_l01In.f a3 0 20000).bind fun t364 => (spec_LeastSheet.j0 k a1 a2 a3 (!t364) a0_0 a0_1 a0_2 a0_3)) else (spec_LeastSheet.j0 k a1 a2 a3 true a0_0 a0_1 a0_2 a0_3))) else (spec_LeastSheet.j0 k a1 a2 a3 true a0_0 a0_1 a0_2 a0_3))) else (some (0, 0, 0, false, 1))) = some (r1, r2, r3, r4, r5) := H
  have A5 := Aside0.mk A50
  clear A50
  by_cases c6 : t361 = true
  · subst c6
    have H1 : ((spec_l01In.f a1 1 20000).bind fun t362 => (if t362 = true then ((spec_l01In.f a2 1 20000).bind fun t363 => (if t363 = true then ((spec_l01In.f a3 0 20000).bind fun t364 => (spec_LeastSheet.j0 k a1 a2 a3 (!t364) a0_0 a0_1 a0_2 a0_3)) else (spec_LeastSheet.j0 k a1 a2 a3 true a0_0 a0_1 a0_2 a0_3))) else (spec_LeastSheet.j0 k a1 a2 a3 true a0_0 a0_1 a0_2 a0_3))) = some (r1, r2, r3, r4, r5) := by rw [if_pos rfl] at H; exact H
    clear H
    have H := H1
    clear H1
    have HC7 := Aside0.mk H
    clear H
    go_enter Try.func77, Try.ntmps77
    go_upto_region 3 with (first | ((with_reducible refine gate_dst (N := 4) rfl ?_); refine box_event ?hg (N := 4) ?hd (cs := #[.int .i64 a0_0, .int .i64 a0_1, .int .i64 a0_2, .int .i64 a0_3]) (t := 41) ?hr ?_; (case hd => rfl); (case hg => rfl); (case hr => first | (go_simp; done) | (go_simp; rfl)); intro gb359 hg w8 hbox hb; have n0_ := Aside0.mk (below_step (hx_ HB.out) hb); have n1_ := Aside0.mk (hbox); have n2_ := Aside0.mk ((by rw [hg]; exact (below_size (hx_ HB.out)) : w.heap.size ≤ gb359)); have n3_ := Aside0.mk ((by rw [hg]; exact (below_size (hx_ HB.out)) : w.heap.size ≤ gb359)); clear HB; have HB := n0_; have BK359 := n1_; have GW359 := n2_; have GE359 := n3_; clear n0_ n1_ n2_ n3_; clear hb hbox hg) | ((with_reducible refine gate_dst (N := 8) rfl ?_); refine box_event ?hg (N := 8) ?hd (cs := #[.int .i64 0, .int .i64 0, .int .i64 0, .bool false]) (t := 39) ?hr ?_; (case hd => rfl); (case hg => rfl); (case hr => first | (go_simp; done) | (go_simp; rfl)); intro gb360 hg w9 hbox hb; have n0_ := Aside0.mk (blk_below (g := gb359) (o := .cells #[.int .i64 a0_0, .int .i64 a0_1, .int .i64 a0_2, .int .i64 a0_3] 41 (0, 0)) (bx_ BK359.out) hb); have n1_ := Aside0.mk (below_step (hx_ HB.out) hb); have n2_ := Aside0.mk (hbox); have n3_ := Aside0.mk ((by rw [hg]; exact (below_size (hx_ HB.out)) : w.heap.size ≤ gb360)); have n4_ := Aside0.mk ((by rw [hg]; exact (below_size (hx_ HB.out)) : w.heap.size ≤ gb360)); have n5_ := Aside0.mk ((by rw [hg]; exact Nat.ne_of_lt (blk_lt (g := gb359) (o := .cells #[.int .i64 a0_0, .int .i64 a0_1, .int .i64 a0_2, .int .i64 a0_3] 41 (0, 0)) (bx_ BK359.out)) : gb359 ≠ gb360)); have n6_ := Aside0.mk ((by rw [hg]; exact Nat.ne_of_gt (blk_lt (g := gb359) (o := .cells #[.int .i64 a0_0, .int .i64 a0_1, .int .i64 a0_2, .int .i64 a0_3] 41 (0, 0)) (bx_ BK359.out)) : gb360 ≠ gb359)); clear BK359; clear HB; have BK359 := n0_; have HB := n1_; have BK360 := n2_; have GW360 := n3_; have GE360 := n4_; have NB359_360 := n5_; have NB360_359 := n6_; clear n0_ n1_ n2_ n3_ n4_ n5_ n6_; clear hb hbox hg; have hnb10 := NB359_360.out; have hnc10 := NB360_359.out; have hcz11_0 : w9.cell? ⟨gb359, 0, none⟩ = some (.int .i64 a0_0) := (blk_cell BK359.out 0).trans rfl; have hcz11_1 : w9.cell? ⟨gb359, 1, none⟩ = some (.int .i64 a0_1) := (blk_cell BK359.out 1).trans rfl; have hcz11_2 : w9.cell? ⟨gb359, 2, none⟩ = some (.int .i64 a0_2) := (blk_cell BK359.out 2).trans rfl; have hcz11_3 : w9.cell? ⟨gb359, 3, none⟩ = some (.int .i64 a0_3) := (blk_cell BK359.out 3).trans rfl; have hfz11_0 := blk_frozen BK359.out 0; have hfz11_1 := blk_frozen BK359.out 1; have hfz11_2 := blk_frozen BK359.out 2; have hfz11_3 := blk_frozen BK359.out 3) | ((with_reducible refine gate_callee (f := 46) rfl ?_); refine goesL_ (some 12) rfl rfl Try.func46 (by kernel_rfl) rfl #[.agg #[.int .i64 a0_0, .int .i64 a0_1, .int .i64 a0_2, .int .i64 a0_3]] rfl (by (try simp only [List.map_toArray, List.map_cons, List.map_nil]); first | done | rfl | (simp only [List.length_drop, List.length_take]; rfl)) ?_; (with_reducible refine (spec_IsTrim.calls a0_0 a0_1 a0_2 a0_3 true _ A5.out).mono ?_); rintro e w12 ⟨rfl, hb⟩; refine ⟨_, rfl, ?_⟩; have n0_ := Aside0.mk (blk_below (g := gb359) (o := .cells #[.int .i64 a0_0, .int .i64 a0_1, .int .i64 a0_2, .int .i64 a0_3] 41 (0, 0)) (bx_ BK359.out) hb); have n1_ := Aside0.mk (blk_below (g := gb360) (o := .cells #[.int .i64 0, .int .i64 0, .int .i64 0, .bool false] 39 (0, 0)) (bx_ BK360.out) hb); have n2_ := Aside0.mk (below_step (hx_ HB.out) hb); clear BK359; clear BK360; clear HB; have BK359 := n0_; have BK360 := n1_; have HB := n2_; clear n0_ n1_ n2_; (try clear hb); (try clear hb2); (try clear hk); (try clear hi)))
    (try simp only [Act.put, List.setIfInBounds_toArray, List.set_cons_zero, List.set_cons_succ])
    go_cut [27] (fun v27 wc => ∃ (kq : Nat) (x27_6 : Bool), v27 = .bool x27_6 ∧ Aside0 (spec_LeastSheet.j0 kq a1 a2 a3 x27_6 a0_0 a0_1 a0_2 a0_3 = some (r1, r2, r3, r4, r5)) ∧ Aside0 (kq ≤ k) ∧ Aside0 (wc.heap[gb359]? = some (.cells #[.int .i64 a0_0, .int .i64 a0_1, .int .i64 a0_2, .int .i64 a0_3] 41 (0, 0))) ∧ Aside0 (wc.heap[gb360]? = some (.cells #[.int .i64 0, .int .i64 0, .int .i64 0, .bool false] 39 (0, 0))) ∧ Aside0 (Below w.heap.size w wc))
    case first =>
      have H := HC7.out
      clear HC7
      replace H := Option.bind_eq_some_iff.mp H
      obtain ⟨t362, A130, H⟩ := H
      replace H : (if t362 = true then ((spec_l01In.f a2 1 20000).bind fun t363 => (if t363 = true then ((spec_l01In.f a3 0 20000).bind fun t364 => (spec_LeastSheet.j0 k a1 a2 a3 (!t364) a0_0 a0_1 a0_2 a0_3)) else (spec_LeastSheet.j0 k a1 a2 a3 true a0_0 a0_1 a0_2 a0_3))) else (spec_LeastSheet.j0 k a1 a2 a3 true a0_0 a0_1 a0_2 a0_3)) = some (r1, r2, r3, r4, r5) := H
      have A13 := Aside0.mk A130
      clear A130
      by_cases c14 : t362 = true
      · subst c14
        have H1 : ((spec_l01In.f a2 1 20000).bind fun t363 => (if t363 = true then ((spec_l01In.f a3 0 20000).bind fun t364 => (spec_LeastSheet.j0 k a1 a2 a3 (!t364) a0_0 a0_1 a0_2 a0_3)) else (spec_LeastSheet.j0 k a1 a2 a3 true a0_0 a0_1 a0_2 a0_3))) = some (r1, r2, r3, r4, r5) := by rw [if_pos rfl] at H; exact H
        clear H
        have H := H1
        clear H1
        replace H := Option.bind_eq_some_iff.mp H
        obtain ⟨t363, A150, H⟩ := H
        replace H : (if t363 = true then ((spec_l01In.f a3 0 20000).bind fun t364 => (spec_LeastSheet.j0 k a1 a2 a3 (!t364) a0_0 a0_1 a0_2 a0_3)) else (spec_LeastSheet.j0 k a1 a2 a3 true a0_0 a0_1 a0_2 a0_3)) = some (r1, r2, r3, r4, r5) := H
        have A15 := Aside0.mk A150
        clear A150
        by_cases c16 : t363 = true
        · subst c16
          have H1 : ((spec_l01In.f a3 0 20000).bind fun t364 => (spec_LeastSheet.j0 k a1 a2 a3 (!t364) a0_0 a0_1 a0_2 a0_3)) = some (r1, r2, r3, r4, r5) := by rw [if_pos rfl] at H; exact H
          clear H
          have H := H1
          clear H1
          replace H := Option.bind_eq_some_iff.mp H
          obtain ⟨t364, A170, H⟩ := H
          replace H : (spec_LeastSheet.j0 k a1 a2 a3 (!t364) a0_0 a0_1 a0_2 a0_3) = some (r1, r2, r3, r4, r5) := H
          have A17 := Aside0.mk A170
          clear A170
          have H' := Aside0.mk H
          clear H
          go_wp2_with (first | ((with_reducible refine gate_callee (f := 120) rfl ?_); refine goesL_ (some 16) rfl rfl Try.func120 (by kernel_rfl) rfl #[.int .i64 a1, .int .i64 1, .int .i64 20000] rfl (by (try simp only [List.map_toArray, List.map_cons, List.map_nil]); first | done | rfl | (simp only [List.length_drop, List.length_take]; rfl)) ?_; (with_reducible refine (spec_l01In.calls a1 1 20000 true _ A13.out).mono ?_); rintro e w' ⟨rfl, ⟨nd, rfl⟩⟩; refine ⟨_, rfl, ?_⟩) | (go_at_call 120; (with_reducible refine (spec_l01In.calls a2 1 20000 true _ A15.out).mono ?_); rintro e w' ⟨rfl, ⟨nd, rfl⟩⟩) | (go_at_call 120; (with_reducible refine (spec_l01In.calls a3 0 20000 t364 _ A17.out).mono ?_); rintro e w' ⟨rfl, ⟨nd, rfl⟩⟩))
          go_meet
          case rel => exact ⟨_, (!t364), (by first | rfl | (simp; done) | (simp [*]; done)), H', ⟨by first | omega | exact Nat.le_refl _⟩, ⟨bx_ BK359.out⟩, ⟨bx_ BK360.out⟩, ⟨hx_ HB.out⟩⟩
        · replace c16 := Bool.eq_false_iff.mpr c16
          subst c16
          have H1 : (spec_LeastSheet.j0 k a1 a2 a3 true a0_0 a0_1 a0_2 a0_3) = some (r1, r2, r3, r4, r5) := by rw [if_neg (show ¬ (false = true) by decide)] at H; exact H
          clear H
          have H := H1
          clear H1
          have H' := Aside0.mk H
          clear H
          go_wp2_with (first | ((with_reducible refine gate_callee (f := 120) rfl ?_); refine goesL_ (some 16) rfl rfl Try.func120 (by kernel_rfl) rfl #[.int .i64 a1, .int .i64 1, .int .i64 20000] rfl (by (try simp only [List.map_toArray, List.map_cons, List.map_nil]); first | done | rfl | (simp only [List.length_drop, List.length_take]; rfl)) ?_; (with_reducible refine (spec_l01In.calls a1 1 20000 true _ A13.out).mono ?_); rintro e w' ⟨rfl, ⟨nd, rfl⟩⟩; refine ⟨_, rfl, ?_⟩) | (go_at_call 120; (with_reducible refine (spec_l01In.calls a2 1 20000 false _ A15.out).mono ?_); rintro e w' ⟨rfl, ⟨nd, rfl⟩⟩))
          go_meet
          case rel => exact ⟨_, (true), (by first | rfl | (simp; done) | (simp [*]; done)), H', ⟨by first | omega | exact Nat.le_refl _⟩, ⟨bx_ BK359.out⟩, ⟨bx_ BK360.out⟩, ⟨hx_ HB.out⟩⟩
      · replace c14 := Bool.eq_false_iff.mpr c14
        subst c14
        have H1 : (spec_LeastSheet.j0 k a1 a2 a3 true a0_0 a0_1 a0_2 a0_3) = some (r1, r2, r3, r4, r5) := by rw [if_neg (show ¬ (false = true) by decide)] at H; exact H
        clear H
        have H := H1
        clear H1
        have H' := Aside0.mk H
        clear H
        go_wp2_with (first | ((with_reducible refine gate_callee (f := 120) rfl ?_); refine goesL_ (some 16) rfl rfl Try.func120 (by kernel_rfl) rfl #[.int .i64 a1, .int .i64 1, .int .i64 20000] rfl (by (try simp only [List.map_toArray, List.map_cons, List.map_nil]); first | done | rfl | (simp only [List.length_drop, List.length_take]; rfl)) ?_; (with_reducible refine (spec_l01In.calls a1 1 20000 false _ A13.out).mono ?_); rintro e w' ⟨rfl, ⟨nd, rfl⟩⟩; refine ⟨_, rfl, ?_⟩))
        go_meet
        case rel => exact ⟨_, (true), (by first | rfl | (simp; done) | (simp [*]; done)), H', ⟨by first | omega | exact Nat.le_refl _⟩, ⟨bx_ BK359.out⟩, ⟨bx_ BK360.out⟩, ⟨hx_ HB.out⟩⟩
    case rest =>
      clear HC7
      try clear c1
      try clear p2
      try clear c4
      try clear c6
      try clear c7
      try clear c10
      try clear c12
      try clear c14
      try clear c16
      try clear hcz11_0
      try clear hcz11_1
      try clear hcz11_2
      try clear hcz11_3
      try clear hfz11_0
      try clear hfz11_1
      try clear hfz11_2
      try clear hfz11_3
      obtain ⟨kq, x27_6, rfl, HA, HJ6, BK359, BK360, HB⟩ := hcut
      cases kq with
      | zero => exact absurd HA.out (by simp [spec_LeastSheet.j0])
      | succ kj6 =>
        have H := HA.out
        clear HA
        simp only [spec_LeastSheet.j0] at H
        by_cases c18 : x27_6 = true
        · subst c18
          have H1 : (some (0, 0, 0, false, 2)) = some (r1, r2, r3, r4, r5) := by rw [if_pos rfl] at H; exact H
          clear H
          have H := H1
          clear H1
          simp only [Option.some.injEq, Prod.mk.injEq] at H
          obtain ⟨rfl, rfl, rfl, rfl, rfl⟩ := H
          have hnb19 := NB360_359.out
          have hnc19 := NB359_360.out
          have hcz20_0 : wc.cell? ⟨gb360, 0, none⟩ = some (.int .i64 0) := (blk_cell BK360.out 0).trans rfl
          have hcz20_1 : wc.cell? ⟨gb360, 1, none⟩ = some (.int .i64 0) := (blk_cell BK360.out 1).trans rfl
          have hcz20_2 : wc.cell? ⟨gb360, 2, none⟩ = some (.int .i64 0) := (blk_cell BK360.out 2).trans rfl
          have hcz20_3 : wc.cell? ⟨gb360, 3, none⟩ = some (.bool false) := (blk_cell BK360.out 3).trans rfl
          have hfz20_0 := blk_frozen BK360.out 0
          have hfz20_1 := blk_frozen BK360.out 1
          have hfz20_2 := blk_frozen BK360.out 2
          have hfz20_3 := blk_frozen BK360.out 3
          go_wp2
          refine bodyPost_ret (results_ct rfl _ _ gb360 39 #[.int .i64 0, .int .i64 0, .int .i64 0, .bool false] (0, 0) _ rfl (by (with_reducible repeat (first | refine blk_drewN ?_ _ | refine blk_drew ?_ | refine blk_alloc ?_ _)); refine blk_put (cs := #[.int .i64 0, .int .i64 0, .int .i64 0, .bool false]) ?_ 3 _ rfl; (with_reducible repeat (first | refine blk_drewN ?_ _ | refine blk_drew ?_ | refine blk_alloc ?_ _)); refine blk_put (cs := #[.int .i64 0, .int .i64 0, .int .i64 0, .bool false]) ?_ 2 _ rfl; (with_reducible repeat (first | refine blk_drewN ?_ _ | refine blk_drew ?_ | refine blk_alloc ?_ _)); refine blk_put (cs := #[.int .i64 0, .int .i64 0, .int .i64 0, .bool false]) ?_ 1 _ rfl; (with_reducible repeat (first | refine blk_drewN ?_ _ | refine blk_drew ?_ | refine blk_alloc ?_ _)); refine blk_put (cs := #[.int .i64 0, .int .i64 0, .int .i64 0, .bool false]) ?_ 0 _ rfl; (with_reducible repeat (first | refine blk_drewN ?_ _ | refine blk_drew ?_ | refine blk_alloc ?_ _)); exact BK360.out) Try.underlying39 rfl (by kernel_rfl)) rfl ?_
          exact ⟨by first | rfl | (simp [errW_none, errW_some] <;> rfl) | (simp [*, errW_none, errW_some] <;> rfl), hx_ HB.out⟩
        · replace c18 := Bool.eq_false_iff.mpr c18
          subst c18
          have H1 : ((spec_IsPress.f (wrap64 ((wrap64 ((wrap64 (a1 * a0_0)) + (wrap64 ((wrap64 (a1 - 1)) * a0_3)))) + (wrap64 (2 * a0_2)))) (wrap64 ((wrap64 ((wrap64 ((wrap64 (a2 * a0_1)) + (wrap64 ((wrap64 (a2 - 1)) * a0_3)))) + (wrap64 (2 * a0_2)))) + a3)) a3 true).bind fun t366 => (if t366 = true then (some (wrap64 ((wrap64 ((wrap64 (a1 * a0_0)) + (wrap64 ((wrap64 (a1 - 1)) * a0_3)))) + (wrap64 (2 * a0_2))), wrap64 ((wrap64 ((wrap64 ((wrap64 (a2 * a0_1)) + (wrap64 ((wrap64 (a2 - 1)) * a0_3)))) + (wrap64 (2 * a0_2)))) + a3), a3, true, 0)) else (some (0, 0, 0, false, 3)))) = some (r1, r2, r3, r4, r5) := by rw [if_neg (show ¬ (false = true) by decide)] at H; exact H
          clear H
          have H := H1
          clear H1
          replace H := Option.bind_eq_some_iff.mp H
          obtain ⟨t366, A210, H⟩ := H
          replace H : (if t366 = true then (some (wrap64 ((wrap64 ((wrap64 (a1 * a0_0)) + (wrap64 ((wrap64 (a1 - 1)) * a0_3)))) + (wrap64 (2 * a0_2))), wrap64 ((wrap64 ((wrap64 ((wrap64 (a2 * a0_1)) + (wrap64 ((wrap64 (a2 - 1)) * a0_3)))) + (wrap64 (2 * a0_2)))) + a3), a3, true, 0)) else (some (0, 0, 0, false, 3))) = some (r1, r2, r3, r4, r5) := H
          have A21 := Aside0.mk A210
          clear A210
          by_cases c22 : t366 = true
          · subst c22
            have H1 : (some (wrap64 ((wrap64 ((wrap64 (a1 * a0_0)) + (wrap64 ((wrap64 (a1 - 1)) * a0_3)))) + (wrap64 (2 * a0_2))), wrap64 ((wrap64 ((wrap64 ((wrap64 (a2 * a0_1)) + (wrap64 ((wrap64 (a2 - 1)) * a0_3)))) + (wrap64 (2 * a0_2)))) + a3), a3, true, 0)) = some (r1, r2, r3, r4, r5) := by rw [if_pos rfl] at H; exact H
            clear H
            have H := H1
            clear H1
            simp only [Option.some.injEq, Prod.mk.injEq] at H
            obtain ⟨rfl, rfl, rfl, rfl, rfl⟩ := H
            have hnb23 := NB359_360.out
            have hnc23 := NB360_359.out
            have hcz24_0 : wc.cell? ⟨gb359, 0, none⟩ = some (.int .i64 a0_0) := (blk_cell BK359.out 0).trans rfl
            have hcz24_1 : wc.cell? ⟨gb359, 1, none⟩ = some (.int .i64 a0_1) := (blk_cell BK359.out 1).trans rfl
            have hcz24_2 : wc.cell? ⟨gb359, 2, none⟩ = some (.int .i64 a0_2) := (blk_cell BK359.out 2).trans rfl
            have hcz24_3 : wc.cell? ⟨gb359, 3, none⟩ = some (.int .i64 a0_3) := (blk_cell BK359.out 3).trans rfl
            have hfz24_0 := blk_frozen BK359.out 0
            have hfz24_1 := blk_frozen BK359.out 1
            have hfz24_2 := blk_frozen BK359.out 2
            have hfz24_3 := blk_frozen BK359.out 3
            go_wp2_with (first | ((with_reducible refine gate_dst (N := 10) rfl ?_); refine box_event ?hg (N := 10) ?hd (cs := #[.int .i64 0, .int .i64 0, .int .i64 0, .bool false]) (t := 39) ?hr ?_; (case hd => rfl); (case hg => rfl); (case hr => first | (go_simp; done) | (go_simp; rfl)); intro gb365 hg w25 hbox hb; have n0_ := Aside0.mk (blk_below (g := gb359) (o := .cells #[.int .i64 a0_0, .int .i64 a0_1, .int .i64 a0_2, .int .i64 a0_3] 41 (0, 0)) (bx_ BK359.out) hb); have n1_ := Aside0.mk (blk_below (g := gb360) (o := .cells #[.int .i64 0, .int .i64 0, .int .i64 0, .bool false] 39 (0, 0)) (bx_ BK360.out) hb); have n2_ := Aside0.mk (below_step (hx_ HB.out) hb); have n3_ := Aside0.mk (hbox); have n4_ := Aside0.mk ((by rw [hg]; exact (below_size (hx_ HB.out)) : w.heap.size ≤ gb365)); have n5_ := Aside0.mk ((by rw [hg]; exact (below_size (hx_ HB.out)) : w.heap.size ≤ gb365)); have n6_ := Aside0.mk ((by rw [hg]; exact Nat.ne_of_lt (blk_lt (g := gb359) (o := .cells #[.int .i64 a0_0, .int .i64 a0_1, .int .i64 a0_2, .int .i64 a0_3] 41 (0, 0)) (bx_ BK359.out)) : gb359 ≠ gb365)); have n7_ := Aside0.mk ((by rw [hg]; exact Nat.ne_of_gt (blk_lt (g := gb359) (o := .cells #[.int .i64 a0_0, .int .i64 a0_1, .int .i64 a0_2, .int .i64 a0_3] 41 (0, 0)) (bx_ BK359.out)) : gb365 ≠ gb359)); have n8_ := Aside0.mk ((by rw [hg]; exact Nat.ne_of_lt (blk_lt (g := gb360) (o := .cells #[.int .i64 0, .int .i64 0, .int .i64 0, .bool false] 39 (0, 0)) (bx_ BK360.out)) : gb360 ≠ gb365)); have n9_ := Aside0.mk ((by rw [hg]; exact Nat.ne_of_gt (blk_lt (g := gb360) (o := .cells #[.int .i64 0, .int .i64 0, .int .i64 0, .bool false] 39 (0, 0)) (bx_ BK360.out)) : gb365 ≠ gb360)); clear BK359; clear BK360; clear HB; have BK359 := n0_; have BK360 := n1_; have HB := n2_; have BK365 := n3_; have GW365 := n4_; have GE365 := n5_; have NB359_365 := n6_; have NB365_359 := n7_; have NB360_365 := n8_; have NB365_360 := n9_; clear n0_ n1_ n2_ n3_ n4_ n5_ n6_ n7_ n8_ n9_; clear hb hbox hg; have hnb26 := NB365_359.out; have hnc26 := NB359_365.out; have hnb27 := NB365_360.out; have hnc27 := NB360_365.out; have hcz28_0 : w25.cell? ⟨gb365, 0, none⟩ = some (.int .i64 0) := (blk_cell BK365.out 0).trans rfl; have hcz28_1 : w25.cell? ⟨gb365, 1, none⟩ = some (.int .i64 0) := (blk_cell BK365.out 1).trans rfl; have hcz28_2 : w25.cell? ⟨gb365, 2, none⟩ = some (.int .i64 0) := (blk_cell BK365.out 2).trans rfl; have hcz28_3 : w25.cell? ⟨gb365, 3, none⟩ = some (.bool false) := (blk_cell BK365.out 3).trans rfl; have hfz28_0 := blk_frozen BK365.out 0; have hfz28_1 := blk_frozen BK365.out 1; have hfz28_2 := blk_frozen BK365.out 2; have hfz28_3 := blk_frozen BK365.out 3) | ((with_reducible refine gate_callee (f := 44) rfl ?_); refine goesL_ (some 62) rfl rfl Try.func44 (by kernel_rfl) rfl #[.agg #[.int .i64 (wrap64 ((wrap64 ((wrap64 (a1 * a0_0)) + (wrap64 ((wrap64 (a1 - 1)) * a0_3)))) + (wrap64 (2 * a0_2)))), .int .i64 (wrap64 ((wrap64 ((wrap64 ((wrap64 (a2 * a0_1)) + (wrap64 ((wrap64 (a2 - 1)) * a0_3)))) + (wrap64 (2 * a0_2)))) + a3)), .int .i64 a3, .bool true]] rfl (by (try simp only [List.map_toArray, List.map_cons, List.map_nil]); first | done | rfl | (simp only [List.length_drop, List.length_take]; rfl)) ?_; (with_reducible refine (spec_IsPress.calls (wrap64 ((wrap64 ((wrap64 (a1 * a0_0)) + (wrap64 ((wrap64 (a1 - 1)) * a0_3)))) + (wrap64 (2 * a0_2)))) (wrap64 ((wrap64 ((wrap64 ((wrap64 (a2 * a0_1)) + (wrap64 ((wrap64 (a2 - 1)) * a0_3)))) + (wrap64 (2 * a0_2)))) + a3)) a3 true true _ A21.out).mono ?_); rintro e w29 ⟨rfl, hb⟩; refine ⟨_, rfl, ?_⟩; have n0_ := Aside0.mk (blk_below (g := gb359) (o := .cells #[.int .i64 a0_0, .int .i64 a0_1, .int .i64 a0_2, .int .i64 a0_3] 41 (0, 0)) (bx_ BK359.out) hb); have n1_ := Aside0.mk (blk_below (g := gb360) (o := .cells #[.int .i64 0, .int .i64 0, .int .i64 0, .bool false] 39 (0, 0)) (bx_ BK360.out) hb); have n2_ := Aside0.mk (blk_below (g := gb365) (o := .cells #[.int .i64 (wrap64 ((wrap64 ((wrap64 (a1 * a0_0)) + (wrap64 ((wrap64 (a1 - 1)) * a0_3)))) + (wrap64 (2 * a0_2)))), .int .i64 (wrap64 ((wrap64 ((wrap64 ((wrap64 (a2 * a0_1)) + (wrap64 ((wrap64 (a2 - 1)) * a0_3)))) + (wrap64 (2 * a0_2)))) + a3)), .int .i64 a3, .bool true] 39 (0, 0)) (by (with_reducible repeat (first | refine blk_drewN ?_ _ | refine blk_drew ?_ | refine blk_alloc ?_ _)); refine blk_put (cs := #[.int .i64 (wrap64 ((wrap64 ((wrap64 (a1 * a0_0)) + (wrap64 ((wrap64 (a1 - 1)) * a0_3)))) + (wrap64 (2 * a0_2)))), .int .i64 (wrap64 ((wrap64 ((wrap64 ((wrap64 (a2 * a0_1)) + (wrap64 ((wrap64 (a2 - 1)) * a0_3)))) + (wrap64 (2 * a0_2)))) + a3)), .int .i64 a3, .bool false]) ?_ 3 _ rfl; (with_reducible repeat (first | refine blk_drewN ?_ _ | refine blk_drew ?_ | refine blk_alloc ?_ _)); refine blk_put (cs := #[.int .i64 (wrap64 ((wrap64 ((wrap64 (a1 * a0_0)) + (wrap64 ((wrap64 (a1 - 1)) * a0_3)))) + (wrap64 (2 * a0_2)))), .int .i64 (wrap64 ((wrap64 ((wrap64 ((wrap64 (a2 * a0_1)) + (wrap64 ((wrap64 (a2 - 1)) * a0_3)))) + (wrap64 (2 * a0_2)))) + a3)), .int .i64 0, .bool false]) ?_ 2 _ rfl; (with_reducible repeat (first | refine blk_drewN ?_ _ | refine blk_drew ?_ | refine blk_alloc ?_ _)); refine blk_put (cs := #[.int .i64 (wrap64 ((wrap64 ((wrap64 (a1 * a0_0)) + (wrap64 ((wrap64 (a1 - 1)) * a0_3)))) + (wrap64 (2 * a0_2)))), .int .i64 0, .int .i64 0, .bool false]) ?_ 1 _ rfl; (with_reducible repeat (first | refine blk_drewN ?_ _ | refine blk_drew ?_ | refine blk_alloc ?_ _)); refine blk_put (cs := #[.int .i64 0, .int .i64 0, .int .i64 0, .bool false]) ?_ 0 _ rfl; (with_reducible repeat (first | refine blk_drewN ?_ _ | refine blk_drew ?_ | refine blk_alloc ?_ _)); exact BK365.out) hb); have n3_ := Aside0.mk (below_step (hx_ HB.out) hb); clear BK359; clear BK360; clear BK365; clear HB; have BK359 := n0_; have BK360 := n1_; have BK365 := n2_; have HB := n3_; clear n0_ n1_ n2_ n3_; (try clear hb); (try clear hb2); (try clear hk); (try clear hi); have hcz30_0 : w29.cell? ⟨gb365, 0, none⟩ = some (.int .i64 (wrap64 ((wrap64 ((wrap64 (a1 * a0_0)) + (wrap64 ((wrap64 (a1 - 1)) * a0_3)))) + (wrap64 (2 * a0_2))))) := (blk_cell BK365.out 0).trans rfl; have hcz30_1 : w29.cell? ⟨gb365, 1, none⟩ = some (.int .i64 (wrap64 ((wrap64 ((wrap64 ((wrap64 (a2 * a0_1)) + (wrap64 ((wrap64 (a2 - 1)) * a0_3)))) + (wrap64 (2 * a0_2)))) + a3))) := (blk_cell BK365.out 1).trans rfl; have hcz30_2 : w29.cell? ⟨gb365, 2, none⟩ = some (.int .i64 a3) := (blk_cell BK365.out 2).trans rfl; have hcz30_3 : w29.cell? ⟨gb365, 3, none⟩ = some (.bool true) := (blk_cell BK365.out 3).trans rfl; have hfz30_0 := blk_frozen BK365.out 0; have hfz30_1 := blk_frozen BK365.out 1; have hfz30_2 := blk_frozen BK365.out 2; have hfz30_3 := blk_frozen BK365.out 3; have hcz31_0 : w29.cell? ⟨gb360, 0, none⟩ = some (.int .i64 0) := (blk_cell BK360.out 0).trans rfl; have hcz31_1 : w29.cell? ⟨gb360, 1, none⟩ = some (.int .i64 0) := (blk_cell BK360.out 1).trans rfl; have hcz31_2 : w29.cell? ⟨gb360, 2, none⟩ = some (.int .i64 0) := (blk_cell BK360.out 2).trans rfl; have hcz31_3 : w29.cell? ⟨gb360, 3, none⟩ = some (.bool false) := (blk_cell BK360.out 3).trans rfl; have hfz31_0 := blk_frozen BK360.out 0; have hfz31_1 := blk_frozen BK360.out 1; have hfz31_2 := blk_frozen BK360.out 2; have hfz31_3 := blk_frozen BK360.out 3))
            refine bodyPost_ret (results_ct rfl _ _ gb360 39 #[.int .i64 (wrap64 ((wrap64 ((wrap64 (a1 * a0_0)) + (wrap64 ((wrap64 (a1 - 1)) * a0_3)))) + (wrap64 (2 * a0_2)))), .int .i64 (wrap64 ((wrap64 ((wrap64 ((wrap64 (a2 * a0_1)) + (wrap64 ((wrap64 (a2 - 1)) * a0_3)))) + (wrap64 (2 * a0_2)))) + a3)), .int .i64 a3, .bool true] (0, 0) _ rfl (by (with_reducible repeat (first | refine blk_drewN ?_ _ | refine blk_drew ?_ | refine blk_alloc ?_ _)); refine blk_put (cs := #[.int .i64 (wrap64 ((wrap64 ((wrap64 (a1 * a0_0)) + (wrap64 ((wrap64 (a1 - 1)) * a0_3)))) + (wrap64 (2 * a0_2)))), .int .i64 (wrap64 ((wrap64 ((wrap64 ((wrap64 (a2 * a0_1)) + (wrap64 ((wrap64 (a2 - 1)) * a0_3)))) + (wrap64 (2 * a0_2)))) + a3)), .int .i64 a3, .bool false]) ?_ 3 _ rfl; (with_reducible repeat (first | refine blk_drewN ?_ _ | refine blk_drew ?_ | refine blk_alloc ?_ _)); refine blk_put (cs := #[.int .i64 (wrap64 ((wrap64 ((wrap64 (a1 * a0_0)) + (wrap64 ((wrap64 (a1 - 1)) * a0_3)))) + (wrap64 (2 * a0_2)))), .int .i64 (wrap64 ((wrap64 ((wrap64 ((wrap64 (a2 * a0_1)) + (wrap64 ((wrap64 (a2 - 1)) * a0_3)))) + (wrap64 (2 * a0_2)))) + a3)), .int .i64 0, .bool false]) ?_ 2 _ rfl; (with_reducible repeat (first | refine blk_drewN ?_ _ | refine blk_drew ?_ | refine blk_alloc ?_ _)); refine blk_put (cs := #[.int .i64 (wrap64 ((wrap64 ((wrap64 (a1 * a0_0)) + (wrap64 ((wrap64 (a1 - 1)) * a0_3)))) + (wrap64 (2 * a0_2)))), .int .i64 0, .int .i64 0, .bool false]) ?_ 1 _ rfl; (with_reducible repeat (first | refine blk_drewN ?_ _ | refine blk_drew ?_ | refine blk_alloc ?_ _)); refine blk_put (cs := #[.int .i64 0, .int .i64 0, .int .i64 0, .bool false]) ?_ 0 _ rfl; (with_reducible repeat (first | refine blk_drewN ?_ _ | refine blk_drew ?_ | refine blk_alloc ?_ _)); exact BK360.out) Try.underlying39 rfl (by kernel_rfl)) rfl ?_
            exact ⟨by first | rfl | (simp [errW_none, errW_some] <;> rfl) | (simp [*, errW_none, errW_some] <;> rfl), hx_ HB.out⟩
          · replace c22 := Bool.eq_false_iff.mpr c22
            subst c22
            have H1 : (some (0, 0, 0, false, 3)) = some (r1, r2, r3, r4, r5) := by rw [if_neg (show ¬ (false = true) by decide)] at H; exact H
            clear H
            have H := H1
            clear H1
            simp only [Option.some.injEq, Prod.mk.injEq] at H
            obtain ⟨rfl, rfl, rfl, rfl, rfl⟩ := H
            have hnb32 := NB359_360.out
            have hnc32 := NB360_359.out
            have hcz33_0 : wc.cell? ⟨gb359, 0, none⟩ = some (.int .i64 a0_0) := (blk_cell BK359.out 0).trans rfl
            have hcz33_1 : wc.cell? ⟨gb359, 1, none⟩ = some (.int .i64 a0_1) := (blk_cell BK359.out 1).trans rfl
            have hcz33_2 : wc.cell? ⟨gb359, 2, none⟩ = some (.int .i64 a0_2) := (blk_cell BK359.out 2).trans rfl
            have hcz33_3 : wc.cell? ⟨gb359, 3, none⟩ = some (.int .i64 a0_3) := (blk_cell BK359.out 3).trans rfl
            have hfz33_0 := blk_frozen BK359.out 0
            have hfz33_1 := blk_frozen BK359.out 1
            have hfz33_2 := blk_frozen BK359.out 2
            have hfz33_3 := blk_frozen BK359.out 3
            go_wp2_with (first | ((with_reducible refine gate_dst (N := 10) rfl ?_); refine box_event ?hg (N := 10) ?hd (cs := #[.int .i64 0, .int .i64 0, .int .i64 0, .bool false]) (t := 39) ?hr ?_; (case hd => rfl); (case hg => rfl); (case hr => first | (go_simp; done) | (go_simp; rfl)); intro gb365 hg w34 hbox hb; have n0_ := Aside0.mk (blk_below (g := gb359) (o := .cells #[.int .i64 a0_0, .int .i64 a0_1, .int .i64 a0_2, .int .i64 a0_3] 41 (0, 0)) (bx_ BK359.out) hb); have n1_ := Aside0.mk (blk_below (g := gb360) (o := .cells #[.int .i64 0, .int .i64 0, .int .i64 0, .bool false] 39 (0, 0)) (bx_ BK360.out) hb); have n2_ := Aside0.mk (below_step (hx_ HB.out) hb); have n3_ := Aside0.mk (hbox); have n4_ := Aside0.mk ((by rw [hg]; exact (below_size (hx_ HB.out)) : w.heap.size ≤ gb365)); have n5_ := Aside0.mk ((by rw [hg]; exact (below_size (hx_ HB.out)) : w.heap.size ≤ gb365)); have n6_ := Aside0.mk ((by rw [hg]; exact Nat.ne_of_lt (blk_lt (g := gb359) (o := .cells #[.int .i64 a0_0, .int .i64 a0_1, .int .i64 a0_2, .int .i64 a0_3] 41 (0, 0)) (bx_ BK359.out)) : gb359 ≠ gb365)); have n7_ := Aside0.mk ((by rw [hg]; exact Nat.ne_of_gt (blk_lt (g := gb359) (o := .cells #[.int .i64 a0_0, .int .i64 a0_1, .int .i64 a0_2, .int .i64 a0_3] 41 (0, 0)) (bx_ BK359.out)) : gb365 ≠ gb359)); have n8_ := Aside0.mk ((by rw [hg]; exact Nat.ne_of_lt (blk_lt (g := gb360) (o := .cells #[.int .i64 0, .int .i64 0, .int .i64 0, .bool false] 39 (0, 0)) (bx_ BK360.out)) : gb360 ≠ gb365)); have n9_ := Aside0.mk ((by rw [hg]; exact Nat.ne_of_gt (blk_lt (g := gb360) (o := .cells #[.int .i64 0, .int .i64 0, .int .i64 0, .bool false] 39 (0, 0)) (bx_ BK360.out)) : gb365 ≠ gb360)); clear BK359; clear BK360; clear HB; have BK359 := n0_; have BK360 := n1_; have HB := n2_; have BK365 := n3_; have GW365 := n4_; have GE365 := n5_; have NB359_365 := n6_; have NB365_359 := n7_; have NB360_365 := n8_; have NB365_360 := n9_; clear n0_ n1_ n2_ n3_ n4_ n5_ n6_ n7_ n8_ n9_; clear hb hbox hg; have hnb35 := NB365_359.out; have hnc35 := NB359_365.out; have hnb36 := NB365_360.out; have hnc36 := NB360_365.out; have hcz37_0 : w34.cell? ⟨gb365, 0, none⟩ = some (.int .i64 0) := (blk_cell BK365.out 0).trans rfl; have hcz37_1 : w34.cell? ⟨gb365, 1, none⟩ = some (.int .i64 0) := (blk_cell BK365.out 1).trans rfl; have hcz37_2 : w34.cell? ⟨gb365, 2, none⟩ = some (.int .i64 0) := (blk_cell BK365.out 2).trans rfl; have hcz37_3 : w34.cell? ⟨gb365, 3, none⟩ = some (.bool false) := (blk_cell BK365.out 3).trans rfl; have hfz37_0 := blk_frozen BK365.out 0; have hfz37_1 := blk_frozen BK365.out 1; have hfz37_2 := blk_frozen BK365.out 2; have hfz37_3 := blk_frozen BK365.out 3) | ((with_reducible refine gate_callee (f := 44) rfl ?_); refine goesL_ (some 62) rfl rfl Try.func44 (by kernel_rfl) rfl #[.agg #[.int .i64 (wrap64 ((wrap64 ((wrap64 (a1 * a0_0)) + (wrap64 ((wrap64 (a1 - 1)) * a0_3)))) + (wrap64 (2 * a0_2)))), .int .i64 (wrap64 ((wrap64 ((wrap64 ((wrap64 (a2 * a0_1)) + (wrap64 ((wrap64 (a2 - 1)) * a0_3)))) + (wrap64 (2 * a0_2)))) + a3)), .int .i64 a3, .bool true]] rfl (by (try simp only [List.map_toArray, List.map_cons, List.map_nil]); first | done | rfl | (simp only [List.length_drop, List.length_take]; rfl)) ?_; (with_reducible refine (spec_IsPress.calls (wrap64 ((wrap64 ((wrap64 (a1 * a0_0)) + (wrap64 ((wrap64 (a1 - 1)) * a0_3)))) + (wrap64 (2 * a0_2)))) (wrap64 ((wrap64 ((wrap64 ((wrap64 (a2 * a0_1)) + (wrap64 ((wrap64 (a2 - 1)) * a0_3)))) + (wrap64 (2 * a0_2)))) + a3)) a3 true false _ A21.out).mono ?_); rintro e w38 ⟨rfl, hb⟩; refine ⟨_, rfl, ?_⟩; have n0_ := Aside0.mk (blk_below (g := gb359) (o := .cells #[.int .i64 a0_0, .int .i64 a0_1, .int .i64 a0_2, .int .i64 a0_3] 41 (0, 0)) (bx_ BK359.out) hb); have n1_ := Aside0.mk (blk_below (g := gb360) (o := .cells #[.int .i64 0, .int .i64 0, .int .i64 0, .bool false] 39 (0, 0)) (bx_ BK360.out) hb); have n2_ := Aside0.mk (blk_below (g := gb365) (o := .cells #[.int .i64 (wrap64 ((wrap64 ((wrap64 (a1 * a0_0)) + (wrap64 ((wrap64 (a1 - 1)) * a0_3)))) + (wrap64 (2 * a0_2)))), .int .i64 (wrap64 ((wrap64 ((wrap64 ((wrap64 (a2 * a0_1)) + (wrap64 ((wrap64 (a2 - 1)) * a0_3)))) + (wrap64 (2 * a0_2)))) + a3)), .int .i64 a3, .bool true] 39 (0, 0)) (by (with_reducible repeat (first | refine blk_drewN ?_ _ | refine blk_drew ?_ | refine blk_alloc ?_ _)); refine blk_put (cs := #[.int .i64 (wrap64 ((wrap64 ((wrap64 (a1 * a0_0)) + (wrap64 ((wrap64 (a1 - 1)) * a0_3)))) + (wrap64 (2 * a0_2)))), .int .i64 (wrap64 ((wrap64 ((wrap64 ((wrap64 (a2 * a0_1)) + (wrap64 ((wrap64 (a2 - 1)) * a0_3)))) + (wrap64 (2 * a0_2)))) + a3)), .int .i64 a3, .bool false]) ?_ 3 _ rfl; (with_reducible repeat (first | refine blk_drewN ?_ _ | refine blk_drew ?_ | refine blk_alloc ?_ _)); refine blk_put (cs := #[.int .i64 (wrap64 ((wrap64 ((wrap64 (a1 * a0_0)) + (wrap64 ((wrap64 (a1 - 1)) * a0_3)))) + (wrap64 (2 * a0_2)))), .int .i64 (wrap64 ((wrap64 ((wrap64 ((wrap64 (a2 * a0_1)) + (wrap64 ((wrap64 (a2 - 1)) * a0_3)))) + (wrap64 (2 * a0_2)))) + a3)), .int .i64 0, .bool false]) ?_ 2 _ rfl; (with_reducible repeat (first | refine blk_drewN ?_ _ | refine blk_drew ?_ | refine blk_alloc ?_ _)); refine blk_put (cs := #[.int .i64 (wrap64 ((wrap64 ((wrap64 (a1 * a0_0)) + (wrap64 ((wrap64 (a1 - 1)) * a0_3)))) + (wrap64 (2 * a0_2)))), .int .i64 0, .int .i64 0, .bool false]) ?_ 1 _ rfl; (with_reducible repeat (first | refine blk_drewN ?_ _ | refine blk_drew ?_ | refine blk_alloc ?_ _)); refine blk_put (cs := #[.int .i64 0, .int .i64 0, .int .i64 0, .bool false]) ?_ 0 _ rfl; (with_reducible repeat (first | refine blk_drewN ?_ _ | refine blk_drew ?_ | refine blk_alloc ?_ _)); exact BK365.out) hb); have n3_ := Aside0.mk (below_step (hx_ HB.out) hb); clear BK359; clear BK360; clear BK365; clear HB; have BK359 := n0_; have BK360 := n1_; have BK365 := n2_; have HB := n3_; clear n0_ n1_ n2_ n3_; (try clear hb); (try clear hb2); (try clear hk); (try clear hi); have hcz39_0 : w38.cell? ⟨gb360, 0, none⟩ = some (.int .i64 0) := (blk_cell BK360.out 0).trans rfl; have hcz39_1 : w38.cell? ⟨gb360, 1, none⟩ = some (.int .i64 0) := (blk_cell BK360.out 1).trans rfl; have hcz39_2 : w38.cell? ⟨gb360, 2, none⟩ = some (.int .i64 0) := (blk_cell BK360.out 2).trans rfl; have hcz39_3 : w38.cell? ⟨gb360, 3, none⟩ = some (.bool false) := (blk_cell BK360.out 3).trans rfl; have hfz39_0 := blk_frozen BK360.out 0; have hfz39_1 := blk_frozen BK360.out 1; have hfz39_2 := blk_frozen BK360.out 2; have hfz39_3 := blk_frozen BK360.out 3))
            refine bodyPost_ret (results_ct rfl _ _ gb360 39 #[.int .i64 0, .int .i64 0, .int .i64 0, .bool false] (0, 0) _ rfl (by (with_reducible repeat (first | refine blk_drewN ?_ _ | refine blk_drew ?_ | refine blk_alloc ?_ _)); refine blk_put (cs := #[.int .i64 0, .int .i64 0, .int .i64 0, .bool false]) ?_ 3 _ rfl; (with_reducible repeat (first | refine blk_drewN ?_ _ | refine blk_drew ?_ | refine blk_alloc ?_ _)); refine blk_put (cs := #[.int .i64 0, .int .i64 0, .int .i64 0, .bool false]) ?_ 2 _ rfl; (with_reducible repeat (first | refine blk_drewN ?_ _ | refine blk_drew ?_ | refine blk_alloc ?_ _)); refine blk_put (cs := #[.int .i64 0, .int .i64 0, .int .i64 0, .bool false]) ?_ 1 _ rfl; (with_reducible repeat (first | refine blk_drewN ?_ _ | refine blk_drew ?_ | refine blk_alloc ?_ _)); refine blk_put (cs := #[.int .i64 0, .int .i64 0, .int .i64 0, .bool false]) ?_ 0 _ rfl; (with_reducible repeat (first | refine blk_drewN ?_ _ | refine blk_drew ?_ | refine blk_alloc ?_ _)); exact BK360.out) Try.underlying39 rfl (by kernel_rfl)) rfl ?_
            exact ⟨by first | rfl | (simp [errW_none, errW_some] <;> rfl) | (simp [*, errW_none, errW_some] <;> rfl), hx_ HB.out⟩
  · replace c6 := Bool.eq_false_iff.mpr c6
    subst c6
    have H1 : (some (0, 0, 0, false, 1)) = some (r1, r2, r3, r4, r5) := by rw [if_neg (show ¬ (false = true) by decide)] at H; exact H
    clear H
    have H := H1
    clear H1
    simp only [Option.some.injEq, Prod.mk.injEq] at H
    obtain ⟨rfl, rfl, rfl, rfl, rfl⟩ := H
    go_enter Try.func77, Try.ntmps77
    go_wp2_with (first | ((with_reducible refine gate_dst (N := 4) rfl ?_); refine box_event ?hg (N := 4) ?hd (cs := #[.int .i64 a0_0, .int .i64 a0_1, .int .i64 a0_2, .int .i64 a0_3]) (t := 41) ?hr ?_; (case hd => rfl); (case hg => rfl); (case hr => first | (go_simp; done) | (go_simp; rfl)); intro gb359 hg w40 hbox hb; have n0_ := Aside0.mk (below_step (hx_ HB.out) hb); have n1_ := Aside0.mk (hbox); have n2_ := Aside0.mk ((by rw [hg]; exact (below_size (hx_ HB.out)) : w.heap.size ≤ gb359)); have n3_ := Aside0.mk ((by rw [hg]; exact (below_size (hx_ HB.out)) : w.heap.size ≤ gb359)); clear HB; have HB := n0_; have BK359 := n1_; have GW359 := n2_; have GE359 := n3_; clear n0_ n1_ n2_ n3_; clear hb hbox hg) | ((with_reducible refine gate_dst (N := 8) rfl ?_); refine box_event ?hg (N := 8) ?hd (cs := #[.int .i64 0, .int .i64 0, .int .i64 0, .bool false]) (t := 39) ?hr ?_; (case hd => rfl); (case hg => rfl); (case hr => first | (go_simp; done) | (go_simp; rfl)); intro gb360 hg w41 hbox hb; have n0_ := Aside0.mk (blk_below (g := gb359) (o := .cells #[.int .i64 a0_0, .int .i64 a0_1, .int .i64 a0_2, .int .i64 a0_3] 41 (0, 0)) (bx_ BK359.out) hb); have n1_ := Aside0.mk (below_step (hx_ HB.out) hb); have n2_ := Aside0.mk (hbox); have n3_ := Aside0.mk ((by rw [hg]; exact (below_size (hx_ HB.out)) : w.heap.size ≤ gb360)); have n4_ := Aside0.mk ((by rw [hg]; exact (below_size (hx_ HB.out)) : w.heap.size ≤ gb360)); have n5_ := Aside0.mk ((by rw [hg]; exact Nat.ne_of_lt (blk_lt (g := gb359) (o := .cells #[.int .i64 a0_0, .int .i64 a0_1, .int .i64 a0_2, .int .i64 a0_3] 41 (0, 0)) (bx_ BK359.out)) : gb359 ≠ gb360)); have n6_ := Aside0.mk ((by rw [hg]; exact Nat.ne_of_gt (blk_lt (g := gb359) (o := .cells #[.int .i64 a0_0, .int .i64 a0_1, .int .i64 a0_2, .int .i64 a0_3] 41 (0, 0)) (bx_ BK359.out)) : gb360 ≠ gb359)); clear BK359; clear HB; have BK359 := n0_; have HB := n1_; have BK360 := n2_; have GW360 := n3_; have GE360 := n4_; have NB359_360 := n5_; have NB360_359 := n6_; clear n0_ n1_ n2_ n3_ n4_ n5_ n6_; clear hb hbox hg; have hnb42 := NB359_360.out; have hnc42 := NB360_359.out; have hcz43_0 : w41.cell? ⟨gb359, 0, none⟩ = some (.int .i64 a0_0) := (blk_cell BK359.out 0).trans rfl; have hcz43_1 : w41.cell? ⟨gb359, 1, none⟩ = some (.int .i64 a0_1) := (blk_cell BK359.out 1).trans rfl; have hcz43_2 : w41.cell? ⟨gb359, 2, none⟩ = some (.int .i64 a0_2) := (blk_cell BK359.out 2).trans rfl; have hcz43_3 : w41.cell? ⟨gb359, 3, none⟩ = some (.int .i64 a0_3) := (blk_cell BK359.out 3).trans rfl; have hfz43_0 := blk_frozen BK359.out 0; have hfz43_1 := blk_frozen BK359.out 1; have hfz43_2 := blk_frozen BK359.out 2; have hfz43_3 := blk_frozen BK359.out 3) | ((with_reducible refine gate_callee (f := 46) rfl ?_); refine goesL_ (some 12) rfl rfl Try.func46 (by kernel_rfl) rfl #[.agg #[.int .i64 a0_0, .int .i64 a0_1, .int .i64 a0_2, .int .i64 a0_3]] rfl (by (try simp only [List.map_toArray, List.map_cons, List.map_nil]); first | done | rfl | (simp only [List.length_drop, List.length_take]; rfl)) ?_; (with_reducible refine (spec_IsTrim.calls a0_0 a0_1 a0_2 a0_3 false _ A5.out).mono ?_); rintro e w44 ⟨rfl, hb⟩; refine ⟨_, rfl, ?_⟩; have n0_ := Aside0.mk (blk_below (g := gb359) (o := .cells #[.int .i64 a0_0, .int .i64 a0_1, .int .i64 a0_2, .int .i64 a0_3] 41 (0, 0)) (bx_ BK359.out) hb); have n1_ := Aside0.mk (blk_below (g := gb360) (o := .cells #[.int .i64 0, .int .i64 0, .int .i64 0, .bool false] 39 (0, 0)) (bx_ BK360.out) hb); have n2_ := Aside0.mk (below_step (hx_ HB.out) hb); clear BK359; clear BK360; clear HB; have BK359 := n0_; have BK360 := n1_; have HB := n2_; clear n0_ n1_ n2_; (try clear hb); (try clear hb2); (try clear hk); (try clear hi); have hcz45_0 : w44.cell? ⟨gb360, 0, none⟩ = some (.int .i64 0) := (blk_cell BK360.out 0).trans rfl; have hcz45_1 : w44.cell? ⟨gb360, 1, none⟩ = some (.int .i64 0) := (blk_cell BK360.out 1).trans rfl; have hcz45_2 : w44.cell? ⟨gb360, 2, none⟩ = some (.int .i64 0) := (blk_cell BK360.out 2).trans rfl; have hcz45_3 : w44.cell? ⟨gb360, 3, none⟩ = some (.bool false) := (blk_cell BK360.out 3).trans rfl; have hfz45_0 := blk_frozen BK360.out 0; have hfz45_1 := blk_frozen BK360.out 1; have hfz45_2 := blk_frozen BK360.out 2; have hfz45_3 := blk_frozen BK360.out 3))
    refine bodyPost_ret (results_ct rfl _ _ gb360 39 #[.int .i64 0, .int .i64 0, .int .i64 0, .bool false] (0, 0) _ rfl (by (with_reducible repeat (first | refine blk_drewN ?_ _ | refine blk_drew ?_ | refine blk_alloc ?_ _)); refine blk_put (cs := #[.int .i64 0, .int .i64 0, .int .i64 0, .bool false]) ?_ 3 _ rfl; (with_reducible repeat (first | refine blk_drewN ?_ _ | refine blk_drew ?_ | refine blk_alloc ?_ _)); refine blk_put (cs := #[.int .i64 0, .int .i64 0, .int .i64 0, .bool false]) ?_ 2 _ rfl; (with_reducible repeat (first | refine blk_drewN ?_ _ | refine blk_drew ?_ | refine blk_alloc ?_ _)); refine blk_put (cs := #[.int .i64 0, .int .i64 0, .int .i64 0, .bool false]) ?_ 1 _ rfl; (with_reducible repeat (first | refine blk_drewN ?_ _ | refine blk_drew ?_ | refine blk_alloc ?_ _)); refine blk_put (cs := #[.int .i64 0, .int .i64 0, .int .i64 0, .bool false]) ?_ 0 _ rfl; (with_reducible repeat (first | refine blk_drewN ?_ _ | refine blk_drew ?_ | refine blk_alloc ?_ _)); exact BK360.out) Try.underlying39 rfl (by kernel_rfl)) rfl ?_
    exact ⟨by first | rfl | (simp [errW_none, errW_some] <;> rfl) | (simp [*, errW_none, errW_some] <;> rfl), hx_ HB.out⟩

end Go.Proofs.Ythapadejldlmfaa.PFnBestGrids
