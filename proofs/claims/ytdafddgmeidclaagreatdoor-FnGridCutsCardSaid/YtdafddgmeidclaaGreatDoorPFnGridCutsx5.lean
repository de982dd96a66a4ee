-- Written by wip/inject.py: a contract of each function that the law reaches; those of the stand-ins are proved in this seat's Hand texts
import Derived.Test.YtdafddgmeidclaaGreatDoorPFnGridCutsx0
namespace Go.Proofs.YtdafddgmeidclaaGreatDoor.PFnGridCuts
open Go.RowKit Go.Proofs.YtdafddgmeidclaaGreatDoorW.PrintWords Go.Proofs.YtdafddgmeidclaaGreatDoorW.PrintLast Go.Proofs.YtdafddgmeidclaaGreatDoorW.PrintMore
attribute [local go_sem] max2_int min2_int max_two min_two max_three min_three max_four min_four   -- for this text's walks alone
set_option linter.unusedVariables false
set_option linter.unusedSimpArgs false

/-! ### impl_inRange: function 21 -/
def impl_inRange.f (a0 : Int) (a1 : Int) (a2 : Int) : Option (Bool) := if a1 ≤ a0 then (some (decide (a0 ≤ a2))) else (some false)
set_option maxHeartbeats 8000000 in
set_option maxRecDepth 100000 in
theorem impl_inRange.calls (a0 : Int) (a1 : Int) (a2 : Int) (r : Bool) (w : World) (h : impl_inRange.f a0 a1 a2 = some r) :
  Calls Tryz.prog 21 #[.int .i64 a0, .int .i64 a1, .int .i64 a2] w fun e w' => e = .returned (.bool r) ∧ Drawn0 w w' := by
 have H : (if a1 ≤ a0 then (some (decide (a0 ≤ a2))) else (some false)) = some r := h
 clear h
 by_cases c4 : a1 ≤ a0
 ·rw [if_pos c4] at H
  have c4b0 : decide (a1 ≤ a0) = true := decide_eq_true c4
  clear c4
  obtain rfl := Option.some.inj H
  go_enter Tryz.func21, Tryz.ntmps21
  go_wp2
  go_ret
  exact ⟨by first | rfl | (simp; done) | (simp [*]; done), by repeat (first | exact Drawn0.refl _ | apply Drawn0.step)⟩
 ·rw [if_neg c4] at H
  have c4b0 : decide (a1 ≤ a0) = false := decide_eq_false c4
  clear c4
  obtain rfl := Option.some.inj H
  go_enter Tryz.func21, Tryz.ntmps21
  go_wp2
  go_ret
  exact ⟨by first | rfl | (simp; done) | (simp [*]; done), by repeat (first | exact Drawn0.refl _ | apply Drawn0.step)⟩

/-! ### impl_IsPiece: function 20 -/
def impl_IsPiece.f (a0_0 : Int) (a0_1 : Int) : Option (Bool) := (impl_inRange.f a0_0 1 20000).bind fun t169 => (if t169 = true then ((impl_inRange.f a0_1 1 20000).bind fun t170 => (some t170)) else (some false))
set_option maxHeartbeats 8000000 in
set_option maxRecDepth 100000 in
theorem impl_IsPiece.calls (a0_0 : Int) (a0_1 : Int) (r : Bool) (w : World) (h : impl_IsPiece.f a0_0 a0_1 = some r) :
  Calls Tryz.prog 20 #[.agg #[.int .i64 a0_0, .int .i64 a0_1]] w fun e w' => e = .returned (.bool r) ∧ Below w.heap.size w w' := by
 have hu25 := Tryz.underlying25
 have HB := Aside0.mk (Below.refl w.heap.size w)
 have H : ((impl_inRange.f a0_0 1 20000).bind fun t169 => (if t169 = true then ((impl_inRange.f a0_1 1 20000).bind fun t170 => (some t170)) else (some false))) = some r := h
 clear h
 replace H := Option.bind_eq_some_iff.mp H
 obtain ⟨t169, A20, H⟩ := H
 try dsimp only at H
 have A2 := Aside0.mk A20
 clear A20
 by_cases c3 : t169 = true
 ·subst c3
  have H1 : ((impl_inRange.f a0_1 1 20000).bind fun t170 => (some t170)) = some r := by rw [if_pos rfl] at H; exact H
  clear H
  have H := H1
  clear H1
  replace H := Option.bind_eq_some_iff.mp H
  obtain ⟨t170, A40, H⟩ := H
  try dsimp only at H
  have A4 := Aside0.mk A40
  clear A40
  obtain rfl := Option.some.inj H
  go_enter Tryz.func20, Tryz.ntmps20
  go_wp2_with (first | ((with_reducible refine gd_ 1 rfl ?_); refine be_ 1 #[.int .i64 a0_0, .int .i64 a0_1] 25 rfl rfl ?_; intro gb168 hg w5 hbox hb; have BK168 := am_ hbox; have GW168 := gw_ hg HB; have GE168 := gw_ hg HB; replace HB := hs_ HB hb; clear hb hbox hg; have hcz6_0 : w5.cell? ⟨gb168, 0, none⟩ = some (.int .i64 a0_0) := (blk_cell BK168.out 0).trans rfl; have hcz6_1 : w5.cell? ⟨gb168, 1, none⟩ = some (.int .i64 a0_1) := (blk_cell BK168.out 1).trans rfl; have hfz6_0 := blk_frozen BK168.out 0; have hfz6_1 := blk_frozen BK168.out 1) | ((with_reducible refine gc_ 21 rfl ?_); refine gl_ (some 5) rfl rfl Tryz.func21 rfl #[.int .i64 a0_0, .int .i64 1, .int .i64 20000] rfl ?_; (with_reducible refine (impl_inRange.calls a0_0 1 20000 true _ A2.out).mono ?_); rintro e w' ⟨rfl, ⟨nd, rfl⟩⟩; refine ⟨_, rfl, ?_⟩) | (go_at_call 21; (with_reducible refine (impl_inRange.calls a0_1 1 20000 t170 _ A4.out).mono ?_); rintro e w' ⟨rfl, ⟨nd, rfl⟩⟩))
  go_ret
  exact er_ (hx_ HB.out)
 ·replace c3 := Bool.eq_false_iff.mpr c3
  subst c3
  have H1 : (some false) = some r := by rw [if_neg (show ¬ (false = true) by decide)] at H; exact H
  clear H
  have H := H1
  clear H1
  obtain rfl := Option.some.inj H
  go_enter Tryz.func20, Tryz.ntmps20
  go_wp2_with (first | ((with_reducible refine gd_ 1 rfl ?_); refine be_ 1 #[.int .i64 a0_0, .int .i64 a0_1] 25 rfl rfl ?_; intro gb168 hg w7 hbox hb; have BK168 := am_ hbox; have GW168 := gw_ hg HB; have GE168 := gw_ hg HB; replace HB := hs_ HB hb; clear hb hbox hg; have hcz8_0 : w7.cell? ⟨gb168, 0, none⟩ = some (.int .i64 a0_0) := (blk_cell BK168.out 0).trans rfl; have hcz8_1 : w7.cell? ⟨gb168, 1, none⟩ = some (.int .i64 a0_1) := (blk_cell BK168.out 1).trans rfl; have hfz8_0 := blk_frozen BK168.out 0; have hfz8_1 := blk_frozen BK168.out 1) | ((with_reducible refine gc_ 21 rfl ?_); refine gl_ (some 5) rfl rfl Tryz.func21 rfl #[.int .i64 a0_0, .int .i64 1, .int .i64 20000] rfl ?_; (with_reducible refine (impl_inRange.calls a0_0 1 20000 false _ A2.out).mono ?_); rintro e w' ⟨rfl, ⟨nd, rfl⟩⟩; refine ⟨_, rfl, ?_⟩))
  go_ret
  exact er_ (hx_ HB.out)

/-! ### impl_toInt: function 22 -/
def impl_toInt.f (a0 : Bool) : Option (Int) := if a0 = true then (some 1) else (some 0)
set_option maxHeartbeats 8000000 in
set_option maxRecDepth 100000 in
theorem impl_toInt.calls (a0 : Bool) (r : Int) (w : World) (h : impl_toInt.f a0 = some r) :
  Calls Tryz.prog 22 #[.bool a0] w fun e w' => e = .returned (.int .i64 r) ∧ Drawn0 w w' := by
 have H : (if a0 = true then (some 1) else (some 0)) = some r := h
 clear h
 by_cases c2 : a0 = true
 ·subst c2
  have H1 : (some 1) = some r := by rw [if_pos rfl] at H; exact H
  clear H
  have H := H1
  clear H1
  obtain rfl := Option.some.inj H
  go_enter Tryz.func22, Tryz.ntmps22
  go_wp2
  go_ret
  exact ⟨by first | rfl | (simp; done) | (simp [*]; done), by repeat (first | exact Drawn0.refl _ | apply Drawn0.step)⟩
 ·replace c2 := Bool.eq_false_iff.mpr c2
  subst c2
  have H1 : (some 0) = some r := by rw [if_neg (show ¬ (false = true) by decide)] at H; exact H
  clear H
  have H := H1
  clear H1
  obtain rfl := Option.some.inj H
  go_enter Tryz.func22, Tryz.ntmps22
  go_wp2
  go_ret
  exact ⟨by first | rfl | (simp; done) | (simp [*]; done), by repeat (first | exact Drawn0.refl _ | apply Drawn0.step)⟩

/-! ### impl_GridCuts: function 6 -/
mutual
def impl_GridCuts.j0 : Nat → Int → Int → Bool → Int → Int → Int → Int → Option ((List (S50)) × Int)
 | 0, _, _, _, _, _, _, _ => none
 | k + 1, x1, x2, x16, x172000, x172001, x173000, x173001 => if x16 = true then (some (([] : List (S50)), 1)) else ((impl_inRange.f x1 1 80).bind fun t175 => (if t175 = true then ((impl_inRange.f x2 1 80).bind fun t176 => (if t176 = true then ((impl_toInt.f (decide (x172000 > (wrap64 (x1 * x173000))))).bind fun t177 => ((impl_toInt.f (decide (x172001 > (wrap64 (x2 * x173001))))).bind fun t178 => (if (wrap64 ((wrap64 ((wrap64 (x1 - 1)) + t177)) + (wrap64 (x1 * (wrap64 ((wrap64 (x2 - 1)) + t178)))))) > 79 then (some (([] : List (S50)), 3)) else (if x172000 < (wrap64 (x1 * x173000)) then (some (([] : List (S50)), 5)) else (if x172001 < (wrap64 (x2 * x173001)) then (some (([] : List (S50)), 5)) else (impl_GridCuts.l0 k x1 (wrap64 ((wrap64 (x2 - 1)) + t178)) (([] : List (S50))) (wrap64 ((wrap64 (x1 - 1)) + t177)) 0 x173000 x173001)))))) else (some (([] : List (S50)), 2)))) else (some (([] : List (S50)), 2))))
def impl_GridCuts.l0 : Nat → Int → Int → List (S50) → Int → Int → Int → Int → Option ((List (S50)) × Int)
 | 0, _, _, _, _, _, _, _ => none
 | k + 1, x1, x11, x12, x81, x82, x173000, x173001 => if x82 < x81 then (if x12.length < 5864062014805 then (impl_GridCuts.l0 k x1 x11 (x12 ++ [(⟨x82, false, x173000⟩ : S50)]) x81 (wrap64 (x82 + 1)) x173000 x173001) else (none)) else (impl_GridCuts.l1 k x11 x12 x1 0 x173000 x173001)
def impl_GridCuts.l1 : Nat → Int → List (S50) → Int → Int → Int → Int → Option ((List (S50)) × Int)
 | 0, _, _, _, _, _, _ => none
 | k + 1, x11, x12, x93, x94, x173000, x173001 => if x94 < x93 then (impl_GridCuts.l2 k x11 x12 x94 x93 x94 x11 0 x173000 x173001) else (some (x12, 0))
def impl_GridCuts.l2 : Nat → Int → List (S50) → Int → Int → Int → Int → Int → Int → Int → Option ((List (S50)) × Int)
 | 0, _, _, _, _, _, _, _, _, _ => none
 | k + 1, x11, x12, x14, x93, x94, x97, x98, x173000, x173001 => if x98 < x97 then (if x12.length < 5864062014805 then (impl_GridCuts.l2 k x11 (x12 ++ [(⟨wrap64 ((wrap64 (x14 * (wrap64 (x11 + 1)))) + x98), true, x173001⟩ : S50)]) x14 x93 x94 x97 (wrap64 (x98 + 1)) x173000 x173001) else (none)) else (impl_GridCuts.l1 k x11 x12 x93 (wrap64 (x94 + 1)) x173000 x173001)
end
def impl_GridCuts.f (k : Nat) (a0_0 : Int) (a0_1 : Int) (a1 : Int) (a2 : Int) (a3_0 : Int) (a3_1 : Int) : Option ((List (S50)) × Int) := (impl_IsPiece.f a0_0 a0_1).bind fun t173 => (if t173 = true then ((impl_IsPiece.f a3_0 a3_1).bind fun t174 => (impl_GridCuts.j0 k a1 a2 (!t174) a0_0 a0_1 a3_0 a3_1)) else (impl_GridCuts.j0 k a1 a2 true a0_0 a0_1 a3_0 a3_1))
theorem impl_GridCuts.mono_l : ∀ k, (∀ y0 y1 y2 y3 y4 y5 y6, LeO (impl_GridCuts.j0 k y0 y1 y2 y3 y4 y5 y6) (impl_GridCuts.j0 (k + 1) y0 y1 y2 y3 y4 y5 y6)) ∧ (∀ y0 y1 y2 y3 y4 y5 y6, LeO (impl_GridCuts.l0 k y0 y1 y2 y3 y4 y5 y6) (impl_GridCuts.l0 (k + 1) y0 y1 y2 y3 y4 y5 y6)) ∧ (∀ y0 y1 y2 y3 y4 y5, LeO (impl_GridCuts.l1 k y0 y1 y2 y3 y4 y5) (impl_GridCuts.l1 (k + 1) y0 y1 y2 y3 y4 y5)) ∧ (∀ y0 y1 y2 y3 y4 y5 y6 y7 y8, LeO (impl_GridCuts.l2 k y0 y1 y2 y3 y4 y5 y6 y7 y8) (impl_GridCuts.l2 (k + 1) y0 y1 y2 y3 y4 y5 y6 y7 y8))
 | 0 => ⟨fun _ _ _ _ _ _ _ r h => by simp [impl_GridCuts.j0] at h, fun _ _ _ _ _ _ _ r h => by simp [impl_GridCuts.l0] at h, fun _ _ _ _ _ _ r h => by simp [impl_GridCuts.l1] at h, fun _ _ _ _ _ _ _ _ _ r h => by simp [impl_GridCuts.l2] at h⟩
 | k + 1 => by
  obtain ⟨ih0, ih1, ih2, ih3⟩ := impl_GridCuts.mono_l k
  refine ⟨?_, ?_, ?_, ?_⟩
  ·intro y0 y1 y2 y3 y4 y5 y6
   unfold impl_GridCuts.j0
   repeat' first
   | (with_reducible exact ih0 _ _ _ _ _ _ _)
   | (with_reducible exact ih1 _ _ _ _ _ _ _)
   | (with_reducible exact ih2 _ _ _ _ _ _)
   | (with_reducible exact ih3 _ _ _ _ _ _ _ _ _)
   | (with_reducible exact LeO.refl _)
   | (with_reducible exact LeO.none _)
   | (with_reducible refine LeO.ite ?_ ?_)
   | (with_reducible refine LeO.bind ?_ (fun _ => ?_))
   | exact ih0 _ _ _ _ _ _ _
   | exact ih1 _ _ _ _ _ _ _
   | exact ih2 _ _ _ _ _ _
   | exact ih3 _ _ _ _ _ _ _ _ _
   | exact LeO.none _
   | refine LeO.ite ?_ ?_
   | refine LeO.bind ?_ (fun _ => ?_)
  ·intro y0 y1 y2 y3 y4 y5 y6
   unfold impl_GridCuts.l0
   repeat' first
   | (with_reducible exact ih0 _ _ _ _ _ _ _)
   | (with_reducible exact ih1 _ _ _ _ _ _ _)
   | (with_reducible exact ih2 _ _ _ _ _ _)
   | (with_reducible exact ih3 _ _ _ _ _ _ _ _ _)
   | (with_reducible exact LeO.refl _)
   | (with_reducible exact LeO.none _)
   | (with_reducible refine LeO.ite ?_ ?_)
   | (with_reducible refine LeO.bind ?_ (fun _ => ?_))
   | exact ih0 _ _ _ _ _ _ _
   | exact ih1 _ _ _ _ _ _ _
   | exact ih2 _ _ _ _ _ _
   | exact ih3 _ _ _ _ _ _ _ _ _
   | exact LeO.none _
   | refine LeO.ite ?_ ?_
   | refine LeO.bind ?_ (fun _ => ?_)
  ·intro y0 y1 y2 y3 y4 y5
   unfold impl_GridCuts.l1
   repeat' first
   | (with_reducible exact ih0 _ _ _ _ _ _ _)
   | (with_reducible exact ih1 _ _ _ _ _ _ _)
   | (with_reducible exact ih2 _ _ _ _ _ _)
   | (with_reducible exact ih3 _ _ _ _ _ _ _ _ _)
   | (with_reducible exact LeO.refl _)
   | (with_reducible exact LeO.none _)
   | (with_reducible refine LeO.ite ?_ ?_)
   | (with_reducible refine LeO.bind ?_ (fun _ => ?_))
   | exact ih0 _ _ _ _ _ _ _
   | exact ih1 _ _ _ _ _ _ _
   | exact ih2 _ _ _ _ _ _
   | exact ih3 _ _ _ _ _ _ _ _ _
   | exact LeO.none _
   | refine LeO.ite ?_ ?_
   | refine LeO.bind ?_ (fun _ => ?_)
  ·intro y0 y1 y2 y3 y4 y5 y6 y7 y8
   unfold impl_GridCuts.l2
   repeat' first
   | (with_reducible exact ih0 _ _ _ _ _ _ _)
   | (with_reducible exact ih1 _ _ _ _ _ _ _)
   | (with_reducible exact ih2 _ _ _ _ _ _)
   | (with_reducible exact ih3 _ _ _ _ _ _ _ _ _)
   | (with_reducible exact LeO.refl _)
   | (with_reducible exact LeO.none _)
   | (with_reducible refine LeO.ite ?_ ?_)
   | (with_reducible refine LeO.bind ?_ (fun _ => ?_))
   | exact ih0 _ _ _ _ _ _ _
   | exact ih1 _ _ _ _ _ _ _
   | exact ih2 _ _ _ _ _ _
   | exact ih3 _ _ _ _ _ _ _ _ _
   | exact LeO.none _
   | refine LeO.ite ?_ ?_
   | refine LeO.bind ?_ (fun _ => ?_)
theorem impl_GridCuts.mono : ∀ a0 a1 a2 a3 a4 a5 k, LeO (impl_GridCuts.f k a0 a1 a2 a3 a4 a5) (impl_GridCuts.f (k + 1) a0 a1 a2 a3 a4 a5) := by
 intro a0 a1 a2 a3 a4 a5 k
 obtain ⟨ih0, ih1, ih2, ih3⟩ := impl_GridCuts.mono_l k
 unfold impl_GridCuts.f
 repeat' first
   | (with_reducible exact ih0 _ _ _ _ _ _ _)
   | (with_reducible exact ih1 _ _ _ _ _ _ _)
   | (with_reducible exact ih2 _ _ _ _ _ _)
   | (with_reducible exact ih3 _ _ _ _ _ _ _ _ _)
   | (with_reducible exact LeO.refl _)
   | (with_reducible exact LeO.none _)
   | (with_reducible refine LeO.ite ?_ ?_)
   | (with_reducible refine LeO.bind ?_ (fun _ => ?_))
   | exact ih0 _ _ _ _ _ _ _
   | exact ih1 _ _ _ _ _ _ _
   | exact ih2 _ _ _ _ _ _
   | exact ih3 _ _ _ _ _ _ _ _ _
   | exact LeO.none _
   | refine LeO.ite ?_ ?_
   | refine LeO.bind ?_ (fun _ => ?_)
set_option maxHeartbeats 8000000 in
set_option maxRecDepth 100000 in
theorem impl_GridCuts.calls (k : Nat) (a0_0 : Int) (a0_1 : Int) (a1 : Int) (a2 : Int) (a3_0 : Int) (a3_1 : Int) (r1 : List (S50)) (r2 : Int) (w : World) (h : impl_GridCuts.f k a0_0 a0_1 a1 a2 a3_0 a3_1 = some (r1, r2)) :
  Calls Tryz.prog 6 #[.agg #[.int .i64 a0_0, .int .i64 a0_1], .int .i64 a1, .int .i64 a2, .agg #[.int .i64 a3_0, .int .i64 a3_1]] w fun e w' => ∃ v0_ : Value, e = .returned (.tuple #[v0_, .int .i64 r2]) ∧ Kd.R k50 50 w' w.heap.size (fun _ => True) v0_ r1 ∧ Below w.heap.size w w' := by
 have hu25 := Tryz.underlying25
 have hu50 := Tryz.underlying50
 have HB := Aside0.mk (Below.refl w.heap.size w)
 have H : ((impl_IsPiece.f a0_0 a0_1).bind fun t173 => (if t173 = true then ((impl_IsPiece.f a3_0 a3_1).bind fun t174 => (impl_GridCuts.j0 k a1 a2 (!t174) a0_0 a0_1 a3_0 a3_1)) else (impl_GridCuts.j0 k a1 a2 true a0_0 a0_1 a3_0 a3_1))) = some (r1, r2) := h
 clear h
 have HC5 := Aside0.mk H
 clear H
 go_enter Tryz.func6, Tryz.ntmps6
 go_upto_region 1 with (first | ((with_reducible refine gd_ 4 rfl ?_); refine be_ 4 #[.int .i64 a0_0, .int .i64 a0_1] 25 rfl rfl ?_; intro gb171 hg w6 hbox hb; have BK171 := am_ hbox; have GW171 := gw_ hg HB; have GE171 := gw_ hg HB; replace HB := hs_ HB hb; clear hb hbox hg) | ((with_reducible refine gd_ 7 rfl ?_); refine be_ 7 #[.int .i64 a3_0, .int .i64 a3_1] 25 rfl rfl ?_; intro gb172 hg w7 hbox hb; have BK172 := am_ hbox; have GW172 := gw_ hg HB; have GE172 := gw_ hg HB; replace HB := hs_ HB hb; have NB171_172 := nl_ hg BK171; have NB172_171 := ng_ hg BK171; replace BK171 := bb_ BK171 hb; clear hb hbox hg))
 (try simp only [Act.put, List.setIfInBounds_toArray, List.set_cons_zero, List.set_cons_succ])
 go_cut [16] (fun v16 wc => ∃ (kq : Nat) (x16_4 : Bool), v16 = .bool x16_4 ∧ Aside0 (impl_GridCuts.j0 kq a1 a2 x16_4 a0_0 a0_1 a3_0 a3_1 = some (r1, r2)) ∧ Aside0 (kq ≤ k) ∧ Aside0 (wc.heap[gb171]? = some (.cells #[.int .i64 a0_0, .int .i64 a0_1] 25 (0, 0))) ∧ Aside0 (wc.heap[gb172]? = some (.cells #[.int .i64 a3_0, .int .i64 a3_1] 25 (0, 0))) ∧ Aside0 (Below w.heap.size w wc))
 case first =>
  have H := HC5.out
  clear HC5
  replace H := Option.bind_eq_some_iff.mp H
  obtain ⟨t173, A80, H⟩ := H
  try dsimp only at H
  have A8 := Aside0.mk A80
  clear A80
  by_cases c9 : t173 = true
  ·subst c9
   have H1 : ((impl_IsPiece.f a3_0 a3_1).bind fun t174 => (impl_GridCuts.j0 k a1 a2 (!t174) a0_0 a0_1 a3_0 a3_1)) = some (r1, r2) := by rw [if_pos rfl] at H; exact H
   clear H
   have H := H1
   clear H1
   replace H := Option.bind_eq_some_iff.mp H
   obtain ⟨t174, A100, H⟩ := H
   try dsimp only at H
   have A10 := Aside0.mk A100
   clear A100
   have H' := Aside0.mk H
   clear H
   have hnb11 := NB171_172.out
   have hnc11 := NB172_171.out
   have hcz12_0 : w7.cell? ⟨gb171, 0, none⟩ = some (.int .i64 a0_0) := (blk_cell BK171.out 0).trans rfl
   have hcz12_1 : w7.cell? ⟨gb171, 1, none⟩ = some (.int .i64 a0_1) := (blk_cell BK171.out 1).trans rfl
   have hfz12_0 := blk_frozen BK171.out 0
   have hfz12_1 := blk_frozen BK171.out 1
   go_wp2_with (first | ((with_reducible refine gc_ 20 rfl ?_); refine gl_ (some 18) rfl rfl Tryz.func20 rfl #[.agg #[.int .i64 a0_0, .int .i64 a0_1]] rfl ?_; (with_reducible refine (impl_IsPiece.calls a0_0 a0_1 true _ A8.out).mono ?_); rintro e w13 ⟨rfl, hb⟩; refine ⟨_, rfl, ?_⟩; replace BK171 := bb_ BK171 hb; replace BK172 := bb_ BK172 hb; replace HB := hs_ HB hb; (try clear hb); (try clear hb2); (try clear hk); (try clear hi); have hcz14_0 : w13.cell? ⟨gb172, 0, none⟩ = some (.int .i64 a3_0) := (blk_cell BK172.out 0).trans rfl; have hcz14_1 : w13.cell? ⟨gb172, 1, none⟩ = some (.int .i64 a3_1) := (blk_cell BK172.out 1).trans rfl; have hfz14_0 := blk_frozen BK172.out 0; have hfz14_1 := blk_frozen BK172.out 1) | (go_at_call 20; (with_reducible refine (impl_IsPiece.calls a3_0 a3_1 t174 _ A10.out).mono ?_); rintro e w15 ⟨rfl, hb⟩; replace BK171 := bb_ BK171 hb; replace BK172 := bb_ BK172 hb; replace HB := hs_ HB hb; (try clear hb); (try clear hb2); (try clear hk); (try clear hi)))
   go_meet
   case rel => exact ⟨_, (!t174), (by first | rfl | (simp; done) | (simp [*]; done)), H', ⟨by first | omega | exact Nat.le_refl _⟩, ⟨bx_ BK171.out⟩, ⟨bx_ BK172.out⟩, ⟨hx_ HB.out⟩⟩
  ·replace c9 := Bool.eq_false_iff.mpr c9
   subst c9
   have H1 : (impl_GridCuts.j0 k a1 a2 true a0_0 a0_1 a3_0 a3_1) = some (r1, r2) := by rw [if_neg (show ¬ (false = true) by decide)] at H; exact H
   clear H
   have H := H1
   clear H1
   have H' := Aside0.mk H
   clear H
   have hnb16 := NB171_172.out
   have hnc16 := NB172_171.out
   have hcz17_0 : w7.cell? ⟨gb171, 0, none⟩ = some (.int .i64 a0_0) := (blk_cell BK171.out 0).trans rfl
   have hcz17_1 : w7.cell? ⟨gb171, 1, none⟩ = some (.int .i64 a0_1) := (blk_cell BK171.out 1).trans rfl
   have hfz17_0 := blk_frozen BK171.out 0
   have hfz17_1 := blk_frozen BK171.out 1
   go_wp2_with (first | ((with_reducible refine gc_ 20 rfl ?_); refine gl_ (some 18) rfl rfl Tryz.func20 rfl #[.agg #[.int .i64 a0_0, .int .i64 a0_1]] rfl ?_; (with_reducible refine (impl_IsPiece.calls a0_0 a0_1 false _ A8.out).mono ?_); rintro e w18 ⟨rfl, hb⟩; refine ⟨_, rfl, ?_⟩; replace BK171 := bb_ BK171 hb; replace BK172 := bb_ BK172 hb; replace HB := hs_ HB hb; (try clear hb); (try clear hb2); (try clear hk); (try clear hi)))
   go_meet
   case rel => exact ⟨_, (true), (by first | rfl | (simp; done) | (simp [*]; done)), H', ⟨by first | omega | exact Nat.le_refl _⟩, ⟨bx_ BK171.out⟩, ⟨bx_ BK172.out⟩, ⟨hx_ HB.out⟩⟩
 case rest =>
  clear HC5
  (try clear c1); (try clear c2); (try clear p2); (try clear c6); (try clear c9); (try clear c11); (try clear c16); (try clear hcz12_0); (try clear hcz12_1); (try clear hcz14_0); (try clear hcz14_1); (try clear hcz17_0); (try clear hcz17_1); (try clear hfz12_0); (try clear hfz12_1); (try clear hfz14_0); (try clear hfz14_1); (try clear hfz17_0); (try clear hfz17_1)
  obtain ⟨kq, x16_4, rfl, HA, HJ4, BK171, BK172, HB⟩ := hcut
  cases kq with
  | zero => exact absurd HA.out (by simp [impl_GridCuts.j0])
  | succ kj4 =>
   have H := HA.out
   clear HA
   simp only [impl_GridCuts.j0] at H
   by_cases c19 : x16_4 = true
   ·subst c19
    have H1 : (some (([] : List (S50)), 1)) = some (r1, r2) := by rw [if_pos rfl] at H; exact H
    clear H
    have H := H1
    clear H1
    simp only [Option.some.injEq, Prod.mk.injEq] at H
    obtain ⟨rfl, rfl⟩ := H
    go_wp2
    go_ret2
    exact ⟨_, by first | rfl | (simp [errW_none, errW_some] <;> rfl) | (simp [*, errW_none, errW_some] <;> rfl), by first | exact Kd.R_nil _ _ _ _ _ | exact Kd.N_nil _ _ _ _ _ | exact Kd.V_nil _ _ _ _ _ | exact Kd.Q_nil _ _ _ _ _ | exact Kd.S_nil _ _ _ _ _, hx_ HB.out⟩
   ·replace c19 := Bool.eq_false_iff.mpr c19
    subst c19
    have H1 : ((impl_inRange.f a1 1 80).bind fun t175 => (if t175 = true then ((impl_inRange.f a2 1 80).bind fun t176 => (if t176 = true then ((impl_toInt.f (decide (a0_0 > (wrap64 (a1 * a3_0))))).bind fun t177 => ((impl_toInt.f (decide (a0_1 > (wrap64 (a2 * a3_1))))).bind fun t178 => (if (wrap64 ((wrap64 ((wrap64 (a1 - 1)) + t177)) + (wrap64 (a1 * (wrap64 ((wrap64 (a2 - 1)) + t178)))))) > 79 then (some (([] : List (S50)), 3)) else (if a0_0 < (wrap64 (a1 * a3_0)) then (some (([] : List (S50)), 5)) else (if a0_1 < (wrap64 (a2 * a3_1)) then (some (([] : List (S50)), 5)) else (impl_GridCuts.l0 kj4 a1 (wrap64 ((wrap64 (a2 - 1)) + t178)) (([] : List (S50))) (wrap64 ((wrap64 (a1 - 1)) + t177)) 0 a3_0 a3_1)))))) else (some (([] : List (S50)), 2)))) else (some (([] : List (S50)), 2)))) = some (r1, r2) := by rw [if_neg (show ¬ (false = true) by decide)] at H; exact H
    clear H
    have H := H1
    clear H1
    replace H := Option.bind_eq_some_iff.mp H
    obtain ⟨t175, A200, H⟩ := H
    try dsimp only at H
    have A20 := Aside0.mk A200
    clear A200
    by_cases c21 : t175 = true
    ·subst c21
     have H1 : ((impl_inRange.f a2 1 80).bind fun t176 => (if t176 = true then ((impl_toInt.f (decide (a0_0 > (wrap64 (a1 * a3_0))))).bind fun t177 => ((impl_toInt.f (decide (a0_1 > (wrap64 (a2 * a3_1))))).bind fun t178 => (if (wrap64 ((wrap64 ((wrap64 (a1 - 1)) + t177)) + (wrap64 (a1 * (wrap64 ((wrap64 (a2 - 1)) + t178)))))) > 79 then (some (([] : List (S50)), 3)) else (if a0_0 < (wrap64 (a1 * a3_0)) then (some (([] : List (S50)), 5)) else (if a0_1 < (wrap64 (a2 * a3_1)) then (some (([] : List (S50)), 5)) else (impl_GridCuts.l0 kj4 a1 (wrap64 ((wrap64 (a2 - 1)) + t178)) (([] : List (S50))) (wrap64 ((wrap64 (a1 - 1)) + t177)) 0 a3_0 a3_1)))))) else (some (([] : List (S50)), 2)))) = some (r1, r2) := by rw [if_pos rfl] at H; exact H
     clear H
     have H := H1
     clear H1
     replace H := Option.bind_eq_some_iff.mp H
     obtain ⟨t176, A220, H⟩ := H
     try dsimp only at H
     have A22 := Aside0.mk A220
     clear A220
     by_cases c23 : t176 = true
     ·subst c23
      have H1 : ((impl_toInt.f (decide (a0_0 > (wrap64 (a1 * a3_0))))).bind fun t177 => ((impl_toInt.f (decide (a0_1 > (wrap64 (a2 * a3_1))))).bind fun t178 => (if (wrap64 ((wrap64 ((wrap64 (a1 - 1)) + t177)) + (wrap64 (a1 * (wrap64 ((wrap64 (a2 - 1)) + t178)))))) > 79 then (some (([] : List (S50)), 3)) else (if a0_0 < (wrap64 (a1 * a3_0)) then (some (([] : List (S50)), 5)) else (if a0_1 < (wrap64 (a2 * a3_1)) then (some (([] : List (S50)), 5)) else (impl_GridCuts.l0 kj4 a1 (wrap64 ((wrap64 (a2 - 1)) + t178)) (([] : List (S50))) (wrap64 ((wrap64 (a1 - 1)) + t177)) 0 a3_0 a3_1)))))) = some (r1, r2) := by rw [if_pos rfl] at H; exact H
      clear H
      have H := H1
      clear H1
      replace H := Option.bind_eq_some_iff.mp H
      obtain ⟨t177, A240, H⟩ := H
      try dsimp only at H
      have A24 := Aside0.mk A240
      clear A240
      replace H := Option.bind_eq_some_iff.mp H
      obtain ⟨t178, A250, H⟩ := H
      try dsimp only at H
      have A25 := Aside0.mk A250
      clear A250
      by_cases c26 : (wrap64 ((wrap64 ((wrap64 (a1 - 1)) + t177)) + (wrap64 (a1 * (wrap64 ((wrap64 (a2 - 1)) + t178)))))) > 79
      ·rw [if_pos c26] at H
       have c26b0 : decide (79 < (wrap64 ((wrap64 ((wrap64 (a1 - 1)) + t177)) + (wrap64 (a1 * (wrap64 ((wrap64 (a2 - 1)) + t178))))))) = true := decide_eq_true c26
       clear c26
       simp only [Option.some.injEq, Prod.mk.injEq] at H
       obtain ⟨rfl, rfl⟩ := H
       go_wp2_with (first | ((with_reducible refine gc_ 21 rfl ?_); refine gl_ (some 27) rfl rfl Tryz.func21 rfl #[.int .i64 a1, .int .i64 1, .int .i64 80] rfl ?_; (with_reducible refine (impl_inRange.calls a1 1 80 true _ A20.out).mono ?_); rintro e w' ⟨rfl, ⟨nd, rfl⟩⟩; refine ⟨_, rfl, ?_⟩) | (go_at_call 21; (with_reducible refine (impl_inRange.calls a2 1 80 true _ A22.out).mono ?_); rintro e w' ⟨rfl, ⟨nd, rfl⟩⟩; have hnb27 := NB171_172.out; have hnc27 := NB172_171.out; have hcz28_0 : wc.cell? ⟨gb171, 0, none⟩ = some (.int .i64 a0_0) := (blk_cell BK171.out 0).trans rfl; have hcz28_1 : wc.cell? ⟨gb171, 1, none⟩ = some (.int .i64 a0_1) := (blk_cell BK171.out 1).trans rfl; have hfz28_0 := blk_frozen BK171.out 0; have hfz28_1 := blk_frozen BK171.out 1; have hcz29_0 : wc.cell? ⟨gb172, 0, none⟩ = some (.int .i64 a3_0) := (blk_cell BK172.out 0).trans rfl; have hcz29_1 : wc.cell? ⟨gb172, 1, none⟩ = some (.int .i64 a3_1) := (blk_cell BK172.out 1).trans rfl; have hfz29_0 := blk_frozen BK172.out 0; have hfz29_1 := blk_frozen BK172.out 1) | ((with_reducible refine gc_ 22 rfl ?_); refine gl_ (some 43) rfl rfl Tryz.func22 rfl #[.bool (decide (a0_0 > (wrap64 (a1 * a3_0))))] rfl ?_; (with_reducible refine (impl_toInt.calls (decide (a0_0 > (wrap64 (a1 * a3_0)))) t177 _ A24.out).mono ?_); rintro e w' ⟨rfl, ⟨nd, rfl⟩⟩; refine ⟨_, rfl, ?_⟩) | ((with_reducible refine gc_ 22 rfl ?_); refine gl_ (some 54) rfl rfl Tryz.func22 rfl #[.bool (decide (a0_1 > (wrap64 (a2 * a3_1))))] rfl ?_; (with_reducible refine (impl_toInt.calls (decide (a0_1 > (wrap64 (a2 * a3_1)))) t178 _ A25.out).mono ?_); rintro e w' ⟨rfl, ⟨nd, rfl⟩⟩; refine ⟨_, rfl, ?_⟩))
       go_ret2
       exact ⟨_, by first | rfl | (simp [errW_none, errW_some] <;> rfl) | (simp [*, errW_none, errW_some] <;> rfl), by first | exact Kd.R_nil _ _ _ _ _ | exact Kd.N_nil _ _ _ _ _ | exact Kd.V_nil _ _ _ _ _ | exact Kd.Q_nil _ _ _ _ _ | exact Kd.S_nil _ _ _ _ _, hx_ HB.out⟩
      ·rw [if_neg c26] at H
       have c26b0 : decide (79 < (wrap64 ((wrap64 ((wrap64 (a1 - 1)) + t177)) + (wrap64 (a1 * (wrap64 ((wrap64 (a2 - 1)) + t178))))))) = false := decide_eq_false c26
       clear c26
       by_cases c30 : a0_0 < (wrap64 (a1 * a3_0))
       ·rw [if_pos c30] at H
        have c30b0 : decide (a0_0 < (wrap64 (a1 * a3_0))) = true := decide_eq_true c30
        clear c30
        simp only [Option.some.injEq, Prod.mk.injEq] at H
        obtain ⟨rfl, rfl⟩ := H
        go_wp2_with (first | ((with_reducible refine gc_ 21 rfl ?_); refine gl_ (some 27) rfl rfl Tryz.func21 rfl #[.int .i64 a1, .int .i64 1, .int .i64 80] rfl ?_; (with_reducible refine (impl_inRange.calls a1 1 80 true _ A20.out).mono ?_); rintro e w' ⟨rfl, ⟨nd, rfl⟩⟩; refine ⟨_, rfl, ?_⟩) | (go_at_call 21; (with_reducible refine (impl_inRange.calls a2 1 80 true _ A22.out).mono ?_); rintro e w' ⟨rfl, ⟨nd, rfl⟩⟩; have hnb31 := NB171_172.out; have hnc31 := NB172_171.out; have hcz32_0 : wc.cell? ⟨gb171, 0, none⟩ = some (.int .i64 a0_0) := (blk_cell BK171.out 0).trans rfl; have hcz32_1 : wc.cell? ⟨gb171, 1, none⟩ = some (.int .i64 a0_1) := (blk_cell BK171.out 1).trans rfl; have hfz32_0 := blk_frozen BK171.out 0; have hfz32_1 := blk_frozen BK171.out 1; have hcz33_0 : wc.cell? ⟨gb172, 0, none⟩ = some (.int .i64 a3_0) := (blk_cell BK172.out 0).trans rfl; have hcz33_1 : wc.cell? ⟨gb172, 1, none⟩ = some (.int .i64 a3_1) := (blk_cell BK172.out 1).trans rfl; have hfz33_0 := blk_frozen BK172.out 0; have hfz33_1 := blk_frozen BK172.out 1) | ((with_reducible refine gc_ 22 rfl ?_); refine gl_ (some 43) rfl rfl Tryz.func22 rfl #[.bool (decide (a0_0 > (wrap64 (a1 * a3_0))))] rfl ?_; (with_reducible refine (impl_toInt.calls (decide (a0_0 > (wrap64 (a1 * a3_0)))) t177 _ A24.out).mono ?_); rintro e w' ⟨rfl, ⟨nd, rfl⟩⟩; refine ⟨_, rfl, ?_⟩) | ((with_reducible refine gc_ 22 rfl ?_); refine gl_ (some 54) rfl rfl Tryz.func22 rfl #[.bool (decide (a0_1 > (wrap64 (a2 * a3_1))))] rfl ?_; (with_reducible refine (impl_toInt.calls (decide (a0_1 > (wrap64 (a2 * a3_1)))) t178 _ A25.out).mono ?_); rintro e w' ⟨rfl, ⟨nd, rfl⟩⟩; refine ⟨_, rfl, ?_⟩))
        go_ret2
        exact ⟨_, by first | rfl | (simp [errW_none, errW_some] <;> rfl) | (simp [*, errW_none, errW_some] <;> rfl), by first | exact Kd.R_nil _ _ _ _ _ | exact Kd.N_nil _ _ _ _ _ | exact Kd.V_nil _ _ _ _ _ | exact Kd.Q_nil _ _ _ _ _ | exact Kd.S_nil _ _ _ _ _, hx_ HB.out⟩
       ·rw [if_neg c30] at H
        have c30b0 : decide (a0_0 < (wrap64 (a1 * a3_0))) = false := decide_eq_false c30
        clear c30
        by_cases c34 : a0_1 < (wrap64 (a2 * a3_1))
        ·rw [if_pos c34] at H
         have c34b0 : decide (a0_1 < (wrap64 (a2 * a3_1))) = true := decide_eq_true c34
         clear c34
         simp only [Option.some.injEq, Prod.mk.injEq] at H
         obtain ⟨rfl, rfl⟩ := H
         go_wp2_with (first | ((with_reducible refine gc_ 21 rfl ?_); refine gl_ (some 27) rfl rfl Tryz.func21 rfl #[.int .i64 a1, .int .i64 1, .int .i64 80] rfl ?_; (with_reducible refine (impl_inRange.calls a1 1 80 true _ A20.out).mono ?_); rintro e w' ⟨rfl, ⟨nd, rfl⟩⟩; refine ⟨_, rfl, ?_⟩) | (go_at_call 21; (with_reducible refine (impl_inRange.calls a2 1 80 true _ A22.out).mono ?_); rintro e w' ⟨rfl, ⟨nd, rfl⟩⟩; have hnb35 := NB171_172.out; have hnc35 := NB172_171.out; have hcz36_0 : wc.cell? ⟨gb171, 0, none⟩ = some (.int .i64 a0_0) := (blk_cell BK171.out 0).trans rfl; have hcz36_1 : wc.cell? ⟨gb171, 1, none⟩ = some (.int .i64 a0_1) := (blk_cell BK171.out 1).trans rfl; have hfz36_0 := blk_frozen BK171.out 0; have hfz36_1 := blk_frozen BK171.out 1; have hcz37_0 : wc.cell? ⟨gb172, 0, none⟩ = some (.int .i64 a3_0) := (blk_cell BK172.out 0).trans rfl; have hcz37_1 : wc.cell? ⟨gb172, 1, none⟩ = some (.int .i64 a3_1) := (blk_cell BK172.out 1).trans rfl; have hfz37_0 := blk_frozen BK172.out 0; have hfz37_1 := blk_frozen BK172.out 1) | ((with_reducible refine gc_ 22 rfl ?_); refine gl_ (some 43) rfl rfl Tryz.func22 rfl #[.bool (decide (a0_0 > (wrap64 (a1 * a3_0))))] rfl ?_; (with_reducible refine (impl_toInt.calls (decide (a0_0 > (wrap64 (a1 * a3_0)))) t177 _ A24.out).mono ?_); rintro e w' ⟨rfl, ⟨nd, rfl⟩⟩; refine ⟨_, rfl, ?_⟩) | ((with_reducible refine gc_ 22 rfl ?_); refine gl_ (some 54) rfl rfl Tryz.func22 rfl #[.bool (decide (a0_1 > (wrap64 (a2 * a3_1))))] rfl ?_; (with_reducible refine (impl_toInt.calls (decide (a0_1 > (wrap64 (a2 * a3_1)))) t178 _ A25.out).mono ?_); rintro e w' ⟨rfl, ⟨nd, rfl⟩⟩; refine ⟨_, rfl, ?_⟩))
         go_ret2
         exact ⟨_, by first | rfl | (simp [errW_none, errW_some] <;> rfl) | (simp [*, errW_none, errW_some] <;> rfl), by first | exact Kd.R_nil _ _ _ _ _ | exact Kd.N_nil _ _ _ _ _ | exact Kd.V_nil _ _ _ _ _ | exact Kd.Q_nil _ _ _ _ _ | exact Kd.S_nil _ _ _ _ _, hx_ HB.out⟩
        ·rw [if_neg c34] at H
         have c34b0 : decide (a0_1 < (wrap64 (a2 * a3_1))) = false := decide_eq_false c34
         clear c34
         obtain ⟨y179, hy179⟩ : ∃ y_ : List (S50), y_ = (([] : List (S50))) := ⟨_, rfl⟩
         replace H : (impl_GridCuts.l0 kj4 a1 (wrap64 ((wrap64 (a2 - 1)) + t178)) y179 (wrap64 ((wrap64 (a1 - 1)) + t177)) 0 a3_0 a3_1) = some (r1, r2) := by first | (rw [hy179]; with_reducible exact H) | (have H2_ := (Option.bind_some _ _).symm.trans H; rw [hy179]; with_reducible exact H2_) | (have H2_ := (Option.bind_some _ _).symm.trans H; with_reducible exact H2_) | with_reducible exact H | (rw [hy179]; exact H) | exact H
         have Ny179 := Aside0.mk hy179
         clear hy179
         have H' := Aside0.mk H
         clear H
         go_wp2_with (first | ((with_reducible refine gc_ 21 rfl ?_); refine gl_ (some 27) rfl rfl Tryz.func21 rfl #[.int .i64 a1, .int .i64 1, .int .i64 80] rfl ?_; (with_reducible refine (impl_inRange.calls a1 1 80 true _ A20.out).mono ?_); rintro e w' ⟨rfl, ⟨nd, rfl⟩⟩; refine ⟨_, rfl, ?_⟩) | (go_at_call 21; (with_reducible refine (impl_inRange.calls a2 1 80 true _ A22.out).mono ?_); rintro e w' ⟨rfl, ⟨nd, rfl⟩⟩; have hnb38 := NB171_172.out; have hnc38 := NB172_171.out; have hcz39_0 : wc.cell? ⟨gb171, 0, none⟩ = some (.int .i64 a0_0) := (blk_cell BK171.out 0).trans rfl; have hcz39_1 : wc.cell? ⟨gb171, 1, none⟩ = some (.int .i64 a0_1) := (blk_cell BK171.out 1).trans rfl; have hfz39_0 := blk_frozen BK171.out 0; have hfz39_1 := blk_frozen BK171.out 1; have hcz40_0 : wc.cell? ⟨gb172, 0, none⟩ = some (.int .i64 a3_0) := (blk_cell BK172.out 0).trans rfl; have hcz40_1 : wc.cell? ⟨gb172, 1, none⟩ = some (.int .i64 a3_1) := (blk_cell BK172.out 1).trans rfl; have hfz40_0 := blk_frozen BK172.out 0; have hfz40_1 := blk_frozen BK172.out 1) | ((with_reducible refine gc_ 22 rfl ?_); refine gl_ (some 43) rfl rfl Tryz.func22 rfl #[.bool (decide (a0_0 > (wrap64 (a1 * a3_0))))] rfl ?_; (with_reducible refine (impl_toInt.calls (decide (a0_0 > (wrap64 (a1 * a3_0)))) t177 _ A24.out).mono ?_); rintro e w' ⟨rfl, ⟨nd, rfl⟩⟩; refine ⟨_, rfl, ?_⟩) | ((with_reducible refine gc_ 22 rfl ?_); refine gl_ (some 54) rfl rfl Tryz.func22 rfl #[.bool (decide (a0_1 > (wrap64 (a2 * a3_1))))] rfl ?_; (with_reducible refine (impl_toInt.calls (decide (a0_1 > (wrap64 (a2 * a3_1)))) t178 _ A25.out).mono ?_); rintro e w' ⟨rfl, ⟨nd, rfl⟩⟩; refine ⟨_, rfl, ?_⟩) | ((with_reducible refine gd_ 80 rfl ?_); refine Kd.R_lit k50 _ 50 ?hg (N := 80) ?hd (xs := ([] : List (S50))) (inner := []) (ok := fun _ => True) (okp := fun _ => True) ?hr ?hp (fun _ hk => hk) trivial (Below.refl _ _) (Nat.le_refl _) (by simp) ?_; (case hd => rfl); (case hg => rfl); (case hr => first | (go_simp; done) | (go_simp; rfl)); (case hp => exact (Reps.none _ _)); intro v180 w41 ho42 hb hg_ hnew_; clear hg_ hnew_; (first | rw [← Ny179.out] at ho42 | (simp only [Int.reduceToNat] at ho42; rw [← Ny179.out] at ho42)); have HO181 := am_ (Kd.R_lower ho42 (below_size (hx_ HB.out))); replace BK171 := bb_ BK171 hb; replace BK172 := bb_ BK172 hb; replace HB := hs_ HB hb; clear hb ho42))
         go_loopg [12, 82] kj4 (fun kq v12 v82 w' => ∃ (x12_2 : List (S50)) (x82_2 : Int), v82 = .int .i64 x82_2 ∧ Aside0 (impl_GridCuts.l0 kq a1 (wrap64 ((wrap64 (a2 - 1)) + t178)) x12_2 (wrap64 ((wrap64 (a1 - 1)) + t177)) x82_2 a3_0 a3_1 = some (r1, r2)) ∧ Aside0 (kq ≤ kj4) ∧ Aside0 (Kd.R k50 50 w' w.heap.size (fun _ => True) v12 x12_2) ∧ Aside0 (w'.heap[gb171]? = some (.cells #[.int .i64 a0_0, .int .i64 a0_1] 25 (0, 0))) ∧ Aside0 (w'.heap[gb172]? = some (.cells #[.int .i64 a3_0, .int .i64 a3_1] 25 (0, 0))) ∧ Aside0 (Below w.heap.size w w'))
         case atStart => exact ⟨(y179), (0), (by first | rfl | (simp; done) | (simp [*]; done)), H', ⟨Nat.le_refl _⟩, ⟨rx_ HO181.out⟩, ⟨bx_ BK171.out⟩, ⟨bx_ BK172.out⟩, ⟨hx_ HB.out⟩⟩
         case round =>
          clear H'
          (try clear c1); (try clear c2); (try clear p2); (try clear c3); (try clear c6); (try clear p6); (try clear c9); (try clear c11); (try clear c16); (try clear c19); (try clear c20); (try clear c21); (try clear c22); (try clear c23); (try clear c26); (try clear c26b0); (try clear c27); (try clear c30); (try clear c30b0); (try clear c31); (try clear c34); (try clear c34b0); (try clear c35); (try clear c38); (try clear hcz12_0); (try clear hcz12_1); (try clear hcz14_0); (try clear hcz14_1); (try clear hcz17_0); (try clear hcz17_1); (try clear hcz28_0); (try clear hcz28_1); (try clear hcz29_0); (try clear hcz29_1); (try clear hcz32_0); (try clear hcz32_1); (try clear hcz33_0); (try clear hcz33_1); (try clear hcz36_0); (try clear hcz36_1); (try clear hcz37_0); (try clear hcz37_1); (try clear hcz39_0); (try clear hcz39_1); (try clear hcz40_0); (try clear hcz40_1); (try clear hfz12_0); (try clear hfz12_1); (try clear hfz14_0); (try clear hfz14_1); (try clear hfz17_0); (try clear hfz17_1); (try clear hfz28_0); (try clear hfz28_1); (try clear hfz29_0); (try clear hfz29_1); (try clear hfz32_0); (try clear hfz32_1); (try clear hfz33_0); (try clear hfz33_1); (try clear hfz36_0); (try clear hfz36_1); (try clear hfz37_0); (try clear hfz37_1); (try clear hfz39_0); (try clear hfz39_1); (try clear hfz40_0); (try clear hfz40_1); (try clear p2)
          obtain ⟨x12_2, x82_2, rfl, HA, HK2, HO_12, BK171, BK172, HB⟩ := hrel
          cases gk with
          | zero => exact absurd HA.out (by simp [impl_GridCuts.l0])
          | succ k2 =>
           have H := HA.out
           clear HA
           simp only [impl_GridCuts.l0] at H
           by_cases c43 : x82_2 < (wrap64 ((wrap64 (a1 - 1)) + t177))
           ·rw [if_pos c43] at H
            have c43b0 : decide (x82_2 < (wrap64 ((wrap64 (a1 - 1)) + t177))) = true := decide_eq_true c43
            clear c43
            by_cases c44 : x12_2.length < 5864062014805
            ·rw [if_pos c44] at H
             have LMc44 := Aside0.mk c44
             clear c44
             obtain ⟨y182, hy182⟩ : ∃ y_ : List (S50), y_ = (x12_2 ++ [(⟨x82_2, false, a3_0⟩ : S50)]) := ⟨_, rfl⟩
             replace H : (impl_GridCuts.l0 k2 a1 (wrap64 ((wrap64 (a2 - 1)) + t178)) y182 (wrap64 ((wrap64 (a1 - 1)) + t177)) (wrap64 (x82_2 + 1)) a3_0 a3_1) = some (r1, r2) := by first | (rw [hy182]; with_reducible exact H) | (have H2_ := (Option.bind_some _ _).symm.trans H; rw [hy182]; with_reducible exact H2_) | (have H2_ := (Option.bind_some _ _).symm.trans H; with_reducible exact H2_) | with_reducible exact H | (rw [hy182]; exact H) | exact H
             have Ny182 := Aside0.mk hy182
             clear hy182
             have H' := Aside0.mk H
             clear H
             have hnb45 := NB172_171.out
             have hnc45 := NB171_172.out
             have hcz46_0 : wr.cell? ⟨gb172, 0, none⟩ = some (.int .i64 a3_0) := (blk_cell BK172.out 0).trans rfl
             have hcz46_1 : wr.cell? ⟨gb172, 1, none⟩ = some (.int .i64 a3_1) := (blk_cell BK172.out 1).trans rfl
             have hfz46_0 := blk_frozen BK172.out 0
             have hfz46_1 := blk_frozen BK172.out 1
             go_wp2_with (first | ((with_reducible refine gate_builtin (b := .append) (xs := #[.tmp 85, .tmp 90]) rfl ?_); at_builtin; refine Kd.R_append k50 (w0 := w) w.heap.size rfl (.tmp 85) (.tmp 90) 28 50 (.agg #[(.int .i64 0), (.bool false), (.int .i64 0)]) 24 rfl Tryz.underlying28 info50 rfl (by decide) (by omega) u12 x12_2 (⟨x82_2, false, a3_0⟩ : S50) [.int .i64 x82_2, .bool false, .int .i64 a3_0] (fun _ => True) (fun _ => False) rfl rfl ?aP (fun _ hk => hk.elim) ?aF ?aO ?aB ?aS ?aL ?_; (case aP => exact k50_mkM _ _ _ (⟨x82_2, false, a3_0⟩ : S50)); (case aB => exact (hx_ HB.out)); (case aF => exact (fun _ _ => trivial)); (case aO => exact (rx_ HO_12.out)); (case aS => exact (below_size (hx_ HB.out))); (case aL => have := LMc44.out; omega); intro v183 w47 ho hb hg hat; rw [← Ny182.out] at ho; replace BK171 := am_ (blk_grown (g := gb171) (o := .cells #[.int .i64 a0_0, .int .i64 a0_1] 25 (0, 0)) (bx_ BK171.out) hg (Kd.R_ne HO_12.out BK171.out (by decide))); replace BK172 := am_ (blk_grown (g := gb172) (o := .cells #[.int .i64 a3_0, .int .i64 a3_1] 25 (0, 0)) (bx_ BK172.out) hg (Kd.R_ne HO_12.out BK172.out (by decide))); replace HB := am_ hb; have HO184 := am_ ho; clear HO_12; clear ho hb hg hat))
             go_roundg k2
             case measure => have := HJ4.out; have := HK2.out; omega
             case rel => exact ⟨(y182), (wrap64 (x82_2 + 1)), (by first | rfl | (simp; done) | (simp [*]; done)), H', ⟨by have := HJ4.out; have := HK2.out; omega⟩, ⟨rx_ HO184.out⟩, ⟨bx_ BK171.out⟩, ⟨bx_ BK172.out⟩, ⟨hx_ HB.out⟩⟩
            ·rw [if_neg c44] at H
             exact absurd H (by simp)
           ·rw [if_neg c43] at H
            have c43b0 : decide (x82_2 < (wrap64 ((wrap64 (a1 - 1)) + t177))) = false := decide_eq_false c43
            clear c43
            have H' := Aside0.mk H
            clear H
            go_wp2
            go_loopg [12, 94] k2 (fun kq v12 v94 w' => ∃ (x12_3 : List (S50)) (x94_3 : Int), v94 = .int .i64 x94_3 ∧ Aside0 (impl_GridCuts.l1 kq (wrap64 ((wrap64 (a2 - 1)) + t178)) x12_3 a1 x94_3 a3_0 a3_1 = some (r1, r2)) ∧ Aside0 (kq ≤ k2) ∧ Aside0 (Kd.R k50 50 w' w.heap.size (fun _ => True) v12 x12_3) ∧ Aside0 (w'.heap[gb171]? = some (.cells #[.int .i64 a0_0, .int .i64 a0_1] 25 (0, 0))) ∧ Aside0 (w'.heap[gb172]? = some (.cells #[.int .i64 a3_0, .int .i64 a3_1] 25 (0, 0))) ∧ Aside0 (Below w.heap.size w w'))
            case atStart => exact ⟨(x12_2), (0), (by first | rfl | (simp; done) | (simp [*]; done)), H', ⟨Nat.le_refl _⟩, ⟨rx_ HO_12.out⟩, ⟨bx_ BK171.out⟩, ⟨bx_ BK172.out⟩, ⟨hx_ HB.out⟩⟩
            case round =>
             clear H'
             (try clear c1); (try clear c2); (try clear p2); (try clear c3); (try clear c4); (try clear c6); (try clear p6); (try clear c9); (try clear c11); (try clear c16); (try clear c19); (try clear c20); (try clear c21); (try clear c22); (try clear c23); (try clear c26); (try clear c26b0); (try clear c27); (try clear c30); (try clear c30b0); (try clear c31); (try clear c34); (try clear c34b0); (try clear c35); (try clear c38); (try clear c43); (try clear c43b0); (try clear c44); (try clear c45); (try clear hcz12_0); (try clear hcz12_1); (try clear hcz14_0); (try clear hcz14_1); (try clear hcz17_0); (try clear hcz17_1); (try clear hcz28_0); (try clear hcz28_1); (try clear hcz29_0); (try clear hcz29_1); (try clear hcz32_0); (try clear hcz32_1); (try clear hcz33_0); (try clear hcz33_1); (try clear hcz36_0); (try clear hcz36_1); (try clear hcz37_0); (try clear hcz37_1); (try clear hcz39_0); (try clear hcz39_1); (try clear hcz40_0); (try clear hcz40_1); (try clear hcz46_0); (try clear hcz46_1); (try clear hfz12_0); (try clear hfz12_1); (try clear hfz14_0); (try clear hfz14_1); (try clear hfz17_0); (try clear hfz17_1); (try clear hfz28_0); (try clear hfz28_1); (try clear hfz29_0); (try clear hfz29_1); (try clear hfz32_0); (try clear hfz32_1); (try clear hfz33_0); (try clear hfz33_1); (try clear hfz36_0); (try clear hfz36_1); (try clear hfz37_0); (try clear hfz37_1); (try clear hfz39_0); (try clear hfz39_1); (try clear hfz40_0); (try clear hfz40_1); (try clear hfz46_0); (try clear hfz46_1); (try clear p2); (try clear p6)
             obtain ⟨x12_3, x94_3, rfl, HA, HK3, HO_12, BK171, BK172, HB⟩ := hrel
             cases gk with
             | zero => exact absurd HA.out (by simp [impl_GridCuts.l1])
             | succ k3 =>
              have H := HA.out
              clear HA
              simp only [impl_GridCuts.l1] at H
              by_cases c48 : x94_3 < a1
              ·rw [if_pos c48] at H
               have c48b0 : decide (x94_3 < a1) = true := decide_eq_true c48
               clear c48
               have H' := Aside0.mk H
               clear H
               go_wp2
               go_loopg [12, 98] k3 (fun kq v12 v98 w' => ∃ (x12_4 : List (S50)) (x98_4 : Int), v98 = .int .i64 x98_4 ∧ Aside0 (impl_GridCuts.l2 kq (wrap64 ((wrap64 (a2 - 1)) + t178)) x12_4 x94_3 a1 x94_3 (wrap64 ((wrap64 (a2 - 1)) + t178)) x98_4 a3_0 a3_1 = some (r1, r2)) ∧ Aside0 (kq ≤ k3) ∧ Aside0 (Kd.R k50 50 w' w.heap.size (fun _ => True) v12 x12_4) ∧ Aside0 (w'.heap[gb171]? = some (.cells #[.int .i64 a0_0, .int .i64 a0_1] 25 (0, 0))) ∧ Aside0 (w'.heap[gb172]? = some (.cells #[.int .i64 a3_0, .int .i64 a3_1] 25 (0, 0))) ∧ Aside0 (Below w.heap.size w w'))
               case atStart => exact ⟨(x12_3), (0), (by first | rfl | (simp; done) | (simp [*]; done)), H', ⟨Nat.le_refl _⟩, ⟨rx_ HO_12.out⟩, ⟨bx_ BK171.out⟩, ⟨bx_ BK172.out⟩, ⟨hx_ HB.out⟩⟩
               case round =>
                clear H'
                (try clear c1); (try clear c2); (try clear p2); (try clear c3); (try clear c4); (try clear c6); (try clear p6); (try clear c9); (try clear c11); (try clear c16); (try clear c19); (try clear c20); (try clear c21); (try clear c22); (try clear c23); (try clear c26); (try clear c26b0); (try clear c27); (try clear c30); (try clear c30b0); (try clear c31); (try clear c34); (try clear c34b0); (try clear c35); (try clear c38); (try clear c43); (try clear c43b0); (try clear c44); (try clear c45); (try clear c48); (try clear c48b0); (try clear hcz12_0); (try clear hcz12_1); (try clear hcz14_0); (try clear hcz14_1); (try clear hcz17_0); (try clear hcz17_1); (try clear hcz28_0); (try clear hcz28_1); (try clear hcz29_0); (try clear hcz29_1); (try clear hcz32_0); (try clear hcz32_1); (try clear hcz33_0); (try clear hcz33_1); (try clear hcz36_0); (try clear hcz36_1); (try clear hcz37_0); (try clear hcz37_1); (try clear hcz39_0); (try clear hcz39_1); (try clear hcz40_0); (try clear hcz40_1); (try clear hcz46_0); (try clear hcz46_1); (try clear hfz12_0); (try clear hfz12_1); (try clear hfz14_0); (try clear hfz14_1); (try clear hfz17_0); (try clear hfz17_1); (try clear hfz28_0); (try clear hfz28_1); (try clear hfz29_0); (try clear hfz29_1); (try clear hfz32_0); (try clear hfz32_1); (try clear hfz33_0); (try clear hfz33_1); (try clear hfz36_0); (try clear hfz36_1); (try clear hfz37_0); (try clear hfz37_1); (try clear hfz39_0); (try clear hfz39_1); (try clear hfz40_0); (try clear hfz40_1); (try clear hfz46_0); (try clear hfz46_1); (try clear p2); (try clear p6)
                obtain ⟨x12_4, x98_4, rfl, HA, HK4, HO_12, BK171, BK172, HB⟩ := hrel
                cases gk with
                | zero => exact absurd HA.out (by simp [impl_GridCuts.l2])
                | succ k4 =>
                 have H := HA.out
                 clear HA
                 simp only [impl_GridCuts.l2] at H
                 by_cases c49 : x98_4 < (wrap64 ((wrap64 (a2 - 1)) + t178))
                 ·rw [if_pos c49] at H
                  have c49b0 : decide (x98_4 < (wrap64 ((wrap64 (a2 - 1)) + t178))) = true := decide_eq_true c49
                  clear c49
                  by_cases c50 : x12_4.length < 5864062014805
                  ·rw [if_pos c50] at H
                   have LMc50 := Aside0.mk c50
                   clear c50
                   obtain ⟨y185, hy185⟩ : ∃ y_ : List (S50), y_ = (x12_4 ++ [(⟨wrap64 ((wrap64 (x94_3 * (wrap64 ((wrap64 ((wrap64 (a2 - 1)) + t178)) + 1)))) + x98_4), true, a3_1⟩ : S50)]) := ⟨_, rfl⟩
                   replace H : (impl_GridCuts.l2 k4 (wrap64 ((wrap64 (a2 - 1)) + t178)) y185 x94_3 a1 x94_3 (wrap64 ((wrap64 (a2 - 1)) + t178)) (wrap64 (x98_4 + 1)) a3_0 a3_1) = some (r1, r2) := by first | (rw [hy185]; with_reducible exact H) | (have H2_ := (Option.bind_some _ _).symm.trans H; rw [hy185]; with_reducible exact H2_) | (have H2_ := (Option.bind_some _ _).symm.trans H; with_reducible exact H2_) | with_reducible exact H | (rw [hy185]; exact H) | exact H
                   have Ny185 := Aside0.mk hy185
                   clear hy185
                   have H' := Aside0.mk H
                   clear H
                   have hnb51 := NB172_171.out
                   have hnc51 := NB171_172.out
                   have hcz52_0 : wr.cell? ⟨gb172, 0, none⟩ = some (.int .i64 a3_0) := (blk_cell BK172.out 0).trans rfl
                   have hcz52_1 : wr.cell? ⟨gb172, 1, none⟩ = some (.int .i64 a3_1) := (blk_cell BK172.out 1).trans rfl
                   have hfz52_0 := blk_frozen BK172.out 0
                   have hfz52_1 := blk_frozen BK172.out 1
                   go_wp2_with (first | ((with_reducible refine gate_builtin (b := .append) (xs := #[.tmp 101, .tmp 111]) rfl ?_); at_builtin; refine Kd.R_append k50 (w0 := w) w.heap.size rfl (.tmp 101) (.tmp 111) 28 50 (.agg #[(.int .i64 0), (.bool false), (.int .i64 0)]) 24 rfl Tryz.underlying28 info50 rfl (by decide) (by omega) u12 x12_4 (⟨wrap64 ((wrap64 (x94_3 * (wrap64 ((wrap64 ((wrap64 (a2 - 1)) + t178)) + 1)))) + x98_4), true, a3_1⟩ : S50) [.int .i64 (wrap64 ((wrap64 (x94_3 * (wrap64 ((wrap64 ((wrap64 (a2 - 1)) + t178)) + 1)))) + x98_4)), .bool true, .int .i64 a3_1] (fun _ => True) (fun _ => False) rfl rfl ?aP (fun _ hk => hk.elim) ?aF ?aO ?aB ?aS ?aL ?_; (case aP => exact k50_mkM _ _ _ (⟨wrap64 ((wrap64 (x94_3 * (wrap64 ((wrap64 ((wrap64 (a2 - 1)) + t178)) + 1)))) + x98_4), true, a3_1⟩ : S50)); (case aB => exact (hx_ HB.out)); (case aF => exact (fun _ _ => trivial)); (case aO => exact (rx_ HO_12.out)); (case aS => exact (below_size (hx_ HB.out))); (case aL => have := LMc50.out; omega); intro v186 w53 ho hb hg hat; rw [← Ny185.out] at ho; replace BK171 := am_ (blk_grown (g := gb171) (o := .cells #[.int .i64 a0_0, .int .i64 a0_1] 25 (0, 0)) (bx_ BK171.out) hg (Kd.R_ne HO_12.out BK171.out (by decide))); replace BK172 := am_ (blk_grown (g := gb172) (o := .cells #[.int .i64 a3_0, .int .i64 a3_1] 25 (0, 0)) (bx_ BK172.out) hg (Kd.R_ne HO_12.out BK172.out (by decide))); replace HB := am_ hb; have HO187 := am_ ho; clear HO_12; clear ho hb hg hat))
                   go_roundg k4
                   case measure => have := HJ4.out; have := HK2.out; have := HK3.out; have := HK4.out; omega
                   case rel => exact ⟨(y185), (wrap64 (x98_4 + 1)), (by first | rfl | (simp; done) | (simp [*]; done)), H', ⟨by have := HJ4.out; have := HK2.out; have := HK3.out; have := HK4.out; omega⟩, ⟨rx_ HO187.out⟩, ⟨bx_ BK171.out⟩, ⟨bx_ BK172.out⟩, ⟨hx_ HB.out⟩⟩
                  ·rw [if_neg c50] at H
                   exact absurd H (by simp)
                 ·rw [if_neg c49] at H
                  have c49b0 : decide (x98_4 < (wrap64 ((wrap64 (a2 - 1)) + t178))) = false := decide_eq_false c49
                  clear c49
                  have H' := Aside0.mk H
                  clear H
                  go_wp2
                  go_roundg k4
                  case measure => have := HJ4.out; have := HK2.out; have := HK3.out; have := HK4.out; omega
                  case rel => exact ⟨(x12_4), (wrap64 (x94_3 + 1)), (by first | rfl | (simp; done) | (simp [*]; done)), H', ⟨by have := HJ4.out; have := HK2.out; have := HK3.out; have := HK4.out; omega⟩, ⟨rx_ HO_12.out⟩, ⟨bx_ BK171.out⟩, ⟨bx_ BK172.out⟩, ⟨hx_ HB.out⟩⟩
              ·rw [if_neg c48] at H
               have c48b0 : decide (x94_3 < a1) = false := decide_eq_false c48
               clear c48
               simp only [Option.some.injEq, Prod.mk.injEq] at H
               obtain ⟨rfl, rfl⟩ := H
               go_wp2
               go_ret2
               exact ⟨_, by first | rfl | (simp [errW_none, errW_some] <;> rfl) | (simp [*, errW_none, errW_some] <;> rfl), rx_ HO_12.out, hx_ HB.out⟩
     ·replace c23 := Bool.eq_false_iff.mpr c23
      subst c23
      have H1 : (some (([] : List (S50)), 2)) = some (r1, r2) := by rw [if_neg (show ¬ (false = true) by decide)] at H; exact H
      clear H
      have H := H1
      clear H1
      simp only [Option.some.injEq, Prod.mk.injEq] at H
      obtain ⟨rfl, rfl⟩ := H
      go_wp2_with (first | ((with_reducible refine gc_ 21 rfl ?_); refine gl_ (some 27) rfl rfl Tryz.func21 rfl #[.int .i64 a1, .int .i64 1, .int .i64 80] rfl ?_; (with_reducible refine (impl_inRange.calls a1 1 80 true _ A20.out).mono ?_); rintro e w' ⟨rfl, ⟨nd, rfl⟩⟩; refine ⟨_, rfl, ?_⟩) | (go_at_call 21; (with_reducible refine (impl_inRange.calls a2 1 80 false _ A22.out).mono ?_); rintro e w' ⟨rfl, ⟨nd, rfl⟩⟩))
      go_ret2
      exact ⟨_, by first | rfl | (simp [errW_none, errW_some] <;> rfl) | (simp [*, errW_none, errW_some] <;> rfl), by first | exact Kd.R_nil _ _ _ _ _ | exact Kd.N_nil _ _ _ _ _ | exact Kd.V_nil _ _ _ _ _ | exact Kd.Q_nil _ _ _ _ _ | exact Kd.S_nil _ _ _ _ _, hx_ HB.out⟩
    ·replace c21 := Bool.eq_false_iff.mpr c21
     subst c21
     have H1 : (some (([] : List (S50)), 2)) = some (r1, r2) := by rw [if_neg (show ¬ (false = true) by decide)] at H; exact H
     clear H
     have H := H1
     clear H1
     simp only [Option.some.injEq, Prod.mk.injEq] at H
     obtain ⟨rfl, rfl⟩ := H
     go_wp2_with (first | ((with_reducible refine gc_ 21 rfl ?_); refine gl_ (some 27) rfl rfl Tryz.func21 rfl #[.int .i64 a1, .int .i64 1, .int .i64 80] rfl ?_; (with_reducible refine (impl_inRange.calls a1 1 80 false _ A20.out).mono ?_); rintro e w' ⟨rfl, ⟨nd, rfl⟩⟩; refine ⟨_, rfl, ?_⟩))
     go_ret2
     exact ⟨_, by first | rfl | (simp [errW_none, errW_some] <;> rfl) | (simp [*, errW_none, errW_some] <;> rfl), by first | exact Kd.R_nil _ _ _ _ _ | exact Kd.N_nil _ _ _ _ _ | exact Kd.V_nil _ _ _ _ _ | exact Kd.Q_nil _ _ _ _ _ | exact Kd.S_nil _ _ _ _ _, hx_ HB.out⟩

/-! ### spec_l01In: function 24 -/
def spec_l01In.f (a0 : Int) (a1 : Int) (a2 : Int) : Option (Bool) := if a0 ≥ a1 then (some (decide (a0 ≤ a2))) else (some false)
set_option maxHeartbeats 8000000 in
set_option maxRecDepth 100000 in
theorem spec_l01In.calls (a0 : Int) (a1 : Int) (a2 : Int) (r : Bool) (w : World) (h : spec_l01In.f a0 a1 a2 = some r) :
  Calls Tryz.prog 24 #[.int .i64 a0, .int .i64 a1, .int .i64 a2] w fun e w' => e = .returned (.bool r) ∧ Drawn0 w w' := by
 have H : (if a0 ≥ a1 then (some (decide (a0 ≤ a2))) else (some false)) = some r := h
 clear h
 by_cases c4 : a0 ≥ a1
 ·rw [if_pos c4] at H
  have c4b0 : decide (a1 ≤ a0) = true := decide_eq_true c4
  clear c4
  obtain rfl := Option.some.inj H
  go_enter Tryz.func24, Tryz.ntmps24
  go_wp2
  go_ret
  exact ⟨by first | rfl | (simp; done) | (simp [*]; done), by repeat (first | exact Drawn0.refl _ | apply Drawn0.step)⟩
 ·rw [if_neg c4] at H
  have c4b0 : decide (a1 ≤ a0) = false := decide_eq_false c4
  clear c4
  obtain rfl := Option.some.inj H
  go_enter Tryz.func24, Tryz.ntmps24
  go_wp2
  go_ret
  exact ⟨by first | rfl | (simp; done) | (simp [*]; done), by repeat (first | exact Drawn0.refl _ | apply Drawn0.step)⟩

/-! ### spec_IsPiece: function 23 -/
def spec_IsPiece.f (a0_0 : Int) (a0_1 : Int) : Option (Bool) := (spec_l01In.f a0_0 1 20000).bind fun t189 => (if t189 = true then ((spec_l01In.f a0_1 1 20000).bind fun t190 => (some t190)) else (some false))
set_option maxHeartbeats 8000000 in
set_option maxRecDepth 100000 in
theorem spec_IsPiece.calls (a0_0 : Int) (a0_1 : Int) (r : Bool) (w : World) (h : spec_IsPiece.f a0_0 a0_1 = some r) :
  Calls Tryz.prog 23 #[.agg #[.int .i64 a0_0, .int .i64 a0_1]] w fun e w' => e = .returned (.bool r) ∧ Below w.heap.size w w' := by
 have hu25 := Tryz.underlying25
 have HB := Aside0.mk (Below.refl w.heap.size w)
 have H : ((spec_l01In.f a0_0 1 20000).bind fun t189 => (if t189 = true then ((spec_l01In.f a0_1 1 20000).bind fun t190 => (some t190)) else (some false))) = some r := h
 clear h
 replace H := Option.bind_eq_some_iff.mp H
 obtain ⟨t189, A20, H⟩ := H
 try dsimp only at H
 have A2 := Aside0.mk A20
 clear A20
 by_cases c3 : t189 = true
 ·subst c3
  have H1 : ((spec_l01In.f a0_1 1 20000).bind fun t190 => (some t190)) = some r := by rw [if_pos rfl] at H; exact H
  clear H
  have H := H1
  clear H1
  replace H := Option.bind_eq_some_iff.mp H
  obtain ⟨t190, A40, H⟩ := H
  try dsimp only at H
  have A4 := Aside0.mk A40
  clear A40
  obtain rfl := Option.some.inj H
  go_enter Tryz.func23, Tryz.ntmps23
  go_wp2_with (first | ((with_reducible refine gd_ 1 rfl ?_); refine be_ 1 #[.int .i64 a0_0, .int .i64 a0_1] 25 rfl rfl ?_; intro gb188 hg w5 hbox hb; have BK188 := am_ hbox; have GW188 := gw_ hg HB; have GE188 := gw_ hg HB; replace HB := hs_ HB hb; clear hb hbox hg; have hcz6_0 : w5.cell? ⟨gb188, 0, none⟩ = some (.int .i64 a0_0) := (blk_cell BK188.out 0).trans rfl; have hcz6_1 : w5.cell? ⟨gb188, 1, none⟩ = some (.int .i64 a0_1) := (blk_cell BK188.out 1).trans rfl; have hfz6_0 := blk_frozen BK188.out 0; have hfz6_1 := blk_frozen BK188.out 1) | ((with_reducible refine gc_ 24 rfl ?_); refine gl_ (some 5) rfl rfl Tryz.func24 rfl #[.int .i64 a0_0, .int .i64 1, .int .i64 20000] rfl ?_; (with_reducible refine (spec_l01In.calls a0_0 1 20000 true _ A2.out).mono ?_); rintro e w' ⟨rfl, ⟨nd, rfl⟩⟩; refine ⟨_, rfl, ?_⟩) | (go_at_call 24; (with_reducible refine (spec_l01In.calls a0_1 1 20000 t190 _ A4.out).mono ?_); rintro e w' ⟨rfl, ⟨nd, rfl⟩⟩))
  go_ret
  exact er_ (hx_ HB.out)
 ·replace c3 := Bool.eq_false_iff.mpr c3
  subst c3
  have H1 : (some false) = some r := by rw [if_neg (show ¬ (false = true) by decide)] at H; exact H
  clear H
  have H := H1
  clear H1
  obtain rfl := Option.some.inj H
  go_enter Tryz.func23, Tryz.ntmps23
  go_wp2_with (first | ((with_reducible refine gd_ 1 rfl ?_); refine be_ 1 #[.int .i64 a0_0, .int .i64 a0_1] 25 rfl rfl ?_; intro gb188 hg w7 hbox hb; have BK188 := am_ hbox; have GW188 := gw_ hg HB; have GE188 := gw_ hg HB; replace HB := hs_ HB hb; clear hb hbox hg; have hcz8_0 : w7.cell? ⟨gb188, 0, none⟩ = some (.int .i64 a0_0) := (blk_cell BK188.out 0).trans rfl; have hcz8_1 : w7.cell? ⟨gb188, 1, none⟩ = some (.int .i64 a0_1) := (blk_cell BK188.out 1).trans rfl; have hfz8_0 := blk_frozen BK188.out 0; have hfz8_1 := blk_frozen BK188.out 1) | ((with_reducible refine gc_ 24 rfl ?_); refine gl_ (some 5) rfl rfl Tryz.func24 rfl #[.int .i64 a0_0, .int .i64 1, .int .i64 20000] rfl ?_; (with_reducible refine (spec_l01In.calls a0_0 1 20000 false _ A2.out).mono ?_); rintro e w' ⟨rfl, ⟨nd, rfl⟩⟩; refine ⟨_, rfl, ?_⟩))
  go_ret
  exact er_ (hx_ HB.out)

end Go.Proofs.YtdafddgmeidclaaGreatDoor.PFnGridCuts
