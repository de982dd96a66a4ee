-- Written by wip/inject.py: a contract of each function that the law reaches; those of the stand-ins are proved in this seat's Hand texts
import Derived.Test.YtaapnjhgkbjdkaaPFnPackingsx0
import Derived.Test.YtaapnjhgkbjdkaaPFnPackingsx1
import Derived.Test.YtaapnjhgkbjdkaaPFnPackingsx2
import Derived.Test.YtaapnjhgkbjdkaaPFnPackingsx3
import Derived.Test.YtaapnjhgkbjdkaaPFnPackingsx5
import Derived.Test.YtaapnjhgkbjdkaaPFnPackingsx6
import Derived.Test.YtaapnjhgkbjdkaaPFnPackingsx7
import Derived.Test.YtaapnjhgkbjdkaaPFnPackingsx8
import Derived.Test.YtaapnjhgkbjdkaaPFnPackingsx10
namespace Go.Proofs.Ytaapnjhgkbjdkaa.PFnPackings
open Go.RowKit Go.Proofs.YtaapnjhgkbjdkaaW.PrintWords Go.Proofs.YtaapnjhgkbjdkaaW.PrintLast Go.Proofs.YtaapnjhgkbjdkaaW.PrintMore
attribute [local go_sem] max2_int min2_int max_two min_two max_three min_three max_four min_four   -- for this text's walks alone
set_option linter.unusedVariables false
set_option linter.unusedSimpArgs false

/-! ### laws_FnPackings: function 3 -/
mutual
def laws_FnPackings.j0 : Nat → Int → List Int → List Int → Int → List Int → Int → Int → List Int → List Int → Int → Bool → Option (Bool)
  | 0, _, _, _, _, _, _, _, _, _, _, _ => none
  | k + 1, x3, x4, x5, x6, x9, x13, x17, x18, x20, x21, x148 => if x148 = true then (none) else (if x21 = 0 then ((laws_sum.f k x20).bind fun t503 => ((laws_sum.f k x18).bind fun t504 => (laws_FnPackings.j1 k x3 x4 x5 x6 x9 x13 ((wrap64 (t503 + t504)) != (wrap64 ((x20.length : Int) * x17)))))) else (laws_FnPackings.j1 k x3 x4 x5 x6 x9 x13 false))
def laws_FnPackings.j1 : Nat → Int → List Int → List Int → Int → List Int → Int → Bool → Option (Bool)
  | 0, _, _, _, _, _, _, _ => none
  | k + 1, x3, x4, x5, x6, x9, x13, x162 => if x162 = true then (none) else (if x6 = 0 then ((impl_SparesOf.f k x3 x4 x5).bind fun bt505 => ((impl_SparesOf.f k x3 x4 x9).bind fun bt509 => (if bt505.2 = 0 then (if bt509.2 = 0 then (if (bt505.1.length : Int) ≥ x13 then (some (decide ((bt509.1.length : Int) ≥ x13))) else (none)) else (none)) else (none)))) else (some true))
end
def laws_FnPackings.f (k : Nat) (l0 : List Int) : Option (Bool) := (laws_big.f l0).bind fun t458 => (if t458 = true then (some true) else ((spec_DrawFirstFit.f k l0).bind fun bt459 => ((impl_FirstFit.f k bt459.1 bt459.2).bind fun bt463 => ((spec_FirstFit.f k bt459.1 bt459.2).bind fun bt467 => ((impl_LongestFirst.f k bt459.1 bt459.2).bind fun bt471 => ((spec_LongestFirst.f k bt459.1 bt459.2).bind fun bt475 => ((impl_RollBound.f k bt459.1 bt459.2).bind fun bt479 => ((spec_RollBound.f k bt459.1 bt459.2).bind fun bt481 => ((spec_DrawSparesOf.f k l0).bind fun bt483 => ((impl_SparesOf.f k bt483.1 bt483.2.1 bt483.2.2).bind fun bt490 => ((spec_SparesOf.f k bt483.1 bt483.2.1 bt483.2.2).bind fun bt494 => (if bt463.2 = bt467.2 then ((laws_likeInts.f k bt463.1 bt467.1).bind fun t498 => (if t498 = true then (if bt471.2 = bt475.2 then ((laws_likeInts.f k bt471.1 bt475.1).bind fun t499 => (if t499 = true then (if bt479.2 = bt481.2 then (if bt479.1 = bt481.1 then (if bt490.2 = bt494.2 then ((laws_likeInts.f k bt490.1 bt494.1).bind fun t500 => (if t500 = true then ((impl_IsPacking.f k bt483.1 bt483.2.1 bt483.2.2).bind fun t501 => (if (t501 != (bt494.2 == 0)) = true then (none) else ((impl_IsRollTask.f bt459.1 bt459.2).bind fun t502 => (laws_FnPackings.j0 k bt459.1 bt459.2 bt463.1 bt463.2 bt471.1 bt479.1 bt483.1 bt483.2.1 bt490.1 bt490.2 (t502 != (bt467.2 == 0)))))) else (none))) else (none)) else (none)) else (none)) else (none))) else (none)) else (none))) else (none)))))))))))))
theorem laws_FnPackings.mono_l : ∀ k, (∀ y0 y1 y2 y3 y4 y5 y6 y7 y8 y9 y10, LeO (laws_FnPackings.j0 k y0 y1 y2 y3 y4 y5 y6 y7 y8 y9 y10) (laws_FnPackings.j0 (k + 1) y0 y1 y2 y3 y4 y5 y6 y7 y8 y9 y10)) ∧ (∀ y0 y1 y2 y3 y4 y5 y6, LeO (laws_FnPackings.j1 k y0 y1 y2 y3 y4 y5 y6) (laws_FnPackings.j1 (k + 1) y0 y1 y2 y3 y4 y5 y6))
  | 0 => ⟨fun _ _ _ _ _ _ _ _ _ _ _ r h => by simp [laws_FnPackings.j0] at h, fun _ _ _ _ _ _ _ r h => by simp [laws_FnPackings.j1] at h⟩
  | k + 1 => by
    obtain ⟨ih0, ih1⟩ := laws_FnPackings.mono_l k
    refine ⟨?_, ?_⟩
    · intro y0 y1 y2 y3 y4 y5 y6 y7 y8 y9 y10
      unfold laws_FnPackings.j0
      repeat' first
      | (with_reducible exact ih0 _ _ _ _ _ _ _ _ _ _ _)
      | (with_reducible exact ih1 _ _ _ _ _ _ _)
      | (with_reducible exact impl_FirstFit.mono _ _ _)
      | (with_reducible exact impl_IsPacking.mono _ _ _ _)
      | (with_reducible exact impl_LongestFirst.mono _ _ _)
      | (with_reducible exact impl_RollBound.mono _ _ _)
      | (with_reducible exact impl_SparesOf.mono _ _ _ _)
      | (with_reducible exact laws_likeInts.mono _ _ _)
      | (with_reducible exact laws_sum.mono _ _)
      | (with_reducible exact spec_DrawFirstFit.mono _ _)
      | (with_reducible exact spec_DrawSparesOf.mono _ _)
      | (with_reducible exact spec_FirstFit.mono _ _ _)
      | (with_reducible exact spec_LongestFirst.mono _ _ _)
      | (with_reducible exact spec_RollBound.mono _ _ _)
      | (with_reducible exact spec_SparesOf.mono _ _ _ _)
      | (with_reducible exact LeO.refl _)
      | (with_reducible exact LeO.none _)
      | (with_reducible refine LeO.ite ?_ ?_)
      | (with_reducible refine LeO.bind ?_ (fun _ => ?_))
      | exact ih0 _ _ _ _ _ _ _ _ _ _ _
      | exact ih1 _ _ _ _ _ _ _
      | exact impl_FirstFit.mono _ _ _
      | exact impl_IsPacking.mono _ _ _ _
      | exact impl_LongestFirst.mono _ _ _
      | exact impl_RollBound.mono _ _ _
      | exact impl_SparesOf.mono _ _ _ _
      | exact laws_likeInts.mono _ _ _
      | exact laws_sum.mono _ _
      | exact spec_DrawFirstFit.mono _ _
      | exact spec_DrawSparesOf.mono _ _
      | exact spec_FirstFit.mono _ _ _
      | exact spec_LongestFirst.mono _ _ _
      | exact spec_RollBound.mono _ _ _
      | exact spec_SparesOf.mono _ _ _ _
      | exact LeO.none _
      | refine LeO.ite ?_ ?_
      | refine LeO.bind ?_ (fun _ => ?_)
    · intro y0 y1 y2 y3 y4 y5 y6
      unfold laws_FnPackings.j1
      repeat' first
      | (with_reducible exact ih0 _ _ _ _ _ _ _ _ _ _ _)
      | (with_reducible exact ih1 _ _ _ _ _ _ _)
      | (with_reducible exact impl_FirstFit.mono _ _ _)
      | (with_reducible exact impl_IsPacking.mono _ _ _ _)
      | (with_reducible exact impl_LongestFirst.mono _ _ _)
      | (with_reducible exact impl_RollBound.mono _ _ _)
      | (with_reducible exact impl_SparesOf.mono _ _ _ _)
      | (with_reducible exact laws_likeInts.mono _ _ _)
      | (with_reducible exact laws_sum.mono _ _)
      | (with_reducible exact spec_DrawFirstFit.mono _ _)
      | (with_reducible exact spec_DrawSparesOf.mono _ _)
      | (with_reducible exact spec_FirstFit.mono _ _ _)
      | (with_reducible exact spec_LongestFirst.mono _ _ _)
      | (with_reducible exact spec_RollBound.mono _ _ _)
      | (with_reducible exact spec_SparesOf.mono _ _ _ _)
      | (with_reducible exact LeO.refl _)
      | (with_reducible exact LeO.none _)
      | (with_reducible refine LeO.ite ?_ ?_)
      | (with_reducible refine LeO.bind ?_ (fun _ => ?_))
      | exact ih0 _ _ _ _ _ _ _ _ _ _ _
      | exact ih1 _ _ _ _ _ _ _
      | exact impl_FirstFit.mono _ _ _
      | exact impl_IsPacking.mono _ _ _ _
      | exact impl_LongestFirst.mono _ _ _
      | exact impl_RollBound.mono _ _ _
      | exact impl_SparesOf.mono _ _ _ _
      | exact laws_likeInts.mono _ _ _
      | exact laws_sum.mono _ _
      | exact spec_DrawFirstFit.mono _ _
      | exact spec_DrawSparesOf.mono _ _
      | exact spec_FirstFit.mono _ _ _
      | exact spec_LongestFirst.mono _ _ _
      | exact spec_RollBound.mono _ _ _
      | exact spec_SparesOf.mono _ _ _ _
      | exact LeO.none _
      | refine LeO.ite ?_ ?_
      | refine LeO.bind ?_ (fun _ => ?_)
theorem laws_FnPackings.mono : ∀ a0 k, LeO (laws_FnPackings.f k a0) (laws_FnPackings.f (k + 1) a0) := by
  intro a0 k
  obtain ⟨ih0, ih1⟩ := laws_FnPackings.mono_l k
  unfold laws_FnPackings.f
  repeat' first
      | (with_reducible exact ih0 _ _ _ _ _ _ _ _ _ _ _)
      | (with_reducible exact ih1 _ _ _ _ _ _ _)
      | (with_reducible exact impl_FirstFit.mono _ _ _)
      | (with_reducible exact impl_IsPacking.mono _ _ _ _)
      | (with_reducible exact impl_LongestFirst.mono _ _ _)
      | (with_reducible exact impl_RollBound.mono _ _ _)
      | (with_reducible exact impl_SparesOf.mono _ _ _ _)
      | (with_reducible exact laws_likeInts.mono _ _ _)
      | (with_reducible exact laws_sum.mono _ _)
      | (with_reducible exact spec_DrawFirstFit.mono _ _)
      | (with_reducible exact spec_DrawSparesOf.mono _ _)
      | (with_reducible exact spec_FirstFit.mono _ _ _)
      | (with_reducible exact spec_LongestFirst.mono _ _ _)
      | (with_reducible exact spec_RollBound.mono _ _ _)
      | (with_reducible exact spec_SparesOf.mono _ _ _ _)
      | (with_reducible exact LeO.refl _)
      | (with_reducible exact LeO.none _)
      | (with_reducible refine LeO.ite ?_ ?_)
      | (with_reducible refine LeO.bind ?_ (fun _ => ?_))
      | exact ih0 _ _ _ _ _ _ _ _ _ _ _
      | exact ih1 _ _ _ _ _ _ _
      | exact impl_FirstFit.mono _ _ _
      | exact impl_IsPacking.mono _ _ _ _
      | exact impl_LongestFirst.mono _ _ _
      | exact impl_RollBound.mono _ _ _
      | exact impl_SparesOf.mono _ _ _ _
      | exact laws_likeInts.mono _ _ _
      | exact laws_sum.mono _ _
      | exact spec_DrawFirstFit.mono _ _
      | exact spec_DrawSparesOf.mono _ _
      | exact spec_FirstFit.mono _ _ _
      | exact spec_LongestFirst.mono _ _ _
      | exact spec_RollBound.mono _ _ _
      | exact spec_SparesOf.mono _ _ _ _
      | exact LeO.none _
      | refine LeO.ite ?_ ?_
      | refine LeO.bind ?_ (fun _ => ?_)
set_option maxHeartbeats 8000000 in
set_option maxRecDepth 100000 in
theorem laws_FnPackings.calls (k : Nat) (A0 : Option Addr) (c0 : Nat) (l0 : List Int) (r : Bool) (w : World) (hr0 : Kd.C (Kd.int .u8) w A0 l0.length l0) (hc0 : l0.length ≤ c0) (h : laws_FnPackings.f k l0 = some r) :
    Calls Try.prog 3 #[.slice A0 l0.length c0] w fun e w' => e = .returned (.bool r) ∧ Below w.heap.size w w' := by
  have HR0 := Aside0.mk hr0
  have HC0 := Aside0.mk hc0
  clear hr0 hc0
  have HB := Aside0.mk (Below.refl w.heap.size w)
  have H : ((laws_big.f l0).bind fun t458 => (if t458 = true then (some true) else ((spec_DrawFirstFit.f k l0).bind fun bt459 => ((impl_FirstFit.f k bt459.1 bt459.2).bind fun bt463 => ((spec_FirstFit.f k bt459.1 bt459.2).bind fun bt467 => ((impl_LongestFirst.f k bt459.1 bt459.2).bind fun bt471 => ((spec_LongestFirst.f k bt459.1 bt459.2).bind fun bt475 => ((impl_RollBound.f k bt459.1 bt459.2).bind fun bt479 => ((spec_RollBound.f k bt459.1 bt459.2).bind fun bt481 => ((spec_DrawSparesOf.f k l0).bind fun bt483 => ((impl_SparesOf.f k bt483.1 bt483.2.1 bt483.2.2).bind fun bt490 => ((spec_SparesOf.f k bt483.1 bt483.2.1 bt483.2.2).bind fun bt494 => (if bt463.2 = bt467.2 then ((laws_likeInts.f k bt463.1 bt467.1).bind fun t498 => (if t498 = true then (if bt471.2 = bt475.2 then ((laws_likeInts.f k bt471.1 bt475.1).bind fun t499 => (if t499 = true then (if bt479.2 = bt481.2 then (if bt479.1 = bt481.1 then (if bt490.2 = bt494.2 then ((laws_likeInts.f k bt490.1 bt494.1).bind fun t500 => (if t500 = true then ((impl_IsPacking.f k bt483.1 bt483.2.1 bt483.2.2).bind fun t501 => (if (t501 != (bt494.2 == 0)) = true then (none) else ((impl_IsRollTask.f bt459.1 bt459.2).bind fun t502 => (laws_FnPackings.j0 k bt459.1 bt459.2 bt463.1 bt463.2 bt471.1 bt479.1 bt483.1 bt483.2.1 bt490.1 bt490.2 (t502 != (bt467.2 == 0)))))) else (none))) else (none)) else (none)) else (none)) else (none))) else (none)) else (none))) else (none)))))))))))))) = some r := h
  clear h
  replace H := Option.bind_eq_some_iff.mp H
  obtain ⟨t458, A20, H⟩ := H
  replace H : (if t458 = true then (some true) else ((spec_DrawFirstFit.f k l0).bind fun bt459 => ((impl_FirstFit.f k bt459.1 bt459.2).bind fun bt463 => ((spec_FirstFit.f k bt459.1 bt459.2).bind fun bt467 => ((impl_LongestFirst.f k bt459.1 bt459.2).bind fun bt471 => ((spec_LongestFirst.f k bt459.1 bt459.2).bind fun bt475 => ((impl_RollBound.f k bt459.1 bt459.2).bind fun bt479 => ((spec_RollBound.f k bt459.1 bt459.2).bind fun bt481 => ((spec_DrawSparesOf.f k l0).bind fun bt483 => ((impl_SparesOf.f k bt483.1 bt483.2.1 bt483.2.2).bind fun bt490 => ((spec_SparesOf.f k bt483.1 bt483.2.1 bt483.2.2).bind fun bt494 => (if bt463.2 = bt467.2 then ((laws_likeInts.f k bt463.1 bt467.1).bind fun t498 => (if t498 = true then (if bt471.2 = bt475.2 then ((laws_likeInts.f k bt471.1 bt475.1).bind fun t499 => (if t499 = true then (if bt479.2 = bt481.2 then (if bt479.1 = bt481.1 then (if bt490.2 = bt494.2 then ((laws_likeInts.f k bt490.1 bt494.1).bind fun t500 => (if t500 = true then ((impl_IsPacking.f k bt483.1 bt483.2.1 bt483.2.2).bind fun t501 => (if (t501 != (bt494.2 == 0)) = true then (none) else ((impl_IsRollTask.f bt459.1 bt459.2).bind fun t502 => (laws_FnPackings.j0 k bt459.1 bt459.2 bt463.1 bt463.2 bt471.1 bt479.1 bt483.1 bt483.2.1 bt490.1 bt490.2 (t502 != (bt467.2 == 0)))))) else (none))) else (none)) else (none)) else (none)) else (none))) else (none)) else (none))) else (none))))))))))))) = some r := H
  have A2 := Aside0.mk A20
  clear A20
  by_cases c3 : t458 = true
  · subst c3
    have H1 : (some true) = some r := by rw [if_pos rfl] at H; exact H
    clear H
    have H := H1
    clear H1
    obtain rfl := Option.some.inj H
    go_enter Try.func3, Try.ntmps3
    go_wp2_with (first | ((with_reducible refine gate_callee (f := 12) rfl ?_); refine goesL_ (some 29) rfl rfl Try.func12 (by kernel_rfl) rfl #[.slice A0 l0.length c0] rfl (by (try simp only [List.map_toArray, List.map_cons, List.map_nil]); first | done | rfl | (simp only [List.length_drop, List.length_take]; rfl)) ?_; (with_reducible refine (laws_big.calls _ _ l0 true _ ?side1 ?side2 A2.out).mono ?_); (case side1 => repeat (first | exact HR0.out | (with_reducible refine Kd.C_alloc ?_ _) | (with_reducible refine Kd.C_drewN ?_ _) | (with_reducible refine Kd.C_drew ?_))); (case side2 => exact HC0.out); rintro e w' ⟨rfl, ⟨nd, rfl⟩⟩; refine ⟨_, rfl, ?_⟩))
    go_ret
    exact ⟨by first | rfl | (simp [errW_none, errW_some] <;> rfl) | (simp [*, errW_none, errW_some] <;> rfl), by repeat (first | (with_reducible first | exact HB.out | apply below_alloc | apply pw_below_drewN | apply below_drew1) | exact HB.out)⟩
  · replace c3 := Bool.eq_false_iff.mpr c3
    subst c3
    have H1 : ((spec_DrawFirstFit.f k l0).bind fun bt459 => ((impl_FirstFit.f k bt459.1 bt459.2).bind fun bt463 => ((spec_FirstFit.f k bt459.1 bt459.2).bind fun bt467 => ((impl_LongestFirst.f k bt459.1 bt459.2).bind fun bt471 => ((spec_LongestFirst.f k bt459.1 bt459.2).bind fun bt475 => ((impl_RollBound.f k bt459.1 bt459.2).bind fun bt479 => ((spec_RollBound.f k bt459.1 bt459.2).bind fun bt481 => ((spec_DrawSparesOf.f k l0).bind fun bt483 => ((impl_SparesOf.f k bt483.1 bt483.2.1 bt483.2.2).bind fun bt490 => ((spec_SparesOf.f k bt483.1 bt483.2.1 bt483.2.2).bind fun bt494 => (if bt463.2 = bt467.2 then ((laws_likeInts.f k bt463.1 bt467.1).bind fun t498 => (if t498 = true then (if bt471.2 = bt475.2 then ((laws_likeInts.f k bt471.1 bt475.1).bind fun t499 => (if t499 = true then (if bt479.2 = bt481.2 then (if bt479.1 = bt481.1 then (if bt490.2 = bt494.2 then ((laws_likeInts.f k bt490.1 bt494.1).bind fun t500 => (if t500 = true then ((impl_IsPacking.f k bt483.1 bt483.2.1 bt483.2.2).bind fun t501 => (if (t501 != (bt494.2 == 0)) = true then (none) else ((impl_IsRollTask.f bt459.1 bt459.2).bind fun t502 => (laws_FnPackings.j0 k bt459.1 bt459.2 bt463.1 bt463.2 bt471.1 bt479.1 bt483.1 bt483.2.1 bt490.1 bt490.2 (t502 != (bt467.2 == 0)))))) else (none))) else (none)) else (none)) else (none)) else (none))) else (none)) else (none))) else (none)))))))))))) = some r := by rw [if_neg (show ¬ (false = true) by decide)] at H; exact H
    clear H
    have H := H1
    clear H1
    replace H := Option.bind_eq_some_iff.mp H
    obtain ⟨⟨t459, t460⟩, A40, H⟩ := H
    replace H : ((impl_FirstFit.f k t459 t460).bind fun bt463 => ((spec_FirstFit.f k t459 t460).bind fun bt467 => ((impl_LongestFirst.f k t459 t460).bind fun bt471 => ((spec_LongestFirst.f k t459 t460).bind fun bt475 => ((impl_RollBound.f k t459 t460).bind fun bt479 => ((spec_RollBound.f k t459 t460).bind fun bt481 => ((spec_DrawSparesOf.f k l0).bind fun bt483 => ((impl_SparesOf.f k bt483.1 bt483.2.1 bt483.2.2).bind fun bt490 => ((spec_SparesOf.f k bt483.1 bt483.2.1 bt483.2.2).bind fun bt494 => (if bt463.2 = bt467.2 then ((laws_likeInts.f k bt463.1 bt467.1).bind fun t498 => (if t498 = true then (if bt471.2 = bt475.2 then ((laws_likeInts.f k bt471.1 bt475.1).bind fun t499 => (if t499 = true then (if bt479.2 = bt481.2 then (if bt479.1 = bt481.1 then (if bt490.2 = bt494.2 then ((laws_likeInts.f k bt490.1 bt494.1).bind fun t500 => (if t500 = true then ((impl_IsPacking.f k bt483.1 bt483.2.1 bt483.2.2).bind fun t501 => (if (t501 != (bt494.2 == 0)) = true then (none) else ((impl_IsRollTask.f t459 t460).bind fun t502 => (laws_FnPackings.j0 k t459 t460 bt463.1 bt463.2 bt471.1 bt479.1 bt483.1 bt483.2.1 bt490.1 bt490.2 (t502 != (bt467.2 == 0)))))) else (none))) else (none)) else (none)) else (none)) else (none))) else (none)) else (none))) else (none))))))))))) = some r := H
    have A4 := Aside0.mk A40
    clear A40
    replace H := Option.bind_eq_some_iff.mp H
    obtain ⟨⟨t463, t464⟩, A50, H⟩ := H
    replace H : ((spec_FirstFit.f k t459 t460).bind fun bt467 => ((impl_LongestFirst.f k t459 t460).bind fun bt471 => ((spec_LongestFirst.f k t459 t460).bind fun bt475 => ((impl_RollBound.f k t459 t460).bind fun bt479 => ((spec_RollBound.f k t459 t460).bind fun bt481 => ((spec_DrawSparesOf.f k l0).bind fun bt483 => ((impl_SparesOf.f k bt483.1 bt483.2.1 bt483.2.2).bind fun bt490 => ((spec_SparesOf.f k bt483.1 bt483.2.1 bt483.2.2).bind fun bt494 => (if t464 = bt467.2 then ((laws_likeInts.f k t463 bt467.1).bind fun t498 => (if t498 = true then (if bt471.2 = bt475.2 then ((laws_likeInts.f k bt471.1 bt475.1).bind fun t499 => (if t499 = true then (if bt479.2 = bt481.2 then (if bt479.1 = bt481.1 then (if bt490.2 = bt494.2 then ((laws_likeInts.f k bt490.1 bt494.1).bind fun t500 => (if t500 = true then ((impl_IsPacking.f k bt483.1 bt483.2.1 bt483.2.2).bind fun t501 => (if (t501 != (bt494.2 == 0)) = true then (none) else ((impl_IsRollTask.f t459 t460).bind fun t502 => (laws_FnPackings.j0 k t459 t460 t463 t464 bt471.1 bt479.1 bt483.1 bt483.2.1 bt490.1 bt490.2 (t502 != (bt467.2 == 0)))))) else (none))) else (none)) else (none)) else (none)) else (none))) else (none)) else (none))) else (none)))))))))) = some r := H
    have A5 := Aside0.mk A50
    clear A50
    replace H := Option.bind_eq_some_iff.mp H
    obtain ⟨⟨t467, t468⟩, A60, H⟩ := H
    replace H : ((impl_LongestFirst.f k t459 t460).bind fun bt471 => ((spec_LongestFirst.f k t459 t460).bind fun bt475 => ((impl_RollBound.f k t459 t460).bind fun bt479 => ((spec_RollBound.f k t459 t460).bind fun bt481 => ((spec_DrawSparesOf.f k l0).bind fun bt483 => ((impl_SparesOf.f k bt483.1 bt483.2.1 bt483.2.2).bind fun bt490 => ((spec_SparesOf.f k bt483.1 bt483.2.1 bt483.2.2).bind fun bt494 => (if t464 = t468 then ((laws_likeInts.f k t463 t467).bind fun t498 => (if t498 = true then (if bt471.2 = bt475.2 then ((laws_likeInts.f k bt471.1 bt475.1).bind fun t499 => (if t499 = true then (if bt479.2 = bt481.2 then (if bt479.1 = bt481.1 then (if bt490.2 = bt494.2 then ((laws_likeInts.f k bt490.1 bt494.1).bind fun t500 => (if t500 = true then ((impl_IsPacking.f k bt483.1 bt483.2.1 bt483.2.2).bind fun t501 => (if (t501 != (bt494.2 == 0)) = true then (none) else ((impl_IsRollTask.f t459 t460).bind fun t502 => (laws_FnPackings.j0 k t459 t460 t463 t464 bt471.1 bt479.1 bt483.1 bt483.2.1 bt490.1 bt490.2 (t502 != (t468 == 0)))))) else (none))) else (none)) else (none)) else (none)) else (none))) else (none)) else (none))) else (none))))))))) = some r := H
    have A6 := Aside0.mk A60
    clear A60
    replace H := Option.bind_eq_some_iff.mp H
    obtain ⟨⟨t471, t472⟩, A70, H⟩ := H
    replace H : ((spec_LongestFirst.f k t459 t460).bind fun bt475 => ((impl_RollBound.f k t459 t460).bind fun bt479 => ((spec_RollBound.f k t459 t460).bind fun bt481 => ((spec_DrawSparesOf.f k l0).bind fun bt483 => ((impl_SparesOf.f k bt483.1 bt483.2.1 bt483.2.2).bind fun bt490 => ((spec_SparesOf.f k bt483.1 bt483.2.1 bt483.2.2).bind fun bt494 => (if t464 = t468 then ((laws_likeInts.f k t463 t467).bind fun t498 => (if t498 = true then (if t472 = bt475.2 then ((laws_likeInts.f k t471 bt475.1).bind fun t499 => (if t499 = true then (if bt479.2 = bt481.2 then (if bt479.1 = bt481.1 then (if bt490.2 = bt494.2 then ((laws_likeInts.f k bt490.1 bt494.1).bind fun t500 => (if t500 = true then ((impl_IsPacking.f k bt483.1 bt483.2.1 bt483.2.2).bind fun t501 => (if (t501 != (bt494.2 == 0)) = true then (none) else ((impl_IsRollTask.f t459 t460).bind fun t502 => (laws_FnPackings.j0 k t459 t460 t463 t464 t471 bt479.1 bt483.1 bt483.2.1 bt490.1 bt490.2 (t502 != (t468 == 0)))))) else (none))) else (none)) else (none)) else (none)) else (none))) else (none)) else (none))) else (none)))))))) = some r := H
    have A7 := Aside0.mk A70
    clear A70
    replace H := Option.bind_eq_some_iff.mp H
    obtain ⟨⟨t475, t476⟩, A80, H⟩ := H
    replace H : ((impl_RollBound.f k t459 t460).bind fun bt479 => ((spec_RollBound.f k t459 t460).bind fun bt481 => ((spec_DrawSparesOf.f k l0).bind fun bt483 => ((impl_SparesOf.f k bt483.1 bt483.2.1 bt483.2.2).bind fun bt490 => ((spec_SparesOf.f k bt483.1 bt483.2.1 bt483.2.2).bind fun bt494 => (if t464 = t468 then ((laws_likeInts.f k t463 t467).bind fun t498 => (if t498 = true then (if t472 = t476 then ((laws_likeInts.f k t471 t475).bind fun t499 => (if t499 = true then (if bt479.2 = bt481.2 then (if bt479.1 = bt481.1 then (if bt490.2 = bt494.2 then ((laws_likeInts.f k bt490.1 bt494.1).bind fun t500 => (if t500 = true then ((impl_IsPacking.f k bt483.1 bt483.2.1 bt483.2.2).bind fun t501 => (if (t501 != (bt494.2 == 0)) = true then (none) else ((impl_IsRollTask.f t459 t460).bind fun t502 => (laws_FnPackings.j0 k t459 t460 t463 t464 t471 bt479.1 bt483.1 bt483.2.1 bt490.1 bt490.2 (t502 != (t468 == 0)))))) else (none))) else (none)) else (none)) else (none)) else (none))) else (none)) else (none))) else (none))))))) = some r := H
    have A8 := Aside0.mk A80
    clear A80
    replace H := Option.bind_eq_some_iff.mp H
    obtain ⟨⟨t479, t480⟩, A90, H⟩ := H
    replace H : ((spec_RollBound.f k t459 t460).bind fun bt481 => ((spec_DrawSparesOf.f k l0).bind fun bt483 => ((impl_SparesOf.f k bt483.1 bt483.2.1 bt483.2.2).bind fun bt490 => ((spec_SparesOf.f k bt483.1 bt483.2.1 bt483.2.2).bind fun bt494 => (if t464 = t468 then ((laws_likeInts.f k t463 t467).bind fun t498 => (if t498 = true then (if t472 = t476 then ((laws_likeInts.f k t471 t475).bind fun t499 => (if t499 = true then (if t480 = bt481.2 then (if t479 = bt481.1 then (if bt490.2 = bt494.2 then ((laws_likeInts.f k bt490.1 bt494.1).bind fun t500 => (if t500 = true then ((impl_IsPacking.f k bt483.1 bt483.2.1 bt483.2.2).bind fun t501 => (if (t501 != (bt494.2 == 0)) = true then (none) else ((impl_IsRollTask.f t459 t460).bind fun t502 => (laws_FnPackings.j0 k t459 t460 t463 t464 t471 t479 bt483.1 bt483.2.1 bt490.1 bt490.2 (t502 != (t468 == 0)))))) else (none))) else (none)) else (none)) else (none)) else (none))) else (none)) else (none))) else (none)))))) = some r := H
    have A9 := Aside0.mk A90
    clear A90
    replace H := Option.bind_eq_some_iff.mp H
    obtain ⟨⟨t481, t482⟩, A100, H⟩ := H
    replace H : ((spec_DrawSparesOf.f k l0).bind fun bt483 => ((impl_SparesOf.f k bt483.1 bt483.2.1 bt483.2.2).bind fun bt490 => ((spec_SparesOf.f k bt483.1 bt483.2.1 bt483.2.2).bind fun bt494 => (if t464 = t468 then ((laws_likeInts.f k t463 t467).bind fun t498 => (if t498 = true then (if t472 = t476 then ((laws_likeInts.f k t471 t475).bind fun t499 => (if t499 = true then (if t480 = t482 then (if t479 = t481 then (if bt490.2 = bt494.2 then ((laws_likeInts.f k bt490.1 bt494.1).bind fun t500 => (if t500 = true then ((impl_IsPacking.f k bt483.1 bt483.2.1 bt483.2.2).bind fun t501 => (if (t501 != (bt494.2 == 0)) = true then (none) else ((impl_IsRollTask.f t459 t460).bind fun t502 => (laws_FnPackings.j0 k t459 t460 t463 t464 t471 t479 bt483.1 bt483.2.1 bt490.1 bt490.2 (t502 != (t468 == 0)))))) else (none))) else (none)) else (none)) else (none)) else (none))) else (none)) else (none))) else (none))))) = some r := H
    have A10 := Aside0.mk A100
    clear A100
    replace H := Option.bind_eq_some_iff.mp H
    obtain ⟨⟨t483, t484, t485⟩, A110, H⟩ := H
    replace H : ((impl_SparesOf.f k t483 t484 t485).bind fun bt490 => ((spec_SparesOf.f k t483 t484 t485).bind fun bt494 => (if t464 = t468 then ((laws_likeInts.f k t463 t467).bind fun t498 => (if t498 = true then (if t472 = t476 then ((laws_likeInts.f k t471 t475).bind fun t499 => (if t499 = true then (if t480 = t482 then (if t479 = t481 then (if bt490.2 = bt494.2 then ((laws_likeInts.f k bt490.1 bt494.1).bind fun t500 => (if t500 = true then ((impl_IsPacking.f k t483 t484 t485).bind fun t501 => (if (t501 != (bt494.2 == 0)) = true then (none) else ((impl_IsRollTask.f t459 t460).bind fun t502 => (laws_FnPackings.j0 k t459 t460 t463 t464 t471 t479 t483 t484 bt490.1 bt490.2 (t502 != (t468 == 0)))))) else (none))) else (none)) else (none)) else (none)) else (none))) else (none)) else (none))) else (none)))) = some r := H
    have A11 := Aside0.mk A110
    clear A110
    replace H := Option.bind_eq_some_iff.mp H
    obtain ⟨⟨t490, t491⟩, A120, H⟩ := H
    replace H : ((spec_SparesOf.f k t483 t484 t485).bind fun bt494 => (if t464 = t468 then ((laws_likeInts.f k t463 t467).bind fun t498 => (if t498 = true then (if t472 = t476 then ((laws_likeInts.f k t471 t475).bind fun t499 => (if t499 = true then (if t480 = t482 then (if t479 = t481 then (if t491 = bt494.2 then ((laws_likeInts.f k t490 bt494.1).bind fun t500 => (if t500 = true then ((impl_IsPacking.f k t483 t484 t485).bind fun t501 => (if (t501 != (bt494.2 == 0)) = true then (none) else ((impl_IsRollTask.f t459 t460).bind fun t502 => (laws_FnPackings.j0 k t459 t460 t463 t464 t471 t479 t483 t484 t490 t491 (t502 != (t468 == 0)))))) else (none))) else (none)) else (none)) else (none)) else (none))) else (none)) else (none))) else (none))) = some r := H
    have A12 := Aside0.mk A120
    clear A120
    replace H := Option.bind_eq_some_iff.mp H
    obtain ⟨⟨t494, t495⟩, A130, H⟩ := H
    replace H : (if t464 = t468 then ((laws_likeInts.f k t463 t467).bind fun t498 => (if t498 = true then (if t472 = t476 then ((laws_likeInts.f k t471 t475).bind fun t499 => (if t499 = true then (if t480 = t482 then (if t479 = t481 then (if t491 = t495 then ((laws_likeInts.f k t490 t494).bind fun t500 => (if t500 = true then ((impl_IsPacking.f k t483 t484 t485).bind fun t501 => (if (t501 != (t495 == 0)) = true then (none) else ((impl_IsRollTask.f t459 t460).bind fun t502 => (laws_FnPackings.j0 k t459 t460 t463 t464 t471 t479 t483 t484 t490 t491 (t502 != (t468 == 0)))))) else (none))) else (none)) else (none)) else (none)) else (none))) else (none)) else (none))) else (none)) = some r := H
    have A13 := Aside0.mk A130
    clear A130
    have HC14 := Aside0.mk H
    clear H
    go_enter Try.func3, Try.ntmps3
    go_upto_region 13 with (first | ((with_reducible refine gate_callee (f := 12) rfl ?_); refine goesL_ (some 29) rfl rfl Try.func12 (by kernel_rfl) rfl #[.slice A0 l0.length c0] rfl (by (try simp only [List.map_toArray, List.map_cons, List.map_nil]); first | done | rfl | (simp only [List.length_drop, List.length_take]; rfl)) ?_; (with_reducible refine (laws_big.calls _ _ l0 false _ ?side1 ?side2 A2.out).mono ?_); (case side1 => repeat (first | exact HR0.out | (with_reducible refine Kd.C_alloc ?_ _) | (with_reducible refine Kd.C_drewN ?_ _) | (with_reducible refine Kd.C_drew ?_))); (case side2 => exact HC0.out); rintro e w' ⟨rfl, ⟨nd, rfl⟩⟩; refine ⟨_, rfl, ?_⟩) | ((with_reducible refine gate_callee (f := 13) rfl ?_); refine goesL_ (some 32) rfl rfl Try.func13 (by kernel_rfl) rfl #[.slice A0 l0.length c0] rfl (by (try simp only [List.map_toArray, List.map_cons, List.map_nil]); first | done | rfl | (simp only [List.length_drop, List.length_take]; rfl)) ?_; (with_reducible refine (spec_DrawFirstFit.calls k _ _ l0 t459 t460 _ ?side1 ?side2 A4.out).mono ?_); (case side1 => repeat (first | exact HR0.out | (with_reducible refine Kd.C_alloc ?_ _) | (with_reducible refine Kd.C_drewN ?_ _) | (with_reducible refine Kd.C_drew ?_))); (case side2 => exact HC0.out); rintro e w15 ⟨v461, rfl, ho0, hb⟩; refine ⟨_, rfl, ?_⟩; have n0_ := Aside0.mk (Kd.R_lower ho0 (below_size (by repeat (first | (with_reducible first | exact HB.out | apply below_alloc | apply pw_below_drewN | apply below_drew1) | exact HB.out)))); have n1_ := Aside0.mk (below_step (by repeat (first | (with_reducible first | exact HB.out | apply below_alloc | apply pw_below_drewN | apply below_drew1) | exact HB.out)) hb); clear HB; have HO462 := n0_; have HB := n1_; clear n0_ n1_; (try clear hb); (try clear hb2); (try clear hk); (try clear hi); (try clear ho0); obtain ⟨Ao16, co16, eo16⟩ := Kd.R_slice HO462.out; subst eo16) | ((with_reducible refine gate_callee (f := 14) rfl ?_); refine goesL_ (some 38) rfl rfl Try.func14 (by kernel_rfl) rfl #[.int .i64 t459, .slice Ao16 t460.length co16] rfl (by (try simp only [List.map_toArray, List.map_cons, List.map_nil]); first | done | rfl | (simp only [List.length_drop, List.length_take]; rfl)) ?_; (with_reducible refine (impl_FirstFit.calls k t459 _ _ t460 t463 t464 _ ?side1 ?side2 A5.out).mono ?_); (case side1 => repeat (first | exact (Kd.R_reads' HO462.out).2.2 | (with_reducible refine Kd.C_alloc ?_ _) | (with_reducible refine Kd.C_drewN ?_ _) | (with_reducible refine Kd.C_drew ?_))); (case side2 => exact (Kd.R_reads' HO462.out).2.1); rintro e w17 ⟨v465, rfl, ho0, hb⟩; refine ⟨_, rfl, ?_⟩; have n0_ := Aside0.mk (Kd.R_elder' (by (with_reducible repeat (first | apply Kd.R_alloc | apply Kd.R_drewN | apply Kd.R_drew)); exact HO462.out) (Kd.R_base ho0) hb); have n1_ := Aside0.mk (Kd.R_lower (Kd.R_new' ho0 (Kd.R_lt (by (with_reducible repeat (first | apply Kd.R_alloc | apply Kd.R_drewN | apply Kd.R_drew)); exact HO462.out))) (below_size (by repeat (first | (with_reducible first | exact HB.out | apply below_alloc | apply pw_below_drewN | apply below_drew1) | exact HB.out)))); have n2_ := Aside0.mk (below_step (by repeat (first | (with_reducible first | exact HB.out | apply below_alloc | apply pw_below_drewN | apply below_drew1) | exact HB.out)) hb); clear HO462; clear HB; have HO462 := n0_; have HO466 := n1_; have HB := n2_; clear n0_ n1_ n2_; (try clear hb); (try clear hb2); (try clear hk); (try clear hi); (try clear ho0)) | ((with_reducible refine gate_callee (f := 15) rfl ?_); refine goesL_ (some 44) rfl rfl Try.func15 (by kernel_rfl) rfl #[.int .i64 t459, .slice Ao16 t460.length co16] rfl (by (try simp only [List.map_toArray, List.map_cons, List.map_nil]); first | done | rfl | (simp only [List.length_drop, List.length_take]; rfl)) ?_; (with_reducible refine (spec_FirstFit.calls k t459 _ _ t460 t467 t468 _ ?side1 ?side2 A6.out).mono ?_); (case side1 => repeat (first | exact (Kd.R_reads' HO462.out).2.2 | (with_reducible refine Kd.C_alloc ?_ _) | (with_reducible refine Kd.C_drewN ?_ _) | (with_reducible refine Kd.C_drew ?_))); (case side2 => exact (Kd.R_reads' HO462.out).2.1); rintro e w18 ⟨v469, rfl, ho0, hb⟩; refine ⟨_, rfl, ?_⟩; have n0_ := Aside0.mk (Kd.R_elder' (by (with_reducible repeat (first | apply Kd.R_alloc | apply Kd.R_drewN | apply Kd.R_drew)); exact HO462.out) (Kd.R_base ho0) hb); have n1_ := Aside0.mk (Kd.R_elder' (by (with_reducible repeat (first | apply Kd.R_alloc | apply Kd.R_drewN | apply Kd.R_drew)); exact HO466.out) (Kd.R_base ho0) hb); have n2_ := Aside0.mk (Kd.R_lower (Kd.R_new' (Kd.R_new' ho0 (Kd.R_lt (by (with_reducible repeat (first | apply Kd.R_alloc | apply Kd.R_drewN | apply Kd.R_drew)); exact HO462.out))) (Kd.R_lt (by (with_reducible repeat (first | apply Kd.R_alloc | apply Kd.R_drewN | apply Kd.R_drew)); exact HO466.out))) (below_size (by repeat (first | (with_reducible first | exact HB.out | apply below_alloc | apply pw_below_drewN | apply below_drew1) | exact HB.out)))); have n3_ := Aside0.mk (below_step (by repeat (first | (with_reducible first | exact HB.out | apply below_alloc | apply pw_below_drewN | apply below_drew1) | exact HB.out)) hb); clear HO462; clear HO466; clear HB; have HO462 := n0_; have HO466 := n1_; have HO470 := n2_; have HB := n3_; clear n0_ n1_ n2_ n3_; (try clear hb); (try clear hb2); (try clear hk); (try clear hi); (try clear ho0)) | ((with_reducible refine gate_callee (f := 16) rfl ?_); refine goesL_ (some 50) rfl rfl Try.func16 (by kernel_rfl) rfl #[.int .i64 t459, .slice Ao16 t460.length co16] rfl (by (try simp only [List.map_toArray, List.map_cons, List.map_nil]); first | done | rfl | (simp only [List.length_drop, List.length_take]; rfl)) ?_; (with_reducible refine (impl_LongestFirst.calls k t459 _ _ t460 t471 t472 _ ?side1 ?side2 A7.out).mono ?_); (case side1 => repeat (first | exact (Kd.R_reads' HO462.out).2.2 | (with_reducible refine Kd.C_alloc ?_ _) | (with_reducible refine Kd.C_drewN ?_ _) | (with_reducible refine Kd.C_drew ?_))); (case side2 => exact (Kd.R_reads' HO462.out).2.1); rintro e w19 ⟨v473, rfl, ho0, hb⟩; refine ⟨_, rfl, ?_⟩; have n0_ := Aside0.mk (Kd.R_elder' (by (with_reducible repeat (first | apply Kd.R_alloc | apply Kd.R_drewN | apply Kd.R_drew)); exact HO462.out) (Kd.R_base ho0) hb); have n1_ := Aside0.mk (Kd.R_elder' (by (with_reducible repeat (first | apply Kd.R_alloc | apply Kd.R_drewN | apply Kd.R_drew)); exact HO466.out) (Kd.R_base ho0) hb); have n2_ := Aside0.mk (Kd.R_elder' (by (with_reducible repeat (first | apply Kd.R_alloc | apply Kd.R_drewN | apply Kd.R_drew)); exact HO470.out) (Kd.R_base ho0) hb); have n3_ := Aside0.mk (Kd.R_lower (Kd.R_new' (Kd.R_new' (Kd.R_new' ho0 (Kd.R_lt (by (with_reducible repeat (first | apply Kd.R_alloc | apply Kd.R_drewN | apply Kd.R_drew)); exact HO462.out))) (Kd.R_lt (by (with_reducible repeat (first | apply Kd.R_alloc | apply Kd.R_drewN | apply Kd.R_drew)); exact HO466.out))) (Kd.R_lt (by (with_reducible repeat (first | apply Kd.R_alloc | apply Kd.R_drewN | apply Kd.R_drew)); exact HO470.out))) (below_size (by repeat (first | (with_reducible first | exact HB.out | apply below_alloc | apply pw_below_drewN | apply below_drew1) | exact HB.out)))); have n4_ := Aside0.mk (below_step (by repeat (first | (with_reducible first | exact HB.out | apply below_alloc | apply pw_below_drewN | apply below_drew1) | exact HB.out)) hb); clear HO462; clear HO466; clear HO470; clear HB; have HO462 := n0_; have HO466 := n1_; have HO470 := n2_; have HO474 := n3_; have HB := n4_; clear n0_ n1_ n2_ n3_ n4_; (try clear hb); (try clear hb2); (try clear hk); (try clear hi); (try clear ho0)) | ((with_reducible refine gate_callee (f := 17) rfl ?_); refine goesL_ (some 56) rfl rfl Try.func17 (by kernel_rfl) rfl #[.int .i64 t459, .slice Ao16 t460.length co16] rfl (by (try simp only [List.map_toArray, List.map_cons, List.map_nil]); first | done | rfl | (simp only [List.length_drop, List.length_take]; rfl)) ?_; (with_reducible refine (spec_LongestFirst.calls k t459 _ _ t460 t475 t476 _ ?side1 ?side2 A8.out).mono ?_); (case side1 => repeat (first | exact (Kd.R_reads' HO462.out).2.2 | (with_reducible refine Kd.C_alloc ?_ _) | (with_reducible refine Kd.C_drewN ?_ _) | (with_reducible refine Kd.C_drew ?_))); (case side2 => exact (Kd.R_reads' HO462.out).2.1); rintro e w20 ⟨v477, rfl, ho0, hb⟩; refine ⟨_, rfl, ?_⟩; have n0_ := Aside0.mk (Kd.R_elder' (by (with_reducible repeat (first | apply Kd.R_alloc | apply Kd.R_drewN | apply Kd.R_drew)); exact HO462.out) (Kd.R_base ho0) hb); have n1_ := Aside0.mk (Kd.R_elder' (by (with_reducible repeat (first | apply Kd.R_alloc | apply Kd.R_drewN | apply Kd.R_drew)); exact HO466.out) (Kd.R_base ho0) hb); have n2_ := Aside0.mk (Kd.R_elder' (by (with_reducible repeat (first | apply Kd.R_alloc | apply Kd.R_drewN | apply Kd.R_drew)); exact HO470.out) (Kd.R_base ho0) hb); have n3_ := Aside0.mk (Kd.R_elder' (by (with_reducible repeat (first | apply Kd.R_alloc | apply Kd.R_drewN | apply Kd.R_drew)); exact HO474.out) (Kd.R_base ho0) hb); have n4_ := Aside0.mk (Kd.R_lower (Kd.R_new' (Kd.R_new' (Kd.R_new' (Kd.R_new' ho0 (Kd.R_lt (by (with_reducible repeat (first | apply Kd.R_alloc | apply Kd.R_drewN | apply Kd.R_drew)); exact HO462.out))) (Kd.R_lt (by (with_reducible repeat (first | apply Kd.R_alloc | apply Kd.R_drewN | apply Kd.R_drew)); exact HO466.out))) (Kd.R_lt (by (with_reducible repeat (first | apply Kd.R_alloc | apply Kd.R_drewN | apply Kd.R_drew)); exact HO470.out))) (Kd.R_lt (by (with_reducible repeat (first | apply Kd.R_alloc | apply Kd.R_drewN | apply Kd.R_drew)); exact HO474.out))) (below_size (by repeat (first | (with_reducible first | exact HB.out | apply below_alloc | apply pw_below_drewN | apply below_drew1) | exact HB.out)))); have n5_ := Aside0.mk (below_step (by repeat (first | (with_reducible first | exact HB.out | apply below_alloc | apply pw_below_drewN | apply below_drew1) | exact HB.out)) hb); clear HO462; clear HO466; clear HO470; clear HO474; clear HB; have HO462 := n0_; have HO466 := n1_; have HO470 := n2_; have HO474 := n3_; have HO478 := n4_; have HB := n5_; clear n0_ n1_ n2_ n3_ n4_ n5_; (try clear hb); (try clear hb2); (try clear hk); (try clear hi); (try clear ho0)) | ((with_reducible refine gate_callee (f := 18) rfl ?_); refine goesL_ (some 62) rfl rfl Try.func18 (by kernel_rfl) rfl #[.int .i64 t459, .slice Ao16 t460.length co16] rfl (by (try simp only [List.map_toArray, List.map_cons, List.map_nil]); first | done | rfl | (simp only [List.length_drop, List.length_take]; rfl)) ?_; (with_reducible refine (impl_RollBound.calls k t459 _ _ t460 t479 t480 _ ?side1 ?side2 A9.out).mono ?_); (case side1 => repeat (first | exact (Kd.R_reads' HO462.out).2.2 | (with_reducible refine Kd.C_alloc ?_ _) | (with_reducible refine Kd.C_drewN ?_ _) | (with_reducible refine Kd.C_drew ?_))); (case side2 => exact (Kd.R_reads' HO462.out).2.1); rintro e w21 ⟨rfl, hb⟩; refine ⟨_, rfl, ?_⟩; have n0_ := Aside0.mk (Kd.R_below (by (with_reducible repeat (first | apply Kd.R_alloc | apply Kd.R_drewN | apply Kd.R_drew)); exact HO462.out) hb); have n1_ := Aside0.mk (Kd.R_below (by (with_reducible repeat (first | apply Kd.R_alloc | apply Kd.R_drewN | apply Kd.R_drew)); exact HO466.out) hb); have n2_ := Aside0.mk (Kd.R_below (by (with_reducible repeat (first | apply Kd.R_alloc | apply Kd.R_drewN | apply Kd.R_drew)); exact HO470.out) hb); have n3_ := Aside0.mk (Kd.R_below (by (with_reducible repeat (first | apply Kd.R_alloc | apply Kd.R_drewN | apply Kd.R_drew)); exact HO474.out) hb); have n4_ := Aside0.mk (Kd.R_below (by (with_reducible repeat (first | apply Kd.R_alloc | apply Kd.R_drewN | apply Kd.R_drew)); exact HO478.out) hb); have n5_ := Aside0.mk (below_step (by repeat (first | (with_reducible first | exact HB.out | apply below_alloc | apply pw_below_drewN | apply below_drew1) | exact HB.out)) hb); clear HO462; clear HO466; clear HO470; clear HO474; clear HO478; clear HB; have HO462 := n0_; have HO466 := n1_; have HO470 := n2_; have HO474 := n3_; have HO478 := n4_; have HB := n5_; clear n0_ n1_ n2_ n3_ n4_ n5_; (try clear hb); (try clear hb2); (try clear hk); (try clear hi)) | ((with_reducible refine gate_callee (f := 19) rfl ?_); refine goesL_ (some 68) rfl rfl Try.func19 (by kernel_rfl) rfl #[.int .i64 t459, .slice Ao16 t460.length co16] rfl (by (try simp only [List.map_toArray, List.map_cons, List.map_nil]); first | done | rfl | (simp only [List.length_drop, List.length_take]; rfl)) ?_; (with_reducible refine (spec_RollBound.calls k t459 _ _ t460 t481 t482 _ ?side1 ?side2 A10.out).mono ?_); (case side1 => repeat (first | exact (Kd.R_reads' HO462.out).2.2 | (with_reducible refine Kd.C_alloc ?_ _) | (with_reducible refine Kd.C_drewN ?_ _) | (with_reducible refine Kd.C_drew ?_))); (case side2 => exact (Kd.R_reads' HO462.out).2.1); rintro e w22 ⟨rfl, hb⟩; refine ⟨_, rfl, ?_⟩; have n0_ := Aside0.mk (Kd.R_below (by (with_reducible repeat (first | apply Kd.R_alloc | apply Kd.R_drewN | apply Kd.R_drew)); exact HO462.out) hb); have n1_ := Aside0.mk (Kd.R_below (by (with_reducible repeat (first | apply Kd.R_alloc | apply Kd.R_drewN | apply Kd.R_drew)); exact HO466.out) hb); have n2_ := Aside0.mk (Kd.R_below (by (with_reducible repeat (first | apply Kd.R_alloc | apply Kd.R_drewN | apply Kd.R_drew)); exact HO470.out) hb); have n3_ := Aside0.mk (Kd.R_below (by (with_reducible repeat (first | apply Kd.R_alloc | apply Kd.R_drewN | apply Kd.R_drew)); exact HO474.out) hb); have n4_ := Aside0.mk (Kd.R_below (by (with_reducible repeat (first | apply Kd.R_alloc | apply Kd.R_drewN | apply Kd.R_drew)); exact HO478.out) hb); have n5_ := Aside0.mk (below_step (by repeat (first | (with_reducible first | exact HB.out | apply below_alloc | apply pw_below_drewN | apply below_drew1) | exact HB.out)) hb); clear HO462; clear HO466; clear HO470; clear HO474; clear HO478; clear HB; have HO462 := n0_; have HO466 := n1_; have HO470 := n2_; have HO474 := n3_; have HO478 := n4_; have HB := n5_; clear n0_ n1_ n2_ n3_ n4_ n5_; (try clear hb); (try clear hb2); (try clear hk); (try clear hi)) | ((with_reducible refine gate_callee (f := 20) rfl ?_); refine goesL_ (some 73) rfl rfl Try.func20 (by kernel_rfl) rfl #[.slice A0 l0.length c0] rfl (by (try simp only [List.map_toArray, List.map_cons, List.map_nil]); first | done | rfl | (simp only [List.length_drop, List.length_take]; rfl)) ?_; (with_reducible refine (spec_DrawSparesOf.calls k _ _ l0 t483 t484 t485 _ ?side1 ?side2 A11.out).mono ?_); (case side1 => repeat (first | exact (Kd.C_below HR0.out HB.out) | (with_reducible refine Kd.C_alloc ?_ _) | (with_reducible refine Kd.C_drewN ?_ _) | (with_reducible refine Kd.C_drew ?_))); (case side2 => exact HC0.out); rintro e w23 ⟨v486, v488, rfl, ho0, ho1, hb⟩; refine ⟨_, rfl, ?_⟩; have n0_ := Aside0.mk (Kd.R_mono (Kd.R_told (Kd.R_told (Kd.R_old (by (with_reducible repeat (first | apply Kd.R_alloc | apply Kd.R_drewN | apply Kd.R_drew)); exact HO462.out) hb) (Kd.R_base ho0)) (Kd.R_base ho1)) (fun _ h_ => h_.1)); have n1_ := Aside0.mk (Kd.R_mono (Kd.R_told (Kd.R_told (Kd.R_old (by (with_reducible repeat (first | apply Kd.R_alloc | apply Kd.R_drewN | apply Kd.R_drew)); exact HO466.out) hb) (Kd.R_base ho0)) (Kd.R_base ho1)) (fun _ h_ => h_.1)); have n2_ := Aside0.mk (Kd.R_mono (Kd.R_told (Kd.R_told (Kd.R_old (by (with_reducible repeat (first | apply Kd.R_alloc | apply Kd.R_drewN | apply Kd.R_drew)); exact HO470.out) hb) (Kd.R_base ho0)) (Kd.R_base ho1)) (fun _ h_ => h_.1)); have n3_ := Aside0.mk (Kd.R_mono (Kd.R_told (Kd.R_told (Kd.R_old (by (with_reducible repeat (first | apply Kd.R_alloc | apply Kd.R_drewN | apply Kd.R_drew)); exact HO474.out) hb) (Kd.R_base ho0)) (Kd.R_base ho1)) (fun _ h_ => h_.1)); have n4_ := Aside0.mk (Kd.R_mono (Kd.R_told (Kd.R_told (Kd.R_old (by (with_reducible repeat (first | apply Kd.R_alloc | apply Kd.R_drewN | apply Kd.R_drew)); exact HO478.out) hb) (Kd.R_base ho0)) (Kd.R_base ho1)) (fun _ h_ => h_.1)); have n5_ := Aside0.mk (Kd.R_lower (Kd.R_new' (Kd.R_new' (Kd.R_new' (Kd.R_new' (Kd.R_new' ho0 (Kd.R_lt (by (with_reducible repeat (first | apply Kd.R_alloc | apply Kd.R_drewN | apply Kd.R_drew)); exact HO462.out))) (Kd.R_lt (by (with_reducible repeat (first | apply Kd.R_alloc | apply Kd.R_drewN | apply Kd.R_drew)); exact HO466.out))) (Kd.R_lt (by (with_reducible repeat (first | apply Kd.R_alloc | apply Kd.R_drewN | apply Kd.R_drew)); exact HO470.out))) (Kd.R_lt (by (with_reducible repeat (first | apply Kd.R_alloc | apply Kd.R_drewN | apply Kd.R_drew)); exact HO474.out))) (Kd.R_lt (by (with_reducible repeat (first | apply Kd.R_alloc | apply Kd.R_drewN | apply Kd.R_drew)); exact HO478.out))) (below_size (by repeat (first | (with_reducible first | exact HB.out | apply below_alloc | apply pw_below_drewN | apply below_drew1) | exact HB.out)))); have n6_ := Aside0.mk (Kd.R_lower (Kd.R_new' (Kd.R_new' (Kd.R_new' (Kd.R_new' (Kd.R_new' ho1 (Kd.R_lt (by (with_reducible repeat (first | apply Kd.R_alloc | apply Kd.R_drewN | apply Kd.R_drew)); exact HO462.out))) (Kd.R_lt (by (with_reducible repeat (first | apply Kd.R_alloc | apply Kd.R_drewN | apply Kd.R_drew)); exact HO466.out))) (Kd.R_lt (by (with_reducible repeat (first | apply Kd.R_alloc | apply Kd.R_drewN | apply Kd.R_drew)); exact HO470.out))) (Kd.R_lt (by (with_reducible repeat (first | apply Kd.R_alloc | apply Kd.R_drewN | apply Kd.R_drew)); exact HO474.out))) (Kd.R_lt (by (with_reducible repeat (first | apply Kd.R_alloc | apply Kd.R_drewN | apply Kd.R_drew)); exact HO478.out))) (below_size (by repeat (first | (with_reducible first | exact HB.out | apply below_alloc | apply pw_below_drewN | apply below_drew1) | exact HB.out)))); have n7_ := Aside0.mk (below_step (by repeat (first | (with_reducible first | exact HB.out | apply below_alloc | apply pw_below_drewN | apply below_drew1) | exact HB.out)) hb); clear HO462; clear HO466; clear HO470; clear HO474; clear HO478; clear HB; have HO462 := n0_; have HO466 := n1_; have HO470 := n2_; have HO474 := n3_; have HO478 := n4_; have HO487 := n5_; have HO489 := n6_; have HB := n7_; clear n0_ n1_ n2_ n3_ n4_ n5_ n6_ n7_; (try clear hb); (try clear hb2); (try clear hk); (try clear hi); (try clear ho0); (try clear ho1); obtain ⟨Ao24, co24, eo24⟩ := Kd.R_slice HO487.out; subst eo24; obtain ⟨Ao25, co25, eo25⟩ := Kd.R_slice HO489.out; subst eo25) | ((with_reducible refine gate_callee (f := 21) rfl ?_); refine goesL_ (some 81) rfl rfl Try.func21 (by kernel_rfl) rfl #[.int .i64 t483, .slice Ao24 t484.length co24, .slice Ao25 t485.length co25] rfl (by (try simp only [List.map_toArray, List.map_cons, List.map_nil]); first | done | rfl | (simp only [List.length_drop, List.length_take]; rfl)) ?_; (with_reducible refine (impl_SparesOf.calls k t483 _ _ t484 _ _ t485 t490 t491 _ ?side1 ?side2 ?side3 ?side4 A12.out).mono ?_); (case side1 => repeat (first | exact (Kd.R_reads' HO487.out).2.2 | (with_reducible refine Kd.C_alloc ?_ _) | (with_reducible refine Kd.C_drewN ?_ _) | (with_reducible refine Kd.C_drew ?_))); (case side2 => exact (Kd.R_reads' HO487.out).2.1); (case side3 => repeat (first | exact (Kd.R_reads' HO489.out).2.2 | (with_reducible refine Kd.C_alloc ?_ _) | (with_reducible refine Kd.C_drewN ?_ _) | (with_reducible refine Kd.C_drew ?_))); (case side4 => exact (Kd.R_reads' HO489.out).2.1); rintro e w26 ⟨v492, rfl, ho0, hb⟩; refine ⟨_, rfl, ?_⟩; have n0_ := Aside0.mk (Kd.R_elder' (by (with_reducible repeat (first | apply Kd.R_alloc | apply Kd.R_drewN | apply Kd.R_drew)); exact HO462.out) (Kd.R_base ho0) hb); have n1_ := Aside0.mk (Kd.R_elder' (by (with_reducible repeat (first | apply Kd.R_alloc | apply Kd.R_drewN | apply Kd.R_drew)); exact HO466.out) (Kd.R_base ho0) hb); have n2_ := Aside0.mk (Kd.R_elder' (by (with_reducible repeat (first | apply Kd.R_alloc | apply Kd.R_drewN | apply Kd.R_drew)); exact HO470.out) (Kd.R_base ho0) hb); have n3_ := Aside0.mk (Kd.R_elder' (by (with_reducible repeat (first | apply Kd.R_alloc | apply Kd.R_drewN | apply Kd.R_drew)); exact HO474.out) (Kd.R_base ho0) hb); have n4_ := Aside0.mk (Kd.R_elder' (by (with_reducible repeat (first | apply Kd.R_alloc | apply Kd.R_drewN | apply Kd.R_drew)); exact HO478.out) (Kd.R_base ho0) hb); have n5_ := Aside0.mk (Kd.R_elder' (by (with_reducible repeat (first | apply Kd.R_alloc | apply Kd.R_drewN | apply Kd.R_drew)); exact HO487.out) (Kd.R_base ho0) hb); have n6_ := Aside0.mk (Kd.R_elder' (by (with_reducible repeat (first | apply Kd.R_alloc | apply Kd.R_drewN | apply Kd.R_drew)); exact HO489.out) (Kd.R_base ho0) hb); have n7_ := Aside0.mk (Kd.R_lower (Kd.R_new' (Kd.R_new' (Kd.R_new' (Kd.R_new' (Kd.R_new' (Kd.R_new' (Kd.R_new' ho0 (Kd.R_lt (by (with_reducible repeat (first | apply Kd.R_alloc | apply Kd.R_drewN | apply Kd.R_drew)); exact HO462.out))) (Kd.R_lt (by (with_reducible repeat (first | apply Kd.R_alloc | apply Kd.R_drewN | apply Kd.R_drew)); exact HO466.out))) (Kd.R_lt (by (with_reducible repeat (first | apply Kd.R_alloc | apply Kd.R_drewN | apply Kd.R_drew)); exact HO470.out))) (Kd.R_lt (by (with_reducible repeat (first | apply Kd.R_alloc | apply Kd.R_drewN | apply Kd.R_drew)); exact HO474.out))) (Kd.R_lt (by (with_reducible repeat (first | apply Kd.R_alloc | apply Kd.R_drewN | apply Kd.R_drew)); exact HO478.out))) (Kd.R_lt (by (with_reducible repeat (first | apply Kd.R_alloc | apply Kd.R_drewN | apply Kd.R_drew)); exact HO487.out))) (Kd.R_lt (by (with_reducible repeat (first | apply Kd.R_alloc | apply Kd.R_drewN | apply Kd.R_drew)); exact HO489.out))) (below_size (by repeat (first | (with_reducible first | exact HB.out | apply below_alloc | apply pw_below_drewN | apply below_drew1) | exact HB.out)))); have n8_ := Aside0.mk (below_step (by repeat (first | (with_reducible first | exact HB.out | apply below_alloc | apply pw_below_drewN | apply below_drew1) | exact HB.out)) hb); clear HO462; clear HO466; clear HO470; clear HO474; clear HO478; clear HO487; clear HO489; clear HB; have HO462 := n0_; have HO466 := n1_; have HO470 := n2_; have HO474 := n3_; have HO478 := n4_; have HO487 := n5_; have HO489 := n6_; have HO493 := n7_; have HB := n8_; clear n0_ n1_ n2_ n3_ n4_ n5_ n6_ n7_ n8_; (try clear hb); (try clear hb2); (try clear hk); (try clear hi); (try clear ho0)) | ((with_reducible refine gate_callee (f := 22) rfl ?_); refine goesL_ (some 88) rfl rfl Try.func22 (by kernel_rfl) rfl #[.int .i64 t483, .slice Ao24 t484.length co24, .slice Ao25 t485.length co25] rfl (by (try simp only [List.map_toArray, List.map_cons, List.map_nil]); first | done | rfl | (simp only [List.length_drop, List.length_take]; rfl)) ?_; (with_reducible refine (spec_SparesOf.calls k t483 _ _ t484 _ _ t485 t494 t495 _ ?side1 ?side2 ?side3 ?side4 A13.out).mono ?_); (case side1 => repeat (first | exact (Kd.R_reads' HO487.out).2.2 | (with_reducible refine Kd.C_alloc ?_ _) | (with_reducible refine Kd.C_drewN ?_ _) | (with_reducible refine Kd.C_drew ?_))); (case side2 => exact (Kd.R_reads' HO487.out).2.1); (case side3 => repeat (first | exact (Kd.R_reads' HO489.out).2.2 | (with_reducible refine Kd.C_alloc ?_ _) | (with_reducible refine Kd.C_drewN ?_ _) | (with_reducible refine Kd.C_drew ?_))); (case side4 => exact (Kd.R_reads' HO489.out).2.1); rintro e w27 ⟨v496, rfl, ho0, hb⟩; refine ⟨_, rfl, ?_⟩; have n0_ := Aside0.mk (Kd.R_elder' (by (with_reducible repeat (first | apply Kd.R_alloc | apply Kd.R_drewN | apply Kd.R_drew)); exact HO462.out) (Kd.R_base ho0) hb); have n1_ := Aside0.mk (Kd.R_elder' (by (with_reducible repeat (first | apply Kd.R_alloc | apply Kd.R_drewN | apply Kd.R_drew)); exact HO466.out) (Kd.R_base ho0) hb); have n2_ := Aside0.mk (Kd.R_elder' (by (with_reducible repeat (first | apply Kd.R_alloc | apply Kd.R_drewN | apply Kd.R_drew)); exact HO470.out) (Kd.R_base ho0) hb); have n3_ := Aside0.mk (Kd.R_elder' (by (with_reducible repeat (first | apply Kd.R_alloc | apply Kd.R_drewN | apply Kd.R_drew)); exact HO474.out) (Kd.R_base ho0) hb); have n4_ := Aside0.mk (Kd.R_elder' (by (with_reducible repeat (first | apply Kd.R_alloc | apply Kd.R_drewN | apply Kd.R_drew)); exact HO478.out) (Kd.R_base ho0) hb); have n5_ := Aside0.mk (Kd.R_elder' (by (with_reducible repeat (first | apply Kd.R_alloc | apply Kd.R_drewN | apply Kd.R_drew)); exact HO487.out) (Kd.R_base ho0) hb); have n6_ := Aside0.mk (Kd.R_elder' (by (with_reducible repeat (first | apply Kd.R_alloc | apply Kd.R_drewN | apply Kd.R_drew)); exact HO489.out) (Kd.R_base ho0) hb); have n7_ := Aside0.mk (Kd.R_elder' (by (with_reducible repeat (first | apply Kd.R_alloc | apply Kd.R_drewN | apply Kd.R_drew)); exact HO493.out) (Kd.R_base ho0) hb); have n8_ := Aside0.mk (Kd.R_lower (Kd.R_new' (Kd.R_new' (Kd.R_new' (Kd.R_new' (Kd.R_new' (Kd.R_new' (Kd.R_new' (Kd.R_new' ho0 (Kd.R_lt (by (with_reducible repeat (first | apply Kd.R_alloc | apply Kd.R_drewN | apply Kd.R_drew)); exact HO462.out))) (Kd.R_lt (by (with_reducible repeat (first | apply Kd.R_alloc | apply Kd.R_drewN | apply Kd.R_drew)); exact HO466.out))) (Kd.R_lt (by (with_reducible repeat (first | apply Kd.R_alloc | apply Kd.R_drewN | apply Kd.R_drew)); exact HO470.out))) (Kd.R_lt (by (with_reducible repeat (first | apply Kd.R_alloc | apply Kd.R_drewN | apply Kd.R_drew)); exact HO474.out))) (Kd.R_lt (by (with_reducible repeat (first | apply Kd.R_alloc | apply Kd.R_drewN | apply Kd.R_drew)); exact HO478.out))) (Kd.R_lt (by (with_reducible repeat (first | apply Kd.R_alloc | apply Kd.R_drewN | apply Kd.R_drew)); exact HO487.out))) (Kd.R_lt (by (with_reducible repeat (first | apply Kd.R_alloc | apply Kd.R_drewN | apply Kd.R_drew)); exact HO489.out))) (Kd.R_lt (by (with_reducible repeat (first | apply Kd.R_alloc | apply Kd.R_drewN | apply Kd.R_drew)); exact HO493.out))) (below_size (by repeat (first | (with_reducible first | exact HB.out | apply below_alloc | apply pw_below_drewN | apply below_drew1) | exact HB.out)))); have n9_ := Aside0.mk (below_step (by repeat (first | (with_reducible first | exact HB.out | apply below_alloc | apply pw_below_drewN | apply below_drew1) | exact HB.out)) hb); clear HO462; clear HO466; clear HO470; clear HO474; clear HO478; clear HO487; clear HO489; clear HO493; clear HB; have HO462 := n0_; have HO466 := n1_; have HO470 := n2_; have HO474 := n3_; have HO478 := n4_; have HO487 := n5_; have HO489 := n6_; have HO493 := n7_; have HO497 := n8_; have HB := n9_; clear n0_ n1_ n2_ n3_ n4_ n5_ n6_ n7_ n8_ n9_; (try clear hb); (try clear hb2); (try clear hk); (try clear hi); (try clear ho0)))
    (try simp only [Act.put, List.setIfInBounds_toArray, List.set_cons_zero, List.set_cons_succ])
    go_cut [148] (fun v148 wc => ∃ (kq : Nat) (x148_13 : Bool), v148 = .bool x148_13 ∧ Aside0 (laws_FnPackings.j0 kq t459 t460 t463 t464 t471 t479 t483 t484 t490 t491 x148_13 = some r) ∧ Aside0 (kq ≤ k) ∧ Aside0 (Kd.R (Kd.int .i64) 2 wc w.heap.size (fun k_ => some k_ ≠ (v465 : Value).ownBlock ∧ some k_ ≠ (v473 : Value).ownBlock ∧ some k_ ≠ ((.slice Ao24 t484.length co24) : Value).ownBlock ∧ some k_ ≠ (v492 : Value).ownBlock) (.slice Ao16 t460.length co16) t460) ∧ Aside0 (Kd.R (Kd.int .i64) 2 wc w.heap.size (fun k_ => some k_ ≠ ((.slice Ao16 t460.length co16) : Value).ownBlock ∧ some k_ ≠ (v473 : Value).ownBlock ∧ some k_ ≠ ((.slice Ao24 t484.length co24) : Value).ownBlock ∧ some k_ ≠ (v492 : Value).ownBlock) v465 t463) ∧ Aside0 (Kd.R (Kd.int .i64) 2 wc w.heap.size (fun k_ => some k_ ≠ ((.slice Ao16 t460.length co16) : Value).ownBlock ∧ some k_ ≠ (v465 : Value).ownBlock ∧ some k_ ≠ ((.slice Ao24 t484.length co24) : Value).ownBlock ∧ some k_ ≠ (v492 : Value).ownBlock) v473 t471) ∧ Aside0 (Kd.R (Kd.int .i64) 2 wc w.heap.size (fun k_ => some k_ ≠ ((.slice Ao16 t460.length co16) : Value).ownBlock ∧ some k_ ≠ (v465 : Value).ownBlock ∧ some k_ ≠ (v473 : Value).ownBlock ∧ some k_ ≠ (v492 : Value).ownBlock) (.slice Ao24 t484.length co24) t484) ∧ Aside0 (Kd.R (Kd.int .i64) 2 wc w.heap.size (fun k_ => some k_ ≠ ((.slice Ao16 t460.length co16) : Value).ownBlock ∧ some k_ ≠ (v465 : Value).ownBlock ∧ some k_ ≠ (v473 : Value).ownBlock ∧ some k_ ≠ ((.slice Ao24 t484.length co24) : Value).ownBlock) v492 t490) ∧ Aside0 (Below w.heap.size w wc))
    case first =>
      as_aux_lemma =>
        have H := HC14.out
        clear HC14
        by_cases c28 : t464 = t468
        · rw [if_pos c28] at H
          have c28b0 : (t464 == t468) = true := beq_iff_eq.mpr c28
          have c28b1 : (t464 != t468) = false := bne_eq_false_iff_eq.mpr c28
          clear c28
          (first | rw [c28b0] | (simp only [i64_w, i32_w]; rw [c28b0]) | skip)
          replace H := Option.bind_eq_some_iff.mp H
          obtain ⟨t498, A290, H⟩ := H
          replace H : (if t498 = true then (if t472 = t476 then ((laws_likeInts.f k t471 t475).bind fun t499 => (if t499 = true then (if t480 = t482 then (if t479 = t481 then (if t491 = t495 then ((laws_likeInts.f k t490 t494).bind fun t500 => (if t500 = true then ((impl_IsPacking.f k t483 t484 t485).bind fun t501 => (if (t501 != (t495 == 0)) = true then (none) else ((impl_IsRollTask.f t459 t460).bind fun t502 => (laws_FnPackings.j0 k t459 t460 t463 t464 t471 t479 t483 t484 t490 t491 (t502 != (t468 == 0)))))) else (none))) else (none)) else (none)) else (none)) else (none))) else (none)) else (none)) = some r := H
          have A29 := Aside0.mk A290
          clear A290
          by_cases c30 : t498 = true
          · subst c30
            have H1 : (if t472 = t476 then ((laws_likeInts.f k t471 t475).bind fun t499 => (if t499 = true then (if t480 = t482 then (if t479 = t481 then (if t491 = t495 then ((laws_likeInts.f k t490 t494).bind fun t500 => (if t500 = true then ((impl_IsPacking.f k t483 t484 t485).bind fun t501 => (if (t501 != (t495 == 0)) = true then (none) else ((impl_IsRollTask.f t459 t460).bind fun t502 => (laws_FnPackings.j0 k t459 t460 t463 t464 t471 t479 t483 t484 t490 t491 (t502 != (t468 == 0)))))) else (none))) else (none)) else (none)) else (none)) else (none))) else (none)) = some r := by rw [if_pos rfl] at H; exact H
            clear H
            have H := H1
            clear H1
            by_cases c31 : t472 = t476
            · rw [if_pos c31] at H
              have c31b0 : (t472 == t476) = true := beq_iff_eq.mpr c31
              have c31b1 : (t472 != t476) = false := bne_eq_false_iff_eq.mpr c31
              clear c31
              replace H := Option.bind_eq_some_iff.mp H
              obtain ⟨t499, A320, H⟩ := H
              replace H : (if t499 = true then (if t480 = t482 then (if t479 = t481 then (if t491 = t495 then ((laws_likeInts.f k t490 t494).bind fun t500 => (if t500 = true then ((impl_IsPacking.f k t483 t484 t485).bind fun t501 => (if (t501 != (t495 == 0)) = true then (none) else ((impl_IsRollTask.f t459 t460).bind fun t502 => (laws_FnPackings.j0 k t459 t460 t463 t464 t471 t479 t483 t484 t490 t491 (t502 != (t468 == 0)))))) else (none))) else (none)) else (none)) else (none)) else (none)) = some r := H
              have A32 := Aside0.mk A320
              clear A320
              by_cases c33 : t499 = true
              · subst c33
                have H1 : (if t480 = t482 then (if t479 = t481 then (if t491 = t495 then ((laws_likeInts.f k t490 t494).bind fun t500 => (if t500 = true then ((impl_IsPacking.f k t483 t484 t485).bind fun t501 => (if (t501 != (t495 == 0)) = true then (none) else ((impl_IsRollTask.f t459 t460).bind fun t502 => (laws_FnPackings.j0 k t459 t460 t463 t464 t471 t479 t483 t484 t490 t491 (t502 != (t468 == 0)))))) else (none))) else (none)) else (none)) else (none)) = some r := by rw [if_pos rfl] at H; exact H
                clear H
                have H := H1
                clear H1
                by_cases c34 : t480 = t482
                · rw [if_pos c34] at H
                  have c34b0 : (t480 == t482) = true := beq_iff_eq.mpr c34
                  have c34b1 : (t480 != t482) = false := bne_eq_false_iff_eq.mpr c34
                  clear c34
                  by_cases c35 : t479 = t481
                  · rw [if_pos c35] at H
                    have c35b0 : (t479 == t481) = true := beq_iff_eq.mpr c35
                    have c35b1 : (t479 != t481) = false := bne_eq_false_iff_eq.mpr c35
                    clear c35
                    by_cases c36 : t491 = t495
                    · rw [if_pos c36] at H
                      have c36b0 : (t491 == t495) = true := beq_iff_eq.mpr c36
                      have c36b1 : (t491 != t495) = false := bne_eq_false_iff_eq.mpr c36
                      clear c36
                      replace H := Option.bind_eq_some_iff.mp H
                      obtain ⟨t500, A370, H⟩ := H
                      replace H : (if t500 = true then ((impl_IsPacking.f k t483 t484 t485).bind fun t501 => (if (t501 != (t495 == 0)) = true then (none) else ((impl_IsRollTask.f t459 t460).bind fun t502 => (laws_FnPackings.j0 k t459 t460 t463 t464 t471 t479 t483 t484 t490 t491 (t502 != (t468 == 0)))))) else (none)) = some r := H
                      have A37 := Aside0.mk A370
                      clear A370
                      by_cases c38 : t500 = true
                      · subst c38
                        have H1 : ((impl_IsPacking.f k t483 t484 t485).bind fun t501 => (if (t501 != (t495 == 0)) = true then (none) else ((impl_IsRollTask.f t459 t460).bind fun t502 => (laws_FnPackings.j0 k t459 t460 t463 t464 t471 t479 t483 t484 t490 t491 (t502 != (t468 == 0)))))) = some r := by rw [if_pos rfl] at H; exact H
                        clear H
                        have H := H1
                        clear H1
                        replace H := Option.bind_eq_some_iff.mp H
                        obtain ⟨t501, A390, H⟩ := H
                        replace H : (if (t501 != (t495 == 0)) = true then (none) else ((impl_IsRollTask.f t459 t460).bind fun t502 => (laws_FnPackings.j0 k t459 t460 t463 t464 t471 t479 t483 t484 t490 t491 (t502 != (t468 == 0))))) = some r := H
                        have A39 := Aside0.mk A390
                        clear A390
                        by_cases c40 : (t501 != (t495 == 0)) = true
                        · rw [if_pos c40] at H
                          exact absurd H (by simp)
                        · rw [if_neg c40] at H
                          have c40b0 : (t501 != (t495 == 0)) = false := by simpa using c40
                          (try (have c40b1 : decide (t501 = (t495 == 0)) = true := by simpa using c40))
                          (try (have c40b2 : (t501 == (t495 == 0)) = true := by simpa using c40))
                          clear c40
                          replace H := Option.bind_eq_some_iff.mp H
                          obtain ⟨t502, A480, H⟩ := H
                          replace H : (laws_FnPackings.j0 k t459 t460 t463 t464 t471 t479 t483 t484 t490 t491 (t502 != (t468 == 0))) = some r := H
                          have A48 := Aside0.mk A480
                          clear A480
                          have H' := Aside0.mk H
                          clear H
                          obtain ⟨Ao49, co49, eo49⟩ := Kd.R_slice HO466.out
                          subst eo49
                          obtain ⟨Ao50, co50, eo50⟩ := Kd.R_slice HO470.out
                          subst eo50
                          go_wp2_with (first | (go_at_call 23; (with_reducible refine (laws_likeInts.calls k _ _ t463 _ _ t467 true _ ?side1 ?side2 ?side3 ?side4 A29.out).mono ?_); (case side1 => repeat (first | exact (Kd.R_reads' HO466.out).2.2 | (with_reducible refine Kd.C_alloc ?_ _) | (with_reducible refine Kd.C_drewN ?_ _) | (with_reducible refine Kd.C_drew ?_))); (case side2 => exact (Kd.R_reads' HO466.out).2.1); (case side3 => repeat (first | exact (Kd.R_reads' HO470.out).2.2 | (with_reducible refine Kd.C_alloc ?_ _) | (with_reducible refine Kd.C_drewN ?_ _) | (with_reducible refine Kd.C_drew ?_))); (case side4 => exact (Kd.R_reads' HO470.out).2.1); rintro e w' ⟨rfl, ⟨nd, rfl⟩⟩; obtain ⟨Ao51, co51, eo51⟩ := Kd.R_slice HO474.out; subst eo51; obtain ⟨Ao52, co52, eo52⟩ := Kd.R_slice HO478.out; subst eo52) | (go_at_call 23; (with_reducible refine (laws_likeInts.calls k _ _ t471 _ _ t475 true _ ?side1 ?side2 ?side3 ?side4 A32.out).mono ?_); (case side1 => repeat (first | exact (Kd.R_reads' HO474.out).2.2 | (with_reducible refine Kd.C_alloc ?_ _) | (with_reducible refine Kd.C_drewN ?_ _) | (with_reducible refine Kd.C_drew ?_))); (case side2 => exact (Kd.R_reads' HO474.out).2.1); (case side3 => repeat (first | exact (Kd.R_reads' HO478.out).2.2 | (with_reducible refine Kd.C_alloc ?_ _) | (with_reducible refine Kd.C_drewN ?_ _) | (with_reducible refine Kd.C_drew ?_))); (case side4 => exact (Kd.R_reads' HO478.out).2.1); rintro e w' ⟨rfl, ⟨nd, rfl⟩⟩; obtain ⟨Ao53, co53, eo53⟩ := Kd.R_slice HO493.out; subst eo53; obtain ⟨Ao54, co54, eo54⟩ := Kd.R_slice HO497.out; subst eo54) | (go_at_call 23; (with_reducible refine (laws_likeInts.calls k _ _ t490 _ _ t494 true _ ?side1 ?side2 ?side3 ?side4 A37.out).mono ?_); (case side1 => repeat (first | exact (Kd.R_reads' HO493.out).2.2 | (with_reducible refine Kd.C_alloc ?_ _) | (with_reducible refine Kd.C_drewN ?_ _) | (with_reducible refine Kd.C_drew ?_))); (case side2 => exact (Kd.R_reads' HO493.out).2.1); (case side3 => repeat (first | exact (Kd.R_reads' HO497.out).2.2 | (with_reducible refine Kd.C_alloc ?_ _) | (with_reducible refine Kd.C_drewN ?_ _) | (with_reducible refine Kd.C_drew ?_))); (case side4 => exact (Kd.R_reads' HO497.out).2.1); rintro e w' ⟨rfl, ⟨nd, rfl⟩⟩) | (go_at_call 24; (with_reducible refine (impl_IsPacking.calls k t483 _ _ t484 _ _ t485 t501 _ ?side1 ?side2 ?side3 ?side4 A39.out).mono ?_); (case side1 => repeat (first | exact (Kd.R_reads' HO487.out).2.2 | (with_reducible refine Kd.C_alloc ?_ _) | (with_reducible refine Kd.C_drewN ?_ _) | (with_reducible refine Kd.C_drew ?_))); (case side2 => exact (Kd.R_reads' HO487.out).2.1); (case side3 => repeat (first | exact (Kd.R_reads' HO489.out).2.2 | (with_reducible refine Kd.C_alloc ?_ _) | (with_reducible refine Kd.C_drewN ?_ _) | (with_reducible refine Kd.C_drew ?_))); (case side4 => exact (Kd.R_reads' HO489.out).2.1); rintro e w55 ⟨rfl, hb⟩; have n0_ := Aside0.mk (Kd.R_below (by (with_reducible repeat (first | apply Kd.R_alloc | apply Kd.R_drewN | apply Kd.R_drew)); exact HO462.out) hb); have n1_ := Aside0.mk (Kd.R_below (by (with_reducible repeat (first | apply Kd.R_alloc | apply Kd.R_drewN | apply Kd.R_drew)); exact HO466.out) hb); have n2_ := Aside0.mk (Kd.R_below (by (with_reducible repeat (first | apply Kd.R_alloc | apply Kd.R_drewN | apply Kd.R_drew)); exact HO470.out) hb); have n3_ := Aside0.mk (Kd.R_below (by (with_reducible repeat (first | apply Kd.R_alloc | apply Kd.R_drewN | apply Kd.R_drew)); exact HO474.out) hb); have n4_ := Aside0.mk (Kd.R_below (by (with_reducible repeat (first | apply Kd.R_alloc | apply Kd.R_drewN | apply Kd.R_drew)); exact HO478.out) hb); have n5_ := Aside0.mk (Kd.R_below (by (with_reducible repeat (first | apply Kd.R_alloc | apply Kd.R_drewN | apply Kd.R_drew)); exact HO487.out) hb); have n6_ := Aside0.mk (Kd.R_below (by (with_reducible repeat (first | apply Kd.R_alloc | apply Kd.R_drewN | apply Kd.R_drew)); exact HO489.out) hb); have n7_ := Aside0.mk (Kd.R_below (by (with_reducible repeat (first | apply Kd.R_alloc | apply Kd.R_drewN | apply Kd.R_drew)); exact HO493.out) hb); have n8_ := Aside0.mk (Kd.R_below (by (with_reducible repeat (first | apply Kd.R_alloc | apply Kd.R_drewN | apply Kd.R_drew)); exact HO497.out) hb); have n9_ := Aside0.mk (below_step (by repeat (first | (with_reducible first | exact HB.out | apply below_alloc | apply pw_below_drewN | apply below_drew1) | exact HB.out)) hb); clear HO462; clear HO466; clear HO470; clear HO474; clear HO478; clear HO487; clear HO489; clear HO493; clear HO497; clear HB; have HO462 := n0_; have HO466 := n1_; have HO470 := n2_; have HO474 := n3_; have HO478 := n4_; have HO487 := n5_; have HO489 := n6_; have HO493 := n7_; have HO497 := n8_; have HB := n9_; clear n0_ n1_ n2_ n3_ n4_ n5_ n6_ n7_ n8_ n9_; (try clear hb); (try clear hb2); (try clear hk); (try clear hi)) | (go_at_call 25; (with_reducible refine (impl_IsRollTask.calls t459 _ _ t460 t502 _ ?side1 ?side2 A48.out).mono ?_); (case side1 => repeat (first | exact (Kd.R_reads' HO462.out).2.2 | (with_reducible refine Kd.C_alloc ?_ _) | (with_reducible refine Kd.C_drewN ?_ _) | (with_reducible refine Kd.C_drew ?_))); (case side2 => exact (Kd.R_reads' HO462.out).2.1); rintro e w56 ⟨rfl, hb⟩; have n0_ := Aside0.mk (Kd.R_below (by (with_reducible repeat (first | apply Kd.R_alloc | apply Kd.R_drewN | apply Kd.R_drew)); exact HO462.out) hb); have n1_ := Aside0.mk (Kd.R_below (by (with_reducible repeat (first | apply Kd.R_alloc | apply Kd.R_drewN | apply Kd.R_drew)); exact HO466.out) hb); have n2_ := Aside0.mk (Kd.R_below (by (with_reducible repeat (first | apply Kd.R_alloc | apply Kd.R_drewN | apply Kd.R_drew)); exact HO470.out) hb); have n3_ := Aside0.mk (Kd.R_below (by (with_reducible repeat (first | apply Kd.R_alloc | apply Kd.R_drewN | apply Kd.R_drew)); exact HO474.out) hb); have n4_ := Aside0.mk (Kd.R_below (by (with_reducible repeat (first | apply Kd.R_alloc | apply Kd.R_drewN | apply Kd.R_drew)); exact HO478.out) hb); have n5_ := Aside0.mk (Kd.R_below (by (with_reducible repeat (first | apply Kd.R_alloc | apply Kd.R_drewN | apply Kd.R_drew)); exact HO487.out) hb); have n6_ := Aside0.mk (Kd.R_below (by (with_reducible repeat (first | apply Kd.R_alloc | apply Kd.R_drewN | apply Kd.R_drew)); exact HO489.out) hb); have n7_ := Aside0.mk (Kd.R_below (by (with_reducible repeat (first | apply Kd.R_alloc | apply Kd.R_drewN | apply Kd.R_drew)); exact HO493.out) hb); have n8_ := Aside0.mk (Kd.R_below (by (with_reducible repeat (first | apply Kd.R_alloc | apply Kd.R_drewN | apply Kd.R_drew)); exact HO497.out) hb); have n9_ := Aside0.mk (below_step (by repeat (first | (with_reducible first | exact HB.out | apply below_alloc | apply pw_below_drewN | apply below_drew1) | exact HB.out)) hb); clear HO462; clear HO466; clear HO470; clear HO474; clear HO478; clear HO487; clear HO489; clear HO493; clear HO497; clear HB; have HO462 := n0_; have HO466 := n1_; have HO470 := n2_; have HO474 := n3_; have HO478 := n4_; have HO487 := n5_; have HO489 := n6_; have HO493 := n7_; have HO497 := n8_; have HB := n9_; clear n0_ n1_ n2_ n3_ n4_ n5_ n6_ n7_ n8_ n9_; (try clear hb); (try clear hb2); (try clear hk); (try clear hi)))
                          go_meet
                          case rel => exact ⟨_, ((t502 != (t468 == 0))), (by first | rfl | (simp; done) | (simp [*]; done)), H', ⟨by first | omega | exact Nat.le_refl _⟩, ⟨by (with_reducible repeat (first | apply Kd.R_alloc | apply Kd.R_drewN | apply Kd.R_drew)); exact Kd.R_mono HO462.out (fun _ hk => ⟨hk.1.1.1.1.1.1.1.2, ⟨hk.1.1.1.1.1.2, ⟨hk.1.1.1.2, hk.1.2⟩⟩⟩)⟩, ⟨by (with_reducible repeat (first | apply Kd.R_alloc | apply Kd.R_drewN | apply Kd.R_drew)); exact Kd.R_mono HO466.out (fun _ hk => ⟨hk.1.1.1.1.1.1.1.2, ⟨hk.1.1.1.1.1.2, ⟨hk.1.1.1.2, hk.1.2⟩⟩⟩)⟩, ⟨by (with_reducible repeat (first | apply Kd.R_alloc | apply Kd.R_drewN | apply Kd.R_drew)); exact Kd.R_mono HO474.out (fun _ hk => ⟨hk.1.1.1.1.1.1.1.2, ⟨hk.1.1.1.1.1.1.2, ⟨hk.1.1.1.2, hk.1.2⟩⟩⟩)⟩, ⟨by (with_reducible repeat (first | apply Kd.R_alloc | apply Kd.R_drewN | apply Kd.R_drew)); exact Kd.R_mono HO487.out (fun _ hk => ⟨hk.1.1.1.1.1.1.2, ⟨hk.1.1.1.1.1.2, ⟨hk.1.1.1.2, hk.1.2⟩⟩⟩)⟩, ⟨by (with_reducible repeat (first | apply Kd.R_alloc | apply Kd.R_drewN | apply Kd.R_drew)); exact Kd.R_mono HO493.out (fun _ hk => ⟨hk.1.1.1.1.1.1.1.2, ⟨hk.1.1.1.1.1.1.2, ⟨hk.1.1.1.1.2, hk.1.1.2⟩⟩⟩)⟩, ⟨by repeat (first | (with_reducible first | exact HB.out | apply below_alloc | apply pw_below_drewN | apply below_drew1) | exact HB.out)⟩⟩
                      · replace c38 := Bool.eq_false_iff.mpr c38
                        subst c38
                        have H1 : (none) = some r := by rw [if_neg (show ¬ (false = true) by decide)] at H; exact H
                        clear H
                        have H := H1
                        clear H1
                        exact absurd H (by simp)
                    · rw [if_neg c36] at H
                      exact absurd H (by simp)
                  · rw [if_neg c35] at H
                    exact absurd H (by simp)
                · rw [if_neg c34] at H
                  exact absurd H (by simp)
              · replace c33 := Bool.eq_false_iff.mpr c33
                subst c33
                have H1 : (none) = some r := by rw [if_neg (show ¬ (false = true) by decide)] at H; exact H
                clear H
                have H := H1
                clear H1
                exact absurd H (by simp)
            · rw [if_neg c31] at H
              exact absurd H (by simp)
          · replace c30 := Bool.eq_false_iff.mpr c30
            subst c30
            have H1 : (none) = some r := by rw [if_neg (show ¬ (false = true) by decide)] at H; exact H
            clear H
            have H := H1
            clear H1
            exact absurd H (by simp)
        · rw [if_neg c28] at H
          exact absurd H (by simp)
    case rest =>
      as_aux_lemma =>
        clear HC14
        (try clear c1); (try clear c2); (try clear p2); (try clear c3); (try clear c4); (try clear c12); (try clear c13); (try clear c14); (try clear c15); (try clear c16); (try clear c17); (try clear c18); (try clear c19); (try clear c20); (try clear c21); (try clear c22); (try clear c28); (try clear c28b0); (try clear c28b1); (try clear c30); (try clear c31); (try clear c31b0); (try clear c31b1); (try clear c33); (try clear c34); (try clear c34b0); (try clear c34b1); (try clear c35); (try clear c35b0); (try clear c35b1); (try clear c36); (try clear c36b0); (try clear c36b1); (try clear c38); (try clear c40); (try clear c40b0); (try clear c40b1); (try clear c40b2)
        obtain ⟨kq, x148_13, rfl, HA, HJ13, HO_4, HO_5, HO_9, HO_18, HO_20, HB⟩ := hcut
        cases kq with
        | zero => exact absurd HA.out (by simp [laws_FnPackings.j0])
        | succ kj13 =>
          have H := HA.out
          clear HA
          simp only [laws_FnPackings.j0] at H
          by_cases c83 : x148_13 = true
          · subst c83
            have H1 : (none) = some r := by rw [if_pos rfl] at H; exact H
            clear H
            have H := H1
            clear H1
            exact absurd H (by simp)
          · replace c83 := Bool.eq_false_iff.mpr c83
            subst c83
            have H1 : (if t491 = 0 then ((laws_sum.f kj13 t490).bind fun t503 => ((laws_sum.f kj13 t484).bind fun t504 => (laws_FnPackings.j1 kj13 t459 t460 t463 t464 t471 t479 ((wrap64 (t503 + t504)) != (wrap64 ((t490.length : Int) * t483)))))) else (laws_FnPackings.j1 kj13 t459 t460 t463 t464 t471 t479 false)) = some r := by rw [if_neg (show ¬ (false = true) by decide)] at H; exact H
            clear H
            have H := H1
            clear H1
            have HC84 := Aside0.mk H
            clear H
            go_upto_region 15 with (fail)
            go_cut [162] (fun v162 wc => ∃ (kq : Nat) (x162_83 : Bool), v162 = .bool x162_83 ∧ Aside0 (laws_FnPackings.j1 kq t459 t460 t463 t464 t471 t479 x162_83 = some r) ∧ Aside0 (kq ≤ kj13) ∧ Aside0 (Kd.R (Kd.int .i64) 2 wc w.heap.size (fun k_ => some k_ ≠ (v465 : Value).ownBlock ∧ some k_ ≠ (v473 : Value).ownBlock) (.slice Ao16 t460.length co16) t460) ∧ Aside0 (Kd.R (Kd.int .i64) 2 wc w.heap.size (fun k_ => some k_ ≠ ((.slice Ao16 t460.length co16) : Value).ownBlock ∧ some k_ ≠ (v473 : Value).ownBlock) v465 t463) ∧ Aside0 (Kd.R (Kd.int .i64) 2 wc w.heap.size (fun k_ => some k_ ≠ ((.slice Ao16 t460.length co16) : Value).ownBlock ∧ some k_ ≠ (v465 : Value).ownBlock) v473 t471) ∧ Aside0 (Below w.heap.size w wc))
            case first =>
              as_aux_lemma =>
                have H := HC84.out
                clear HC84
                by_cases c85 : t491 = 0
                · rw [if_pos c85] at H
                  have c85b0 : (t491 == 0) = true := beq_iff_eq.mpr c85
                  have c85b1 : (t491 != 0) = false := bne_eq_false_iff_eq.mpr c85
                  clear c85
                  (first | rw [c85b0] | (simp only [i64_w, i32_w]; rw [c85b0]) | skip)
                  replace H := Option.bind_eq_some_iff.mp H
                  obtain ⟨t503, A860, H⟩ := H
                  replace H : ((laws_sum.f kj13 t484).bind fun t504 => (laws_FnPackings.j1 kj13 t459 t460 t463 t464 t471 t479 ((wrap64 (t503 + t504)) != (wrap64 ((t490.length : Int) * t483))))) = some r := H
                  have A86 := Aside0.mk A860
                  clear A860
                  replace H := Option.bind_eq_some_iff.mp H
                  obtain ⟨t504, A870, H⟩ := H
                  replace H : (laws_FnPackings.j1 kj13 t459 t460 t463 t464 t471 t479 ((wrap64 (t503 + t504)) != (wrap64 ((t490.length : Int) * t483)))) = some r := H
                  have A87 := Aside0.mk A870
                  clear A870
                  have H' := Aside0.mk H
                  clear H
                  obtain ⟨Ao88, co88, eo88⟩ := Kd.R_slice HO_20.out
                  subst eo88
                  go_wp2_with (first | (go_at_call 26; (with_reducible refine (laws_sum.calls kj13 _ _ t490 t503 _ ?side1 ?side2 A86.out).mono ?_); (case side1 => repeat (first | exact (Kd.R_reads' HO_20.out).2.2 | (with_reducible refine Kd.C_alloc ?_ _) | (with_reducible refine Kd.C_drewN ?_ _) | (with_reducible refine Kd.C_drew ?_))); (case side2 => exact (Kd.R_reads' HO_20.out).2.1); rintro e w' ⟨rfl, ⟨nd, rfl⟩⟩) | (go_at_call 26; (with_reducible refine (laws_sum.calls kj13 _ _ t484 t504 _ ?side1 ?side2 A87.out).mono ?_); (case side1 => repeat (first | exact (Kd.R_reads' HO_18.out).2.2 | (with_reducible refine Kd.C_alloc ?_ _) | (with_reducible refine Kd.C_drewN ?_ _) | (with_reducible refine Kd.C_drew ?_))); (case side2 => exact (Kd.R_reads' HO_18.out).2.1); rintro e w' ⟨rfl, ⟨nd, rfl⟩⟩))
                  go_meet
                  case rel => exact ⟨_, (((wrap64 (t503 + t504)) != (wrap64 ((t490.length : Int) * t483)))), (by first | rfl | (simp; done) | (simp [*]; done)), H', ⟨by have := HJ13.out; first | omega | exact Nat.le_refl _⟩, ⟨by (with_reducible repeat (first | apply Kd.R_alloc | apply Kd.R_drewN | apply Kd.R_drew)); exact Kd.R_mono HO_4.out (fun _ hk => ⟨hk.1, hk.2.1⟩)⟩, ⟨by (with_reducible repeat (first | apply Kd.R_alloc | apply Kd.R_drewN | apply Kd.R_drew)); exact Kd.R_mono HO_5.out (fun _ hk => ⟨hk.1, hk.2.1⟩)⟩, ⟨by (with_reducible repeat (first | apply Kd.R_alloc | apply Kd.R_drewN | apply Kd.R_drew)); exact Kd.R_mono HO_9.out (fun _ hk => ⟨hk.1, hk.2.1⟩)⟩, ⟨by repeat (first | (with_reducible first | exact HB.out | apply below_alloc | apply pw_below_drewN | apply below_drew1) | exact HB.out)⟩⟩
                · rw [if_neg c85] at H
                  have c85b0 : (t491 == 0) = false := beq_eq_false_iff_ne.mpr c85
                  have c85b1 : (t491 != 0) = true := bne_iff_ne.mpr c85
                  (first | rw [c85b0] | (simp only [i64_w, i32_w]; rw [c85b0]) | skip)
                  have H' := Aside0.mk H
                  clear H
                  go_wp2
                  go_meet
                  case rel => exact ⟨_, (false), (by first | rfl | (simp; done) | (simp [*]; done)), H', ⟨by have := HJ13.out; first | omega | exact Nat.le_refl _⟩, ⟨by (with_reducible repeat (first | apply Kd.R_alloc | apply Kd.R_drewN | apply Kd.R_drew)); exact Kd.R_mono HO_4.out (fun _ hk => ⟨hk.1, hk.2.1⟩)⟩, ⟨by (with_reducible repeat (first | apply Kd.R_alloc | apply Kd.R_drewN | apply Kd.R_drew)); exact Kd.R_mono HO_5.out (fun _ hk => ⟨hk.1, hk.2.1⟩)⟩, ⟨by (with_reducible repeat (first | apply Kd.R_alloc | apply Kd.R_drewN | apply Kd.R_drew)); exact Kd.R_mono HO_9.out (fun _ hk => ⟨hk.1, hk.2.1⟩)⟩, ⟨by repeat (first | (with_reducible first | exact HB.out | apply below_alloc | apply pw_below_drewN | apply below_drew1) | exact HB.out)⟩⟩
            case rest =>
              as_aux_lemma =>
                clear HC84
                (try clear c1); (try clear c2); (try clear p2); (try clear c3); (try clear c4); (try clear p6); (try clear c8); (try clear c12); (try clear c13); (try clear c14); (try clear c15); (try clear c16); (try clear c17); (try clear c18); (try clear c19); (try clear c20); (try clear c21); (try clear c22); (try clear c28); (try clear c28b0); (try clear c28b1); (try clear c30); (try clear c31); (try clear c31b0); (try clear c31b1); (try clear c33); (try clear c34); (try clear c34b0); (try clear c34b1); (try clear c35); (try clear c35b0); (try clear c35b1); (try clear c36); (try clear c36b0); (try clear c36b1); (try clear c38); (try clear c40); (try clear c40b0); (try clear c40b1); (try clear c40b2); (try clear p64); (try clear c83); (try clear c85); (try clear c85b0); (try clear c85b1); (try clear p2)
                obtain ⟨kq, x162_83, rfl, HA, HJ83, HO_4, HO_5, HO_9, HB⟩ := hcut
                cases kq with
                | zero => exact absurd HA.out (by simp [laws_FnPackings.j1])
                | succ kj83 =>
                  have H := HA.out
                  clear HA
                  simp only [laws_FnPackings.j1] at H
                  by_cases c89 : x162_83 = true
                  · subst c89
                    have H1 : (none) = some r := by rw [if_pos rfl] at H; exact H
                    clear H
                    have H := H1
                    clear H1
                    exact absurd H (by simp)
                  · replace c89 := Bool.eq_false_iff.mpr c89
                    subst c89
                    have H1 : (if t464 = 0 then ((impl_SparesOf.f kj83 t459 t460 t463).bind fun bt505 => ((impl_SparesOf.f kj83 t459 t460 t471).bind fun bt509 => (if bt505.2 = 0 then (if bt509.2 = 0 then (if (bt505.1.length : Int) ≥ t479 then (some (decide ((bt509.1.length : Int) ≥ t479))) else (none)) else (none)) else (none)))) else (some true)) = some r := by rw [if_neg (show ¬ (false = true) by decide)] at H; exact H
                    clear H
                    have H := H1
                    clear H1
                    by_cases c90 : t464 = 0
                    · rw [if_pos c90] at H
                      have c90b0 : (t464 == 0) = true := beq_iff_eq.mpr c90
                      have c90b1 : (t464 != 0) = false := bne_eq_false_iff_eq.mpr c90
                      clear c90
                      replace H := Option.bind_eq_some_iff.mp H
                      obtain ⟨⟨t505, t506⟩, A910, H⟩ := H
                      replace H : ((impl_SparesOf.f kj83 t459 t460 t471).bind fun bt509 => (if t506 = 0 then (if bt509.2 = 0 then (if (t505.length : Int) ≥ t479 then (some (decide ((bt509.1.length : Int) ≥ t479))) else (none)) else (none)) else (none))) = some r := H
                      have A91 := Aside0.mk A910
                      clear A910
                      replace H := Option.bind_eq_some_iff.mp H
                      obtain ⟨⟨t509, t510⟩, A920, H⟩ := H
                      replace H : (if t506 = 0 then (if t510 = 0 then (if (t505.length : Int) ≥ t479 then (some (decide ((t509.length : Int) ≥ t479))) else (none)) else (none)) else (none)) = some r := H
                      have A92 := Aside0.mk A920
                      clear A920
                      by_cases c93 : t506 = 0
                      · rw [if_pos c93] at H
                        have c93b0 : (t506 == 0) = true := beq_iff_eq.mpr c93
                        have c93b1 : (t506 != 0) = false := bne_eq_false_iff_eq.mpr c93
                        clear c93
                        by_cases c94 : t510 = 0
                        · rw [if_pos c94] at H
                          have c94b0 : (t510 == 0) = true := beq_iff_eq.mpr c94
                          have c94b1 : (t510 != 0) = false := bne_eq_false_iff_eq.mpr c94
                          clear c94
                          by_cases c95 : (t505.length : Int) ≥ t479
                          · rw [if_pos c95] at H
                            have c95b0 : decide (t479 ≤ (t505.length : Int)) = true := decide_eq_true c95
                            clear c95
                            obtain rfl := Option.some.inj H
                            obtain ⟨Ao96, co96, eo96⟩ := Kd.R_slice HO_5.out
                            subst eo96
                            go_wp2_with (first | ((with_reducible refine gate_callee (f := 21) rfl ?_); refine goesL_ (some 169) rfl rfl Try.func21 (by kernel_rfl) rfl #[.int .i64 t459, .slice Ao16 t460.length co16, .slice Ao96 t463.length co96] rfl (by (try simp only [List.map_toArray, List.map_cons, List.map_nil]); first | done | rfl | (simp only [List.length_drop, List.length_take]; rfl)) ?_; (with_reducible refine (impl_SparesOf.calls kj83 t459 _ _ t460 _ _ t463 t505 t506 _ ?side1 ?side2 ?side3 ?side4 A91.out).mono ?_); (case side1 => repeat (first | exact (Kd.R_reads' HO_4.out).2.2 | (with_reducible refine Kd.C_alloc ?_ _) | (with_reducible refine Kd.C_drewN ?_ _) | (with_reducible refine Kd.C_drew ?_))); (case side2 => exact (Kd.R_reads' HO_4.out).2.1); (case side3 => repeat (first | exact (Kd.R_reads' HO_5.out).2.2 | (with_reducible refine Kd.C_alloc ?_ _) | (with_reducible refine Kd.C_drewN ?_ _) | (with_reducible refine Kd.C_drew ?_))); (case side4 => exact (Kd.R_reads' HO_5.out).2.1); rintro e w97 ⟨v507, rfl, ho0, hb⟩; refine ⟨_, rfl, ?_⟩; have n0_ := Aside0.mk (Kd.R_elder' (by (with_reducible repeat (first | apply Kd.R_alloc | apply Kd.R_drewN | apply Kd.R_drew)); exact HO_4.out) (Kd.R_base ho0) hb); have n1_ := Aside0.mk (Kd.R_elder' (by (with_reducible repeat (first | apply Kd.R_alloc | apply Kd.R_drewN | apply Kd.R_drew)); exact HO_5.out) (Kd.R_base ho0) hb); have n2_ := Aside0.mk (Kd.R_elder' (by (with_reducible repeat (first | apply Kd.R_alloc | apply Kd.R_drewN | apply Kd.R_drew)); exact HO_9.out) (Kd.R_base ho0) hb); have n3_ := Aside0.mk (Kd.R_lower (Kd.R_new' (Kd.R_new' (Kd.R_new' ho0 (Kd.R_lt (by (with_reducible repeat (first | apply Kd.R_alloc | apply Kd.R_drewN | apply Kd.R_drew)); exact HO_4.out))) (Kd.R_lt (by (with_reducible repeat (first | apply Kd.R_alloc | apply Kd.R_drewN | apply Kd.R_drew)); exact HO_5.out))) (Kd.R_lt (by (with_reducible repeat (first | apply Kd.R_alloc | apply Kd.R_drewN | apply Kd.R_drew)); exact HO_9.out))) (below_size (by repeat (first | (with_reducible first | exact HB.out | apply below_alloc | apply pw_below_drewN | apply below_drew1) | exact HB.out)))); have n4_ := Aside0.mk (below_step (by repeat (first | (with_reducible first | exact HB.out | apply below_alloc | apply pw_below_drewN | apply below_drew1) | exact HB.out)) hb); clear HO_4; clear HO_5; clear HO_9; clear HB; have HO_4 := n0_; have HO_5 := n1_; have HO_9 := n2_; have HO508 := n3_; have HB := n4_; clear n0_ n1_ n2_ n3_ n4_; (try clear hb); (try clear hb2); (try clear hk); (try clear hi); (try clear ho0); obtain ⟨Ao98, co98, eo98⟩ := Kd.R_slice HO_9.out; subst eo98) | ((with_reducible refine gate_callee (f := 21) rfl ?_); refine goesL_ (some 176) rfl rfl Try.func21 (by kernel_rfl) rfl #[.int .i64 t459, .slice Ao16 t460.length co16, .slice Ao98 t471.length co98] rfl (by (try simp only [List.map_toArray, List.map_cons, List.map_nil]); first | done | rfl | (simp only [List.length_drop, List.length_take]; rfl)) ?_; (with_reducible refine (impl_SparesOf.calls kj83 t459 _ _ t460 _ _ t471 t509 t510 _ ?side1 ?side2 ?side3 ?side4 A92.out).mono ?_); (case side1 => repeat (first | exact (Kd.R_reads' HO_4.out).2.2 | (with_reducible refine Kd.C_alloc ?_ _) | (with_reducible refine Kd.C_drewN ?_ _) | (with_reducible refine Kd.C_drew ?_))); (case side2 => exact (Kd.R_reads' HO_4.out).2.1); (case side3 => repeat (first | exact (Kd.R_reads' HO_9.out).2.2 | (with_reducible refine Kd.C_alloc ?_ _) | (with_reducible refine Kd.C_drewN ?_ _) | (with_reducible refine Kd.C_drew ?_))); (case side4 => exact (Kd.R_reads' HO_9.out).2.1); rintro e w99 ⟨v511, rfl, ho0, hb⟩; refine ⟨_, rfl, ?_⟩; have n0_ := Aside0.mk (Kd.R_elder' (by (with_reducible repeat (first | apply Kd.R_alloc | apply Kd.R_drewN | apply Kd.R_drew)); exact HO_4.out) (Kd.R_base ho0) hb); have n1_ := Aside0.mk (Kd.R_elder' (by (with_reducible repeat (first | apply Kd.R_alloc | apply Kd.R_drewN | apply Kd.R_drew)); exact HO_5.out) (Kd.R_base ho0) hb); have n2_ := Aside0.mk (Kd.R_elder' (by (with_reducible repeat (first | apply Kd.R_alloc | apply Kd.R_drewN | apply Kd.R_drew)); exact HO_9.out) (Kd.R_base ho0) hb); have n3_ := Aside0.mk (Kd.R_elder' (by (with_reducible repeat (first | apply Kd.R_alloc | apply Kd.R_drewN | apply Kd.R_drew)); exact HO508.out) (Kd.R_base ho0) hb); have n4_ := Aside0.mk (Kd.R_lower (Kd.R_new' (Kd.R_new' (Kd.R_new' (Kd.R_new' ho0 (Kd.R_lt (by (with_reducible repeat (first | apply Kd.R_alloc | apply Kd.R_drewN | apply Kd.R_drew)); exact HO_4.out))) (Kd.R_lt (by (with_reducible repeat (first | apply Kd.R_alloc | apply Kd.R_drewN | apply Kd.R_drew)); exact HO_5.out))) (Kd.R_lt (by (with_reducible repeat (first | apply Kd.R_alloc | apply Kd.R_drewN | apply Kd.R_drew)); exact HO_9.out))) (Kd.R_lt (by (with_reducible repeat (first | apply Kd.R_alloc | apply Kd.R_drewN | apply Kd.R_drew)); exact HO508.out))) (below_size (by repeat (first | (with_reducible first | exact HB.out | apply below_alloc | apply pw_below_drewN | apply below_drew1) | exact HB.out)))); have n5_ := Aside0.mk (below_step (by repeat (first | (with_reducible first | exact HB.out | apply below_alloc | apply pw_below_drewN | apply below_drew1) | exact HB.out)) hb); clear HO_4; clear HO_5; clear HO_9; clear HO508; clear HB; have HO_4 := n0_; have HO_5 := n1_; have HO_9 := n2_; have HO508 := n3_; have HO512 := n4_; have HB := n5_; clear n0_ n1_ n2_ n3_ n4_ n5_; (try clear hb); (try clear hb2); (try clear hk); (try clear hi); (try clear ho0); obtain ⟨Ao100, co100, eo100⟩ := Kd.R_slice HO508.out; subst eo100; obtain ⟨Ao101, co101, eo101⟩ := Kd.R_slice HO512.out; subst eo101))
                            go_ret
                            exact ⟨by first | rfl | (simp [errW_none, errW_some] <;> rfl) | (simp [*, errW_none, errW_some] <;> rfl), by repeat (first | (with_reducible first | exact HB.out | apply below_alloc | apply pw_below_drewN | apply below_drew1) | exact HB.out)⟩
                          · rw [if_neg c95] at H
                            exact absurd H (by simp)
                        · rw [if_neg c94] at H
                          exact absurd H (by simp)
                      · rw [if_neg c93] at H
                        exact absurd H (by simp)
                    · rw [if_neg c90] at H
                      have c90b0 : (t464 == 0) = false := beq_eq_false_iff_ne.mpr c90
                      have c90b1 : (t464 != 0) = true := bne_iff_ne.mpr c90
                      obtain rfl := Option.some.inj H
                      go_wp2
                      go_ret
                      exact ⟨by first | rfl | (simp [errW_none, errW_some] <;> rfl) | (simp [*, errW_none, errW_some] <;> rfl), by repeat (first | (with_reducible first | exact HB.out | apply below_alloc | apply pw_below_drewN | apply below_drew1) | exact HB.out)⟩

/-- THE ONE PURE STATEMENT of laws_FnPackings: yours. -/
def laws_FnPackings.Pure : Prop := ∀ (l0 : List Int), l0.length ≤ maxLen → l0.length * 1 ≤ 140737488351232 → (∀ x ∈ l0, (Lit.int .u8 x).wf = true) → ∃ k, laws_FnPackings.f k l0 = some true
theorem laws_FnPackings.walk (P : laws_FnPackings.Pure) (a0 : Option Addr) (len0 cap0 : Nat) (z0 : List Int) (w : World) (w0 : (a0 = none ∧ len0 = 0 ∧ cap0 = 0 ∧ z0 = []) ∨ ∃ x, a0 = some x ∧ len0 ≤ cap0 ∧ cap0 ≤ maxLen ∧ z0.length = cap0 ∧ (∀ i, i < z0.length → w.cell? (x.add i) = some (.int .u8 (z0.getD i 0))) ∧ ∀ n ∈ z0, (Lit.int .u8 n).wf = true) (y0 : len0 * 1 ≤ 140737488351232) :
    Calls Try.prog 3 #[.slice a0 len0 cap0] w fun e w' => e = .returned (.bool true) ∧ Below w.heap.size w w' := by
  obtain ⟨l0, rfl, hr0, hm0, hw0, hc0⟩ := ReadsInt.ofRowC w0
  obtain ⟨k, h⟩ := P l0 hm0 y0 hw0
  refine (laws_FnPackings.calls k _ _ l0 true w (Kd.C_of_reads (d := (0 : Int)) (h1 := fun _ => rfl) hr0) hc0 h).mono ?_
  rintro e w' ⟨rfl, hd⟩
  exact ⟨rfl, hd⟩

end Go.Proofs.Ytaapnjhgkbjdkaa.PFnPackings
