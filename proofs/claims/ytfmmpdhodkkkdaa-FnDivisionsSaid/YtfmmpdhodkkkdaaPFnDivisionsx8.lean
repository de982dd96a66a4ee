-- Written by wip/inject.py: a contract of each function that the law reaches; those of the stand-ins are proved in this seat's Hand texts
import Derived.Test.YtfmmpdhodkkkdaaPFnDivisionsx0
import Derived.Test.YtfmmpdhodkkkdaaPFnDivisionsx1
import Derived.Test.YtfmmpdhodkkkdaaPFnDivisionsx2
import Derived.Test.YtfmmpdhodkkkdaaPFnDivisionsx4
import Derived.Test.YtfmmpdhodkkkdaaPFnDivisionsx6
import Derived.Test.YtfmmpdhodkkkdaaPFnDivisionsx7
namespace Go.Proofs.Ytfmmpdhodkkkdaa.PFnDivisions
open Go.RowKit Go.Proofs.YtfmmpdhodkkkdaaW.PrintWords Go.Proofs.YtfmmpdhodkkkdaaW.PrintLast Go.Proofs.YtfmmpdhodkkkdaaW.PrintMore
attribute [local go_sem] max2_int min2_int max_two min_two max_three min_three max_four min_four   -- for this text's walks alone
set_option linter.unusedVariables false
set_option linter.unusedSimpArgs false

/-! ### laws_FnDivisions: function 12 -/
mutual
def laws_FnDivisions.j0 : Nat → Int → List Int → Int → List Int → Int → Int → Int → List Int → Int → Int → Int → Bool → Option (Bool)
  | 0, _, _, _, _, _, _, _, _, _, _, _, _ => none
  | k + 1, x3, x4, x5, x6, x7, x8, x12, x13, x15, x16, x17, x95 => if x95 = true then (some false) else (if x17 = 0 then ((impl_BestDivision.f k x12 x13 x15).bind fun bt390 => (if bt390.2.2 = 0 then (laws_FnDivisions.j1 k x3 x4 x5 x6 x7 x8 (decide (bt390.2.1 > x16))) else (laws_FnDivisions.j1 k x3 x4 x5 x6 x7 x8 true))) else (if x8 = 0 then ((impl_DividedCost.f k x3 x4 x6 x5).bind fun bt397 => (if bt397.2 = 0 then (some (bt397.1 == x7)) else (some false))) else (some true)))
def laws_FnDivisions.j1 : Nat → Int → List Int → Int → List Int → Int → Int → Bool → Option (Bool)
  | 0, _, _, _, _, _, _, _ => none
  | k + 1, x3, x4, x5, x6, x7, x8, x112 => if x112 = true then (some false) else (if x8 = 0 then ((impl_DividedCost.f k x3 x4 x6 x5).bind fun bt395 => (if bt395.2 = 0 then (some (bt395.1 == x7)) else (some false))) else (some true))
end
def laws_FnDivisions.f (k : Nat) (l0 : List Int) : Option (Bool) := (laws_big.f l0).bind fun t361 => (if t361 = true then (some true) else ((spec_DrawBestDivision.f k l0).bind fun bt362 => ((impl_BestDivision.f k bt362.1 bt362.2.1 bt362.2.2).bind fun bt367 => ((spec_BestDivision.f k bt362.1 bt362.2.1 bt362.2.2).bind fun bt372 => ((spec_DrawDividedCost.f k l0).bind fun bt377 => ((impl_DividedCost.f k bt377.1 bt377.2.1 bt377.2.2.1 bt377.2.2.2).bind fun bt385 => ((spec_DividedCost.f k bt377.1 bt377.2.1 bt377.2.2.1 bt377.2.2.2).bind fun bt387 => (if bt367.2.2 = bt372.2.2 then ((laws_likeInts.f k bt367.1 bt372.1).bind fun t389 => (if t389 = true then (if bt367.2.1 = bt372.2.1 then (if bt385.2 = bt387.2 then (laws_FnDivisions.j0 k bt362.1 bt362.2.1 bt362.2.2 bt367.1 bt367.2.1 bt367.2.2 bt377.1 bt377.2.1 bt377.2.2.2 bt385.1 bt385.2 (bt385.1 != bt387.1)) else (laws_FnDivisions.j0 k bt362.1 bt362.2.1 bt362.2.2 bt367.1 bt367.2.1 bt367.2.2 bt377.1 bt377.2.1 bt377.2.2.2 bt385.1 bt385.2 true)) else (laws_FnDivisions.j0 k bt362.1 bt362.2.1 bt362.2.2 bt367.1 bt367.2.1 bt367.2.2 bt377.1 bt377.2.1 bt377.2.2.2 bt385.1 bt385.2 true)) else (laws_FnDivisions.j0 k bt362.1 bt362.2.1 bt362.2.2 bt367.1 bt367.2.1 bt367.2.2 bt377.1 bt377.2.1 bt377.2.2.2 bt385.1 bt385.2 true))) else (laws_FnDivisions.j0 k bt362.1 bt362.2.1 bt362.2.2 bt367.1 bt367.2.1 bt367.2.2 bt377.1 bt377.2.1 bt377.2.2.2 bt385.1 bt385.2 true)))))))))
theorem laws_FnDivisions.mono_l : ∀ k, (∀ y0 y1 y2 y3 y4 y5 y6 y7 y8 y9 y10 y11, LeO (laws_FnDivisions.j0 k y0 y1 y2 y3 y4 y5 y6 y7 y8 y9 y10 y11) (laws_FnDivisions.j0 (k + 1) y0 y1 y2 y3 y4 y5 y6 y7 y8 y9 y10 y11)) ∧ (∀ y0 y1 y2 y3 y4 y5 y6, LeO (laws_FnDivisions.j1 k y0 y1 y2 y3 y4 y5 y6) (laws_FnDivisions.j1 (k + 1) y0 y1 y2 y3 y4 y5 y6))
  | 0 => ⟨fun _ _ _ _ _ _ _ _ _ _ _ _ r h => by simp [laws_FnDivisions.j0] at h, fun _ _ _ _ _ _ _ r h => by simp [laws_FnDivisions.j1] at h⟩
  | k + 1 => by
    obtain ⟨ih0, ih1⟩ := laws_FnDivisions.mono_l k
    refine ⟨?_, ?_⟩
    · intro y0 y1 y2 y3 y4 y5 y6 y7 y8 y9 y10 y11
      unfold laws_FnDivisions.j0
      repeat' first
      | (with_reducible exact ih0 _ _ _ _ _ _ _ _ _ _ _ _)
      | (with_reducible exact ih1 _ _ _ _ _ _ _)
      | (with_reducible exact impl_BestDivision.mono _ _ _ _)
      | (with_reducible exact impl_DividedCost.mono _ _ _ _ _)
      | (with_reducible exact laws_likeInts.mono _ _ _)
      | (with_reducible exact spec_BestDivision.mono _ _ _ _)
      | (with_reducible exact spec_DividedCost.mono _ _ _ _ _)
      | (with_reducible exact spec_DrawBestDivision.mono _ _)
      | (with_reducible exact spec_DrawDividedCost.mono _ _)
      | (with_reducible exact LeO.refl _)
      | (with_reducible exact LeO.none _)
      | (with_reducible refine LeO.ite ?_ ?_)
      | (with_reducible refine LeO.bind ?_ (fun _ => ?_))
      | exact ih0 _ _ _ _ _ _ _ _ _ _ _ _
      | exact ih1 _ _ _ _ _ _ _
      | exact impl_BestDivision.mono _ _ _ _
      | exact impl_DividedCost.mono _ _ _ _ _
      | exact laws_likeInts.mono _ _ _
      | exact spec_BestDivision.mono _ _ _ _
      | exact spec_DividedCost.mono _ _ _ _ _
      | exact spec_DrawBestDivision.mono _ _
      | exact spec_DrawDividedCost.mono _ _
      | exact LeO.none _
      | refine LeO.ite ?_ ?_
      | refine LeO.bind ?_ (fun _ => ?_)
    · intro y0 y1 y2 y3 y4 y5 y6
      unfold laws_FnDivisions.j1
      repeat' first
      | (with_reducible exact ih0 _ _ _ _ _ _ _ _ _ _ _ _)
      | (with_reducible exact ih1 _ _ _ _ _ _ _)
      | (with_reducible exact impl_BestDivision.mono _ _ _ _)
      | (with_reducible exact impl_DividedCost.mono _ _ _ _ _)
      | (with_reducible exact laws_likeInts.mono _ _ _)
      | (with_reducible exact spec_BestDivision.mono _ _ _ _)
      | (with_reducible exact spec_DividedCost.mono _ _ _ _ _)
      | (with_reducible exact spec_DrawBestDivision.mono _ _)
      | (with_reducible exact spec_DrawDividedCost.mono _ _)
      | (with_reducible exact LeO.refl _)
      | (with_reducible exact LeO.none _)
      | (with_reducible refine LeO.ite ?_ ?_)
      | (with_reducible refine LeO.bind ?_ (fun _ => ?_))
      | exact ih0 _ _ _ _ _ _ _ _ _ _ _ _
      | exact ih1 _ _ _ _ _ _ _
      | exact impl_BestDivision.mono _ _ _ _
      | exact impl_DividedCost.mono _ _ _ _ _
      | exact laws_likeInts.mono _ _ _
      | exact spec_BestDivision.mono _ _ _ _
      | exact spec_DividedCost.mono _ _ _ _ _
      | exact spec_DrawBestDivision.mono _ _
      | exact spec_DrawDividedCost.mono _ _
      | exact LeO.none _
      | refine LeO.ite ?_ ?_
      | refine LeO.bind ?_ (fun _ => ?_)
theorem laws_FnDivisions.mono : ∀ a0 k, LeO (laws_FnDivisions.f k a0) (laws_FnDivisions.f (k + 1) a0) := by
  intro a0 k
  obtain ⟨ih0, ih1⟩ := laws_FnDivisions.mono_l k
  unfold laws_FnDivisions.f
  repeat' first
      | (with_reducible exact ih0 _ _ _ _ _ _ _ _ _ _ _ _)
      | (with_reducible exact ih1 _ _ _ _ _ _ _)
      | (with_reducible exact impl_BestDivision.mono _ _ _ _)
      | (with_reducible exact impl_DividedCost.mono _ _ _ _ _)
      | (with_reducible exact laws_likeInts.mono _ _ _)
      | (with_reducible exact spec_BestDivision.mono _ _ _ _)
      | (with_reducible exact spec_DividedCost.mono _ _ _ _ _)
      | (with_reducible exact spec_DrawBestDivision.mono _ _)
      | (with_reducible exact spec_DrawDividedCost.mono _ _)
      | (with_reducible exact LeO.refl _)
      | (with_reducible exact LeO.none _)
      | (with_reducible refine LeO.ite ?_ ?_)
      | (with_reducible refine LeO.bind ?_ (fun _ => ?_))
      | exact ih0 _ _ _ _ _ _ _ _ _ _ _ _
      | exact ih1 _ _ _ _ _ _ _
      | exact impl_BestDivision.mono _ _ _ _
      | exact impl_DividedCost.mono _ _ _ _ _
      | exact laws_likeInts.mono _ _ _
      | exact spec_BestDivision.mono _ _ _ _
      | exact spec_DividedCost.mono _ _ _ _ _
      | exact spec_DrawBestDivision.mono _ _
      | exact spec_DrawDividedCost.mono _ _
      | exact LeO.none _
      | refine LeO.ite ?_ ?_
      | refine LeO.bind ?_ (fun _ => ?_)
set_option maxHeartbeats 8000000 in
set_option maxRecDepth 100000 in
theorem laws_FnDivisions.calls (k : Nat) (A0 : Option Addr) (c0 : Nat) (l0 : List Int) (r : Bool) (w : World) (hr0 : Kd.C (Kd.int .u8) w A0 l0.length l0) (hc0 : l0.length ≤ c0) (h : laws_FnDivisions.f k l0 = some r) :
    Calls Try.prog 12 #[.slice A0 l0.length c0] w fun e w' => e = .returned (.bool r) ∧ Below w.heap.size w w' := by
  have HR0 := Aside0.mk hr0
  have HC0 := Aside0.mk hc0
  clear hr0 hc0
  have HB := Aside0.mk (Below.refl w.heap.size w)
  have H : ((laws_big.f l0).bind fun t361 => (if t361 = true then (some true) else ((spec_DrawBestDivision.f k l0).bind fun bt362 => ((impl_BestDivision.f k bt362.1 bt362.2.1 bt362.2.2).bind fun bt367 => ((spec_BestDivision.f k bt362.1 bt362.2.1 bt362.2.2).bind fun bt372 => ((spec_DrawDividedCost.f k l0).bind fun bt377 => ((impl_DividedCost.f k bt377.1 bt377.2.1 bt377.2.2.1 bt377.2.2.2).bind fun bt385 => ((spec_DividedCost.f k bt377.1 bt377.2.1 bt377.2.2.1 bt377.2.2.2).bind fun bt387 => (if bt367.2.2 = bt372.2.2 then ((laws_likeInts.f k bt367.1 bt372.1).bind fun t389 => (if t389 = true then (if bt367.2.1 = bt372.2.1 then (if bt385.2 = bt387.2 then (laws_FnDivisions.j0 k bt362.1 bt362.2.1 bt362.2.2 bt367.1 bt367.2.1 bt367.2.2 bt377.1 bt377.2.1 bt377.2.2.2 bt385.1 bt385.2 (bt385.1 != bt387.1)) else (laws_FnDivisions.j0 k bt362.1 bt362.2.1 bt362.2.2 bt367.1 bt367.2.1 bt367.2.2 bt377.1 bt377.2.1 bt377.2.2.2 bt385.1 bt385.2 true)) else (laws_FnDivisions.j0 k bt362.1 bt362.2.1 bt362.2.2 bt367.1 bt367.2.1 bt367.2.2 bt377.1 bt377.2.1 bt377.2.2.2 bt385.1 bt385.2 true)) else (laws_FnDivisions.j0 k bt362.1 bt362.2.1 bt362.2.2 bt367.1 bt367.2.1 bt367.2.2 bt377.1 bt377.2.1 bt377.2.2.2 bt385.1 bt385.2 true))) else (laws_FnDivisions.j0 k bt362.1 bt362.2.1 bt362.2.2 bt367.1 bt367.2.1 bt367.2.2 bt377.1 bt377.2.1 bt377.2.2.2 bt385.1 bt385.2 true)))))))))) = some r := h
  clear h
  replace H := Option.bind_eq_some_iff.mp H
  obtain ⟨t361, A20, H⟩ := H
  replace H : (if t361 = true then (some true) else ((spec_DrawBestDivision.f k l0).bind fun bt362 => ((impl_BestDivision.f k bt362.1 bt362.2.1 bt362.2.2).bind fun bt367 => ((spec_BestDivision.f k bt362.1 bt362.2.1 bt362.2.2).bind fun bt372 => ((spec_DrawDividedCost.f k l0).bind fun bt377 => ((impl_DividedCost.f k bt377.1 bt377.2.1 bt377.2.2.1 bt377.2.2.2).bind fun bt385 => ((spec_DividedCost.f k bt377.1 bt377.2.1 bt377.2.2.1 bt377.2.2.2).bind fun bt387 => (if bt367.2.2 = bt372.2.2 then ((laws_likeInts.f k bt367.1 bt372.1).bind fun t389 => (if t389 = true then (if bt367.2.1 = bt372.2.1 then (if bt385.2 = bt387.2 then (laws_FnDivisions.j0 k bt362.1 bt362.2.1 bt362.2.2 bt367.1 bt367.2.1 bt367.2.2 bt377.1 bt377.2.1 bt377.2.2.2 bt385.1 bt385.2 (bt385.1 != bt387.1)) else (laws_FnDivisions.j0 k bt362.1 bt362.2.1 bt362.2.2 bt367.1 bt367.2.1 bt367.2.2 bt377.1 bt377.2.1 bt377.2.2.2 bt385.1 bt385.2 true)) else (laws_FnDivisions.j0 k bt362.1 bt362.2.1 bt362.2.2 bt367.1 bt367.2.1 bt367.2.2 bt377.1 bt377.2.1 bt377.2.2.2 bt385.1 bt385.2 true)) else (laws_FnDivisions.j0 k bt362.1 bt362.2.1 bt362.2.2 bt367.1 bt367.2.1 bt367.2.2 bt377.1 bt377.2.1 bt377.2.2.2 bt385.1 bt385.2 true))) else (laws_FnDivisions.j0 k bt362.1 bt362.2.1 bt362.2.2 bt367.1 bt367.2.1 bt367.2.2 bt377.1 bt377.2.1 bt377.2.2.2 bt385.1 bt385.2 true))))))))) = some r := H
  have A2 := Aside0.mk A20
  clear A20
  by_cases c3 : t361 = true
  · subst c3
    have H1 : (some true) = some r := by rw [if_pos rfl] at H; exact H
    clear H
    have H := H1
    clear H1
    obtain rfl := Option.some.inj H
    go_enter Try.func12, Try.ntmps12
    go_wp2_with (first | ((with_reducible refine gate_callee (f := 13) rfl ?_); refine goesL_ (some 26) rfl rfl Try.func13 (by kernel_rfl) rfl #[.slice A0 l0.length c0] rfl (by (try simp only [List.map_toArray, List.map_cons, List.map_nil]); first | done | rfl | (simp only [List.length_drop, List.length_take]; rfl)) ?_; (with_reducible refine (laws_big.calls _ _ l0 true _ ?side1 ?side2 A2.out).mono ?_); (case side1 => repeat (first | exact HR0.out | (with_reducible refine Kd.C_alloc ?_ _) | (with_reducible refine Kd.C_drewN ?_ _) | (with_reducible refine Kd.C_drew ?_))); (case side2 => exact HC0.out); rintro e w' ⟨rfl, ⟨nd, rfl⟩⟩; refine ⟨_, rfl, ?_⟩))
    go_ret
    exact ⟨by first | rfl | (simp [errW_none, errW_some] <;> rfl) | (simp [*, errW_none, errW_some] <;> rfl), by repeat (first | (with_reducible first | exact HB.out | apply below_alloc | apply pw_below_drewN | apply below_drew1) | exact HB.out)⟩
  · replace c3 := Bool.eq_false_iff.mpr c3
    subst c3
    have H1 : ((spec_DrawBestDivision.f k l0).bind fun bt362 => ((impl_BestDivision.f k bt362.1 bt362.2.1 bt362.2.2).bind fun bt367 => ((spec_BestDivision.f k bt362.1 bt362.2.1 bt362.2.2).bind fun bt372 => ((spec_DrawDividedCost.f k l0).bind fun bt377 => ((impl_DividedCost.f k bt377.1 bt377.2.1 bt377.2.2.1 bt377.2.2.2).bind fun bt385 => ((spec_DividedCost.f k bt377.1 bt377.2.1 bt377.2.2.1 bt377.2.2.2).bind fun bt387 => (if bt367.2.2 = bt372.2.2 then ((laws_likeInts.f k bt367.1 bt372.1).bind fun t389 => (if t389 = true then (if bt367.2.1 = bt372.2.1 then (if bt385.2 = bt387.2 then (laws_FnDivisions.j0 k bt362.1 bt362.2.1 bt362.2.2 bt367.1 bt367.2.1 bt367.2.2 bt377.1 bt377.2.1 bt377.2.2.2 bt385.1 bt385.2 (bt385.1 != bt387.1)) else (laws_FnDivisions.j0 k bt362.1 bt362.2.1 bt362.2.2 bt367.1 bt367.2.1 bt367.2.2 bt377.1 bt377.2.1 bt377.2.2.2 bt385.1 bt385.2 true)) else (laws_FnDivisions.j0 k bt362.1 bt362.2.1 bt362.2.2 bt367.1 bt367.2.1 bt367.2.2 bt377.1 bt377.2.1 bt377.2.2.2 bt385.1 bt385.2 true)) else (laws_FnDivisions.j0 k bt362.1 bt362.2.1 bt362.2.2 bt367.1 bt367.2.1 bt367.2.2 bt377.1 bt377.2.1 bt377.2.2.2 bt385.1 bt385.2 true))) else (laws_FnDivisions.j0 k bt362.1 bt362.2.1 bt362.2.2 bt367.1 bt367.2.1 bt367.2.2 bt377.1 bt377.2.1 bt377.2.2.2 bt385.1 bt385.2 true)))))))) = some r := by rw [if_neg (show ¬ (false = true) by decide)] at H; exact H
    clear H
    have H := H1
    clear H1
    replace H := Option.bind_eq_some_iff.mp H
    obtain ⟨⟨t362, t363, t364⟩, A40, H⟩ := H
    replace H : ((impl_BestDivision.f k t362 t363 t364).bind fun bt367 => ((spec_BestDivision.f k t362 t363 t364).bind fun bt372 => ((spec_DrawDividedCost.f k l0).bind fun bt377 => ((impl_DividedCost.f k bt377.1 bt377.2.1 bt377.2.2.1 bt377.2.2.2).bind fun bt385 => ((spec_DividedCost.f k bt377.1 bt377.2.1 bt377.2.2.1 bt377.2.2.2).bind fun bt387 => (if bt367.2.2 = bt372.2.2 then ((laws_likeInts.f k bt367.1 bt372.1).bind fun t389 => (if t389 = true then (if bt367.2.1 = bt372.2.1 then (if bt385.2 = bt387.2 then (laws_FnDivisions.j0 k t362 t363 t364 bt367.1 bt367.2.1 bt367.2.2 bt377.1 bt377.2.1 bt377.2.2.2 bt385.1 bt385.2 (bt385.1 != bt387.1)) else (laws_FnDivisions.j0 k t362 t363 t364 bt367.1 bt367.2.1 bt367.2.2 bt377.1 bt377.2.1 bt377.2.2.2 bt385.1 bt385.2 true)) else (laws_FnDivisions.j0 k t362 t363 t364 bt367.1 bt367.2.1 bt367.2.2 bt377.1 bt377.2.1 bt377.2.2.2 bt385.1 bt385.2 true)) else (laws_FnDivisions.j0 k t362 t363 t364 bt367.1 bt367.2.1 bt367.2.2 bt377.1 bt377.2.1 bt377.2.2.2 bt385.1 bt385.2 true))) else (laws_FnDivisions.j0 k t362 t363 t364 bt367.1 bt367.2.1 bt367.2.2 bt377.1 bt377.2.1 bt377.2.2.2 bt385.1 bt385.2 true))))))) = some r := H
    have A4 := Aside0.mk A40
    clear A40
    replace H := Option.bind_eq_some_iff.mp H
    obtain ⟨⟨t367, t368, t369⟩, A50, H⟩ := H
    replace H : ((spec_BestDivision.f k t362 t363 t364).bind fun bt372 => ((spec_DrawDividedCost.f k l0).bind fun bt377 => ((impl_DividedCost.f k bt377.1 bt377.2.1 bt377.2.2.1 bt377.2.2.2).bind fun bt385 => ((spec_DividedCost.f k bt377.1 bt377.2.1 bt377.2.2.1 bt377.2.2.2).bind fun bt387 => (if t369 = bt372.2.2 then ((laws_likeInts.f k t367 bt372.1).bind fun t389 => (if t389 = true then (if t368 = bt372.2.1 then (if bt385.2 = bt387.2 then (laws_FnDivisions.j0 k t362 t363 t364 t367 t368 t369 bt377.1 bt377.2.1 bt377.2.2.2 bt385.1 bt385.2 (bt385.1 != bt387.1)) else (laws_FnDivisions.j0 k t362 t363 t364 t367 t368 t369 bt377.1 bt377.2.1 bt377.2.2.2 bt385.1 bt385.2 true)) else (laws_FnDivisions.j0 k t362 t363 t364 t367 t368 t369 bt377.1 bt377.2.1 bt377.2.2.2 bt385.1 bt385.2 true)) else (laws_FnDivisions.j0 k t362 t363 t364 t367 t368 t369 bt377.1 bt377.2.1 bt377.2.2.2 bt385.1 bt385.2 true))) else (laws_FnDivisions.j0 k t362 t363 t364 t367 t368 t369 bt377.1 bt377.2.1 bt377.2.2.2 bt385.1 bt385.2 true)))))) = some r := H
    have A5 := Aside0.mk A50
    clear A50
    replace H := Option.bind_eq_some_iff.mp H
    obtain ⟨⟨t372, t373, t374⟩, A60, H⟩ := H
    replace H : ((spec_DrawDividedCost.f k l0).bind fun bt377 => ((impl_DividedCost.f k bt377.1 bt377.2.1 bt377.2.2.1 bt377.2.2.2).bind fun bt385 => ((spec_DividedCost.f k bt377.1 bt377.2.1 bt377.2.2.1 bt377.2.2.2).bind fun bt387 => (if t369 = t374 then ((laws_likeInts.f k t367 t372).bind fun t389 => (if t389 = true then (if t368 = t373 then (if bt385.2 = bt387.2 then (laws_FnDivisions.j0 k t362 t363 t364 t367 t368 t369 bt377.1 bt377.2.1 bt377.2.2.2 bt385.1 bt385.2 (bt385.1 != bt387.1)) else (laws_FnDivisions.j0 k t362 t363 t364 t367 t368 t369 bt377.1 bt377.2.1 bt377.2.2.2 bt385.1 bt385.2 true)) else (laws_FnDivisions.j0 k t362 t363 t364 t367 t368 t369 bt377.1 bt377.2.1 bt377.2.2.2 bt385.1 bt385.2 true)) else (laws_FnDivisions.j0 k t362 t363 t364 t367 t368 t369 bt377.1 bt377.2.1 bt377.2.2.2 bt385.1 bt385.2 true))) else (laws_FnDivisions.j0 k t362 t363 t364 t367 t368 t369 bt377.1 bt377.2.1 bt377.2.2.2 bt385.1 bt385.2 true))))) = some r := H
    have A6 := Aside0.mk A60
    clear A60
    replace H := Option.bind_eq_some_iff.mp H
    obtain ⟨⟨t377, t378, t379, t380⟩, A70, H⟩ := H
    replace H : ((impl_DividedCost.f k t377 t378 t379 t380).bind fun bt385 => ((spec_DividedCost.f k t377 t378 t379 t380).bind fun bt387 => (if t369 = t374 then ((laws_likeInts.f k t367 t372).bind fun t389 => (if t389 = true then (if t368 = t373 then (if bt385.2 = bt387.2 then (laws_FnDivisions.j0 k t362 t363 t364 t367 t368 t369 t377 t378 t380 bt385.1 bt385.2 (bt385.1 != bt387.1)) else (laws_FnDivisions.j0 k t362 t363 t364 t367 t368 t369 t377 t378 t380 bt385.1 bt385.2 true)) else (laws_FnDivisions.j0 k t362 t363 t364 t367 t368 t369 t377 t378 t380 bt385.1 bt385.2 true)) else (laws_FnDivisions.j0 k t362 t363 t364 t367 t368 t369 t377 t378 t380 bt385.1 bt385.2 true))) else (laws_FnDivisions.j0 k t362 t363 t364 t367 t368 t369 t377 t378 t380 bt385.1 bt385.2 true)))) = some r := H
    have A7 := Aside0.mk A70
    clear A70
    replace H := Option.bind_eq_some_iff.mp H
    obtain ⟨⟨t385, t386⟩, A80, H⟩ := H
    replace H : ((spec_DividedCost.f k t377 t378 t379 t380).bind fun bt387 => (if t369 = t374 then ((laws_likeInts.f k t367 t372).bind fun t389 => (if t389 = true then (if t368 = t373 then (if t386 = bt387.2 then (laws_FnDivisions.j0 k t362 t363 t364 t367 t368 t369 t377 t378 t380 t385 t386 (t385 != bt387.1)) else (laws_FnDivisions.j0 k t362 t363 t364 t367 t368 t369 t377 t378 t380 t385 t386 true)) else (laws_FnDivisions.j0 k t362 t363 t364 t367 t368 t369 t377 t378 t380 t385 t386 true)) else (laws_FnDivisions.j0 k t362 t363 t364 t367 t368 t369 t377 t378 t380 t385 t386 true))) else (laws_FnDivisions.j0 k t362 t363 t364 t367 t368 t369 t377 t378 t380 t385 t386 true))) = some r := H
    have A8 := Aside0.mk A80
    clear A80
    replace H := Option.bind_eq_some_iff.mp H
    obtain ⟨⟨t387, t388⟩, A90, H⟩ := H
    replace H : (if t369 = t374 then ((laws_likeInts.f k t367 t372).bind fun t389 => (if t389 = true then (if t368 = t373 then (if t386 = t388 then (laws_FnDivisions.j0 k t362 t363 t364 t367 t368 t369 t377 t378 t380 t385 t386 (t385 != t387)) else (laws_FnDivisions.j0 k t362 t363 t364 t367 t368 t369 t377 t378 t380 t385 t386 true)) else (laws_FnDivisions.j0 k t362 t363 t364 t367 t368 t369 t377 t378 t380 t385 t386 true)) else (laws_FnDivisions.j0 k t362 t363 t364 t367 t368 t369 t377 t378 t380 t385 t386 true))) else (laws_FnDivisions.j0 k t362 t363 t364 t367 t368 t369 t377 t378 t380 t385 t386 true)) = some r := H
    have A9 := Aside0.mk A90
    clear A90
    have HC10 := Aside0.mk H
    clear H
    go_enter Try.func12, Try.ntmps12
    go_upto_region 9 with (first | ((with_reducible refine gate_callee (f := 13) rfl ?_); refine goesL_ (some 26) rfl rfl Try.func13 (by kernel_rfl) rfl #[.slice A0 l0.length c0] rfl (by (try simp only [List.map_toArray, List.map_cons, List.map_nil]); first | done | rfl | (simp only [List.length_drop, List.length_take]; rfl)) ?_; (with_reducible refine (laws_big.calls _ _ l0 false _ ?side1 ?side2 A2.out).mono ?_); (case side1 => repeat (first | exact HR0.out | (with_reducible refine Kd.C_alloc ?_ _) | (with_reducible refine Kd.C_drewN ?_ _) | (with_reducible refine Kd.C_drew ?_))); (case side2 => exact HC0.out); rintro e w' ⟨rfl, ⟨nd, rfl⟩⟩; refine ⟨_, rfl, ?_⟩) | ((with_reducible refine gate_callee (f := 107) rfl ?_); refine goesL_ (some 29) rfl rfl Try.func107 (by kernel_rfl) rfl #[.slice A0 l0.length c0] rfl (by (try simp only [List.map_toArray, List.map_cons, List.map_nil]); first | done | rfl | (simp only [List.length_drop, List.length_take]; rfl)) ?_; (with_reducible refine (spec_DrawBestDivision.calls k _ _ l0 t362 t363 t364 _ ?side1 ?side2 A4.out).mono ?_); (case side1 => repeat (first | exact HR0.out | (with_reducible refine Kd.C_alloc ?_ _) | (with_reducible refine Kd.C_drewN ?_ _) | (with_reducible refine Kd.C_drew ?_))); (case side2 => exact HC0.out); rintro e w11 ⟨v365, rfl, ho0, hb⟩; refine ⟨_, rfl, ?_⟩; have n0_ := Aside0.mk (Kd.R_lower ho0 (below_size (by repeat (first | (with_reducible first | exact HB.out | apply below_alloc | apply pw_below_drewN | apply below_drew1) | exact HB.out)))); have n1_ := Aside0.mk (below_step (by repeat (first | (with_reducible first | exact HB.out | apply below_alloc | apply pw_below_drewN | apply below_drew1) | exact HB.out)) hb); clear HB; have HO366 := n0_; have HB := n1_; clear n0_ n1_; (try clear hb); (try clear hb2); (try clear hk); (try clear hi); (try clear ho0); obtain ⟨Ao12, co12, eo12⟩ := Kd.R_slice HO366.out; subst eo12) | ((with_reducible refine gate_callee (f := 108) rfl ?_); refine goesL_ (some 37) rfl rfl Try.func108 (by kernel_rfl) rfl #[.int .i64 t362, .slice Ao12 t363.length co12, .int .i64 t364] rfl (by (try simp only [List.map_toArray, List.map_cons, List.map_nil]); first | done | rfl | (simp only [List.length_drop, List.length_take]; rfl)) ?_; (with_reducible refine (impl_BestDivision.calls k t362 _ _ t363 t364 t367 t368 t369 _ ?side1 ?side2 A5.out).mono ?_); (case side1 => repeat (first | exact (Kd.R_reads' HO366.out).2.2 | (with_reducible refine Kd.C_alloc ?_ _) | (with_reducible refine Kd.C_drewN ?_ _) | (with_reducible refine Kd.C_drew ?_))); (case side2 => exact (Kd.R_reads' HO366.out).2.1); rintro e w13 ⟨v370, rfl, ho0, hb⟩; refine ⟨_, rfl, ?_⟩; have n0_ := Aside0.mk (Kd.R_elder' (by (with_reducible repeat (first | apply Kd.R_alloc | apply Kd.R_drewN | apply Kd.R_drew)); exact HO366.out) (Kd.R_base ho0) hb); have n1_ := Aside0.mk (Kd.R_lower (Kd.R_new' ho0 (Kd.R_lt (by (with_reducible repeat (first | apply Kd.R_alloc | apply Kd.R_drewN | apply Kd.R_drew)); exact HO366.out))) (below_size (by repeat (first | (with_reducible first | exact HB.out | apply below_alloc | apply pw_below_drewN | apply below_drew1) | exact HB.out)))); have n2_ := Aside0.mk (below_step (by repeat (first | (with_reducible first | exact HB.out | apply below_alloc | apply pw_below_drewN | apply below_drew1) | exact HB.out)) hb); clear HO366; clear HB; have HO366 := n0_; have HO371 := n1_; have HB := n2_; clear n0_ n1_ n2_; (try clear hb); (try clear hb2); (try clear hk); (try clear hi); (try clear ho0)) | ((with_reducible refine gate_callee (f := 109) rfl ?_); refine goesL_ (some 45) rfl rfl Try.func109 (by kernel_rfl) rfl #[.int .i64 t362, .slice Ao12 t363.length co12, .int .i64 t364] rfl (by (try simp only [List.map_toArray, List.map_cons, List.map_nil]); first | done | rfl | (simp only [List.length_drop, List.length_take]; rfl)) ?_; (with_reducible refine (spec_BestDivision.calls k t362 _ _ t363 t364 t372 t373 t374 _ ?side1 ?side2 A6.out).mono ?_); (case side1 => repeat (first | exact (Kd.R_reads' HO366.out).2.2 | (with_reducible refine Kd.C_alloc ?_ _) | (with_reducible refine Kd.C_drewN ?_ _) | (with_reducible refine Kd.C_drew ?_))); (case side2 => exact (Kd.R_reads' HO366.out).2.1); rintro e w14 ⟨v375, rfl, ho0, hb⟩; refine ⟨_, rfl, ?_⟩; have n0_ := Aside0.mk (Kd.R_elder' (by (with_reducible repeat (first | apply Kd.R_alloc | apply Kd.R_drewN | apply Kd.R_drew)); exact HO366.out) (Kd.R_base ho0) hb); have n1_ := Aside0.mk (Kd.R_elder' (by (with_reducible repeat (first | apply Kd.R_alloc | apply Kd.R_drewN | apply Kd.R_drew)); exact HO371.out) (Kd.R_base ho0) hb); have n2_ := Aside0.mk (Kd.R_lower (Kd.R_new' (Kd.R_new' ho0 (Kd.R_lt (by (with_reducible repeat (first | apply Kd.R_alloc | apply Kd.R_drewN | apply Kd.R_drew)); exact HO366.out))) (Kd.R_lt (by (with_reducible repeat (first | apply Kd.R_alloc | apply Kd.R_drewN | apply Kd.R_drew)); exact HO371.out))) (below_size (by repeat (first | (with_reducible first | exact HB.out | apply below_alloc | apply pw_below_drewN | apply below_drew1) | exact HB.out)))); have n3_ := Aside0.mk (below_step (by repeat (first | (with_reducible first | exact HB.out | apply below_alloc | apply pw_below_drewN | apply below_drew1) | exact HB.out)) hb); clear HO366; clear HO371; clear HB; have HO366 := n0_; have HO371 := n1_; have HO376 := n2_; have HB := n3_; clear n0_ n1_ n2_ n3_; (try clear hb); (try clear hb2); (try clear hk); (try clear hi); (try clear ho0)) | ((with_reducible refine gate_callee (f := 110) rfl ?_); refine goesL_ (some 51) rfl rfl Try.func110 (by kernel_rfl) rfl #[.slice A0 l0.length c0] rfl (by (try simp only [List.map_toArray, List.map_cons, List.map_nil]); first | done | rfl | (simp only [List.length_drop, List.length_take]; rfl)) ?_; (with_reducible refine (spec_DrawDividedCost.calls k _ _ l0 t377 t378 t379 t380 _ ?side1 ?side2 A7.out).mono ?_); (case side1 => repeat (first | exact (Kd.C_below HR0.out HB.out) | (with_reducible refine Kd.C_alloc ?_ _) | (with_reducible refine Kd.C_drewN ?_ _) | (with_reducible refine Kd.C_drew ?_))); (case side2 => exact HC0.out); rintro e w15 ⟨v381, v383, rfl, ho0, ho1, hb⟩; refine ⟨_, rfl, ?_⟩; have n0_ := Aside0.mk (Kd.R_mono (Kd.R_told (Kd.R_told (Kd.R_old (by (with_reducible repeat (first | apply Kd.R_alloc | apply Kd.R_drewN | apply Kd.R_drew)); exact HO366.out) hb) (Kd.R_base ho0)) (Kd.Q_base ho1)) (fun _ h_ => h_.1)); have n1_ := Aside0.mk (Kd.R_mono (Kd.R_told (Kd.R_told (Kd.R_old (by (with_reducible repeat (first | apply Kd.R_alloc | apply Kd.R_drewN | apply Kd.R_drew)); exact HO371.out) hb) (Kd.R_base ho0)) (Kd.Q_base ho1)) (fun _ h_ => h_.1)); have n2_ := Aside0.mk (Kd.R_mono (Kd.R_told (Kd.R_told (Kd.R_old (by (with_reducible repeat (first | apply Kd.R_alloc | apply Kd.R_drewN | apply Kd.R_drew)); exact HO376.out) hb) (Kd.R_base ho0)) (Kd.Q_base ho1)) (fun _ h_ => h_.1)); have n3_ := Aside0.mk (Kd.R_lower (Kd.R_new' (Kd.R_new' (Kd.R_new' ho0 (Kd.R_lt (by (with_reducible repeat (first | apply Kd.R_alloc | apply Kd.R_drewN | apply Kd.R_drew)); exact HO366.out))) (Kd.R_lt (by (with_reducible repeat (first | apply Kd.R_alloc | apply Kd.R_drewN | apply Kd.R_drew)); exact HO371.out))) (Kd.R_lt (by (with_reducible repeat (first | apply Kd.R_alloc | apply Kd.R_drewN | apply Kd.R_drew)); exact HO376.out))) (below_size (by repeat (first | (with_reducible first | exact HB.out | apply below_alloc | apply pw_below_drewN | apply below_drew1) | exact HB.out)))); have n4_ := Aside0.mk (Kd.Q_lower (Kd.Q_new' (Kd.Q_new' (Kd.Q_new' ho1 (Kd.R_lt (by (with_reducible repeat (first | apply Kd.R_alloc | apply Kd.R_drewN | apply Kd.R_drew)); exact HO366.out))) (Kd.R_lt (by (with_reducible repeat (first | apply Kd.R_alloc | apply Kd.R_drewN | apply Kd.R_drew)); exact HO371.out))) (Kd.R_lt (by (with_reducible repeat (first | apply Kd.R_alloc | apply Kd.R_drewN | apply Kd.R_drew)); exact HO376.out))) (below_size (by repeat (first | (with_reducible first | exact HB.out | apply below_alloc | apply pw_below_drewN | apply below_drew1) | exact HB.out)))); have n5_ := Aside0.mk (below_step (by repeat (first | (with_reducible first | exact HB.out | apply below_alloc | apply pw_below_drewN | apply below_drew1) | exact HB.out)) hb); clear HO366; clear HO371; clear HO376; clear HB; have HO366 := n0_; have HO371 := n1_; have HO376 := n2_; have HO382 := n3_; have HO384 := n4_; have HB := n5_; clear n0_ n1_ n2_ n3_ n4_ n5_; (try clear hb); (try clear hb2); (try clear hk); (try clear hi); (try clear ho0); (try clear ho1); obtain ⟨Ao16, co16, eo16⟩ := Kd.R_slice HO382.out; subst eo16; obtain ⟨Ao17, co17, eo17, _⟩ := Kd.Q_slice HO384.out; subst eo17) | ((with_reducible refine gate_callee (f := 111) rfl ?_); refine goesL_ (some 61) rfl rfl Try.func111 (by kernel_rfl) rfl #[.int .i64 t377, .slice Ao16 t378.length co16, .slice Ao17 t379.length co17, .int .i64 t380] rfl (by (try simp only [List.map_toArray, List.map_cons, List.map_nil]); first | done | rfl | (simp only [List.length_drop, List.length_take]; rfl)) ?_; (with_reducible refine (impl_DividedCost.calls k t377 _ _ t378 _ _ t379 t380 t385 t386 _ ?side1 ?side2 ?side3 ?side4 A8.out).mono ?_); (case side1 => repeat (first | exact (Kd.R_reads' HO382.out).2.2 | (with_reducible refine Kd.C_alloc ?_ _) | (with_reducible refine Kd.C_drewN ?_ _) | (with_reducible refine Kd.C_drew ?_))); (case side2 => exact (Kd.R_reads' HO382.out).2.1); (case side3 => repeat (first | exact (Kd.Q_reads' HO384.out).2.2 | (with_reducible refine Kd.C_alloc ?_ _) | (with_reducible refine Kd.C_drewN ?_ _) | (with_reducible refine Kd.C_drew ?_))); (case side4 => exact (Kd.Q_reads' HO384.out).2.1); rintro e w18 ⟨rfl, hb⟩; refine ⟨_, rfl, ?_⟩; have n0_ := Aside0.mk (Kd.R_below (by (with_reducible repeat (first | apply Kd.R_alloc | apply Kd.R_drewN | apply Kd.R_drew)); exact HO366.out) hb); have n1_ := Aside0.mk (Kd.R_below (by (with_reducible repeat (first | apply Kd.R_alloc | apply Kd.R_drewN | apply Kd.R_drew)); exact HO371.out) hb); have n2_ := Aside0.mk (Kd.R_below (by (with_reducible repeat (first | apply Kd.R_alloc | apply Kd.R_drewN | apply Kd.R_drew)); exact HO376.out) hb); have n3_ := Aside0.mk (Kd.R_below (by (with_reducible repeat (first | apply Kd.R_alloc | apply Kd.R_drewN | apply Kd.R_drew)); exact HO382.out) hb); have n4_ := Aside0.mk (Kd.Q_below (by (with_reducible repeat (first | apply Kd.Q_alloc | apply Kd.Q_drewN | apply Kd.Q_drew)); exact HO384.out) hb); have n5_ := Aside0.mk (below_step (by repeat (first | (with_reducible first | exact HB.out | apply below_alloc | apply pw_below_drewN | apply below_drew1) | exact HB.out)) hb); clear HO366; clear HO371; clear HO376; clear HO382; clear HO384; clear HB; have HO366 := n0_; have HO371 := n1_; have HO376 := n2_; have HO382 := n3_; have HO384 := n4_; have HB := n5_; clear n0_ n1_ n2_ n3_ n4_ n5_; (try clear hb); (try clear hb2); (try clear hk); (try clear hi)) | ((with_reducible refine gate_callee (f := 112) rfl ?_); refine goesL_ (some 69) rfl rfl Try.func112 (by kernel_rfl) rfl #[.int .i64 t377, .slice Ao16 t378.length co16, .slice Ao17 t379.length co17, .int .i64 t380] rfl (by (try simp only [List.map_toArray, List.map_cons, List.map_nil]); first | done | rfl | (simp only [List.length_drop, List.length_take]; rfl)) ?_; (with_reducible refine (spec_DividedCost.calls k t377 _ _ t378 _ _ t379 t380 t387 t388 _ ?side1 ?side2 ?side3 ?side4 A9.out).mono ?_); (case side1 => repeat (first | exact (Kd.R_reads' HO382.out).2.2 | (with_reducible refine Kd.C_alloc ?_ _) | (with_reducible refine Kd.C_drewN ?_ _) | (with_reducible refine Kd.C_drew ?_))); (case side2 => exact (Kd.R_reads' HO382.out).2.1); (case side3 => repeat (first | exact (Kd.Q_reads' HO384.out).2.2 | (with_reducible refine Kd.C_alloc ?_ _) | (with_reducible refine Kd.C_drewN ?_ _) | (with_reducible refine Kd.C_drew ?_))); (case side4 => exact (Kd.Q_reads' HO384.out).2.1); rintro e w19 ⟨rfl, hb⟩; refine ⟨_, rfl, ?_⟩; have n0_ := Aside0.mk (Kd.R_below (by (with_reducible repeat (first | apply Kd.R_alloc | apply Kd.R_drewN | apply Kd.R_drew)); exact HO366.out) hb); have n1_ := Aside0.mk (Kd.R_below (by (with_reducible repeat (first | apply Kd.R_alloc | apply Kd.R_drewN | apply Kd.R_drew)); exact HO371.out) hb); have n2_ := Aside0.mk (Kd.R_below (by (with_reducible repeat (first | apply Kd.R_alloc | apply Kd.R_drewN | apply Kd.R_drew)); exact HO376.out) hb); have n3_ := Aside0.mk (Kd.R_below (by (with_reducible repeat (first | apply Kd.R_alloc | apply Kd.R_drewN | apply Kd.R_drew)); exact HO382.out) hb); have n4_ := Aside0.mk (Kd.Q_below (by (with_reducible repeat (first | apply Kd.Q_alloc | apply Kd.Q_drewN | apply Kd.Q_drew)); exact HO384.out) hb); have n5_ := Aside0.mk (below_step (by repeat (first | (with_reducible first | exact HB.out | apply below_alloc | apply pw_below_drewN | apply below_drew1) | exact HB.out)) hb); clear HO366; clear HO371; clear HO376; clear HO382; clear HO384; clear HB; have HO366 := n0_; have HO371 := n1_; have HO376 := n2_; have HO382 := n3_; have HO384 := n4_; have HB := n5_; clear n0_ n1_ n2_ n3_ n4_ n5_; (try clear hb); (try clear hb2); (try clear hk); (try clear hi)))
    (try simp only [Act.put, List.setIfInBounds_toArray, List.set_cons_zero, List.set_cons_succ])
    go_cut [95] (fun v95 wc => ∃ (kq : Nat) (x95_9 : Bool), v95 = .bool x95_9 ∧ Aside0 (laws_FnDivisions.j0 kq t362 t363 t364 t367 t368 t369 t377 t378 t380 t385 t386 x95_9 = some r) ∧ Aside0 (kq ≤ k) ∧ Aside0 (Kd.R (Kd.int .i64) 2 wc w.heap.size (fun k_ => some k_ ≠ (v370 : Value).ownBlock ∧ some k_ ≠ ((.slice Ao16 t378.length co16) : Value).ownBlock) (.slice Ao12 t363.length co12) t363) ∧ Aside0 (Kd.R (Kd.int .i64) 2 wc w.heap.size (fun k_ => some k_ ≠ ((.slice Ao12 t363.length co12) : Value).ownBlock ∧ some k_ ≠ ((.slice Ao16 t378.length co16) : Value).ownBlock) v370 t367) ∧ Aside0 (Kd.R (Kd.int .i64) 2 wc w.heap.size (fun k_ => some k_ ≠ ((.slice Ao12 t363.length co12) : Value).ownBlock ∧ some k_ ≠ (v370 : Value).ownBlock) (.slice Ao16 t378.length co16) t378) ∧ Aside0 (Below w.heap.size w wc))
    case first =>
      have H := HC10.out
      clear HC10
      by_cases c20 : t369 = t374
      · rw [if_pos c20] at H
        have c20b0 : (t369 == t374) = true := beq_iff_eq.mpr c20
        have c20b1 : (t369 != t374) = false := bne_eq_false_iff_eq.mpr c20
        clear c20
        (first | rw [c20b0] | (simp only [i64_w, i32_w]; rw [c20b0]) | skip)
        replace H := Option.bind_eq_some_iff.mp H
        obtain ⟨t389, A210, H⟩ := H
        replace H : (if t389 = true then (if t368 = t373 then (if t386 = t388 then (laws_FnDivisions.j0 k t362 t363 t364 t367 t368 t369 t377 t378 t380 t385 t386 (t385 != t387)) else (laws_FnDivisions.j0 k t362 t363 t364 t367 t368 t369 t377 t378 t380 t385 t386 true)) else (laws_FnDivisions.j0 k t362 t363 t364 t367 t368 t369 t377 t378 t380 t385 t386 true)) else (laws_FnDivisions.j0 k t362 t363 t364 t367 t368 t369 t377 t378 t380 t385 t386 true)) = some r := H
        have A21 := Aside0.mk A210
        clear A210
        by_cases c22 : t389 = true
        · subst c22
          have H1 : (if t368 = t373 then (if t386 = t388 then (laws_FnDivisions.j0 k t362 t363 t364 t367 t368 t369 t377 t378 t380 t385 t386 (t385 != t387)) else (laws_FnDivisions.j0 k t362 t363 t364 t367 t368 t369 t377 t378 t380 t385 t386 true)) else (laws_FnDivisions.j0 k t362 t363 t364 t367 t368 t369 t377 t378 t380 t385 t386 true)) = some r := by rw [if_pos rfl] at H; exact H
          clear H
          have H := H1
          clear H1
          by_cases c23 : t368 = t373
          · rw [if_pos c23] at H
            have c23b0 : (t368 == t373) = true := beq_iff_eq.mpr c23
            have c23b1 : (t368 != t373) = false := bne_eq_false_iff_eq.mpr c23
            clear c23
            by_cases c24 : t386 = t388
            · rw [if_pos c24] at H
              have c24b0 : (t386 == t388) = true := beq_iff_eq.mpr c24
              have c24b1 : (t386 != t388) = false := bne_eq_false_iff_eq.mpr c24
              clear c24
              have H' := Aside0.mk H
              clear H
              obtain ⟨Ao25, co25, eo25⟩ := Kd.R_slice HO371.out
              subst eo25
              obtain ⟨Ao26, co26, eo26⟩ := Kd.R_slice HO376.out
              subst eo26
              go_wp2_with (first | (go_at_call 22; (with_reducible refine (laws_likeInts.calls k _ _ t367 _ _ t372 true _ ?side1 ?side2 ?side3 ?side4 A21.out).mono ?_); (case side1 => repeat (first | exact (Kd.R_reads' HO371.out).2.2 | (with_reducible refine Kd.C_alloc ?_ _) | (with_reducible refine Kd.C_drewN ?_ _) | (with_reducible refine Kd.C_drew ?_))); (case side2 => exact (Kd.R_reads' HO371.out).2.1); (case side3 => repeat (first | exact (Kd.R_reads' HO376.out).2.2 | (with_reducible refine Kd.C_alloc ?_ _) | (with_reducible refine Kd.C_drewN ?_ _) | (with_reducible refine Kd.C_drew ?_))); (case side4 => exact (Kd.R_reads' HO376.out).2.1); rintro e w' ⟨rfl, ⟨nd, rfl⟩⟩))
              go_meet
              case rel => exact ⟨_, ((t385 != t387)), (by first | rfl | (simp; done) | (simp [*]; done)), H', ⟨by first | omega | exact Nat.le_refl _⟩, ⟨by (with_reducible repeat (first | apply Kd.R_alloc | apply Kd.R_drewN | apply Kd.R_drew)); exact Kd.R_mono HO366.out (fun _ hk => ⟨hk.1.1.1.2, hk.1.2⟩)⟩, ⟨by (with_reducible repeat (first | apply Kd.R_alloc | apply Kd.R_drewN | apply Kd.R_drew)); exact Kd.R_mono HO371.out (fun _ hk => ⟨hk.1.1.1.2, hk.1.2⟩)⟩, ⟨by (with_reducible repeat (first | apply Kd.R_alloc | apply Kd.R_drewN | apply Kd.R_drew)); exact Kd.R_mono HO382.out (fun _ hk => ⟨hk.1.1.2, hk.1.2⟩)⟩, ⟨by repeat (first | (with_reducible first | exact HB.out | apply below_alloc | apply pw_below_drewN | apply below_drew1) | exact HB.out)⟩⟩
            · rw [if_neg c24] at H
              have c24b0 : (t386 == t388) = false := beq_eq_false_iff_ne.mpr c24
              have c24b1 : (t386 != t388) = true := bne_iff_ne.mpr c24
              have H' := Aside0.mk H
              clear H
              obtain ⟨Ao27, co27, eo27⟩ := Kd.R_slice HO371.out
              subst eo27
              obtain ⟨Ao28, co28, eo28⟩ := Kd.R_slice HO376.out
              subst eo28
              go_wp2_with (first | (go_at_call 22; (with_reducible refine (laws_likeInts.calls k _ _ t367 _ _ t372 true _ ?side1 ?side2 ?side3 ?side4 A21.out).mono ?_); (case side1 => repeat (first | exact (Kd.R_reads' HO371.out).2.2 | (with_reducible refine Kd.C_alloc ?_ _) | (with_reducible refine Kd.C_drewN ?_ _) | (with_reducible refine Kd.C_drew ?_))); (case side2 => exact (Kd.R_reads' HO371.out).2.1); (case side3 => repeat (first | exact (Kd.R_reads' HO376.out).2.2 | (with_reducible refine Kd.C_alloc ?_ _) | (with_reducible refine Kd.C_drewN ?_ _) | (with_reducible refine Kd.C_drew ?_))); (case side4 => exact (Kd.R_reads' HO376.out).2.1); rintro e w' ⟨rfl, ⟨nd, rfl⟩⟩))
              go_meet
              case rel => exact ⟨_, (true), (by first | rfl | (simp; done) | (simp [*]; done)), H', ⟨by first | omega | exact Nat.le_refl _⟩, ⟨by (with_reducible repeat (first | apply Kd.R_alloc | apply Kd.R_drewN | apply Kd.R_drew)); exact Kd.R_mono HO366.out (fun _ hk => ⟨hk.1.1.1.2, hk.1.2⟩)⟩, ⟨by (with_reducible repeat (first | apply Kd.R_alloc | apply Kd.R_drewN | apply Kd.R_drew)); exact Kd.R_mono HO371.out (fun _ hk => ⟨hk.1.1.1.2, hk.1.2⟩)⟩, ⟨by (with_reducible repeat (first | apply Kd.R_alloc | apply Kd.R_drewN | apply Kd.R_drew)); exact Kd.R_mono HO382.out (fun _ hk => ⟨hk.1.1.2, hk.1.2⟩)⟩, ⟨by repeat (first | (with_reducible first | exact HB.out | apply below_alloc | apply pw_below_drewN | apply below_drew1) | exact HB.out)⟩⟩
          · rw [if_neg c23] at H
            have c23b0 : (t368 == t373) = false := beq_eq_false_iff_ne.mpr c23
            have c23b1 : (t368 != t373) = true := bne_iff_ne.mpr c23
            have H' := Aside0.mk H
            clear H
            obtain ⟨Ao29, co29, eo29⟩ := Kd.R_slice HO371.out
            subst eo29
            obtain ⟨Ao30, co30, eo30⟩ := Kd.R_slice HO376.out
            subst eo30
            go_wp2_with (first | (go_at_call 22; (with_reducible refine (laws_likeInts.calls k _ _ t367 _ _ t372 true _ ?side1 ?side2 ?side3 ?side4 A21.out).mono ?_); (case side1 => repeat (first | exact (Kd.R_reads' HO371.out).2.2 | (with_reducible refine Kd.C_alloc ?_ _) | (with_reducible refine Kd.C_drewN ?_ _) | (with_reducible refine Kd.C_drew ?_))); (case side2 => exact (Kd.R_reads' HO371.out).2.1); (case side3 => repeat (first | exact (Kd.R_reads' HO376.out).2.2 | (with_reducible refine Kd.C_alloc ?_ _) | (with_reducible refine Kd.C_drewN ?_ _) | (with_reducible refine Kd.C_drew ?_))); (case side4 => exact (Kd.R_reads' HO376.out).2.1); rintro e w' ⟨rfl, ⟨nd, rfl⟩⟩))
            go_meet
            case rel => exact ⟨_, (true), (by first | rfl | (simp; done) | (simp [*]; done)), H', ⟨by first | omega | exact Nat.le_refl _⟩, ⟨by (with_reducible repeat (first | apply Kd.R_alloc | apply Kd.R_drewN | apply Kd.R_drew)); exact Kd.R_mono HO366.out (fun _ hk => ⟨hk.1.1.1.2, hk.1.2⟩)⟩, ⟨by (with_reducible repeat (first | apply Kd.R_alloc | apply Kd.R_drewN | apply Kd.R_drew)); exact Kd.R_mono HO371.out (fun _ hk => ⟨hk.1.1.1.2, hk.1.2⟩)⟩, ⟨by (with_reducible repeat (first | apply Kd.R_alloc | apply Kd.R_drewN | apply Kd.R_drew)); exact Kd.R_mono HO382.out (fun _ hk => ⟨hk.1.1.2, hk.1.2⟩)⟩, ⟨by repeat (first | (with_reducible first | exact HB.out | apply below_alloc | apply pw_below_drewN | apply below_drew1) | exact HB.out)⟩⟩
        · replace c22 := Bool.eq_false_iff.mpr c22
          subst c22
          have H1 : (laws_FnDivisions.j0 k t362 t363 t364 t367 t368 t369 t377 t378 t380 t385 t386 true) = some r := by rw [if_neg (show ¬ (false = true) by decide)] at H; exact H
          clear H
          have H := H1
          clear H1
          have H' := Aside0.mk H
          clear H
          obtain ⟨Ao31, co31, eo31⟩ := Kd.R_slice HO371.out
          subst eo31
          obtain ⟨Ao32, co32, eo32⟩ := Kd.R_slice HO376.out
          subst eo32
          go_wp2_with (first | (go_at_call 22; (with_reducible refine (laws_likeInts.calls k _ _ t367 _ _ t372 false _ ?side1 ?side2 ?side3 ?side4 A21.out).mono ?_); (case side1 => repeat (first | exact (Kd.R_reads' HO371.out).2.2 | (with_reducible refine Kd.C_alloc ?_ _) | (with_reducible refine Kd.C_drewN ?_ _) | (with_reducible refine Kd.C_drew ?_))); (case side2 => exact (Kd.R_reads' HO371.out).2.1); (case side3 => repeat (first | exact (Kd.R_reads' HO376.out).2.2 | (with_reducible refine Kd.C_alloc ?_ _) | (with_reducible refine Kd.C_drewN ?_ _) | (with_reducible refine Kd.C_drew ?_))); (case side4 => exact (Kd.R_reads' HO376.out).2.1); rintro e w' ⟨rfl, ⟨nd, rfl⟩⟩))
          go_meet
          case rel => exact ⟨_, (true), (by first | rfl | (simp; done) | (simp [*]; done)), H', ⟨by first | omega | exact Nat.le_refl _⟩, ⟨by (with_reducible repeat (first | apply Kd.R_alloc | apply Kd.R_drewN | apply Kd.R_drew)); exact Kd.R_mono HO366.out (fun _ hk => ⟨hk.1.1.1.2, hk.1.2⟩)⟩, ⟨by (with_reducible repeat (first | apply Kd.R_alloc | apply Kd.R_drewN | apply Kd.R_drew)); exact Kd.R_mono HO371.out (fun _ hk => ⟨hk.1.1.1.2, hk.1.2⟩)⟩, ⟨by (with_reducible repeat (first | apply Kd.R_alloc | apply Kd.R_drewN | apply Kd.R_drew)); exact Kd.R_mono HO382.out (fun _ hk => ⟨hk.1.1.2, hk.1.2⟩)⟩, ⟨by repeat (first | (with_reducible first | exact HB.out | apply below_alloc | apply pw_below_drewN | apply below_drew1) | exact HB.out)⟩⟩
      · rw [if_neg c20] at H
        have c20b0 : (t369 == t374) = false := beq_eq_false_iff_ne.mpr c20
        have c20b1 : (t369 != t374) = true := bne_iff_ne.mpr c20
        (first | rw [c20b0] | (simp only [i64_w, i32_w]; rw [c20b0]) | skip)
        have H' := Aside0.mk H
        clear H
        go_wp2
        go_meet
        case rel => exact ⟨_, (true), (by first | rfl | (simp; done) | (simp [*]; done)), H', ⟨by first | omega | exact Nat.le_refl _⟩, ⟨by (with_reducible repeat (first | apply Kd.R_alloc | apply Kd.R_drewN | apply Kd.R_drew)); exact Kd.R_mono HO366.out (fun _ hk => ⟨hk.1.1.1.2, hk.1.2⟩)⟩, ⟨by (with_reducible repeat (first | apply Kd.R_alloc | apply Kd.R_drewN | apply Kd.R_drew)); exact Kd.R_mono HO371.out (fun _ hk => ⟨hk.1.1.1.2, hk.1.2⟩)⟩, ⟨by (with_reducible repeat (first | apply Kd.R_alloc | apply Kd.R_drewN | apply Kd.R_drew)); exact Kd.R_mono HO382.out (fun _ hk => ⟨hk.1.1.2, hk.1.2⟩)⟩, ⟨by repeat (first | (with_reducible first | exact HB.out | apply below_alloc | apply pw_below_drewN | apply below_drew1) | exact HB.out)⟩⟩
    case rest =>
      clear HC10
      try clear c1
      try clear c2
      try clear p2
      try clear c3
      try clear c10
      try clear c11
      try clear c12
      try clear c13
      try clear c20
      try clear c20b0
      try clear c20b1
      try clear c22
      try clear c23
      try clear c23b0
      try clear c23b1
      try clear c24
      try clear c24b0
      try clear c24b1
      obtain ⟨kq, x95_9, rfl, HA, HJ9, HO_4, HO_6, HO_13, HB⟩ := hcut
      cases kq with
      | zero => exact absurd HA.out (by simp [laws_FnDivisions.j0])
      | succ kj9 =>
        have H := HA.out
        clear HA
        simp only [laws_FnDivisions.j0] at H
        by_cases c33 : x95_9 = true
        · subst c33
          have H1 : (some false) = some r := by rw [if_pos rfl] at H; exact H
          clear H
          have H := H1
          clear H1
          obtain rfl := Option.some.inj H
          go_wp2
          go_ret
          exact ⟨by first | rfl | (simp [errW_none, errW_some] <;> rfl) | (simp [*, errW_none, errW_some] <;> rfl), by repeat (first | (with_reducible first | exact HB.out | apply below_alloc | apply pw_below_drewN | apply below_drew1) | exact HB.out)⟩
        · replace c33 := Bool.eq_false_iff.mpr c33
          subst c33
          have H1 : (if t386 = 0 then ((impl_BestDivision.f kj9 t377 t378 t380).bind fun bt390 => (if bt390.2.2 = 0 then (laws_FnDivisions.j1 kj9 t362 t363 t364 t367 t368 t369 (decide (bt390.2.1 > t385))) else (laws_FnDivisions.j1 kj9 t362 t363 t364 t367 t368 t369 true))) else (if t369 = 0 then ((impl_DividedCost.f kj9 t362 t363 t367 t364).bind fun bt397 => (if bt397.2 = 0 then (some (bt397.1 == t368)) else (some false))) else (some true))) = some r := by rw [if_neg (show ¬ (false = true) by decide)] at H; exact H
          clear H
          have H := H1
          clear H1
          by_cases c34 : t386 = 0
          · rw [if_pos c34] at H
            have c34b0 : (t386 == 0) = true := beq_iff_eq.mpr c34
            have c34b1 : (t386 != 0) = false := bne_eq_false_iff_eq.mpr c34
            clear c34
            replace H := Option.bind_eq_some_iff.mp H
            obtain ⟨⟨t390, t391, t392⟩, A350, H⟩ := H
            replace H : (if t392 = 0 then (laws_FnDivisions.j1 kj9 t362 t363 t364 t367 t368 t369 (decide (t391 > t385))) else (laws_FnDivisions.j1 kj9 t362 t363 t364 t367 t368 t369 true)) = some r := H
            have A35 := Aside0.mk A350
            clear A350
            have HC36 := Aside0.mk H
            clear H
            go_upto_region 13 with (first | ((with_reducible refine gate_callee (f := 108) rfl ?_); refine goesL_ (some 102) rfl rfl Try.func108 (by kernel_rfl) rfl #[.int .i64 t377, .slice Ao16 t378.length co16, .int .i64 t380] rfl (by (try simp only [List.map_toArray, List.map_cons, List.map_nil]); first | done | rfl | (simp only [List.length_drop, List.length_take]; rfl)) ?_; (with_reducible refine (impl_BestDivision.calls kj9 t377 _ _ t378 t380 t390 t391 t392 _ ?side1 ?side2 A35.out).mono ?_); (case side1 => repeat (first | exact (Kd.R_reads' HO_13.out).2.2 | (with_reducible refine Kd.C_alloc ?_ _) | (with_reducible refine Kd.C_drewN ?_ _) | (with_reducible refine Kd.C_drew ?_))); (case side2 => exact (Kd.R_reads' HO_13.out).2.1); rintro e w37 ⟨v393, rfl, ho0, hb⟩; refine ⟨_, rfl, ?_⟩; have n0_ := Aside0.mk (Kd.R_elder' (by (with_reducible repeat (first | apply Kd.R_alloc | apply Kd.R_drewN | apply Kd.R_drew)); exact HO_4.out) (Kd.R_base ho0) hb); have n1_ := Aside0.mk (Kd.R_elder' (by (with_reducible repeat (first | apply Kd.R_alloc | apply Kd.R_drewN | apply Kd.R_drew)); exact HO_6.out) (Kd.R_base ho0) hb); have n2_ := Aside0.mk (Kd.R_elder' (by (with_reducible repeat (first | apply Kd.R_alloc | apply Kd.R_drewN | apply Kd.R_drew)); exact HO_13.out) (Kd.R_base ho0) hb); have n3_ := Aside0.mk (Kd.R_lower (Kd.R_new' (Kd.R_new' (Kd.R_new' ho0 (Kd.R_lt (by (with_reducible repeat (first | apply Kd.R_alloc | apply Kd.R_drewN | apply Kd.R_drew)); exact HO_4.out))) (Kd.R_lt (by (with_reducible repeat (first | apply Kd.R_alloc | apply Kd.R_drewN | apply Kd.R_drew)); exact HO_6.out))) (Kd.R_lt (by (with_reducible repeat (first | apply Kd.R_alloc | apply Kd.R_drewN | apply Kd.R_drew)); exact HO_13.out))) (below_size (by repeat (first | (with_reducible first | exact HB.out | apply below_alloc | apply pw_below_drewN | apply below_drew1) | exact HB.out)))); have n4_ := Aside0.mk (below_step (by repeat (first | (with_reducible first | exact HB.out | apply below_alloc | apply pw_below_drewN | apply below_drew1) | exact HB.out)) hb); clear HO_4; clear HO_6; clear HO_13; clear HB; have HO_4 := n0_; have HO_6 := n1_; have HO_13 := n2_; have HO394 := n3_; have HB := n4_; clear n0_ n1_ n2_ n3_ n4_; (try clear hb); (try clear hb2); (try clear hk); (try clear hi); (try clear ho0)))
            (try simp only [Act.put, List.setIfInBounds_toArray, List.set_cons_zero, List.set_cons_succ])
            go_cut [112] (fun v112 wc => ∃ (kq : Nat) (x112_35 : Bool), v112 = .bool x112_35 ∧ Aside0 (laws_FnDivisions.j1 kq t362 t363 t364 t367 t368 t369 x112_35 = some r) ∧ Aside0 (kq ≤ kj9) ∧ Aside0 (Kd.R (Kd.int .i64) 2 wc w.heap.size (fun k_ => some k_ ≠ (v370 : Value).ownBlock) (.slice Ao12 t363.length co12) t363) ∧ Aside0 (Kd.R (Kd.int .i64) 2 wc w.heap.size (fun k_ => some k_ ≠ ((.slice Ao12 t363.length co12) : Value).ownBlock) v370 t367) ∧ Aside0 (Below w.heap.size w wc))
            case first =>
              have H := HC36.out
              clear HC36
              by_cases c38 : t392 = 0
              · rw [if_pos c38] at H
                have c38b0 : (t392 == 0) = true := beq_iff_eq.mpr c38
                have c38b1 : (t392 != 0) = false := bne_eq_false_iff_eq.mpr c38
                clear c38
                (first | rw [c38b0] | (simp only [i64_w, i32_w]; rw [c38b0]) | skip)
                have H' := Aside0.mk H
                clear H
                go_wp2
                go_meet
                case rel => exact ⟨_, (decide (t391 > t385)), (by first | rfl | (simp; done) | (simp [*]; done)), H', ⟨by have := HJ9.out; first | omega | exact Nat.le_refl _⟩, ⟨by (with_reducible repeat (first | apply Kd.R_alloc | apply Kd.R_drewN | apply Kd.R_drew)); exact Kd.R_mono HO_4.out (fun _ hk => hk.1.1)⟩, ⟨by (with_reducible repeat (first | apply Kd.R_alloc | apply Kd.R_drewN | apply Kd.R_drew)); exact Kd.R_mono HO_6.out (fun _ hk => hk.1.1)⟩, ⟨by repeat (first | (with_reducible first | exact HB.out | apply below_alloc | apply pw_below_drewN | apply below_drew1) | exact HB.out)⟩⟩
              · rw [if_neg c38] at H
                have c38b0 : (t392 == 0) = false := beq_eq_false_iff_ne.mpr c38
                have c38b1 : (t392 != 0) = true := bne_iff_ne.mpr c38
                (first | rw [c38b0] | (simp only [i64_w, i32_w]; rw [c38b0]) | skip)
                have H' := Aside0.mk H
                clear H
                go_wp2
                go_meet
                case rel => exact ⟨_, (true), (by first | rfl | (simp; done) | (simp [*]; done)), H', ⟨by have := HJ9.out; first | omega | exact Nat.le_refl _⟩, ⟨by (with_reducible repeat (first | apply Kd.R_alloc | apply Kd.R_drewN | apply Kd.R_drew)); exact Kd.R_mono HO_4.out (fun _ hk => hk.1.1)⟩, ⟨by (with_reducible repeat (first | apply Kd.R_alloc | apply Kd.R_drewN | apply Kd.R_drew)); exact Kd.R_mono HO_6.out (fun _ hk => hk.1.1)⟩, ⟨by repeat (first | (with_reducible first | exact HB.out | apply below_alloc | apply pw_below_drewN | apply below_drew1) | exact HB.out)⟩⟩
            case rest =>
              clear HC36
              try clear c1
              try clear c2
              try clear p2
              try clear c3
              try clear c10
              try clear c11
              try clear c12
              try clear c13
              try clear c20
              try clear c20b0
              try clear c20b1
              try clear c22
              try clear c23
              try clear c23b0
              try clear c23b1
              try clear c24
              try clear c24b0
              try clear c24b1
              try clear c33
              try clear c34
              try clear c34b0
              try clear c34b1
              try clear c38
              try clear c38b0
              try clear c38b1
              try clear p2
              obtain ⟨kq, x112_35, rfl, HA, HJ35, HO_4, HO_6, HB⟩ := hcut
              cases kq with
              | zero => exact absurd HA.out (by simp [laws_FnDivisions.j1])
              | succ kj35 =>
                have H := HA.out
                clear HA
                simp only [laws_FnDivisions.j1] at H
                by_cases c39 : x112_35 = true
                · subst c39
                  have H1 : (some false) = some r := by rw [if_pos rfl] at H; exact H
                  clear H
                  have H := H1
                  clear H1
                  obtain rfl := Option.some.inj H
                  go_wp2
                  go_ret
                  exact ⟨by first | rfl | (simp [errW_none, errW_some] <;> rfl) | (simp [*, errW_none, errW_some] <;> rfl), by repeat (first | (with_reducible first | exact HB.out | apply below_alloc | apply pw_below_drewN | apply below_drew1) | exact HB.out)⟩
                · replace c39 := Bool.eq_false_iff.mpr c39
                  subst c39
                  have H1 : (if t369 = 0 then ((impl_DividedCost.f kj35 t362 t363 t367 t364).bind fun bt395 => (if bt395.2 = 0 then (some (bt395.1 == t368)) else (some false))) else (some true)) = some r := by rw [if_neg (show ¬ (false = true) by decide)] at H; exact H
                  clear H
                  have H := H1
                  clear H1
                  by_cases c40 : t369 = 0
                  · rw [if_pos c40] at H
                    have c40b0 : (t369 == 0) = true := beq_iff_eq.mpr c40
                    have c40b1 : (t369 != 0) = false := bne_eq_false_iff_eq.mpr c40
                    clear c40
                    replace H := Option.bind_eq_some_iff.mp H
                    obtain ⟨⟨t395, t396⟩, A410, H⟩ := H
                    replace H : (if t396 = 0 then (some (t395 == t368)) else (some false)) = some r := H
                    have A41 := Aside0.mk A410
                    clear A410
                    by_cases c42 : t396 = 0
                    · rw [if_pos c42] at H
                      have c42b0 : (t396 == 0) = true := beq_iff_eq.mpr c42
                      have c42b1 : (t396 != 0) = false := bne_eq_false_iff_eq.mpr c42
                      clear c42
                      obtain rfl := Option.some.inj H
                      obtain ⟨Ao43, co43, eo43⟩ := Kd.R_slice HO_6.out
                      subst eo43
                      go_wp2_with (first | ((with_reducible refine gate_callee (f := 111) rfl ?_); refine goesL_ (some 120) rfl rfl Try.func111 (by kernel_rfl) rfl #[.int .i64 t362, .slice Ao12 t363.length co12, .slice Ao43 t367.length co43, .int .i64 t364] rfl (by (try simp only [List.map_toArray, List.map_cons, List.map_nil]); first | done | rfl | (simp only [List.length_drop, List.length_take]; rfl)) ?_; (with_reducible refine (impl_DividedCost.calls kj35 t362 _ _ t363 _ _ t367 t364 t395 t396 _ ?side1 ?side2 ?side3 ?side4 A41.out).mono ?_); (case side1 => repeat (first | exact (Kd.R_reads' HO_4.out).2.2 | (with_reducible refine Kd.C_alloc ?_ _) | (with_reducible refine Kd.C_drewN ?_ _) | (with_reducible refine Kd.C_drew ?_))); (case side2 => exact (Kd.R_reads' HO_4.out).2.1); (case side3 => repeat (first | exact (Kd.R_reads' HO_6.out).2.2 | (with_reducible refine Kd.C_alloc ?_ _) | (with_reducible refine Kd.C_drewN ?_ _) | (with_reducible refine Kd.C_drew ?_))); (case side4 => exact (Kd.R_reads' HO_6.out).2.1); rintro e w44 ⟨rfl, hb⟩; refine ⟨_, rfl, ?_⟩; have n0_ := Aside0.mk (Kd.R_below (by (with_reducible repeat (first | apply Kd.R_alloc | apply Kd.R_drewN | apply Kd.R_drew)); exact HO_4.out) hb); have n1_ := Aside0.mk (Kd.R_below (by (with_reducible repeat (first | apply Kd.R_alloc | apply Kd.R_drewN | apply Kd.R_drew)); exact HO_6.out) hb); have n2_ := Aside0.mk (below_step (by repeat (first | (with_reducible first | exact HB.out | apply below_alloc | apply pw_below_drewN | apply below_drew1) | exact HB.out)) hb); clear HO_4; clear HO_6; clear HB; have HO_4 := n0_; have HO_6 := n1_; have HB := n2_; clear n0_ n1_ n2_; (try clear hb); (try clear hb2); (try clear hk); (try clear hi)))
                      go_ret
                      exact ⟨by first | rfl | (simp [errW_none, errW_some] <;> rfl) | (simp [*, errW_none, errW_some] <;> rfl), by repeat (first | (with_reducible first | exact HB.out | apply below_alloc | apply pw_below_drewN | apply below_drew1) | exact HB.out)⟩
                    · rw [if_neg c42] at H
                      have c42b0 : (t396 == 0) = false := beq_eq_false_iff_ne.mpr c42
                      have c42b1 : (t396 != 0) = true := bne_iff_ne.mpr c42
                      obtain rfl := Option.some.inj H
                      obtain ⟨Ao45, co45, eo45⟩ := Kd.R_slice HO_6.out
                      subst eo45
                      go_wp2_with (first | ((with_reducible refine gate_callee (f := 111) rfl ?_); refine goesL_ (some 120) rfl rfl Try.func111 (by kernel_rfl) rfl #[.int .i64 t362, .slice Ao12 t363.length co12, .slice Ao45 t367.length co45, .int .i64 t364] rfl (by (try simp only [List.map_toArray, List.map_cons, List.map_nil]); first | done | rfl | (simp only [List.length_drop, List.length_take]; rfl)) ?_; (with_reducible refine (impl_DividedCost.calls kj35 t362 _ _ t363 _ _ t367 t364 t395 t396 _ ?side1 ?side2 ?side3 ?side4 A41.out).mono ?_); (case side1 => repeat (first | exact (Kd.R_reads' HO_4.out).2.2 | (with_reducible refine Kd.C_alloc ?_ _) | (with_reducible refine Kd.C_drewN ?_ _) | (with_reducible refine Kd.C_drew ?_))); (case side2 => exact (Kd.R_reads' HO_4.out).2.1); (case side3 => repeat (first | exact (Kd.R_reads' HO_6.out).2.2 | (with_reducible refine Kd.C_alloc ?_ _) | (with_reducible refine Kd.C_drewN ?_ _) | (with_reducible refine Kd.C_drew ?_))); (case side4 => exact (Kd.R_reads' HO_6.out).2.1); rintro e w46 ⟨rfl, hb⟩; refine ⟨_, rfl, ?_⟩; have n0_ := Aside0.mk (Kd.R_below (by (with_reducible repeat (first | apply Kd.R_alloc | apply Kd.R_drewN | apply Kd.R_drew)); exact HO_4.out) hb); have n1_ := Aside0.mk (Kd.R_below (by (with_reducible repeat (first | apply Kd.R_alloc | apply Kd.R_drewN | apply Kd.R_drew)); exact HO_6.out) hb); have n2_ := Aside0.mk (below_step (by repeat (first | (with_reducible first | exact HB.out | apply below_alloc | apply pw_below_drewN | apply below_drew1) | exact HB.out)) hb); clear HO_4; clear HO_6; clear HB; have HO_4 := n0_; have HO_6 := n1_; have HB := n2_; clear n0_ n1_ n2_; (try clear hb); (try clear hb2); (try clear hk); (try clear hi)))
                      go_ret
                      exact ⟨by first | rfl | (simp [errW_none, errW_some] <;> rfl) | (simp [*, errW_none, errW_some] <;> rfl), by repeat (first | (with_reducible first | exact HB.out | apply below_alloc | apply pw_below_drewN | apply below_drew1) | exact HB.out)⟩
                  · rw [if_neg c40] at H
                    have c40b0 : (t369 == 0) = false := beq_eq_false_iff_ne.mpr c40
                    have c40b1 : (t369 != 0) = true := bne_iff_ne.mpr c40
                    obtain rfl := Option.some.inj H
                    go_wp2
                    go_ret
                    exact ⟨by first | rfl | (simp [errW_none, errW_some] <;> rfl) | (simp [*, errW_none, errW_some] <;> rfl), by repeat (first | (with_reducible first | exact HB.out | apply below_alloc | apply pw_below_drewN | apply below_drew1) | exact HB.out)⟩
          · rw [if_neg c34] at H
            have c34b0 : (t386 == 0) = false := beq_eq_false_iff_ne.mpr c34
            have c34b1 : (t386 != 0) = true := bne_iff_ne.mpr c34
            by_cases c47 : t369 = 0
            · rw [if_pos c47] at H
              have c47b0 : (t369 == 0) = true := beq_iff_eq.mpr c47
              have c47b1 : (t369 != 0) = false := bne_eq_false_iff_eq.mpr c47
              clear c47
              replace H := Option.bind_eq_some_iff.mp H
              obtain ⟨⟨t397, t398⟩, A480, H⟩ := H
              replace H : (if t398 = 0 then (some (t397 == t368)) else (some false)) = some r := H
              have A48 := Aside0.mk A480
              clear A480
              by_cases c49 : t398 = 0
              · rw [if_pos c49] at H
                have c49b0 : (t398 == 0) = true := beq_iff_eq.mpr c49
                have c49b1 : (t398 != 0) = false := bne_eq_false_iff_eq.mpr c49
                clear c49
                obtain rfl := Option.some.inj H
                obtain ⟨Ao50, co50, eo50⟩ := Kd.R_slice HO_6.out
                subst eo50
                go_wp2_with (first | ((with_reducible refine gate_callee (f := 111) rfl ?_); refine goesL_ (some 120) rfl rfl Try.func111 (by kernel_rfl) rfl #[.int .i64 t362, .slice Ao12 t363.length co12, .slice Ao50 t367.length co50, .int .i64 t364] rfl (by (try simp only [List.map_toArray, List.map_cons, List.map_nil]); first | done | rfl | (simp only [List.length_drop, List.length_take]; rfl)) ?_; (with_reducible refine (impl_DividedCost.calls kj9 t362 _ _ t363 _ _ t367 t364 t397 t398 _ ?side1 ?side2 ?side3 ?side4 A48.out).mono ?_); (case side1 => repeat (first | exact (Kd.R_reads' HO_4.out).2.2 | (with_reducible refine Kd.C_alloc ?_ _) | (with_reducible refine Kd.C_drewN ?_ _) | (with_reducible refine Kd.C_drew ?_))); (case side2 => exact (Kd.R_reads' HO_4.out).2.1); (case side3 => repeat (first | exact (Kd.R_reads' HO_6.out).2.2 | (with_reducible refine Kd.C_alloc ?_ _) | (with_reducible refine Kd.C_drewN ?_ _) | (with_reducible refine Kd.C_drew ?_))); (case side4 => exact (Kd.R_reads' HO_6.out).2.1); rintro e w51 ⟨rfl, hb⟩; refine ⟨_, rfl, ?_⟩; have n0_ := Aside0.mk (Kd.R_below (by (with_reducible repeat (first | apply Kd.R_alloc | apply Kd.R_drewN | apply Kd.R_drew)); exact HO_4.out) hb); have n1_ := Aside0.mk (Kd.R_below (by (with_reducible repeat (first | apply Kd.R_alloc | apply Kd.R_drewN | apply Kd.R_drew)); exact HO_6.out) hb); have n2_ := Aside0.mk (Kd.R_below (by (with_reducible repeat (first | apply Kd.R_alloc | apply Kd.R_drewN | apply Kd.R_drew)); exact HO_13.out) hb); have n3_ := Aside0.mk (below_step (by repeat (first | (with_reducible first | exact HB.out | apply below_alloc | apply pw_below_drewN | apply below_drew1) | exact HB.out)) hb); clear HO_4; clear HO_6; clear HO_13; clear HB; have HO_4 := n0_; have HO_6 := n1_; have HO_13 := n2_; have HB := n3_; clear n0_ n1_ n2_ n3_; (try clear hb); (try clear hb2); (try clear hk); (try clear hi)))
                go_ret
                exact ⟨by first | rfl | (simp [errW_none, errW_some] <;> rfl) | (simp [*, errW_none, errW_some] <;> rfl), by repeat (first | (with_reducible first | exact HB.out | apply below_alloc | apply pw_below_drewN | apply below_drew1) | exact HB.out)⟩
              · rw [if_neg c49] at H
                have c49b0 : (t398 == 0) = false := beq_eq_false_iff_ne.mpr c49
                have c49b1 : (t398 != 0) = true := bne_iff_ne.mpr c49
                obtain rfl := Option.some.inj H
                obtain ⟨Ao52, co52, eo52⟩ := Kd.R_slice HO_6.out
                subst eo52
                go_wp2_with (first | ((with_reducible refine gate_callee (f := 111) rfl ?_); refine goesL_ (some 120) rfl rfl Try.func111 (by kernel_rfl) rfl #[.int .i64 t362, .slice Ao12 t363.length co12, .slice Ao52 t367.length co52, .int .i64 t364] rfl (by (try simp only [List.map_toArray, List.map_cons, List.map_nil]); first | done | rfl | (simp only [List.length_drop, List.length_take]; rfl)) ?_; (with_reducible refine (impl_DividedCost.calls kj9 t362 _ _ t363 _ _ t367 t364 t397 t398 _ ?side1 ?side2 ?side3 ?side4 A48.out).mono ?_); (case side1 => repeat (first | exact (Kd.R_reads' HO_4.out).2.2 | (with_reducible refine Kd.C_alloc ?_ _) | (with_reducible refine Kd.C_drewN ?_ _) | (with_reducible refine Kd.C_drew ?_))); (case side2 => exact (Kd.R_reads' HO_4.out).2.1); (case side3 => repeat (first | exact (Kd.R_reads' HO_6.out).2.2 | (with_reducible refine Kd.C_alloc ?_ _) | (with_reducible refine Kd.C_drewN ?_ _) | (with_reducible refine Kd.C_drew ?_))); (case side4 => exact (Kd.R_reads' HO_6.out).2.1); rintro e w53 ⟨rfl, hb⟩; refine ⟨_, rfl, ?_⟩; have n0_ := Aside0.mk (Kd.R_below (by (with_reducible repeat (first | apply Kd.R_alloc | apply Kd.R_drewN | apply Kd.R_drew)); exact HO_4.out) hb); have n1_ := Aside0.mk (Kd.R_below (by (with_reducible repeat (first | apply Kd.R_alloc | apply Kd.R_drewN | apply Kd.R_drew)); exact HO_6.out) hb); have n2_ := Aside0.mk (Kd.R_below (by (with_reducible repeat (first | apply Kd.R_alloc | apply Kd.R_drewN | apply Kd.R_drew)); exact HO_13.out) hb); have n3_ := Aside0.mk (below_step (by repeat (first | (with_reducible first | exact HB.out | apply below_alloc | apply pw_below_drewN | apply below_drew1) | exact HB.out)) hb); clear HO_4; clear HO_6; clear HO_13; clear HB; have HO_4 := n0_; have HO_6 := n1_; have HO_13 := n2_; have HB := n3_; clear n0_ n1_ n2_ n3_; (try clear hb); (try clear hb2); (try clear hk); (try clear hi)))
                go_ret
                exact ⟨by first | rfl | (simp [errW_none, errW_some] <;> rfl) | (simp [*, errW_none, errW_some] <;> rfl), by repeat (first | (with_reducible first | exact HB.out | apply below_alloc | apply pw_below_drewN | apply below_drew1) | exact HB.out)⟩
            · rw [if_neg c47] at H
              have c47b0 : (t369 == 0) = false := beq_eq_false_iff_ne.mpr c47
              have c47b1 : (t369 != 0) = true := bne_iff_ne.mpr c47
              obtain rfl := Option.some.inj H
              go_wp2
              go_ret
              exact ⟨by first | rfl | (simp [errW_none, errW_some] <;> rfl) | (simp [*, errW_none, errW_some] <;> rfl), by repeat (first | (with_reducible first | exact HB.out | apply below_alloc | apply pw_below_drewN | apply below_drew1) | exact HB.out)⟩

/-- THE ONE PURE STATEMENT of laws_FnDivisions: yours. -/
def laws_FnDivisions.Pure : Prop := ∀ (l0 : List Int), l0.length ≤ maxLen → l0.length * 1 ≤ 140737488351232 → (∀ x ∈ l0, (Lit.int .u8 x).wf = true) → ∃ k, laws_FnDivisions.f k l0 = some true
theorem laws_FnDivisions.walk (P : laws_FnDivisions.Pure) (a0 : Option Addr) (len0 cap0 : Nat) (z0 : List Int) (w : World) (w0 : (a0 = none ∧ len0 = 0 ∧ cap0 = 0 ∧ z0 = []) ∨ ∃ x, a0 = some x ∧ len0 ≤ cap0 ∧ cap0 ≤ maxLen ∧ z0.length = cap0 ∧ (∀ i, i < z0.length → w.cell? (x.add i) = some (.int .u8 (z0.getD i 0))) ∧ ∀ n ∈ z0, (Lit.int .u8 n).wf = true) (y0 : len0 * 1 ≤ 140737488351232) :
    Calls Try.prog 12 #[.slice a0 len0 cap0] w fun e w' => e = .returned (.bool true) ∧ Below w.heap.size w w' := by
  obtain ⟨l0, rfl, hr0, hm0, hw0, hc0⟩ := ReadsInt.ofRowC w0
  obtain ⟨k, h⟩ := P l0 hm0 y0 hw0
  refine (laws_FnDivisions.calls k _ _ l0 true w (Kd.C_of_reads (d := (0 : Int)) (h1 := fun _ => rfl) hr0) hc0 h).mono ?_
  rintro e w' ⟨rfl, hd⟩
  exact ⟨rfl, hd⟩

end Go.Proofs.Ytfmmpdhodkkkdaa.PFnDivisions
