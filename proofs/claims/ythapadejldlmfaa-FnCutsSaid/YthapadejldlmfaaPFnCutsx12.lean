-- Written by wip/inject.py: a contract of each function that the law reaches; those of the stand-ins are proved in this seat's Hand texts
import Derived.Test.YthapadejldlmfaaPFnCutsx0
import Derived.Test.YthapadejldlmfaaPFnCutsx2
import Derived.Test.YthapadejldlmfaaPFnCutsx3
import Derived.Test.YthapadejldlmfaaPFnCutsx5
import Derived.Test.YthapadejldlmfaaPFnCutsx8
import Derived.Test.YthapadejldlmfaaPFnCutsx9
import Derived.Test.YthapadejldlmfaaPFnCutsx10
import Derived.Test.YthapadejldlmfaaPFnCutsx11
namespace Go.Proofs.Ythapadejldlmfaa.PFnCuts
open Go.RowKit Go.Proofs.YthapadejldlmfaaW.PrintWords Go.Proofs.YthapadejldlmfaaW.PrintLast Go.Proofs.YthapadejldlmfaaW.PrintMore
attribute [local go_sem] max2_int min2_int max_two min_two max_three min_three max_four min_four   -- for this text's walks alone
set_option linter.unusedVariables false
set_option linter.unusedSimpArgs false

/-! ### laws_FnCuts: function 11 -/
mutual
def laws_FnCuts.j0 : Nat → List (S85) → List (S77) → Int → List (S77) → List (S77) → Int → Bool → Int → Int → Option (Bool)
 | 0, _, _, _, _, _, _, _, _, _ => none
 | k + 1, x4, x5, x6, x9, x11, x12, x148, x479000, x479001 => if x148 = true then (none) else (if x12 = 0 then ((impl_AreaOf.f k x9).bind fun bt521 => ((impl_AreaOf.f k x11).bind fun bt523 => (if bt521.2 = 0 then (if bt523.2 = 0 then (if bt521.1 = bt523.1 then (laws_FnCuts.j1 k x4 x5 x6 ((x11.length : Int) != (wrap64 ((x9.length : Int) + 1))) x479000 x479001) else (none)) else (none)) else (none)))) else (if x6 = 0 then ((impl_AreaOf.f k x5).bind fun bt527 => (if bt527.2 = 0 then (if bt527.1 = (wrap64 (x479000 * x479001)) then (some ((x5.length : Int) == (wrap64 ((x4.length : Int) + 1)))) else (none)) else (none))) else (some true)))
def laws_FnCuts.j1 : Nat → List (S85) → List (S77) → Int → Bool → Int → Int → Option (Bool)
 | 0, _, _, _, _, _, _ => none
 | k + 1, x4, x5, x6, x179, x479000, x479001 => if x179 = true then (none) else (if x6 = 0 then ((impl_AreaOf.f k x5).bind fun bt525 => (if bt525.2 = 0 then (if bt525.1 = (wrap64 (x479000 * x479001)) then (some ((x5.length : Int) == (wrap64 ((x4.length : Int) + 1)))) else (none)) else (none))) else (some true))
end
def laws_FnCuts.f (k : Nat) (l0 : List Int) : Option (Bool) := (laws_big.f l0).bind fun t472 => (if t472 = true then (some true) else ((spec_DrawRunCuts.f k l0).bind fun bt473 => ((impl_RunCuts.f k bt473.1 bt473.2.1 bt473.2.2).bind fun bt479 => ((spec_RunCuts.f k bt473.1 bt473.2.1 bt473.2.2).bind fun bt483 => ((spec_DrawMakeCut.f k l0).bind fun bt487 => ((impl_MakeCut.f k bt487.1 bt487.2.1 bt487.2.2.1 bt487.2.2.2).bind fun bt494 => ((spec_MakeCut.f k bt487.1 bt487.2.1 bt487.2.2.1 bt487.2.2.2).bind fun bt498 => ((spec_DrawCountPieces.f k l0).bind fun bt502 => ((impl_CountPieces.f k bt502.1 bt502.2.1 bt502.2.2).bind fun bt508 => ((spec_CountPieces.f k bt502.1 bt502.2.1 bt502.2.2).bind fun bt510 => ((impl_AreaOf.f k bt502.1).bind fun bt512 => ((spec_AreaOf.f k bt502.1).bind fun bt514 => (if bt479.2 = bt483.2 then ((laws_likePieces9.f k bt479.1 bt483.1).bind fun t516 => (if t516 = true then (if bt494.2 = bt498.2 then ((laws_likePieces9.f k bt494.1 bt498.1).bind fun t517 => (if t517 = true then (if bt508.2 = bt510.2 then (if bt508.1 = bt510.1 then (if bt512.2 = bt514.2 then (if bt512.1 = bt514.1 then ((impl_CanCut.f k bt487.1 bt487.2.1 bt487.2.2.1 bt487.2.2.2).bind fun t518 => (if (t518 != (bt498.2 == 0)) = true then (none) else ((impl_IsPiece.f bt473.1 bt473.2.1).bind fun t519 => ((spec_IsPiece.f bt473.1 bt473.2.1).bind fun t520 => (laws_FnCuts.j0 k bt473.2.2 bt479.1 bt479.2 bt487.1 bt494.1 bt494.2 (t519 != t520) bt473.1 bt473.2.1))))) else (none)) else (none)) else (none)) else (none)) else (none))) else (none)) else (none))) else (none))))))))))))))
theorem laws_FnCuts.mono_l : ∀ k, (∀ y0 y1 y2 y3 y4 y5 y6 y7 y8, LeO (laws_FnCuts.j0 k y0 y1 y2 y3 y4 y5 y6 y7 y8) (laws_FnCuts.j0 (k + 1) y0 y1 y2 y3 y4 y5 y6 y7 y8)) ∧ (∀ y0 y1 y2 y3 y4 y5, LeO (laws_FnCuts.j1 k y0 y1 y2 y3 y4 y5) (laws_FnCuts.j1 (k + 1) y0 y1 y2 y3 y4 y5))
 | 0 => ⟨fun _ _ _ _ _ _ _ _ _ r h => by simp [laws_FnCuts.j0] at h, fun _ _ _ _ _ _ r h => by simp [laws_FnCuts.j1] at h⟩
 | k + 1 => by
  obtain ⟨ih0, ih1⟩ := laws_FnCuts.mono_l k
  refine ⟨?_, ?_⟩
  ·intro y0 y1 y2 y3 y4 y5 y6 y7 y8
   unfold laws_FnCuts.j0
   repeat' first
   | (with_reducible exact ih0 _ _ _ _ _ _ _ _ _)
   | (with_reducible exact ih1 _ _ _ _ _ _)
   | (with_reducible exact impl_AreaOf.mono _ _)
   | (with_reducible exact impl_CanCut.mono _ _ _ _ _)
   | (with_reducible exact impl_CountPieces.mono _ _ _ _)
   | (with_reducible exact impl_MakeCut.mono _ _ _ _ _)
   | (with_reducible exact impl_RunCuts.mono _ _ _ _)
   | (with_reducible exact laws_likePieces9.mono _ _ _)
   | (with_reducible exact spec_AreaOf.mono _ _)
   | (with_reducible exact spec_CountPieces.mono _ _ _ _)
   | (with_reducible exact spec_DrawCountPieces.mono _ _)
   | (with_reducible exact spec_DrawMakeCut.mono _ _)
   | (with_reducible exact spec_DrawRunCuts.mono _ _)
   | (with_reducible exact spec_MakeCut.mono _ _ _ _ _)
   | (with_reducible exact spec_RunCuts.mono _ _ _ _)
   | (with_reducible exact LeO.refl _)
   | (with_reducible exact LeO.none _)
   | (with_reducible refine LeO.ite ?_ ?_)
   | (with_reducible refine LeO.bind ?_ (fun _ => ?_))
   | exact ih0 _ _ _ _ _ _ _ _ _
   | exact ih1 _ _ _ _ _ _
   | exact impl_AreaOf.mono _ _
   | exact impl_CanCut.mono _ _ _ _ _
   | exact impl_CountPieces.mono _ _ _ _
   | exact impl_MakeCut.mono _ _ _ _ _
   | exact impl_RunCuts.mono _ _ _ _
   | exact laws_likePieces9.mono _ _ _
   | exact spec_AreaOf.mono _ _
   | exact spec_CountPieces.mono _ _ _ _
   | exact spec_DrawCountPieces.mono _ _
   | exact spec_DrawMakeCut.mono _ _
   | exact spec_DrawRunCuts.mono _ _
   | exact spec_MakeCut.mono _ _ _ _ _
   | exact spec_RunCuts.mono _ _ _ _
   | exact LeO.none _
   | refine LeO.ite ?_ ?_
   | refine LeO.bind ?_ (fun _ => ?_)
  ·intro y0 y1 y2 y3 y4 y5
   unfold laws_FnCuts.j1
   repeat' first
   | (with_reducible exact ih0 _ _ _ _ _ _ _ _ _)
   | (with_reducible exact ih1 _ _ _ _ _ _)
   | (with_reducible exact impl_AreaOf.mono _ _)
   | (with_reducible exact impl_CanCut.mono _ _ _ _ _)
   | (with_reducible exact impl_CountPieces.mono _ _ _ _)
   | (with_reducible exact impl_MakeCut.mono _ _ _ _ _)
   | (with_reducible exact impl_RunCuts.mono _ _ _ _)
   | (with_reducible exact laws_likePieces9.mono _ _ _)
   | (with_reducible exact spec_AreaOf.mono _ _)
   | (with_reducible exact spec_CountPieces.mono _ _ _ _)
   | (with_reducible exact spec_DrawCountPieces.mono _ _)
   | (with_reducible exact spec_DrawMakeCut.mono _ _)
   | (with_reducible exact spec_DrawRunCuts.mono _ _)
   | (with_reducible exact spec_MakeCut.mono _ _ _ _ _)
   | (with_reducible exact spec_RunCuts.mono _ _ _ _)
   | (with_reducible exact LeO.refl _)
   | (with_reducible exact LeO.none _)
   | (with_reducible refine LeO.ite ?_ ?_)
   | (with_reducible refine LeO.bind ?_ (fun _ => ?_))
   | exact ih0 _ _ _ _ _ _ _ _ _
   | exact ih1 _ _ _ _ _ _
   | exact impl_AreaOf.mono _ _
   | exact impl_CanCut.mono _ _ _ _ _
   | exact impl_CountPieces.mono _ _ _ _
   | exact impl_MakeCut.mono _ _ _ _ _
   | exact impl_RunCuts.mono _ _ _ _
   | exact laws_likePieces9.mono _ _ _
   | exact spec_AreaOf.mono _ _
   | exact spec_CountPieces.mono _ _ _ _
   | exact spec_DrawCountPieces.mono _ _
   | exact spec_DrawMakeCut.mono _ _
   | exact spec_DrawRunCuts.mono _ _
   | exact spec_MakeCut.mono _ _ _ _ _
   | exact spec_RunCuts.mono _ _ _ _
   | exact LeO.none _
   | refine LeO.ite ?_ ?_
   | refine LeO.bind ?_ (fun _ => ?_)
theorem laws_FnCuts.mono : ∀ a0 k, LeO (laws_FnCuts.f k a0) (laws_FnCuts.f (k + 1) a0) := by
 intro a0 k
 obtain ⟨ih0, ih1⟩ := laws_FnCuts.mono_l k
 unfold laws_FnCuts.f
 repeat' first
   | (with_reducible exact ih0 _ _ _ _ _ _ _ _ _)
   | (with_reducible exact ih1 _ _ _ _ _ _)
   | (with_reducible exact impl_AreaOf.mono _ _)
   | (with_reducible exact impl_CanCut.mono _ _ _ _ _)
   | (with_reducible exact impl_CountPieces.mono _ _ _ _)
   | (with_reducible exact impl_MakeCut.mono _ _ _ _ _)
   | (with_reducible exact impl_RunCuts.mono _ _ _ _)
   | (with_reducible exact laws_likePieces9.mono _ _ _)
   | (with_reducible exact spec_AreaOf.mono _ _)
   | (with_reducible exact spec_CountPieces.mono _ _ _ _)
   | (with_reducible exact spec_DrawCountPieces.mono _ _)
   | (with_reducible exact spec_DrawMakeCut.mono _ _)
   | (with_reducible exact spec_DrawRunCuts.mono _ _)
   | (with_reducible exact spec_MakeCut.mono _ _ _ _ _)
   | (with_reducible exact spec_RunCuts.mono _ _ _ _)
   | (with_reducible exact LeO.refl _)
   | (with_reducible exact LeO.none _)
   | (with_reducible refine LeO.ite ?_ ?_)
   | (with_reducible refine LeO.bind ?_ (fun _ => ?_))
   | exact ih0 _ _ _ _ _ _ _ _ _
   | exact ih1 _ _ _ _ _ _
   | exact impl_AreaOf.mono _ _
   | exact impl_CanCut.mono _ _ _ _ _
   | exact impl_CountPieces.mono _ _ _ _
   | exact impl_MakeCut.mono _ _ _ _ _
   | exact impl_RunCuts.mono _ _ _ _
   | exact laws_likePieces9.mono _ _ _
   | exact spec_AreaOf.mono _ _
   | exact spec_CountPieces.mono _ _ _ _
   | exact spec_DrawCountPieces.mono _ _
   | exact spec_DrawMakeCut.mono _ _
   | exact spec_DrawRunCuts.mono _ _
   | exact spec_MakeCut.mono _ _ _ _ _
   | exact spec_RunCuts.mono _ _ _ _
   | exact LeO.none _
   | refine LeO.ite ?_ ?_
   | refine LeO.bind ?_ (fun _ => ?_)
def laws_FnCuts.T14 : Bool × List (List Nat × List Nat) := (true, [([], []), ([], []), ([0, 1], [0, 1]), ([2], [2]), ([3], [3]), ([3], [3]), ([4, 5, 3, 3], [3, 4, 5]), ([6, 3], [3, 6]), ([3, 7], [3, 7]), ([8, 6], [8]), ([9], [9]), ([9], [9]), ([10, 11, 9], [9, 10, 11]), ([9, 12], [9, 12]), ([13, 9], [13]), ([14], [14]), ([14], [14]), ([15, 16, 14, 14], [14, 15, 16]), ([17, 14], [14, 17]), ([14, 18], [14, 18]), ([19, 17], [19]), ([20], [20]), ([20], [20]), ([21, 22, 20], [20, 21, 22]), ([20, 23], [20, 23]), ([24, 20], [24]), ([25], [25]), ([25], [25]), ([26, 27, 25], [25, 26, 27]), ([25, 28], [25, 28]), ([29, 25], [29]), ([30], [30]), ([30], [30]), ([31, 32, 30], [30, 31, 32]), ([30, 33], [30, 33]), ([34, 30], [34]), ([35], [35]), ([35], [35]), ([36, 37, 35], [35, 36, 37]), ([35, 38], [35, 38]), ([39, 35], [39]), ([40], [40]), ([40], [40]), ([41, 42, 40, 40], [40, 41, 42]), ([40], [40]), ([44, 40], [40, 44]), ([43, 45, 40], [40, 43, 45]), ([40, 46], [40, 46]), ([47, 43], [47]), ([48], [48]), ([49, 48, 48], [48, 49]), ([48], [48]), ([51, 50, 48], [48, 51]), ([50, 52, 48], [48, 50, 52]), ([48, 53], [48, 53])])
def laws_FnCuts.B14 : List Nat := [0, 0, 3, 7, 15, 15, 63, 127, 255, 511, 1023, 1023, 4095, 8191, 16383, 32767, 32767, 131071, 262143, 524287, 1048575, 2097151, 2097151, 8388607, 16777215, 33554431, 67108863, 67108863, 268435455, 536870911, 1073741823, 2147483647, 2147483647, 8589934591, 17179869183, 34359738367, 68719476735, 68719476735, 274877906943, 549755813887, 1099511627775, 2199023255551, 2199023255551, 8796093022207, 2199023255551, 19791209299967, 70368744177663, 140737488355327, 281474976710655, 562949953421311, 1125899906842623, 562949953421311, 4503599627370495, 9007199254740991, 18014398509481983]
theorem laws_FnCuts.tab14 : rtab .any (opsOf Try.f11 14) = laws_FnCuts.T14 := by kernel_rfl
theorem laws_FnCuts.bits14 : waitsOk laws_FnCuts.T14.2 laws_FnCuts.B14 = true := by kernel_rfl
set_option maxHeartbeats 8000000 in
set_option maxRecDepth 100000 in
theorem laws_FnCuts.calls (k : Nat) (A0 : Option Addr) (c0 : Nat) (l0 : List Int) (r : Bool) (w : World) (hr0 : Kd.C (Kd.int .u8) w A0 l0.length l0) (hc0 : l0.length ≤ c0) (h : laws_FnCuts.f k l0 = some r) :
  Calls Try.prog 11 #[.slice A0 l0.length c0] w fun e w' => e = .returned (.bool r) ∧ Below w.heap.size w w' := by
 have hu77 := Try.underlying77
 have hu85 := Try.underlying85
 have HR0 := Aside0.mk hr0
 have HC0 := Aside0.mk hc0
 clear hr0 hc0
 have HB := Aside0.mk (Below.refl w.heap.size w)
 have H : ((laws_big.f l0).bind fun t472 => (if t472 = true then (some true) else ((spec_DrawRunCuts.f k l0).bind fun bt473 => ((impl_RunCuts.f k bt473.1 bt473.2.1 bt473.2.2).bind fun bt479 => ((spec_RunCuts.f k bt473.1 bt473.2.1 bt473.2.2).bind fun bt483 => ((spec_DrawMakeCut.f k l0).bind fun bt487 => ((impl_MakeCut.f k bt487.1 bt487.2.1 bt487.2.2.1 bt487.2.2.2).bind fun bt494 => ((spec_MakeCut.f k bt487.1 bt487.2.1 bt487.2.2.1 bt487.2.2.2).bind fun bt498 => ((spec_DrawCountPieces.f k l0).bind fun bt502 => ((impl_CountPieces.f k bt502.1 bt502.2.1 bt502.2.2).bind fun bt508 => ((spec_CountPieces.f k bt502.1 bt502.2.1 bt502.2.2).bind fun bt510 => ((impl_AreaOf.f k bt502.1).bind fun bt512 => ((spec_AreaOf.f k bt502.1).bind fun bt514 => (if bt479.2 = bt483.2 then ((laws_likePieces9.f k bt479.1 bt483.1).bind fun t516 => (if t516 = true then (if bt494.2 = bt498.2 then ((laws_likePieces9.f k bt494.1 bt498.1).bind fun t517 => (if t517 = true then (if bt508.2 = bt510.2 then (if bt508.1 = bt510.1 then (if bt512.2 = bt514.2 then (if bt512.1 = bt514.1 then ((impl_CanCut.f k bt487.1 bt487.2.1 bt487.2.2.1 bt487.2.2.2).bind fun t518 => (if (t518 != (bt498.2 == 0)) = true then (none) else ((impl_IsPiece.f bt473.1 bt473.2.1).bind fun t519 => ((spec_IsPiece.f bt473.1 bt473.2.1).bind fun t520 => (laws_FnCuts.j0 k bt473.2.2 bt479.1 bt479.2 bt487.1 bt494.1 bt494.2 (t519 != t520) bt473.1 bt473.2.1))))) else (none)) else (none)) else (none)) else (none)) else (none))) else (none)) else (none))) else (none))))))))))))))) = some r := h
 clear h
 replace H := Option.bind_eq_some_iff.mp H
 obtain ⟨t472, A20, H⟩ := H
 replace H : (if t472 = true then (some true) else ((spec_DrawRunCuts.f k l0).bind fun bt473 => ((impl_RunCuts.f k bt473.1 bt473.2.1 bt473.2.2).bind fun bt479 => ((spec_RunCuts.f k bt473.1 bt473.2.1 bt473.2.2).bind fun bt483 => ((spec_DrawMakeCut.f k l0).bind fun bt487 => ((impl_MakeCut.f k bt487.1 bt487.2.1 bt487.2.2.1 bt487.2.2.2).bind fun bt494 => ((spec_MakeCut.f k bt487.1 bt487.2.1 bt487.2.2.1 bt487.2.2.2).bind fun bt498 => ((spec_DrawCountPieces.f k l0).bind fun bt502 => ((impl_CountPieces.f k bt502.1 bt502.2.1 bt502.2.2).bind fun bt508 => ((spec_CountPieces.f k bt502.1 bt502.2.1 bt502.2.2).bind fun bt510 => ((impl_AreaOf.f k bt502.1).bind fun bt512 => ((spec_AreaOf.f k bt502.1).bind fun bt514 => (if bt479.2 = bt483.2 then ((laws_likePieces9.f k bt479.1 bt483.1).bind fun t516 => (if t516 = true then (if bt494.2 = bt498.2 then ((laws_likePieces9.f k bt494.1 bt498.1).bind fun t517 => (if t517 = true then (if bt508.2 = bt510.2 then (if bt508.1 = bt510.1 then (if bt512.2 = bt514.2 then (if bt512.1 = bt514.1 then ((impl_CanCut.f k bt487.1 bt487.2.1 bt487.2.2.1 bt487.2.2.2).bind fun t518 => (if (t518 != (bt498.2 == 0)) = true then (none) else ((impl_IsPiece.f bt473.1 bt473.2.1).bind fun t519 => ((spec_IsPiece.f bt473.1 bt473.2.1).bind fun t520 => (laws_FnCuts.j0 k bt473.2.2 bt479.1 bt479.2 bt487.1 bt494.1 bt494.2 (t519 != t520) bt473.1 bt473.2.1))))) else (none)) else (none)) else (none)) else (none)) else (none))) else (none)) else (none))) else (none)))))))))))))) = some r := H
 have A2 := Aside0.mk A20
 clear A20
 by_cases c3 : t472 = true
 ·subst c3
  have H1 : (some true) = some r := by rw [if_pos rfl] at H; exact H
  clear H
  have H := H1
  clear H1
  obtain rfl := Option.some.inj H
  go_enter Try.func11, Try.ntmps11
  go_wp2_with (first | ((with_reducible refine gate_callee (f := 13) rfl ?_); refine goesL_ (some 32) rfl rfl Try.func13 (by kernel_rfl) rfl #[.slice A0 l0.length c0] rfl (by (try simp only [List.map_toArray, List.map_cons, List.map_nil]); first | done | rfl | (simp only [List.length_drop, List.length_take]; rfl)) ?_; (with_reducible refine (laws_big.calls _ _ l0 true _ ?side1 ?side2 A2.out).mono ?_); (case side1 => repeat (first | exact HR0.out | (with_reducible refine Kd.C_alloc ?_ _) | (with_reducible refine Kd.C_drewN ?_ _) | (with_reducible refine Kd.C_drew ?_))); (case side2 => exact HC0.out); rintro e w' ⟨rfl, ⟨nd, rfl⟩⟩; refine ⟨_, rfl, ?_⟩))
  go_ret
  exact ⟨by first | rfl | (simp [errW_none, errW_some] <;> rfl) | (simp [*, errW_none, errW_some] <;> rfl), hx_ HB.out⟩
 ·replace c3 := Bool.eq_false_iff.mpr c3
  subst c3
  have H1 : ((spec_DrawRunCuts.f k l0).bind fun bt473 => ((impl_RunCuts.f k bt473.1 bt473.2.1 bt473.2.2).bind fun bt479 => ((spec_RunCuts.f k bt473.1 bt473.2.1 bt473.2.2).bind fun bt483 => ((spec_DrawMakeCut.f k l0).bind fun bt487 => ((impl_MakeCut.f k bt487.1 bt487.2.1 bt487.2.2.1 bt487.2.2.2).bind fun bt494 => ((spec_MakeCut.f k bt487.1 bt487.2.1 bt487.2.2.1 bt487.2.2.2).bind fun bt498 => ((spec_DrawCountPieces.f k l0).bind fun bt502 => ((impl_CountPieces.f k bt502.1 bt502.2.1 bt502.2.2).bind fun bt508 => ((spec_CountPieces.f k bt502.1 bt502.2.1 bt502.2.2).bind fun bt510 => ((impl_AreaOf.f k bt502.1).bind fun bt512 => ((spec_AreaOf.f k bt502.1).bind fun bt514 => (if bt479.2 = bt483.2 then ((laws_likePieces9.f k bt479.1 bt483.1).bind fun t516 => (if t516 = true then (if bt494.2 = bt498.2 then ((laws_likePieces9.f k bt494.1 bt498.1).bind fun t517 => (if t517 = true then (if bt508.2 = bt510.2 then (if bt508.1 = bt510.1 then (if bt512.2 = bt514.2 then (if bt512.1 = bt514.1 then ((impl_CanCut.f k bt487.1 bt487.2.1 bt487.2.2.1 bt487.2.2.2).bind fun t518 => (if (t518 != (bt498.2 == 0)) = true then (none) else ((impl_IsPiece.f bt473.1 bt473.2.1).bind fun t519 => ((spec_IsPiece.f bt473.1 bt473.2.1).bind fun t520 => (laws_FnCuts.j0 k bt473.2.2 bt479.1 bt479.2 bt487.1 bt494.1 bt494.2 (t519 != t520) bt473.1 bt473.2.1))))) else (none)) else (none)) else (none)) else (none)) else (none))) else (none)) else (none))) else (none))))))))))))) = some r := by rw [if_neg (show ¬ (false = true) by decide)] at H; exact H
  clear H
  have H := H1
  clear H1
  replace H := Option.bind_eq_some_iff.mp H
  obtain ⟨⟨t473, t474, t475⟩, A40, H⟩ := H
  replace H : ((impl_RunCuts.f k t473 t474 t475).bind fun bt479 => ((spec_RunCuts.f k t473 t474 t475).bind fun bt483 => ((spec_DrawMakeCut.f k l0).bind fun bt487 => ((impl_MakeCut.f k bt487.1 bt487.2.1 bt487.2.2.1 bt487.2.2.2).bind fun bt494 => ((spec_MakeCut.f k bt487.1 bt487.2.1 bt487.2.2.1 bt487.2.2.2).bind fun bt498 => ((spec_DrawCountPieces.f k l0).bind fun bt502 => ((impl_CountPieces.f k bt502.1 bt502.2.1 bt502.2.2).bind fun bt508 => ((spec_CountPieces.f k bt502.1 bt502.2.1 bt502.2.2).bind fun bt510 => ((impl_AreaOf.f k bt502.1).bind fun bt512 => ((spec_AreaOf.f k bt502.1).bind fun bt514 => (if bt479.2 = bt483.2 then ((laws_likePieces9.f k bt479.1 bt483.1).bind fun t516 => (if t516 = true then (if bt494.2 = bt498.2 then ((laws_likePieces9.f k bt494.1 bt498.1).bind fun t517 => (if t517 = true then (if bt508.2 = bt510.2 then (if bt508.1 = bt510.1 then (if bt512.2 = bt514.2 then (if bt512.1 = bt514.1 then ((impl_CanCut.f k bt487.1 bt487.2.1 bt487.2.2.1 bt487.2.2.2).bind fun t518 => (if (t518 != (bt498.2 == 0)) = true then (none) else ((impl_IsPiece.f t473 t474).bind fun t519 => ((spec_IsPiece.f t473 t474).bind fun t520 => (laws_FnCuts.j0 k t475 bt479.1 bt479.2 bt487.1 bt494.1 bt494.2 (t519 != t520) t473 t474))))) else (none)) else (none)) else (none)) else (none)) else (none))) else (none)) else (none))) else (none)))))))))))) = some r := H
  have A4 := Aside0.mk A40
  clear A40
  replace H := Option.bind_eq_some_iff.mp H
  obtain ⟨⟨t479, t482⟩, A50, H⟩ := H
  replace H : ((spec_RunCuts.f k t473 t474 t475).bind fun bt483 => ((spec_DrawMakeCut.f k l0).bind fun bt487 => ((impl_MakeCut.f k bt487.1 bt487.2.1 bt487.2.2.1 bt487.2.2.2).bind fun bt494 => ((spec_MakeCut.f k bt487.1 bt487.2.1 bt487.2.2.1 bt487.2.2.2).bind fun bt498 => ((spec_DrawCountPieces.f k l0).bind fun bt502 => ((impl_CountPieces.f k bt502.1 bt502.2.1 bt502.2.2).bind fun bt508 => ((spec_CountPieces.f k bt502.1 bt502.2.1 bt502.2.2).bind fun bt510 => ((impl_AreaOf.f k bt502.1).bind fun bt512 => ((spec_AreaOf.f k bt502.1).bind fun bt514 => (if t482 = bt483.2 then ((laws_likePieces9.f k t479 bt483.1).bind fun t516 => (if t516 = true then (if bt494.2 = bt498.2 then ((laws_likePieces9.f k bt494.1 bt498.1).bind fun t517 => (if t517 = true then (if bt508.2 = bt510.2 then (if bt508.1 = bt510.1 then (if bt512.2 = bt514.2 then (if bt512.1 = bt514.1 then ((impl_CanCut.f k bt487.1 bt487.2.1 bt487.2.2.1 bt487.2.2.2).bind fun t518 => (if (t518 != (bt498.2 == 0)) = true then (none) else ((impl_IsPiece.f t473 t474).bind fun t519 => ((spec_IsPiece.f t473 t474).bind fun t520 => (laws_FnCuts.j0 k t475 t479 t482 bt487.1 bt494.1 bt494.2 (t519 != t520) t473 t474))))) else (none)) else (none)) else (none)) else (none)) else (none))) else (none)) else (none))) else (none))))))))))) = some r := H
  have A5 := Aside0.mk A50
  clear A50
  replace H := Option.bind_eq_some_iff.mp H
  obtain ⟨⟨t483, t486⟩, A60, H⟩ := H
  replace H : ((spec_DrawMakeCut.f k l0).bind fun bt487 => ((impl_MakeCut.f k bt487.1 bt487.2.1 bt487.2.2.1 bt487.2.2.2).bind fun bt494 => ((spec_MakeCut.f k bt487.1 bt487.2.1 bt487.2.2.1 bt487.2.2.2).bind fun bt498 => ((spec_DrawCountPieces.f k l0).bind fun bt502 => ((impl_CountPieces.f k bt502.1 bt502.2.1 bt502.2.2).bind fun bt508 => ((spec_CountPieces.f k bt502.1 bt502.2.1 bt502.2.2).bind fun bt510 => ((impl_AreaOf.f k bt502.1).bind fun bt512 => ((spec_AreaOf.f k bt502.1).bind fun bt514 => (if t482 = t486 then ((laws_likePieces9.f k t479 t483).bind fun t516 => (if t516 = true then (if bt494.2 = bt498.2 then ((laws_likePieces9.f k bt494.1 bt498.1).bind fun t517 => (if t517 = true then (if bt508.2 = bt510.2 then (if bt508.1 = bt510.1 then (if bt512.2 = bt514.2 then (if bt512.1 = bt514.1 then ((impl_CanCut.f k bt487.1 bt487.2.1 bt487.2.2.1 bt487.2.2.2).bind fun t518 => (if (t518 != (bt498.2 == 0)) = true then (none) else ((impl_IsPiece.f t473 t474).bind fun t519 => ((spec_IsPiece.f t473 t474).bind fun t520 => (laws_FnCuts.j0 k t475 t479 t482 bt487.1 bt494.1 bt494.2 (t519 != t520) t473 t474))))) else (none)) else (none)) else (none)) else (none)) else (none))) else (none)) else (none))) else (none)))))))))) = some r := H
  have A6 := Aside0.mk A60
  clear A60
  replace H := Option.bind_eq_some_iff.mp H
  obtain ⟨⟨t487, t490, t491, t492⟩, A70, H⟩ := H
  replace H : ((impl_MakeCut.f k t487 t490 t491 t492).bind fun bt494 => ((spec_MakeCut.f k t487 t490 t491 t492).bind fun bt498 => ((spec_DrawCountPieces.f k l0).bind fun bt502 => ((impl_CountPieces.f k bt502.1 bt502.2.1 bt502.2.2).bind fun bt508 => ((spec_CountPieces.f k bt502.1 bt502.2.1 bt502.2.2).bind fun bt510 => ((impl_AreaOf.f k bt502.1).bind fun bt512 => ((spec_AreaOf.f k bt502.1).bind fun bt514 => (if t482 = t486 then ((laws_likePieces9.f k t479 t483).bind fun t516 => (if t516 = true then (if bt494.2 = bt498.2 then ((laws_likePieces9.f k bt494.1 bt498.1).bind fun t517 => (if t517 = true then (if bt508.2 = bt510.2 then (if bt508.1 = bt510.1 then (if bt512.2 = bt514.2 then (if bt512.1 = bt514.1 then ((impl_CanCut.f k t487 t490 t491 t492).bind fun t518 => (if (t518 != (bt498.2 == 0)) = true then (none) else ((impl_IsPiece.f t473 t474).bind fun t519 => ((spec_IsPiece.f t473 t474).bind fun t520 => (laws_FnCuts.j0 k t475 t479 t482 t487 bt494.1 bt494.2 (t519 != t520) t473 t474))))) else (none)) else (none)) else (none)) else (none)) else (none))) else (none)) else (none))) else (none))))))))) = some r := H
  have A7 := Aside0.mk A70
  clear A70
  replace H := Option.bind_eq_some_iff.mp H
  obtain ⟨⟨t494, t497⟩, A80, H⟩ := H
  replace H : ((spec_MakeCut.f k t487 t490 t491 t492).bind fun bt498 => ((spec_DrawCountPieces.f k l0).bind fun bt502 => ((impl_CountPieces.f k bt502.1 bt502.2.1 bt502.2.2).bind fun bt508 => ((spec_CountPieces.f k bt502.1 bt502.2.1 bt502.2.2).bind fun bt510 => ((impl_AreaOf.f k bt502.1).bind fun bt512 => ((spec_AreaOf.f k bt502.1).bind fun bt514 => (if t482 = t486 then ((laws_likePieces9.f k t479 t483).bind fun t516 => (if t516 = true then (if t497 = bt498.2 then ((laws_likePieces9.f k t494 bt498.1).bind fun t517 => (if t517 = true then (if bt508.2 = bt510.2 then (if bt508.1 = bt510.1 then (if bt512.2 = bt514.2 then (if bt512.1 = bt514.1 then ((impl_CanCut.f k t487 t490 t491 t492).bind fun t518 => (if (t518 != (bt498.2 == 0)) = true then (none) else ((impl_IsPiece.f t473 t474).bind fun t519 => ((spec_IsPiece.f t473 t474).bind fun t520 => (laws_FnCuts.j0 k t475 t479 t482 t487 t494 t497 (t519 != t520) t473 t474))))) else (none)) else (none)) else (none)) else (none)) else (none))) else (none)) else (none))) else (none)))))))) = some r := H
  have A8 := Aside0.mk A80
  clear A80
  replace H := Option.bind_eq_some_iff.mp H
  obtain ⟨⟨t498, t501⟩, A90, H⟩ := H
  replace H : ((spec_DrawCountPieces.f k l0).bind fun bt502 => ((impl_CountPieces.f k bt502.1 bt502.2.1 bt502.2.2).bind fun bt508 => ((spec_CountPieces.f k bt502.1 bt502.2.1 bt502.2.2).bind fun bt510 => ((impl_AreaOf.f k bt502.1).bind fun bt512 => ((spec_AreaOf.f k bt502.1).bind fun bt514 => (if t482 = t486 then ((laws_likePieces9.f k t479 t483).bind fun t516 => (if t516 = true then (if t497 = t501 then ((laws_likePieces9.f k t494 t498).bind fun t517 => (if t517 = true then (if bt508.2 = bt510.2 then (if bt508.1 = bt510.1 then (if bt512.2 = bt514.2 then (if bt512.1 = bt514.1 then ((impl_CanCut.f k t487 t490 t491 t492).bind fun t518 => (if (t518 != (t501 == 0)) = true then (none) else ((impl_IsPiece.f t473 t474).bind fun t519 => ((spec_IsPiece.f t473 t474).bind fun t520 => (laws_FnCuts.j0 k t475 t479 t482 t487 t494 t497 (t519 != t520) t473 t474))))) else (none)) else (none)) else (none)) else (none)) else (none))) else (none)) else (none))) else (none))))))) = some r := H
  have A9 := Aside0.mk A90
  clear A90
  replace H := Option.bind_eq_some_iff.mp H
  obtain ⟨⟨t502, t505, t506⟩, A100, H⟩ := H
  replace H : ((impl_CountPieces.f k t502 t505 t506).bind fun bt508 => ((spec_CountPieces.f k t502 t505 t506).bind fun bt510 => ((impl_AreaOf.f k t502).bind fun bt512 => ((spec_AreaOf.f k t502).bind fun bt514 => (if t482 = t486 then ((laws_likePieces9.f k t479 t483).bind fun t516 => (if t516 = true then (if t497 = t501 then ((laws_likePieces9.f k t494 t498).bind fun t517 => (if t517 = true then (if bt508.2 = bt510.2 then (if bt508.1 = bt510.1 then (if bt512.2 = bt514.2 then (if bt512.1 = bt514.1 then ((impl_CanCut.f k t487 t490 t491 t492).bind fun t518 => (if (t518 != (t501 == 0)) = true then (none) else ((impl_IsPiece.f t473 t474).bind fun t519 => ((spec_IsPiece.f t473 t474).bind fun t520 => (laws_FnCuts.j0 k t475 t479 t482 t487 t494 t497 (t519 != t520) t473 t474))))) else (none)) else (none)) else (none)) else (none)) else (none))) else (none)) else (none))) else (none)))))) = some r := H
  have A10 := Aside0.mk A100
  clear A100
  replace H := Option.bind_eq_some_iff.mp H
  obtain ⟨⟨t508, t509⟩, A110, H⟩ := H
  replace H : ((spec_CountPieces.f k t502 t505 t506).bind fun bt510 => ((impl_AreaOf.f k t502).bind fun bt512 => ((spec_AreaOf.f k t502).bind fun bt514 => (if t482 = t486 then ((laws_likePieces9.f k t479 t483).bind fun t516 => (if t516 = true then (if t497 = t501 then ((laws_likePieces9.f k t494 t498).bind fun t517 => (if t517 = true then (if t509 = bt510.2 then (if t508 = bt510.1 then (if bt512.2 = bt514.2 then (if bt512.1 = bt514.1 then ((impl_CanCut.f k t487 t490 t491 t492).bind fun t518 => (if (t518 != (t501 == 0)) = true then (none) else ((impl_IsPiece.f t473 t474).bind fun t519 => ((spec_IsPiece.f t473 t474).bind fun t520 => (laws_FnCuts.j0 k t475 t479 t482 t487 t494 t497 (t519 != t520) t473 t474))))) else (none)) else (none)) else (none)) else (none)) else (none))) else (none)) else (none))) else (none))))) = some r := H
  have A11 := Aside0.mk A110
  clear A110
  replace H := Option.bind_eq_some_iff.mp H
  obtain ⟨⟨t510, t511⟩, A120, H⟩ := H
  replace H : ((impl_AreaOf.f k t502).bind fun bt512 => ((spec_AreaOf.f k t502).bind fun bt514 => (if t482 = t486 then ((laws_likePieces9.f k t479 t483).bind fun t516 => (if t516 = true then (if t497 = t501 then ((laws_likePieces9.f k t494 t498).bind fun t517 => (if t517 = true then (if t509 = t511 then (if t508 = t510 then (if bt512.2 = bt514.2 then (if bt512.1 = bt514.1 then ((impl_CanCut.f k t487 t490 t491 t492).bind fun t518 => (if (t518 != (t501 == 0)) = true then (none) else ((impl_IsPiece.f t473 t474).bind fun t519 => ((spec_IsPiece.f t473 t474).bind fun t520 => (laws_FnCuts.j0 k t475 t479 t482 t487 t494 t497 (t519 != t520) t473 t474))))) else (none)) else (none)) else (none)) else (none)) else (none))) else (none)) else (none))) else (none)))) = some r := H
  have A12 := Aside0.mk A120
  clear A120
  replace H := Option.bind_eq_some_iff.mp H
  obtain ⟨⟨t512, t513⟩, A130, H⟩ := H
  replace H : ((spec_AreaOf.f k t502).bind fun bt514 => (if t482 = t486 then ((laws_likePieces9.f k t479 t483).bind fun t516 => (if t516 = true then (if t497 = t501 then ((laws_likePieces9.f k t494 t498).bind fun t517 => (if t517 = true then (if t509 = t511 then (if t508 = t510 then (if t513 = bt514.2 then (if t512 = bt514.1 then ((impl_CanCut.f k t487 t490 t491 t492).bind fun t518 => (if (t518 != (t501 == 0)) = true then (none) else ((impl_IsPiece.f t473 t474).bind fun t519 => ((spec_IsPiece.f t473 t474).bind fun t520 => (laws_FnCuts.j0 k t475 t479 t482 t487 t494 t497 (t519 != t520) t473 t474))))) else (none)) else (none)) else (none)) else (none)) else (none))) else (none)) else (none))) else (none))) = some r := H
  have A13 := Aside0.mk A130
  clear A130
  replace H := Option.bind_eq_some_iff.mp H
  obtain ⟨⟨t514, t515⟩, A140, H⟩ := H
  replace H : (if t482 = t486 then ((laws_likePieces9.f k t479 t483).bind fun t516 => (if t516 = true then (if t497 = t501 then ((laws_likePieces9.f k t494 t498).bind fun t517 => (if t517 = true then (if t509 = t511 then (if t508 = t510 then (if t513 = t515 then (if t512 = t514 then ((impl_CanCut.f k t487 t490 t491 t492).bind fun t518 => (if (t518 != (t501 == 0)) = true then (none) else ((impl_IsPiece.f t473 t474).bind fun t519 => ((spec_IsPiece.f t473 t474).bind fun t520 => (laws_FnCuts.j0 k t475 t479 t482 t487 t494 t497 (t519 != t520) t473 t474))))) else (none)) else (none)) else (none)) else (none)) else (none))) else (none)) else (none))) else (none)) = some r := H
  have A14 := Aside0.mk A140
  clear A140
  have HC15 := Aside0.mk H
  clear H
  go_enter Try.func11, Try.ntmps11
  go_upto_region 14 with (first | ((with_reducible refine gate_callee (f := 13) rfl ?_); refine goesL_ (some 32) rfl rfl Try.func13 (by kernel_rfl) rfl #[.slice A0 l0.length c0] rfl (by (try simp only [List.map_toArray, List.map_cons, List.map_nil]); first | done | rfl | (simp only [List.length_drop, List.length_take]; rfl)) ?_; (with_reducible refine (laws_big.calls _ _ l0 false _ ?side1 ?side2 A2.out).mono ?_); (case side1 => repeat (first | exact HR0.out | (with_reducible refine Kd.C_alloc ?_ _) | (with_reducible refine Kd.C_drewN ?_ _) | (with_reducible refine Kd.C_drew ?_))); (case side2 => exact HC0.out); rintro e w' ⟨rfl, ⟨nd, rfl⟩⟩; refine ⟨_, rfl, ?_⟩) | ((with_reducible refine gate_callee (f := 92) rfl ?_); refine goesL_ (some 35) rfl rfl Try.func92 (by kernel_rfl) rfl #[.slice A0 l0.length c0] rfl (by (try simp only [List.map_toArray, List.map_cons, List.map_nil]); first | done | rfl | (simp only [List.length_drop, List.length_take]; rfl)) ?_; (with_reducible refine (spec_DrawRunCuts.calls k _ _ l0 t473 t474 t475 _ ?side1 ?side2 A4.out).mono ?_); (case side1 => repeat (first | exact HR0.out | (with_reducible refine Kd.C_alloc ?_ _) | (with_reducible refine Kd.C_drewN ?_ _) | (with_reducible refine Kd.C_drew ?_))); (case side2 => exact HC0.out); rintro e w16 ⟨v476, rfl, ho0, hb⟩; refine ⟨_, rfl, ?_⟩; have n0_ := Aside0.mk (Kd.R_lower ho0 (below_size (hx_ HB.out))); have n1_ := Aside0.mk (below_step (hx_ HB.out) hb); clear HB; have HO477 := n0_; have HB := n1_; clear n0_ n1_; (try clear hb); (try clear hb2); (try clear hk); (try clear hi); (try clear ho0)) | ((with_reducible refine gate_dst (N := 3) rfl ?_); (try (refine gate_guard (by rfl) ?_; dsimp only)); refine box_event ?hg (N := 3) ?hd (cs := #[.int .i64 0, .int .i64 0]) (t := 77) ?hr ?_; (case hd => rfl); (case hg => rfl); (case hr => first | (go_simp; done) | (go_simp; rfl)); intro gb478 hg w17 hbox hb; have n0_ := Aside0.mk (Kd.R_below (rx_ HO477.out) hb); have n1_ := Aside0.mk (below_step (hx_ HB.out) hb); have n2_ := Aside0.mk (hbox); have n3_ := Aside0.mk ((by rw [hg]; exact (below_size (hx_ HB.out)) : w.heap.size ≤ gb478)); have n4_ := Aside0.mk ((by rw [hg]; exact (below_size (hx_ HB.out)) : w.heap.size ≤ gb478)); clear HO477; clear HB; have HO477 := n0_; have HB := n1_; have BK478 := n2_; have GW478 := n3_; have GE478 := n4_; clear n0_ n1_ n2_ n3_ n4_; clear hb hbox hg; have hcz18_0 : w17.cell? ⟨gb478, 0, none⟩ = some (.int .i64 0) := (blk_cell BK478.out 0).trans rfl; have hcz18_1 : w17.cell? ⟨gb478, 1, none⟩ = some (.int .i64 0) := (blk_cell BK478.out 1).trans rfl; have hfz18_0 := blk_frozen BK478.out 0; have hfz18_1 := blk_frozen BK478.out 1; obtain ⟨Ao19, co19, eo19⟩ := Kd.R_slice HO477.out; subst eo19) | ((with_reducible refine gate_callee (f := 93) rfl ?_); refine goesL_ (some 41) rfl rfl Try.func93 (by kernel_rfl) rfl #[.agg #[.int .i64 t473, .int .i64 t474], .slice Ao19 t475.length co19] rfl (by (try simp only [List.map_toArray, List.map_cons, List.map_nil]); first | done | rfl | (simp only [List.length_drop, List.length_take]; rfl)) ?_; (with_reducible refine (impl_RunCuts.calls k t473 t474 _ _ t475 t479 t482 _ ?side1 ?side2 A5.out).mono ?_); (case side1 => refine (Kd.R_reads' (e := 85) (base := w.heap.size) (ok := fun k_ => True) (n := t475.length) (c := co19) ?_).2.2; exact (by (with_reducible repeat (first | apply Kd.R_alloc | apply Kd.R_drewN | apply Kd.R_drew)); exact (Kd.R_mono (Kd.R_far (p := ⟨gb478, 1, none⟩) (Kd.R_far (p := ⟨gb478, 0, none⟩) (Kd.R_types HO477.out BK478.out (by decide)) (fun _ hk => hk.2) (.int .i64 t473)) (fun _ hk => hk.2) (.int .i64 t474)) (fun _ h_ => h_.1)))); (case side2 => exact (Kd.R_reads' HO477.out).2.1); rintro e w20 ⟨v480, rfl, ho0, hb⟩; refine ⟨_, rfl, ?_⟩; have n0_ := Aside0.mk (Kd.R_below (by (with_reducible repeat (first | apply Kd.R_alloc | apply Kd.R_drewN | apply Kd.R_drew)); exact (Kd.R_mono (Kd.R_far (p := ⟨gb478, 1, none⟩) (Kd.R_far (p := ⟨gb478, 0, none⟩) (Kd.R_types HO477.out BK478.out (by decide)) (fun _ hk => hk.2) (.int .i64 t473)) (fun _ hk => hk.2) (.int .i64 t474)) (fun _ h_ => h_.1))) hb); have n1_ := Aside0.mk (Kd.R_lower (Kd.R_newB ho0 (g := gb478) (o := .cells #[.int .i64 t473, .int .i64 t474] 77 (0, 0)) (by (with_reducible repeat (first | refine blk_drewN ?_ _ | refine blk_drew ?_ | refine blk_alloc ?_ _)); refine blk_put (cs := #[.int .i64 t473, .int .i64 0]) ?_ 1 _ rfl; (with_reducible repeat (first | refine blk_drewN ?_ _ | refine blk_drew ?_ | refine blk_alloc ?_ _)); refine blk_put (cs := #[.int .i64 0, .int .i64 0]) ?_ 0 _ rfl; (with_reducible repeat (first | refine blk_drewN ?_ _ | refine blk_drew ?_ | refine blk_alloc ?_ _)); exact BK478.out)) (below_size (hx_ HB.out))); have n2_ := Aside0.mk (blk_below (g := gb478) (o := .cells #[.int .i64 t473, .int .i64 t474] 77 (0, 0)) (by (with_reducible repeat (first | refine blk_drewN ?_ _ | refine blk_drew ?_ | refine blk_alloc ?_ _)); refine blk_put (cs := #[.int .i64 t473, .int .i64 0]) ?_ 1 _ rfl; (with_reducible repeat (first | refine blk_drewN ?_ _ | refine blk_drew ?_ | refine blk_alloc ?_ _)); refine blk_put (cs := #[.int .i64 0, .int .i64 0]) ?_ 0 _ rfl; (with_reducible repeat (first | refine blk_drewN ?_ _ | refine blk_drew ?_ | refine blk_alloc ?_ _)); exact BK478.out) hb); have n3_ := Aside0.mk (below_step (hx_ HB.out) hb); clear HO477; clear BK478; clear HB; have HO477 := n0_; have HO481 := n1_; have BK478 := n2_; have HB := n3_; clear n0_ n1_ n2_ n3_; (try clear hb); (try clear hb2); (try clear hk); (try clear hi); (try clear ho0); have hcz21_0 : w20.cell? ⟨gb478, 0, none⟩ = some (.int .i64 t473) := (blk_cell BK478.out 0).trans rfl; have hcz21_1 : w20.cell? ⟨gb478, 1, none⟩ = some (.int .i64 t474) := (blk_cell BK478.out 1).trans rfl; have hfz21_0 := blk_frozen BK478.out 0; have hfz21_1 := blk_frozen BK478.out 1) | ((with_reducible refine gate_callee (f := 94) rfl ?_); refine goesL_ (some 47) rfl rfl Try.func94 (by kernel_rfl) rfl #[.agg #[.int .i64 t473, .int .i64 t474], .slice Ao19 t475.length co19] rfl (by (try simp only [List.map_toArray, List.map_cons, List.map_nil]); first | done | rfl | (simp only [List.length_drop, List.length_take]; rfl)) ?_; (with_reducible refine (spec_RunCuts.calls k t473 t474 _ _ t475 t483 t486 _ ?side1 ?side2 A6.out).mono ?_); (case side1 => repeat (first | exact (Kd.R_reads' HO477.out).2.2 | (with_reducible refine Kd.C_alloc ?_ _) | (with_reducible refine Kd.C_drewN ?_ _) | (with_reducible refine Kd.C_drew ?_))); (case side2 => exact (Kd.R_reads' HO477.out).2.1); rintro e w22 ⟨v484, rfl, ho0, hb⟩; refine ⟨_, rfl, ?_⟩; have n0_ := Aside0.mk (Kd.R_below (rx_ HO477.out) hb); have n1_ := Aside0.mk (Kd.R_elder' (rx_ HO481.out) (Kd.R_base ho0) hb); have n2_ := Aside0.mk (Kd.R_lower (Kd.R_newB (Kd.R_new' ho0 (Kd.R_lt (rx_ HO481.out))) (g := gb478) (o := .cells #[.int .i64 t473, .int .i64 t474] 77 (0, 0)) (bx_ BK478.out)) (below_size (hx_ HB.out))); have n3_ := Aside0.mk (blk_below (g := gb478) (o := .cells #[.int .i64 t473, .int .i64 t474] 77 (0, 0)) (bx_ BK478.out) hb); have n4_ := Aside0.mk (below_step (hx_ HB.out) hb); clear HO477; clear HO481; clear BK478; clear HB; have HO477 := n0_; have HO481 := n1_; have HO485 := n2_; have BK478 := n3_; have HB := n4_; clear n0_ n1_ n2_ n3_ n4_; (try clear hb); (try clear hb2); (try clear hk); (try clear hi); (try clear ho0)) | ((with_reducible refine gate_callee (f := 95) rfl ?_); refine goesL_ (some 52) rfl rfl Try.func95 (by kernel_rfl) rfl #[.slice A0 l0.length c0] rfl (by (try simp only [List.map_toArray, List.map_cons, List.map_nil]); first | done | rfl | (simp only [List.length_drop, List.length_take]; rfl)) ?_; (with_reducible refine (spec_DrawMakeCut.calls k _ _ l0 t487 t490 t491 t492 _ ?side1 ?side2 A7.out).mono ?_); (case side1 => repeat (first | exact (Kd.C_below HR0.out HB.out) | (with_reducible refine Kd.C_alloc ?_ _) | (with_reducible refine Kd.C_drewN ?_ _) | (with_reducible refine Kd.C_drew ?_))); (case side2 => exact HC0.out); rintro e w23 ⟨v488, rfl, ho0, hb⟩; refine ⟨_, rfl, ?_⟩; have n0_ := Aside0.mk (Kd.R_below (rx_ HO477.out) hb); have n1_ := Aside0.mk (Kd.R_elder' (rx_ HO481.out) (Kd.R_base ho0) hb); have n2_ := Aside0.mk (Kd.R_elder' (rx_ HO485.out) (Kd.R_base ho0) hb); have n3_ := Aside0.mk (Kd.R_lower (Kd.R_newB (Kd.R_new' (Kd.R_new' ho0 (Kd.R_lt (rx_ HO481.out))) (Kd.R_lt (rx_ HO485.out))) (g := gb478) (o := .cells #[.int .i64 t473, .int .i64 t474] 77 (0, 0)) (bx_ BK478.out)) (below_size (hx_ HB.out))); have n4_ := Aside0.mk (blk_below (g := gb478) (o := .cells #[.int .i64 t473, .int .i64 t474] 77 (0, 0)) (bx_ BK478.out) hb); have n5_ := Aside0.mk (below_step (hx_ HB.out) hb); clear HO477; clear HO481; clear HO485; clear BK478; clear HB; have HO477 := n0_; have HO481 := n1_; have HO485 := n2_; have HO489 := n3_; have BK478 := n4_; have HB := n5_; clear n0_ n1_ n2_ n3_ n4_ n5_; (try clear hb); (try clear hb2); (try clear hk); (try clear hi); (try clear ho0)) | ((with_reducible refine gate_dst (N := 10) rfl ?_); (try (refine gate_guard (by rfl) ?_; dsimp only)); refine box_event ?hg (N := 10) ?hd (cs := #[.int .i64 0, .bool false, .int .i64 0]) (t := 85) ?hr ?_; (case hd => rfl); (case hg => rfl); (case hr => first | (go_simp; done) | (go_simp; rfl)); intro gb493 hg w24 hbox hb; have n0_ := Aside0.mk (Kd.R_below (Kd.R_elderB (rx_ HO477.out) gb493 (Nat.le_of_eq hg.symm)) hb); have n1_ := Aside0.mk (Kd.R_below (rx_ HO481.out) hb); have n2_ := Aside0.mk (Kd.R_below (rx_ HO485.out) hb); have n3_ := Aside0.mk (Kd.R_below (rx_ HO489.out) hb); have n4_ := Aside0.mk (blk_below (g := gb478) (o := .cells #[.int .i64 t473, .int .i64 t474] 77 (0, 0)) (bx_ BK478.out) hb); have n5_ := Aside0.mk (below_step (hx_ HB.out) hb); have n6_ := Aside0.mk (hbox); have n7_ := Aside0.mk ((by rw [hg]; exact (below_size (hx_ HB.out)) : w.heap.size ≤ gb493)); have n8_ := Aside0.mk ((by rw [hg]; exact (below_size (hx_ HB.out)) : w.heap.size ≤ gb493)); have n9_ := Aside0.mk ((by rw [hg]; exact Nat.ne_of_lt (blk_lt (g := gb478) (o := .cells #[.int .i64 t473, .int .i64 t474] 77 (0, 0)) (bx_ BK478.out)) : gb478 ≠ gb493)); have n10_ := Aside0.mk ((by rw [hg]; exact Nat.ne_of_gt (blk_lt (g := gb478) (o := .cells #[.int .i64 t473, .int .i64 t474] 77 (0, 0)) (bx_ BK478.out)) : gb493 ≠ gb478)); clear HO477; clear HO481; clear HO485; clear HO489; clear BK478; clear HB; have HO477 := n0_; have HO481 := n1_; have HO485 := n2_; have HO489 := n3_; have BK478 := n4_; have HB := n5_; have BK493 := n6_; have GW493 := n7_; have GE493 := n8_; have NB478_493 := n9_; have NB493_478 := n10_; clear n0_ n1_ n2_ n3_ n4_ n5_ n6_ n7_ n8_ n9_ n10_; clear hb hbox hg; have hnb25 := NB493_478.out; have hnc25 := NB478_493.out; have hcz26_0 : w24.cell? ⟨gb493, 0, none⟩ = some (.int .i64 0) := (blk_cell BK493.out 0).trans rfl; have hcz26_1 : w24.cell? ⟨gb493, 1, none⟩ = some (.bool false) := (blk_cell BK493.out 1).trans rfl; have hcz26_2 : w24.cell? ⟨gb493, 2, none⟩ = some (.int .i64 0) := (blk_cell BK493.out 2).trans rfl; have hfz26_0 := blk_frozen BK493.out 0; have hfz26_1 := blk_frozen BK493.out 1; have hfz26_2 := blk_frozen BK493.out 2; obtain ⟨Ao27, co27, eo27⟩ := Kd.R_slice HO489.out; subst eo27) | ((with_reducible refine gate_callee (f := 96) rfl ?_); refine goesL_ (some 58) rfl rfl Try.func96 (by kernel_rfl) rfl #[.slice Ao27 t487.length co27, .agg #[.int .i64 t490, .bool t491, .int .i64 t492]] rfl (by (try simp only [List.map_toArray, List.map_cons, List.map_nil]); first | done | rfl | (simp only [List.length_drop, List.length_take]; rfl)) ?_; (with_reducible refine (impl_MakeCut.calls k _ _ t487 t490 t491 t492 t494 t497 _ ?side1 ?side2 A8.out).mono ?_); (case side1 => refine (Kd.R_reads' (e := 77) (base := w.heap.size) (ok := fun k_ => (((True ∧ some k_ ≠ (v480 : Value).ownBlock) ∧ some k_ ≠ (v484 : Value).ownBlock) ∧ k_ ≠ gb478)) (n := t487.length) (c := co27) ?_).2.2; exact (by (with_reducible repeat (first | apply Kd.R_alloc | apply Kd.R_drewN | apply Kd.R_drew)); exact (Kd.R_mono (Kd.R_far (p := ⟨gb493, 2, none⟩) (Kd.R_far (p := ⟨gb493, 1, none⟩) (Kd.R_far (p := ⟨gb493, 0, none⟩) (Kd.R_types HO489.out BK493.out (by decide)) (fun _ hk => hk.2) (.int .i64 t490)) (fun _ hk => hk.2) (.bool t491)) (fun _ hk => hk.2) (.int .i64 t492)) (fun _ h_ => h_.1)))); (case side2 => exact (Kd.R_reads' HO489.out).2.1); rintro e w28 ⟨v495, rfl, ho0, hb⟩; refine ⟨_, rfl, ?_⟩; have n0_ := Aside0.mk (Kd.R_below (by (with_reducible repeat (first | apply Kd.R_alloc | apply Kd.R_drewN | apply Kd.R_drew)); exact (Kd.R_mono (Kd.R_far (p := ⟨gb493, 2, none⟩) (Kd.R_far (p := ⟨gb493, 1, none⟩) (Kd.R_far (p := ⟨gb493, 0, none⟩) (Kd.R_mono HO477.out (fun k_ hk => (⟨hk, hk.2⟩ : _ ∧ k_ ≠ gb493))) (fun _ hk => hk.2) (.int .i64 t490)) (fun _ hk => hk.2) (.bool t491)) (fun _ hk => hk.2) (.int .i64 t492)) (fun _ h_ => h_.1))) hb); have n1_ := Aside0.mk (Kd.R_elder' (by (with_reducible repeat (first | apply Kd.R_alloc | apply Kd.R_drewN | apply Kd.R_drew)); exact (Kd.R_mono (Kd.R_far (p := ⟨gb493, 2, none⟩) (Kd.R_far (p := ⟨gb493, 1, none⟩) (Kd.R_far (p := ⟨gb493, 0, none⟩) (Kd.R_types HO481.out BK493.out (by decide)) (fun _ hk => hk.2) (.int .i64 t490)) (fun _ hk => hk.2) (.bool t491)) (fun _ hk => hk.2) (.int .i64 t492)) (fun _ h_ => h_.1))) (Kd.R_base ho0) hb); have n2_ := Aside0.mk (Kd.R_elder' (by (with_reducible repeat (first | apply Kd.R_alloc | apply Kd.R_drewN | apply Kd.R_drew)); exact (Kd.R_mono (Kd.R_far (p := ⟨gb493, 2, none⟩) (Kd.R_far (p := ⟨gb493, 1, none⟩) (Kd.R_far (p := ⟨gb493, 0, none⟩) (Kd.R_types HO485.out BK493.out (by decide)) (fun _ hk => hk.2) (.int .i64 t490)) (fun _ hk => hk.2) (.bool t491)) (fun _ hk => hk.2) (.int .i64 t492)) (fun _ h_ => h_.1))) (Kd.R_base ho0) hb); have n3_ := Aside0.mk (Kd.R_elder' (by (with_reducible repeat (first | apply Kd.R_alloc | apply Kd.R_drewN | apply Kd.R_drew)); exact (Kd.R_mono (Kd.R_far (p := ⟨gb493, 2, none⟩) (Kd.R_far (p := ⟨gb493, 1, none⟩) (Kd.R_far (p := ⟨gb493, 0, none⟩) (Kd.R_types HO489.out BK493.out (by decide)) (fun _ hk => hk.2) (.int .i64 t490)) (fun _ hk => hk.2) (.bool t491)) (fun _ hk => hk.2) (.int .i64 t492)) (fun _ h_ => h_.1))) (Kd.R_base ho0) hb); have n4_ := Aside0.mk (Kd.R_lower (Kd.R_newB (Kd.R_new' (Kd.R_new' (Kd.R_new' ho0 (Kd.R_lt (by (with_reducible repeat (first | apply Kd.R_alloc | apply Kd.R_drewN | apply Kd.R_drew)); exact (Kd.R_mono (Kd.R_far (p := ⟨gb493, 2, none⟩) (Kd.R_far (p := ⟨gb493, 1, none⟩) (Kd.R_far (p := ⟨gb493, 0, none⟩) (Kd.R_types HO481.out BK493.out (by decide)) (fun _ hk => hk.2) (.int .i64 t490)) (fun _ hk => hk.2) (.bool t491)) (fun _ hk => hk.2) (.int .i64 t492)) (fun _ h_ => h_.1))))) (Kd.R_lt (by (with_reducible repeat (first | apply Kd.R_alloc | apply Kd.R_drewN | apply Kd.R_drew)); exact (Kd.R_mono (Kd.R_far (p := ⟨gb493, 2, none⟩) (Kd.R_far (p := ⟨gb493, 1, none⟩) (Kd.R_far (p := ⟨gb493, 0, none⟩) (Kd.R_types HO485.out BK493.out (by decide)) (fun _ hk => hk.2) (.int .i64 t490)) (fun _ hk => hk.2) (.bool t491)) (fun _ hk => hk.2) (.int .i64 t492)) (fun _ h_ => h_.1))))) (Kd.R_lt (by (with_reducible repeat (first | apply Kd.R_alloc | apply Kd.R_drewN | apply Kd.R_drew)); exact (Kd.R_mono (Kd.R_far (p := ⟨gb493, 2, none⟩) (Kd.R_far (p := ⟨gb493, 1, none⟩) (Kd.R_far (p := ⟨gb493, 0, none⟩) (Kd.R_types HO489.out BK493.out (by decide)) (fun _ hk => hk.2) (.int .i64 t490)) (fun _ hk => hk.2) (.bool t491)) (fun _ hk => hk.2) (.int .i64 t492)) (fun _ h_ => h_.1))))) (g := gb478) (o := .cells #[.int .i64 t473, .int .i64 t474] 77 (0, 0)) (bx_ BK478.out)) (below_size (hx_ HB.out))); have n5_ := Aside0.mk (blk_below (g := gb478) (o := .cells #[.int .i64 t473, .int .i64 t474] 77 (0, 0)) (bx_ BK478.out) hb); have n6_ := Aside0.mk (blk_below (g := gb493) (o := .cells #[.int .i64 t490, .bool t491, .int .i64 t492] 85 (0, 0)) (by (with_reducible repeat (first | refine blk_drewN ?_ _ | refine blk_drew ?_ | refine blk_alloc ?_ _)); refine blk_put (cs := #[.int .i64 t490, .bool t491, .int .i64 0]) ?_ 2 _ rfl; (with_reducible repeat (first | refine blk_drewN ?_ _ | refine blk_drew ?_ | refine blk_alloc ?_ _)); refine blk_put (cs := #[.int .i64 t490, .bool false, .int .i64 0]) ?_ 1 _ rfl; (with_reducible repeat (first | refine blk_drewN ?_ _ | refine blk_drew ?_ | refine blk_alloc ?_ _)); refine blk_put (cs := #[.int .i64 0, .bool false, .int .i64 0]) ?_ 0 _ rfl; (with_reducible repeat (first | refine blk_drewN ?_ _ | refine blk_drew ?_ | refine blk_alloc ?_ _)); exact BK493.out) hb); have n7_ := Aside0.mk (below_step (hx_ HB.out) hb); clear HO477; clear HO481; clear HO485; clear HO489; clear BK478; clear BK493; clear HB; have HO477 := n0_; have HO481 := n1_; have HO485 := n2_; have HO489 := n3_; have HO496 := n4_; have BK478 := n5_; have BK493 := n6_; have HB := n7_; clear n0_ n1_ n2_ n3_ n4_ n5_ n6_ n7_; (try clear hb); (try clear hb2); (try clear hk); (try clear hi); (try clear ho0); have hcz29_0 : w28.cell? ⟨gb493, 0, none⟩ = some (.int .i64 t490) := (blk_cell BK493.out 0).trans rfl; have hcz29_1 : w28.cell? ⟨gb493, 1, none⟩ = some (.bool t491) := (blk_cell BK493.out 1).trans rfl; have hcz29_2 : w28.cell? ⟨gb493, 2, none⟩ = some (.int .i64 t492) := (blk_cell BK493.out 2).trans rfl; have hfz29_0 := blk_frozen BK493.out 0; have hfz29_1 := blk_frozen BK493.out 1; have hfz29_2 := blk_frozen BK493.out 2) | ((with_reducible refine gate_callee (f := 97) rfl ?_); refine goesL_ (some 64) rfl rfl Try.func97 (by kernel_rfl) rfl #[.slice Ao27 t487.length co27, .agg #[.int .i64 t490, .bool t491, .int .i64 t492]] rfl (by (try simp only [List.map_toArray, List.map_cons, List.map_nil]); first | done | rfl | (simp only [List.length_drop, List.length_take]; rfl)) ?_; (with_reducible refine (spec_MakeCut.calls k _ _ t487 t490 t491 t492 t498 t501 _ ?side1 ?side2 A9.out).mono ?_); (case side1 => repeat (first | exact (Kd.R_reads' HO489.out).2.2 | (with_reducible refine Kd.C_alloc ?_ _) | (with_reducible refine Kd.C_drewN ?_ _) | (with_reducible refine Kd.C_drew ?_))); (case side2 => exact (Kd.R_reads' HO489.out).2.1); rintro e w30 ⟨v499, rfl, ho0, hb⟩; refine ⟨_, rfl, ?_⟩; have n0_ := Aside0.mk (Kd.R_below (rx_ HO477.out) hb); have n1_ := Aside0.mk (Kd.R_elder' (rx_ HO481.out) (Kd.R_base ho0) hb); have n2_ := Aside0.mk (Kd.R_elder' (rx_ HO485.out) (Kd.R_base ho0) hb); have n3_ := Aside0.mk (Kd.R_elder' (rx_ HO489.out) (Kd.R_base ho0) hb); have n4_ := Aside0.mk (Kd.R_elder' (rx_ HO496.out) (Kd.R_base ho0) hb); have n5_ := Aside0.mk (Kd.R_lower (Kd.R_newB (Kd.R_new' (Kd.R_new' (Kd.R_new' (Kd.R_new' ho0 (Kd.R_lt (rx_ HO481.out))) (Kd.R_lt (rx_ HO485.out))) (Kd.R_lt (rx_ HO489.out))) (Kd.R_lt (rx_ HO496.out))) (g := gb478) (o := .cells #[.int .i64 t473, .int .i64 t474] 77 (0, 0)) (bx_ BK478.out)) (below_size (hx_ HB.out))); have n6_ := Aside0.mk (blk_below (g := gb478) (o := .cells #[.int .i64 t473, .int .i64 t474] 77 (0, 0)) (bx_ BK478.out) hb); have n7_ := Aside0.mk (blk_below (g := gb493) (o := .cells #[.int .i64 t490, .bool t491, .int .i64 t492] 85 (0, 0)) (bx_ BK493.out) hb); have n8_ := Aside0.mk (below_step (hx_ HB.out) hb); clear HO477; clear HO481; clear HO485; clear HO489; clear HO496; clear BK478; clear BK493; clear HB; have HO477 := n0_; have HO481 := n1_; have HO485 := n2_; have HO489 := n3_; have HO496 := n4_; have HO500 := n5_; have BK478 := n6_; have BK493 := n7_; have HB := n8_; clear n0_ n1_ n2_ n3_ n4_ n5_ n6_ n7_ n8_; (try clear hb); (try clear hb2); (try clear hk); (try clear hi); (try clear ho0)) | ((with_reducible refine gate_callee (f := 98) rfl ?_); refine goesL_ (some 69) rfl rfl Try.func98 (by kernel_rfl) rfl #[.slice A0 l0.length c0] rfl (by (try simp only [List.map_toArray, List.map_cons, List.map_nil]); first | done | rfl | (simp only [List.length_drop, List.length_take]; rfl)) ?_; (with_reducible refine (spec_DrawCountPieces.calls k _ _ l0 t502 t505 t506 _ ?side1 ?side2 A10.out).mono ?_); (case side1 => repeat (first | exact (Kd.C_below HR0.out HB.out) | (with_reducible refine Kd.C_alloc ?_ _) | (with_reducible refine Kd.C_drewN ?_ _) | (with_reducible refine Kd.C_drew ?_))); (case side2 => exact HC0.out); rintro e w31 ⟨v503, rfl, ho0, hb⟩; refine ⟨_, rfl, ?_⟩; have n0_ := Aside0.mk (Kd.R_below (rx_ HO477.out) hb); have n1_ := Aside0.mk (Kd.R_elder' (rx_ HO481.out) (Kd.R_base ho0) hb); have n2_ := Aside0.mk (Kd.R_elder' (rx_ HO485.out) (Kd.R_base ho0) hb); have n3_ := Aside0.mk (Kd.R_elder' (rx_ HO489.out) (Kd.R_base ho0) hb); have n4_ := Aside0.mk (Kd.R_elder' (rx_ HO496.out) (Kd.R_base ho0) hb); have n5_ := Aside0.mk (Kd.R_elder' (rx_ HO500.out) (Kd.R_base ho0) hb); have n6_ := Aside0.mk (Kd.R_lower (Kd.R_newB (Kd.R_new' (Kd.R_new' (Kd.R_new' (Kd.R_new' (Kd.R_new' ho0 (Kd.R_lt (rx_ HO481.out))) (Kd.R_lt (rx_ HO485.out))) (Kd.R_lt (rx_ HO489.out))) (Kd.R_lt (rx_ HO496.out))) (Kd.R_lt (rx_ HO500.out))) (g := gb478) (o := .cells #[.int .i64 t473, .int .i64 t474] 77 (0, 0)) (bx_ BK478.out)) (below_size (hx_ HB.out))); have n7_ := Aside0.mk (blk_below (g := gb478) (o := .cells #[.int .i64 t473, .int .i64 t474] 77 (0, 0)) (bx_ BK478.out) hb); have n8_ := Aside0.mk (blk_below (g := gb493) (o := .cells #[.int .i64 t490, .bool t491, .int .i64 t492] 85 (0, 0)) (bx_ BK493.out) hb); have n9_ := Aside0.mk (below_step (hx_ HB.out) hb); clear HO477; clear HO481; clear HO485; clear HO489; clear HO496; clear HO500; clear BK478; clear BK493; clear HB; have HO477 := n0_; have HO481 := n1_; have HO485 := n2_; have HO489 := n3_; have HO496 := n4_; have HO500 := n5_; have HO504 := n6_; have BK478 := n7_; have BK493 := n8_; have HB := n9_; clear n0_ n1_ n2_ n3_ n4_ n5_ n6_ n7_ n8_ n9_; (try clear hb); (try clear hb2); (try clear hk); (try clear hi); (try clear ho0)) | ((with_reducible refine gate_dst (N := 16) rfl ?_); (try (refine gate_guard (by rfl) ?_; dsimp only)); refine box_event ?hg (N := 16) ?hd (cs := #[.int .i64 0, .int .i64 0]) (t := 77) ?hr ?_; (case hd => rfl); (case hg => rfl); (case hr => first | (go_simp; done) | (go_simp; rfl)); intro gb507 hg w32 hbox hb; have n0_ := Aside0.mk (Kd.R_below (rx_ HO477.out) hb); have n1_ := Aside0.mk (Kd.R_below (Kd.R_elderB (rx_ HO481.out) gb507 (Nat.le_of_eq hg.symm)) hb); have n2_ := Aside0.mk (Kd.R_below (Kd.R_elderB (rx_ HO485.out) gb507 (Nat.le_of_eq hg.symm)) hb); have n3_ := Aside0.mk (Kd.R_below (Kd.R_elderB (rx_ HO489.out) gb507 (Nat.le_of_eq hg.symm)) hb); have n4_ := Aside0.mk (Kd.R_below (Kd.R_elderB (rx_ HO496.out) gb507 (Nat.le_of_eq hg.symm)) hb); have n5_ := Aside0.mk (Kd.R_below (Kd.R_elderB (rx_ HO500.out) gb507 (Nat.le_of_eq hg.symm)) hb); have n6_ := Aside0.mk (Kd.R_below (Kd.R_elderB (rx_ HO504.out) gb507 (Nat.le_of_eq hg.symm)) hb); have n7_ := Aside0.mk (blk_below (g := gb478) (o := .cells #[.int .i64 t473, .int .i64 t474] 77 (0, 0)) (bx_ BK478.out) hb); have n8_ := Aside0.mk (blk_below (g := gb493) (o := .cells #[.int .i64 t490, .bool t491, .int .i64 t492] 85 (0, 0)) (bx_ BK493.out) hb); have n9_ := Aside0.mk (below_step (hx_ HB.out) hb); have n10_ := Aside0.mk (hbox); have n11_ := Aside0.mk ((by rw [hg]; exact (below_size (hx_ HB.out)) : w.heap.size ≤ gb507)); have n12_ := Aside0.mk ((by rw [hg]; exact (below_size (hx_ HB.out)) : w.heap.size ≤ gb507)); have n13_ := Aside0.mk ((by rw [hg]; exact Nat.ne_of_lt (blk_lt (g := gb478) (o := .cells #[.int .i64 t473, .int .i64 t474] 77 (0, 0)) (bx_ BK478.out)) : gb478 ≠ gb507)); have n14_ := Aside0.mk ((by rw [hg]; exact Nat.ne_of_gt (blk_lt (g := gb478) (o := .cells #[.int .i64 t473, .int .i64 t474] 77 (0, 0)) (bx_ BK478.out)) : gb507 ≠ gb478)); have n15_ := Aside0.mk ((by rw [hg]; exact Nat.ne_of_lt (blk_lt (g := gb493) (o := .cells #[.int .i64 t490, .bool t491, .int .i64 t492] 85 (0, 0)) (bx_ BK493.out)) : gb493 ≠ gb507)); have n16_ := Aside0.mk ((by rw [hg]; exact Nat.ne_of_gt (blk_lt (g := gb493) (o := .cells #[.int .i64 t490, .bool t491, .int .i64 t492] 85 (0, 0)) (bx_ BK493.out)) : gb507 ≠ gb493)); clear HO477; clear HO481; clear HO485; clear HO489; clear HO496; clear HO500; clear HO504; clear BK478; clear BK493; clear HB; have HO477 := n0_; have HO481 := n1_; have HO485 := n2_; have HO489 := n3_; have HO496 := n4_; have HO500 := n5_; have HO504 := n6_; have BK478 := n7_; have BK493 := n8_; have HB := n9_; have BK507 := n10_; have GW507 := n11_; have GE507 := n12_; have NB478_507 := n13_; have NB507_478 := n14_; have NB493_507 := n15_; have NB507_493 := n16_; clear n0_ n1_ n2_ n3_ n4_ n5_ n6_ n7_ n8_ n9_ n10_ n11_ n12_ n13_ n14_ n15_ n16_; clear hb hbox hg; have hnb33 := NB507_478.out; have hnc33 := NB478_507.out; have hnb34 := NB507_493.out; have hnc34 := NB493_507.out; have hcz35_0 : w32.cell? ⟨gb507, 0, none⟩ = some (.int .i64 0) := (blk_cell BK507.out 0).trans rfl; have hcz35_1 : w32.cell? ⟨gb507, 1, none⟩ = some (.int .i64 0) := (blk_cell BK507.out 1).trans rfl; have hfz35_0 := blk_frozen BK507.out 0; have hfz35_1 := blk_frozen BK507.out 1; obtain ⟨Ao36, co36, eo36⟩ := Kd.R_slice HO504.out; subst eo36) | ((with_reducible refine gate_callee (f := 99) rfl ?_); refine goesL_ (some 75) rfl rfl Try.func99 (by kernel_rfl) rfl #[.slice Ao36 t502.length co36, .agg #[.int .i64 t505, .int .i64 t506]] rfl (by (try simp only [List.map_toArray, List.map_cons, List.map_nil]); first | done | rfl | (simp only [List.length_drop, List.length_take]; rfl)) ?_; (with_reducible refine (impl_CountPieces.calls k _ _ t502 t505 t506 t508 t509 _ ?side1 ?side2 A11.out).mono ?_); (case side1 => refine (Kd.R_reads' (e := 77) (base := w.heap.size) (ok := fun k_ => (((((((True ∧ some k_ ≠ (v480 : Value).ownBlock) ∧ some k_ ≠ (v484 : Value).ownBlock) ∧ some k_ ≠ (.slice Ao27 t487.length co27 : Value).ownBlock) ∧ some k_ ≠ (v495 : Value).ownBlock) ∧ some k_ ≠ (v499 : Value).ownBlock) ∧ k_ ≠ gb478) ∧ k_ ≠ gb507)) (n := t502.length) (c := co36) ?_).2.2; exact (by (with_reducible repeat (first | apply Kd.R_alloc | apply Kd.R_drewN | apply Kd.R_drew)); exact (Kd.R_mono (Kd.R_far (p := ⟨gb507, 1, none⟩) (Kd.R_far (p := ⟨gb507, 0, none⟩) (Kd.R_mono HO504.out (fun k_ hk => (⟨hk, hk.2⟩ : _ ∧ k_ ≠ gb507))) (fun _ hk => hk.2) (.int .i64 t505)) (fun _ hk => hk.2) (.int .i64 t506)) (fun _ h_ => h_.1)))); (case side2 => exact (Kd.R_reads' HO504.out).2.1); rintro e w37 ⟨rfl, hb⟩; refine ⟨_, rfl, ?_⟩; have n0_ := Aside0.mk (Kd.R_below (by (with_reducible repeat (first | apply Kd.R_alloc | apply Kd.R_drewN | apply Kd.R_drew)); exact (Kd.R_mono (Kd.R_far (p := ⟨gb507, 1, none⟩) (Kd.R_far (p := ⟨gb507, 0, none⟩) (Kd.R_types HO477.out BK507.out (by decide)) (fun _ hk => hk.2) (.int .i64 t505)) (fun _ hk => hk.2) (.int .i64 t506)) (fun _ h_ => h_.1))) hb); have n1_ := Aside0.mk (Kd.R_below (by (with_reducible repeat (first | apply Kd.R_alloc | apply Kd.R_drewN | apply Kd.R_drew)); exact (Kd.R_mono (Kd.R_far (p := ⟨gb507, 1, none⟩) (Kd.R_far (p := ⟨gb507, 0, none⟩) (Kd.R_mono HO481.out (fun k_ hk => (⟨hk, hk.2⟩ : _ ∧ k_ ≠ gb507))) (fun _ hk => hk.2) (.int .i64 t505)) (fun _ hk => hk.2) (.int .i64 t506)) (fun _ h_ => h_.1))) hb); have n2_ := Aside0.mk (Kd.R_below (by (with_reducible repeat (first | apply Kd.R_alloc | apply Kd.R_drewN | apply Kd.R_drew)); exact (Kd.R_mono (Kd.R_far (p := ⟨gb507, 1, none⟩) (Kd.R_far (p := ⟨gb507, 0, none⟩) (Kd.R_mono HO485.out (fun k_ hk => (⟨hk, hk.2⟩ : _ ∧ k_ ≠ gb507))) (fun _ hk => hk.2) (.int .i64 t505)) (fun _ hk => hk.2) (.int .i64 t506)) (fun _ h_ => h_.1))) hb); have n3_ := Aside0.mk (Kd.R_below (by (with_reducible repeat (first | apply Kd.R_alloc | apply Kd.R_drewN | apply Kd.R_drew)); exact (Kd.R_mono (Kd.R_far (p := ⟨gb507, 1, none⟩) (Kd.R_far (p := ⟨gb507, 0, none⟩) (Kd.R_mono HO489.out (fun k_ hk => (⟨hk, hk.2⟩ : _ ∧ k_ ≠ gb507))) (fun _ hk => hk.2) (.int .i64 t505)) (fun _ hk => hk.2) (.int .i64 t506)) (fun _ h_ => h_.1))) hb); have n4_ := Aside0.mk (Kd.R_below (by (with_reducible repeat (first | apply Kd.R_alloc | apply Kd.R_drewN | apply Kd.R_drew)); exact (Kd.R_mono (Kd.R_far (p := ⟨gb507, 1, none⟩) (Kd.R_far (p := ⟨gb507, 0, none⟩) (Kd.R_mono HO496.out (fun k_ hk => (⟨hk, hk.2⟩ : _ ∧ k_ ≠ gb507))) (fun _ hk => hk.2) (.int .i64 t505)) (fun _ hk => hk.2) (.int .i64 t506)) (fun _ h_ => h_.1))) hb); have n5_ := Aside0.mk (Kd.R_below (by (with_reducible repeat (first | apply Kd.R_alloc | apply Kd.R_drewN | apply Kd.R_drew)); exact (Kd.R_mono (Kd.R_far (p := ⟨gb507, 1, none⟩) (Kd.R_far (p := ⟨gb507, 0, none⟩) (Kd.R_mono HO500.out (fun k_ hk => (⟨hk, hk.2⟩ : _ ∧ k_ ≠ gb507))) (fun _ hk => hk.2) (.int .i64 t505)) (fun _ hk => hk.2) (.int .i64 t506)) (fun _ h_ => h_.1))) hb); have n6_ := Aside0.mk (Kd.R_below (by (with_reducible repeat (first | apply Kd.R_alloc | apply Kd.R_drewN | apply Kd.R_drew)); exact (Kd.R_mono (Kd.R_far (p := ⟨gb507, 1, none⟩) (Kd.R_far (p := ⟨gb507, 0, none⟩) (Kd.R_mono HO504.out (fun k_ hk => (⟨hk, hk.2⟩ : _ ∧ k_ ≠ gb507))) (fun _ hk => hk.2) (.int .i64 t505)) (fun _ hk => hk.2) (.int .i64 t506)) (fun _ h_ => h_.1))) hb); have n7_ := Aside0.mk (blk_below (g := gb478) (o := .cells #[.int .i64 t473, .int .i64 t474] 77 (0, 0)) (bx_ BK478.out) hb); have n8_ := Aside0.mk (blk_below (g := gb493) (o := .cells #[.int .i64 t490, .bool t491, .int .i64 t492] 85 (0, 0)) (bx_ BK493.out) hb); have n9_ := Aside0.mk (blk_below (g := gb507) (o := .cells #[.int .i64 t505, .int .i64 t506] 77 (0, 0)) (by (with_reducible repeat (first | refine blk_drewN ?_ _ | refine blk_drew ?_ | refine blk_alloc ?_ _)); refine blk_put (cs := #[.int .i64 t505, .int .i64 0]) ?_ 1 _ rfl; (with_reducible repeat (first | refine blk_drewN ?_ _ | refine blk_drew ?_ | refine blk_alloc ?_ _)); refine blk_put (cs := #[.int .i64 0, .int .i64 0]) ?_ 0 _ rfl; (with_reducible repeat (first | refine blk_drewN ?_ _ | refine blk_drew ?_ | refine blk_alloc ?_ _)); exact BK507.out) hb); have n10_ := Aside0.mk (below_step (hx_ HB.out) hb); clear HO477; clear HO481; clear HO485; clear HO489; clear HO496; clear HO500; clear HO504; clear BK478; clear BK493; clear BK507; clear HB; have HO477 := n0_; have HO481 := n1_; have HO485 := n2_; have HO489 := n3_; have HO496 := n4_; have HO500 := n5_; have HO504 := n6_; have BK478 := n7_; have BK493 := n8_; have BK507 := n9_; have HB := n10_; clear n0_ n1_ n2_ n3_ n4_ n5_ n6_ n7_ n8_ n9_ n10_; (try clear hb); (try clear hb2); (try clear hk); (try clear hi); have hcz38_0 : w37.cell? ⟨gb507, 0, none⟩ = some (.int .i64 t505) := (blk_cell BK507.out 0).trans rfl; have hcz38_1 : w37.cell? ⟨gb507, 1, none⟩ = some (.int .i64 t506) := (blk_cell BK507.out 1).trans rfl; have hfz38_0 := blk_frozen BK507.out 0; have hfz38_1 := blk_frozen BK507.out 1) | ((with_reducible refine gate_callee (f := 100) rfl ?_); refine goesL_ (some 81) rfl rfl Try.func100 (by kernel_rfl) rfl #[.slice Ao36 t502.length co36, .agg #[.int .i64 t505, .int .i64 t506]] rfl (by (try simp only [List.map_toArray, List.map_cons, List.map_nil]); first | done | rfl | (simp only [List.length_drop, List.length_take]; rfl)) ?_; (with_reducible refine (spec_CountPieces.calls k _ _ t502 t505 t506 t510 t511 _ ?side1 ?side2 A12.out).mono ?_); (case side1 => repeat (first | exact (Kd.R_reads' HO504.out).2.2 | (with_reducible refine Kd.C_alloc ?_ _) | (with_reducible refine Kd.C_drewN ?_ _) | (with_reducible refine Kd.C_drew ?_))); (case side2 => exact (Kd.R_reads' HO504.out).2.1); rintro e w39 ⟨rfl, hb⟩; refine ⟨_, rfl, ?_⟩; have n0_ := Aside0.mk (Kd.R_below (rx_ HO477.out) hb); have n1_ := Aside0.mk (Kd.R_below (rx_ HO481.out) hb); have n2_ := Aside0.mk (Kd.R_below (rx_ HO485.out) hb); have n3_ := Aside0.mk (Kd.R_below (rx_ HO489.out) hb); have n4_ := Aside0.mk (Kd.R_below (rx_ HO496.out) hb); have n5_ := Aside0.mk (Kd.R_below (rx_ HO500.out) hb); have n6_ := Aside0.mk (Kd.R_below (rx_ HO504.out) hb); have n7_ := Aside0.mk (blk_below (g := gb478) (o := .cells #[.int .i64 t473, .int .i64 t474] 77 (0, 0)) (bx_ BK478.out) hb); have n8_ := Aside0.mk (blk_below (g := gb493) (o := .cells #[.int .i64 t490, .bool t491, .int .i64 t492] 85 (0, 0)) (bx_ BK493.out) hb); have n9_ := Aside0.mk (blk_below (g := gb507) (o := .cells #[.int .i64 t505, .int .i64 t506] 77 (0, 0)) (bx_ BK507.out) hb); have n10_ := Aside0.mk (below_step (hx_ HB.out) hb); clear HO477; clear HO481; clear HO485; clear HO489; clear HO496; clear HO500; clear HO504; clear BK478; clear BK493; clear BK507; clear HB; have HO477 := n0_; have HO481 := n1_; have HO485 := n2_; have HO489 := n3_; have HO496 := n4_; have HO500 := n5_; have HO504 := n6_; have BK478 := n7_; have BK493 := n8_; have BK507 := n9_; have HB := n10_; clear n0_ n1_ n2_ n3_ n4_ n5_ n6_ n7_ n8_ n9_ n10_; (try clear hb); (try clear hb2); (try clear hk); (try clear hi)) | ((with_reducible refine gate_callee (f := 101) rfl ?_); refine goesL_ (some 86) rfl rfl Try.func101 (by kernel_rfl) rfl #[.slice Ao36 t502.length co36] rfl (by (try simp only [List.map_toArray, List.map_cons, List.map_nil]); first | done | rfl | (simp only [List.length_drop, List.length_take]; rfl)) ?_; (with_reducible refine (impl_AreaOf.calls k _ _ t502 t512 t513 _ ?side1 ?side2 A13.out).mono ?_); (case side1 => repeat (first | exact (Kd.R_reads' HO504.out).2.2 | (with_reducible refine Kd.C_alloc ?_ _) | (with_reducible refine Kd.C_drewN ?_ _) | (with_reducible refine Kd.C_drew ?_))); (case side2 => exact (Kd.R_reads' HO504.out).2.1); rintro e w40 ⟨rfl, hb⟩; refine ⟨_, rfl, ?_⟩; have n0_ := Aside0.mk (Kd.R_below (rx_ HO477.out) hb); have n1_ := Aside0.mk (Kd.R_below (rx_ HO481.out) hb); have n2_ := Aside0.mk (Kd.R_below (rx_ HO485.out) hb); have n3_ := Aside0.mk (Kd.R_below (rx_ HO489.out) hb); have n4_ := Aside0.mk (Kd.R_below (rx_ HO496.out) hb); have n5_ := Aside0.mk (Kd.R_below (rx_ HO500.out) hb); have n6_ := Aside0.mk (Kd.R_below (rx_ HO504.out) hb); have n7_ := Aside0.mk (blk_below (g := gb478) (o := .cells #[.int .i64 t473, .int .i64 t474] 77 (0, 0)) (bx_ BK478.out) hb); have n8_ := Aside0.mk (blk_below (g := gb493) (o := .cells #[.int .i64 t490, .bool t491, .int .i64 t492] 85 (0, 0)) (bx_ BK493.out) hb); have n9_ := Aside0.mk (blk_below (g := gb507) (o := .cells #[.int .i64 t505, .int .i64 t506] 77 (0, 0)) (bx_ BK507.out) hb); have n10_ := Aside0.mk (below_step (hx_ HB.out) hb); clear HO477; clear HO481; clear HO485; clear HO489; clear HO496; clear HO500; clear HO504; clear BK478; clear BK493; clear BK507; clear HB; have HO477 := n0_; have HO481 := n1_; have HO485 := n2_; have HO489 := n3_; have HO496 := n4_; have HO500 := n5_; have HO504 := n6_; have BK478 := n7_; have BK493 := n8_; have BK507 := n9_; have HB := n10_; clear n0_ n1_ n2_ n3_ n4_ n5_ n6_ n7_ n8_ n9_ n10_; (try clear hb); (try clear hb2); (try clear hk); (try clear hi)) | ((with_reducible refine gate_callee (f := 102) rfl ?_); refine goesL_ (some 91) rfl rfl Try.func102 (by kernel_rfl) rfl #[.slice Ao36 t502.length co36] rfl (by (try simp only [List.map_toArray, List.map_cons, List.map_nil]); first | done | rfl | (simp only [List.length_drop, List.length_take]; rfl)) ?_; (with_reducible refine (spec_AreaOf.calls k _ _ t502 t514 t515 _ ?side1 ?side2 A14.out).mono ?_); (case side1 => repeat (first | exact (Kd.R_reads' HO504.out).2.2 | (with_reducible refine Kd.C_alloc ?_ _) | (with_reducible refine Kd.C_drewN ?_ _) | (with_reducible refine Kd.C_drew ?_))); (case side2 => exact (Kd.R_reads' HO504.out).2.1); rintro e w41 ⟨rfl, hb⟩; refine ⟨_, rfl, ?_⟩; have n0_ := Aside0.mk (Kd.R_below (rx_ HO477.out) hb); have n1_ := Aside0.mk (Kd.R_below (rx_ HO481.out) hb); have n2_ := Aside0.mk (Kd.R_below (rx_ HO485.out) hb); have n3_ := Aside0.mk (Kd.R_below (rx_ HO489.out) hb); have n4_ := Aside0.mk (Kd.R_below (rx_ HO496.out) hb); have n5_ := Aside0.mk (Kd.R_below (rx_ HO500.out) hb); have n6_ := Aside0.mk (Kd.R_below (rx_ HO504.out) hb); have n7_ := Aside0.mk (blk_below (g := gb478) (o := .cells #[.int .i64 t473, .int .i64 t474] 77 (0, 0)) (bx_ BK478.out) hb); have n8_ := Aside0.mk (blk_below (g := gb493) (o := .cells #[.int .i64 t490, .bool t491, .int .i64 t492] 85 (0, 0)) (bx_ BK493.out) hb); have n9_ := Aside0.mk (blk_below (g := gb507) (o := .cells #[.int .i64 t505, .int .i64 t506] 77 (0, 0)) (bx_ BK507.out) hb); have n10_ := Aside0.mk (below_step (hx_ HB.out) hb); clear HO477; clear HO481; clear HO485; clear HO489; clear HO496; clear HO500; clear HO504; clear BK478; clear BK493; clear BK507; clear HB; have HO477 := n0_; have HO481 := n1_; have HO485 := n2_; have HO489 := n3_; have HO496 := n4_; have HO500 := n5_; have HO504 := n6_; have BK478 := n7_; have BK493 := n8_; have BK507 := n9_; have HB := n10_; clear n0_ n1_ n2_ n3_ n4_ n5_ n6_ n7_ n8_ n9_ n10_; (try clear hb); (try clear hb2); (try clear hk); (try clear hi)))
  (try simp only [Act.put, List.setIfInBounds_toArray, List.set_cons_zero, List.set_cons_succ])
  go_cut [148] (fun v148 wc => ∃ (kq : Nat) (x148_14 : Bool), v148 = .bool x148_14 ∧ Aside0 (laws_FnCuts.j0 kq t475 t479 t482 t487 t494 t497 x148_14 t473 t474 = some r) ∧ Aside0 (kq ≤ k) ∧ Aside0 (Kd.R k85 85 wc w.heap.size (fun k_ => k_ ≠ gb493) (.slice Ao19 t475.length co19) t475) ∧ Aside0 (Kd.R k77 77 wc w.heap.size (fun k_ => some k_ ≠ ((.slice Ao27 t487.length co27) : Value).ownBlock ∧ some k_ ≠ (v495 : Value).ownBlock ∧ k_ ≠ gb478 ∧ k_ ≠ gb507) v480 t479) ∧ Aside0 (Kd.R k77 77 wc w.heap.size (fun k_ => some k_ ≠ (v480 : Value).ownBlock ∧ some k_ ≠ (v495 : Value).ownBlock ∧ k_ ≠ gb478 ∧ k_ ≠ gb507) (.slice Ao27 t487.length co27) t487) ∧ Aside0 (Kd.R k77 77 wc w.heap.size (fun k_ => some k_ ≠ (v480 : Value).ownBlock ∧ some k_ ≠ ((.slice Ao27 t487.length co27) : Value).ownBlock ∧ k_ ≠ gb478 ∧ k_ ≠ gb507) v495 t494) ∧ Aside0 (wc.heap[gb478]? = some (.cells #[.int .i64 t473, .int .i64 t474] 77 (0, 0))) ∧ Aside0 (wc.heap[gb493]? = some (.cells #[.int .i64 t490, .bool t491, .int .i64 t492] 85 (0, 0))) ∧ Aside0 (wc.heap[gb507]? = some (.cells #[.int .i64 t505, .int .i64 t506] 77 (0, 0))) ∧ Aside0 (Below w.heap.size w wc))
  case first =>
   as_aux_lemma =>
    have H := HC15.out
    clear HC15
    by_cases c42 : t482 = t486
    ·rw [if_pos c42] at H
     have c42b0 : (t482 == t486) = true := beq_iff_eq.mpr c42
     have c42b1 : (t482 != t486) = false := bne_eq_false_iff_eq.mpr c42
     clear c42
     (first | rw [c42b0] | (simp only [i64_w, i32_w]; rw [c42b0]) | skip)
     replace H := Option.bind_eq_some_iff.mp H
     obtain ⟨t516, A430, H⟩ := H
     replace H : (if t516 = true then (if t497 = t501 then ((laws_likePieces9.f k t494 t498).bind fun t517 => (if t517 = true then (if t509 = t511 then (if t508 = t510 then (if t513 = t515 then (if t512 = t514 then ((impl_CanCut.f k t487 t490 t491 t492).bind fun t518 => (if (t518 != (t501 == 0)) = true then (none) else ((impl_IsPiece.f t473 t474).bind fun t519 => ((spec_IsPiece.f t473 t474).bind fun t520 => (laws_FnCuts.j0 k t475 t479 t482 t487 t494 t497 (t519 != t520) t473 t474))))) else (none)) else (none)) else (none)) else (none)) else (none))) else (none)) else (none)) = some r := H
     have A43 := Aside0.mk A430
     clear A430
     by_cases c44 : t516 = true
     ·subst c44
      have H1 : (if t497 = t501 then ((laws_likePieces9.f k t494 t498).bind fun t517 => (if t517 = true then (if t509 = t511 then (if t508 = t510 then (if t513 = t515 then (if t512 = t514 then ((impl_CanCut.f k t487 t490 t491 t492).bind fun t518 => (if (t518 != (t501 == 0)) = true then (none) else ((impl_IsPiece.f t473 t474).bind fun t519 => ((spec_IsPiece.f t473 t474).bind fun t520 => (laws_FnCuts.j0 k t475 t479 t482 t487 t494 t497 (t519 != t520) t473 t474))))) else (none)) else (none)) else (none)) else (none)) else (none))) else (none)) = some r := by rw [if_pos rfl] at H; exact H
      clear H
      have H := H1
      clear H1
      by_cases c45 : t497 = t501
      ·rw [if_pos c45] at H
       have c45b0 : (t497 == t501) = true := beq_iff_eq.mpr c45
       have c45b1 : (t497 != t501) = false := bne_eq_false_iff_eq.mpr c45
       clear c45
       replace H := Option.bind_eq_some_iff.mp H
       obtain ⟨t517, A460, H⟩ := H
       replace H : (if t517 = true then (if t509 = t511 then (if t508 = t510 then (if t513 = t515 then (if t512 = t514 then ((impl_CanCut.f k t487 t490 t491 t492).bind fun t518 => (if (t518 != (t501 == 0)) = true then (none) else ((impl_IsPiece.f t473 t474).bind fun t519 => ((spec_IsPiece.f t473 t474).bind fun t520 => (laws_FnCuts.j0 k t475 t479 t482 t487 t494 t497 (t519 != t520) t473 t474))))) else (none)) else (none)) else (none)) else (none)) else (none)) = some r := H
       have A46 := Aside0.mk A460
       clear A460
       by_cases c47 : t517 = true
       ·subst c47
        have H1 : (if t509 = t511 then (if t508 = t510 then (if t513 = t515 then (if t512 = t514 then ((impl_CanCut.f k t487 t490 t491 t492).bind fun t518 => (if (t518 != (t501 == 0)) = true then (none) else ((impl_IsPiece.f t473 t474).bind fun t519 => ((spec_IsPiece.f t473 t474).bind fun t520 => (laws_FnCuts.j0 k t475 t479 t482 t487 t494 t497 (t519 != t520) t473 t474))))) else (none)) else (none)) else (none)) else (none)) = some r := by rw [if_pos rfl] at H; exact H
        clear H
        have H := H1
        clear H1
        by_cases c48 : t509 = t511
        ·rw [if_pos c48] at H
         have c48b0 : (t509 == t511) = true := beq_iff_eq.mpr c48
         have c48b1 : (t509 != t511) = false := bne_eq_false_iff_eq.mpr c48
         clear c48
         by_cases c49 : t508 = t510
         ·rw [if_pos c49] at H
          have c49b0 : (t508 == t510) = true := beq_iff_eq.mpr c49
          have c49b1 : (t508 != t510) = false := bne_eq_false_iff_eq.mpr c49
          clear c49
          by_cases c50 : t513 = t515
          ·rw [if_pos c50] at H
           have c50b0 : (t513 == t515) = true := beq_iff_eq.mpr c50
           have c50b1 : (t513 != t515) = false := bne_eq_false_iff_eq.mpr c50
           clear c50
           by_cases c51 : t512 = t514
           ·rw [if_pos c51] at H
            have c51b0 : (t512 == t514) = true := beq_iff_eq.mpr c51
            have c51b1 : (t512 != t514) = false := bne_eq_false_iff_eq.mpr c51
            clear c51
            replace H := Option.bind_eq_some_iff.mp H
            obtain ⟨t518, A520, H⟩ := H
            replace H : (if (t518 != (t501 == 0)) = true then (none) else ((impl_IsPiece.f t473 t474).bind fun t519 => ((spec_IsPiece.f t473 t474).bind fun t520 => (laws_FnCuts.j0 k t475 t479 t482 t487 t494 t497 (t519 != t520) t473 t474)))) = some r := H
            have A52 := Aside0.mk A520
            clear A520
            by_cases c53 : (t518 != (t501 == 0)) = true
            ·rw [if_pos c53] at H
             exact absurd H (by simp)
            ·rw [if_neg c53] at H
             have c53b0 : (t518 != (t501 == 0)) = false := by simpa using c53
             (try (have c53b1 : decide (t518 = (t501 == 0)) = true := by simpa using c53))
             (try (have c53b2 : (t518 == (t501 == 0)) = true := by simpa using c53))
             clear c53
             replace H := Option.bind_eq_some_iff.mp H
             obtain ⟨t519, A600, H⟩ := H
             replace H : ((spec_IsPiece.f t473 t474).bind fun t520 => (laws_FnCuts.j0 k t475 t479 t482 t487 t494 t497 (t519 != t520) t473 t474)) = some r := H
             have A60 := Aside0.mk A600
             clear A600
             replace H := Option.bind_eq_some_iff.mp H
             obtain ⟨t520, A610, H⟩ := H
             replace H : (laws_FnCuts.j0 k t475 t479 t482 t487 t494 t497 (t519 != t520) t473 t474) = some r := H
             have A61 := Aside0.mk A610
             clear A610
             have H' := Aside0.mk H
             clear H
             try go_wp2
             have n0_ := Aside0.mk (Kd.R_drew HO477.out)
             have n1_ := Aside0.mk (Kd.R_drew HO481.out)
             have n2_ := Aside0.mk (Kd.R_drew HO485.out)
             have n3_ := Aside0.mk (Kd.R_drew HO489.out)
             have n4_ := Aside0.mk (Kd.R_drew HO496.out)
             have n5_ := Aside0.mk (Kd.R_drew HO500.out)
             have n6_ := Aside0.mk (Kd.R_drew HO504.out)
             have n7_ := Aside0.mk (blk_drew BK478.out)
             have n8_ := Aside0.mk (blk_drew BK493.out)
             have n9_ := Aside0.mk (blk_drew BK507.out)
             have n10_ := Aside0.mk (below_drew1 HB.out)
             clear HO477
             clear HO481
             clear HO485
             clear HO489
             clear HO496
             clear HO500
             clear HO504
             clear BK478
             clear BK493
             clear BK507
             clear HB
             have HO477 := n0_
             have HO481 := n1_
             have HO485 := n2_
             have HO489 := n3_
             have HO496 := n4_
             have HO500 := n5_
             have HO504 := n6_
             have BK478 := n7_
             have BK493 := n8_
             have BK507 := n9_
             have HB := n10_
             clear n0_ n1_ n2_ n3_ n4_ n5_ n6_ n7_ n8_ n9_ n10_
             obtain ⟨Ao63, co63, eo63⟩ := Kd.R_slice HO481.out
             (first | subst eo63 | (injection eo63 with f1_ f2_ f3_; have f4_ := f1_.symm; have f5_ := f3_.symm; clear f1_ f2_ f3_; subst f4_; subst f5_))
             obtain ⟨Ao64, co64, eo64⟩ := Kd.R_slice HO485.out
             (first | subst eo64 | (injection eo64 with f1_ f2_ f3_; have f4_ := f1_.symm; have f5_ := f3_.symm; clear f1_ f2_ f3_; subst f4_; subst f5_))
             refine start_ (n := 55) (S := fun w' => w'.cell? ⟨gb493, 0, none⟩ = some (.int .i64 t490) ∧ w'.cell? ⟨gb493, 1, none⟩ = some (.bool t491) ∧ w'.cell? ⟨gb493, 2, none⟩ = some (.int .i64 t492) ∧ w'.cell? ⟨gb478, 0, none⟩ = some (.int .i64 t473) ∧ w'.cell? ⟨gb478, 1, none⟩ = some (.int .i64 t474)) (ds := []) #[false, false, false, false, false, false, false, false, false, false, false, false, false, false, false, false, false, false, false, false, false, false, false, false, false, false, false, false, false, false, false, false, false, false, false, false, false, false, false, false, false, false, false, false, false, false, false, false, false, false, false, false, false, false, false] (by kernel_rfl) rfl rfl ⟨(blk_cell BK493.out 0).trans rfl, (blk_cell BK493.out 1).trans rfl, (blk_cell BK493.out 2).trans rfl, (blk_cell BK478.out 0).trans rfl, (blk_cell BK478.out 1).trans rfl⟩ (fun hHeld => ?_); refine with_tabW laws_FnCuts.tab14 laws_FnCuts.bits14 (fun HT_ HW_ => ?_)
             generalize w41.drew = w62 at HO477 HO481 HO485 HO489 HO496 HO500 HO504 BK478 BK493 BK507 HB hHeld ⊢
             refine pure_ (i := 0) (N := some 94) (v := ?_) (a' := ?_) #[true, false, false, false, false, false, false, false, false, false, false, false, false, false, false, false, false, false, false, false, false, false, false, false, false, false, false, false, false, false, false, false, false, false, false, false, false, false, false, false, false, false, false, false, false, false, false, false, false, false, false, false, false, false, false] rfl rfl (any_of HT_.out (by kernel_rfl)) (fun _ _ _ h => h) (Or.inl ⟨by rfl, ?_⟩) ?_ ?_
             rotate_left
             ·intro w'
              go_simp
              with_reducible rfl
             rotate_left
             ·simp only [Act.put, List.setIfInBounds_toArray, List.set_cons_zero, List.set_cons_succ, i64_w, i32_w]
              rfl
             refine pure_ (i := 1) (N := some 95) (v := ?_) (a' := ?_) #[true, true, false, false, false, false, false, false, false, false, false, false, false, false, false, false, false, false, false, false, false, false, false, false, false, false, false, false, false, false, false, false, false, false, false, false, false, false, false, false, false, false, false, false, false, false, false, false, false, false, false, false, false, false, false] rfl rfl (any_of HT_.out (by kernel_rfl)) (fun _ _ _ h => h) (Or.inl ⟨by rfl, ?_⟩) ?_ ?_
             rotate_left
             ·intro w'
              go_simp
              with_reducible rfl
             rotate_left
             ·simp only [Act.put, List.setIfInBounds_toArray, List.set_cons_zero, List.set_cons_succ, i64_w, i32_w]
              rfl
             refine pure_ (i := 2) (N := some 96) (v := ?_) (a' := ?_) #[true, true, true, false, false, false, false, false, false, false, false, false, false, false, false, false, false, false, false, false, false, false, false, false, false, false, false, false, false, false, false, false, false, false, false, false, false, false, false, false, false, false, false, false, false, false, false, false, false, false, false, false, false, false, false] rfl rfl (any_of HT_.out (by kernel_rfl)) (fun _ _ _ h => h) (Or.inl ⟨by rfl, ?_⟩) ?_ ?_
             rotate_left
             ·intro w'
              go_simp
              with_reducible rfl
             rotate_left
             ·simp only [Act.put, List.setIfInBounds_toArray, List.set_cons_zero, List.set_cons_succ, i64_w, i32_w]
              rfl
             refine pure_ (i := 3) (N := some 97) (v := ?_) (a' := ?_) #[true, true, true, true, false, false, false, false, false, false, false, false, false, false, false, false, false, false, false, false, false, false, false, false, false, false, false, false, false, false, false, false, false, false, false, false, false, false, false, false, false, false, false, false, false, false, false, false, false, false, false, false, false, false, false] rfl rfl (any_of HT_.out (by kernel_rfl)) (fun _ _ _ h => h) (Or.inl ⟨by rfl, ?_⟩) ?_ ?_
             rotate_left
             ·intro w'
              go_simp
              with_reducible rfl
             rotate_left
             ·simp only [Act.put, List.setIfInBounds_toArray, List.set_cons_zero, List.set_cons_succ, i64_w, i32_w]
              rfl
             refine pure_ (i := 4) (N := some 98) (v := ?_) (a' := ?_) #[true, true, true, true, true, false, false, false, false, false, false, false, false, false, false, false, false, false, false, false, false, false, false, false, false, false, false, false, false, false, false, false, false, false, false, false, false, false, false, false, false, false, false, false, false, false, false, false, false, false, false, false, false, false, false] rfl rfl (any_of HT_.out (by kernel_rfl)) (fun _ _ _ h => h) (Or.inl ⟨by rfl, ?_⟩) ?_ ?_
             rotate_left
             ·intro w'
              go_simp
              with_reducible rfl
             rotate_left
             ·simp only [Act.put, List.setIfInBounds_toArray, List.set_cons_zero, List.set_cons_succ, i64_w, i32_w]
              rfl
             refine pure_ (i := 5) (N := some 99) (v := ?_) (a' := ?_) #[true, true, true, true, true, true, false, false, false, false, false, false, false, false, false, false, false, false, false, false, false, false, false, false, false, false, false, false, false, false, false, false, false, false, false, false, false, false, false, false, false, false, false, false, false, false, false, false, false, false, false, false, false, false, false] rfl rfl (any_of HT_.out (by kernel_rfl)) (fun _ _ _ h => h) (Or.inl ⟨by rfl, ?_⟩) ?_ ?_
             rotate_left
             ·intro w'
              go_simp
              with_reducible rfl
             rotate_left
             ·simp only [Act.put, List.setIfInBounds_toArray, List.set_cons_zero, List.set_cons_succ, i64_w, i32_w]
              rfl
             refine one_ (i := 6) (N := some 100) #[true, true, true, true, true, true, true, false, false, false, false, false, false, false, false, false, false, false, false, false, false, false, false, false, false, false, false, false, false, false, false, false, false, false, false, false, false, false, false, false, false, false, false, false, false, false, false, false, false, false, false, false, false, false, false] rfl rfl (one_of HT_.out (by kernel_rfl)) (by decide) (fun K hK => ?_)
             refine goes_ Try.func103 (by kernel_rfl) rfl #[.slice Ao63 t479.length co63, .slice Ao64 t483.length co64] (by rfl) rfl rfl (by (try simp only [List.map_toArray, List.map_cons, List.map_nil]); first | done | rfl | (simp only [List.length_drop, List.length_take]; rfl)) ?_
             with_reducible refine (laws_likePieces9.calls k _ _ t479 _ _ t483 true _ ?side1 ?side2 ?side3 ?side4 A43.out).mono ?_
             (case side1 => repeat (first | exact (Kd.R_reads' HO481.out).2.2 | (with_reducible refine Kd.C_alloc ?_ _) | (with_reducible refine Kd.C_drewN ?_ _) | (with_reducible refine Kd.C_drew ?_)))
             (case side2 => exact (Kd.R_reads' HO481.out).2.1)
             (case side3 => repeat (first | exact (Kd.R_reads' HO485.out).2.2 | (with_reducible refine Kd.C_alloc ?_ _) | (with_reducible refine Kd.C_drewN ?_ _) | (with_reducible refine Kd.C_drew ?_)))
             (case side4 => exact (Kd.R_reads' HO485.out).2.1)
             rintro e w' ⟨rfl, ⟨nd, rfl⟩⟩
             refine ⟨_, rfl, ?_⟩
             obtain ⟨Ao65, co65, eo65⟩ := Kd.R_slice HO496.out
             (first | subst eo65 | (injection eo65 with f1_ f2_ f3_; have f4_ := f1_.symm; have f5_ := f3_.symm; clear f1_ f2_ f3_; subst f4_; subst f5_))
             obtain ⟨Ao66, co66, eo66⟩ := Kd.R_slice HO500.out
             (first | subst eo66 | (injection eo66 with f1_ f2_ f3_; have f4_ := f1_.symm; have f5_ := f3_.symm; clear f1_ f2_ f3_; subst f4_; subst f5_))
             refine hK.out _ _ ⟨(blk_cell BK493.out 0).trans rfl, (blk_cell BK493.out 1).trans rfl, (blk_cell BK493.out 2).trans rfl, (blk_cell BK478.out 0).trans rfl, (blk_cell BK478.out 1).trans rfl⟩ (fun hHeld => ?_)
             clear hK K
             refine norm_ (a' := ?_) ?_ ?_
             rotate_left
             ·show Act.put _ (some 100) _ = _
              simp only [Act.put, List.setIfInBounds_toArray, List.set_cons_zero, List.set_cons_succ, i64_w, i32_w]
              rfl
             refine pure_ (i := 7) (N := some 101) (v := ?_) (a' := ?_) #[true, true, true, true, true, true, true, true, false, false, false, false, false, false, false, false, false, false, false, false, false, false, false, false, false, false, false, false, false, false, false, false, false, false, false, false, false, false, false, false, false, false, false, false, false, false, false, false, false, false, false, false, false, false, false] rfl rfl (any_of HT_.out (by kernel_rfl)) (fun _ _ _ h => h) (Or.inl ⟨by rfl, ?_⟩) ?_ ?_
             rotate_left
             ·intro w'
              go_simp
              with_reducible rfl
             rotate_left
             ·simp only [Act.put, List.setIfInBounds_toArray, List.set_cons_zero, List.set_cons_succ, i64_w, i32_w]
              rfl
             refine pure_ (i := 8) (N := some 102) (v := ?_) (a' := ?_) #[true, true, true, true, true, true, true, true, true, false, false, false, false, false, false, false, false, false, false, false, false, false, false, false, false, false, false, false, false, false, false, false, false, false, false, false, false, false, false, false, false, false, false, false, false, false, false, false, false, false, false, false, false, false, false] rfl rfl (any_of HT_.out (by kernel_rfl)) (fun _ _ _ h => h) (Or.inl ⟨by rfl, ?_⟩) ?_ ?_
             rotate_left
             ·intro w'
              go_simp
              with_reducible rfl
             rotate_left
             ·simp only [Act.put, List.setIfInBounds_toArray, List.set_cons_zero, List.set_cons_succ, i64_w, i32_w]
              rfl
             refine pure_ (i := 9) (N := some 103) (v := ?_) (a' := ?_) #[true, true, true, true, true, true, true, true, true, true, false, false, false, false, false, false, false, false, false, false, false, false, false, false, false, false, false, false, false, false, false, false, false, false, false, false, false, false, false, false, false, false, false, false, false, false, false, false, false, false, false, false, false, false, false] rfl rfl (any_of HT_.out (by kernel_rfl)) (fun _ _ _ h => h) (Or.inl ⟨by rfl, ?_⟩) ?_ ?_
             rotate_left
             ·intro w'
              go_simp
              with_reducible rfl
             rotate_left
             ·simp only [Act.put, List.setIfInBounds_toArray, List.set_cons_zero, List.set_cons_succ, i64_w, i32_w]
              rfl
             refine pure_ (i := 10) (N := some 104) (v := ?_) (a' := ?_) #[true, true, true, true, true, true, true, true, true, true, true, false, false, false, false, false, false, false, false, false, false, false, false, false, false, false, false, false, false, false, false, false, false, false, false, false, false, false, false, false, false, false, false, false, false, false, false, false, false, false, false, false, false, false, false] rfl rfl (any_of HT_.out (by kernel_rfl)) (fun _ _ _ h => h) (Or.inl ⟨by rfl, ?_⟩) ?_ ?_
             rotate_left
             ·intro w'
              go_simp
              with_reducible rfl
             rotate_left
             ·simp only [Act.put, List.setIfInBounds_toArray, List.set_cons_zero, List.set_cons_succ, i64_w, i32_w]
              rfl
             refine pure_ (i := 11) (N := some 105) (v := ?_) (a' := ?_) #[true, true, true, true, true, true, true, true, true, true, true, true, false, false, false, false, false, false, false, false, false, false, false, false, false, false, false, false, false, false, false, false, false, false, false, false, false, false, false, false, false, false, false, false, false, false, false, false, false, false, false, false, false, false, false] rfl rfl (any_of HT_.out (by kernel_rfl)) (fun _ _ _ h => h) (Or.inl ⟨by rfl, ?_⟩) ?_ ?_
             rotate_left
             ·intro w'
              go_simp
              with_reducible rfl
             rotate_left
             ·simp only [Act.put, List.setIfInBounds_toArray, List.set_cons_zero, List.set_cons_succ, i64_w, i32_w]
              rfl
             refine pure_ (i := 12) (N := some 106) (v := ?_) (a' := ?_) #[true, true, true, true, true, true, true, true, true, true, true, true, true, false, false, false, false, false, false, false, false, false, false, false, false, false, false, false, false, false, false, false, false, false, false, false, false, false, false, false, false, false, false, false, false, false, false, false, false, false, false, false, false, false, false] rfl rfl (any_of HT_.out (by kernel_rfl)) (fun _ _ _ h => h) (Or.inl ⟨by rfl, ?_⟩) ?_ ?_
             rotate_left
             ·intro w'
              go_simp
              with_reducible rfl
             rotate_left
             ·simp only [Act.put, List.setIfInBounds_toArray, List.set_cons_zero, List.set_cons_succ, i64_w, i32_w]
              rfl
             refine pure_ (i := 13) (N := some 107) (v := ?_) (a' := ?_) #[true, true, true, true, true, true, true, true, true, true, true, true, true, true, false, false, false, false, false, false, false, false, false, false, false, false, false, false, false, false, false, false, false, false, false, false, false, false, false, false, false, false, false, false, false, false, false, false, false, false, false, false, false, false, false] rfl rfl (any_of HT_.out (by kernel_rfl)) (fun _ _ _ h => h) (Or.inl ⟨by rfl, ?_⟩) ?_ ?_
             rotate_left
             ·intro w'
              go_simp
              with_reducible rfl
             rotate_left
             ·simp only [Act.put, List.setIfInBounds_toArray, List.set_cons_zero, List.set_cons_succ, i64_w, i32_w]
              rfl
             refine pure_ (i := 14) (N := some 108) (v := ?_) (a' := ?_) #[true, true, true, true, true, true, true, true, true, true, true, true, true, true, true, false, false, false, false, false, false, false, false, false, false, false, false, false, false, false, false, false, false, false, false, false, false, false, false, false, false, false, false, false, false, false, false, false, false, false, false, false, false, false, false] rfl rfl (any_of HT_.out (by kernel_rfl)) (fun _ _ _ h => h) (Or.inl ⟨by rfl, ?_⟩) ?_ ?_
             rotate_left
             ·intro w'
              go_simp
              with_reducible rfl
             rotate_left
             ·simp only [Act.put, List.setIfInBounds_toArray, List.set_cons_zero, List.set_cons_succ, i64_w, i32_w]
              rfl
             refine pure_ (i := 15) (N := some 109) (v := ?_) (a' := ?_) #[true, true, true, true, true, true, true, true, true, true, true, true, true, true, true, true, false, false, false, false, false, false, false, false, false, false, false, false, false, false, false, false, false, false, false, false, false, false, false, false, false, false, false, false, false, false, false, false, false, false, false, false, false, false, false] rfl rfl (any_of HT_.out (by kernel_rfl)) (fun _ _ _ h => h) (Or.inl ⟨by rfl, ?_⟩) ?_ ?_
             rotate_left
             ·intro w'
              go_simp
              with_reducible rfl
             rotate_left
             ·simp only [Act.put, List.setIfInBounds_toArray, List.set_cons_zero, List.set_cons_succ, i64_w, i32_w]
              rfl
             refine pure_ (i := 16) (N := some 110) (v := ?_) (a' := ?_) #[true, true, true, true, true, true, true, true, true, true, true, true, true, true, true, true, true, false, false, false, false, false, false, false, false, false, false, false, false, false, false, false, false, false, false, false, false, false, false, false, false, false, false, false, false, false, false, false, false, false, false, false, false, false, false] rfl rfl (any_of HT_.out (by kernel_rfl)) (fun _ _ _ h => h) (Or.inl ⟨by rfl, ?_⟩) ?_ ?_
             rotate_left
             ·intro w'
              go_simp
              with_reducible rfl
             rotate_left
             ·simp only [Act.put, List.setIfInBounds_toArray, List.set_cons_zero, List.set_cons_succ, i64_w, i32_w]
              rfl
             refine one_ (i := 17) (N := some 111) #[true, true, true, true, true, true, true, true, true, true, true, true, true, true, true, true, true, true, false, false, false, false, false, false, false, false, false, false, false, false, false, false, false, false, false, false, false, false, false, false, false, false, false, false, false, false, false, false, false, false, false, false, false, false, false] rfl rfl (one_of HT_.out (by kernel_rfl)) (by decide) (fun K hK => ?_)
             refine goes_ Try.func103 (by kernel_rfl) rfl #[.slice Ao65 t494.length co65, .slice Ao66 t498.length co66] (by rfl) rfl rfl (by (try simp only [List.map_toArray, List.map_cons, List.map_nil]); first | done | rfl | (simp only [List.length_drop, List.length_take]; rfl)) ?_
             with_reducible refine (laws_likePieces9.calls k _ _ t494 _ _ t498 true _ ?side1 ?side2 ?side3 ?side4 A46.out).mono ?_
             (case side1 => repeat (first | exact (Kd.R_reads' HO496.out).2.2 | (with_reducible refine Kd.C_alloc ?_ _) | (with_reducible refine Kd.C_drewN ?_ _) | (with_reducible refine Kd.C_drew ?_)))
             (case side2 => exact (Kd.R_reads' HO496.out).2.1)
             (case side3 => repeat (first | exact (Kd.R_reads' HO500.out).2.2 | (with_reducible refine Kd.C_alloc ?_ _) | (with_reducible refine Kd.C_drewN ?_ _) | (with_reducible refine Kd.C_drew ?_)))
             (case side4 => exact (Kd.R_reads' HO500.out).2.1)
             rintro e w' ⟨rfl, ⟨nd, rfl⟩⟩
             refine ⟨_, rfl, ?_⟩
             refine hK.out _ _ ⟨(blk_cell BK493.out 0).trans rfl, (blk_cell BK493.out 1).trans rfl, (blk_cell BK493.out 2).trans rfl, (blk_cell BK478.out 0).trans rfl, (blk_cell BK478.out 1).trans rfl⟩ (fun hHeld => ?_)
             clear hK K
             refine norm_ (a' := ?_) ?_ ?_
             rotate_left
             ·show Act.put _ (some 111) _ = _
              simp only [Act.put, List.setIfInBounds_toArray, List.set_cons_zero, List.set_cons_succ, i64_w, i32_w]
              rfl
             refine pure_ (i := 18) (N := some 112) (v := ?_) (a' := ?_) #[true, true, true, true, true, true, true, true, true, true, true, true, true, true, true, true, true, true, true, false, false, false, false, false, false, false, false, false, false, false, false, false, false, false, false, false, false, false, false, false, false, false, false, false, false, false, false, false, false, false, false, false, false, false, false] rfl rfl (any_of HT_.out (by kernel_rfl)) (fun _ _ _ h => h) (Or.inl ⟨by rfl, ?_⟩) ?_ ?_
             rotate_left
             ·intro w'
              go_simp
              with_reducible rfl
             rotate_left
             ·simp only [Act.put, List.setIfInBounds_toArray, List.set_cons_zero, List.set_cons_succ, i64_w, i32_w]
              rfl
             refine pure_ (i := 19) (N := some 113) (v := ?_) (a' := ?_) #[true, true, true, true, true, true, true, true, true, true, true, true, true, true, true, true, true, true, true, true, false, false, false, false, false, false, false, false, false, false, false, false, false, false, false, false, false, false, false, false, false, false, false, false, false, false, false, false, false, false, false, false, false, false, false] rfl rfl (any_of HT_.out (by kernel_rfl)) (fun _ _ _ h => h) (Or.inl ⟨by rfl, ?_⟩) ?_ ?_
             rotate_left
             ·intro w'
              go_simp
              with_reducible rfl
             rotate_left
             ·simp only [Act.put, List.setIfInBounds_toArray, List.set_cons_zero, List.set_cons_succ, i64_w, i32_w]
              rfl
             refine pure_ (i := 20) (N := some 114) (v := ?_) (a' := ?_) #[true, true, true, true, true, true, true, true, true, true, true, true, true, true, true, true, true, true, true, true, true, false, false, false, false, false, false, false, false, false, false, false, false, false, false, false, false, false, false, false, false, false, false, false, false, false, false, false, false, false, false, false, false, false, false] rfl rfl (any_of HT_.out (by kernel_rfl)) (fun _ _ _ h => h) (Or.inl ⟨by rfl, ?_⟩) ?_ ?_
             rotate_left
             ·intro w'
              go_simp
              with_reducible rfl
             rotate_left
             ·simp only [Act.put, List.setIfInBounds_toArray, List.set_cons_zero, List.set_cons_succ, i64_w, i32_w]
              rfl
             refine pure_ (i := 21) (N := some 115) (v := ?_) (a' := ?_) #[true, true, true, true, true, true, true, true, true, true, true, true, true, true, true, true, true, true, true, true, true, true, false, false, false, false, false, false, false, false, false, false, false, false, false, false, false, false, false, false, false, false, false, false, false, false, false, false, false, false, false, false, false, false, false] rfl rfl (any_of HT_.out (by kernel_rfl)) (fun _ _ _ h => h) (Or.inl ⟨by rfl, ?_⟩) ?_ ?_
             rotate_left
             ·intro w'
              go_simp
              with_reducible rfl
             rotate_left
             ·simp only [Act.put, List.setIfInBounds_toArray, List.set_cons_zero, List.set_cons_succ, i64_w, i32_w]
              rfl
             refine pure_ (i := 22) (N := some 116) (v := ?_) (a' := ?_) #[true, true, true, true, true, true, true, true, true, true, true, true, true, true, true, true, true, true, true, true, true, true, true, false, false, false, false, false, false, false, false, false, false, false, false, false, false, false, false, false, false, false, false, false, false, false, false, false, false, false, false, false, false, false, false] rfl rfl (any_of HT_.out (by kernel_rfl)) (fun _ _ _ h => h) (Or.inl ⟨by rfl, ?_⟩) ?_ ?_
             rotate_left
             ·intro w'
              go_simp
              with_reducible rfl
             rotate_left
             ·simp only [Act.put, List.setIfInBounds_toArray, List.set_cons_zero, List.set_cons_succ, i64_w, i32_w]
              rfl
             refine pure_ (i := 23) (N := some 117) (v := ?_) (a' := ?_) #[true, true, true, true, true, true, true, true, true, true, true, true, true, true, true, true, true, true, true, true, true, true, true, true, false, false, false, false, false, false, false, false, false, false, false, false, false, false, false, false, false, false, false, false, false, false, false, false, false, false, false, false, false, false, false] rfl rfl (any_of HT_.out (by kernel_rfl)) (fun _ _ _ h => h) (Or.inl ⟨by rfl, ?_⟩) ?_ ?_
             rotate_left
             ·intro w'
              go_simp
              with_reducible rfl
             rotate_left
             ·simp only [Act.put, List.setIfInBounds_toArray, List.set_cons_zero, List.set_cons_succ, i64_w, i32_w]
              rfl
             refine pure_ (i := 24) (N := some 118) (v := ?_) (a' := ?_) #[true, true, true, true, true, true, true, true, true, true, true, true, true, true, true, true, true, true, true, true, true, true, true, true, true, false, false, false, false, false, false, false, false, false, false, false, false, false, false, false, false, false, false, false, false, false, false, false, false, false, false, false, false, false, false] rfl rfl (any_of HT_.out (by kernel_rfl)) (fun _ _ _ h => h) (Or.inl ⟨by rfl, ?_⟩) ?_ ?_
             rotate_left
             ·intro w'
              go_simp
              with_reducible rfl
             rotate_left
             ·simp only [Act.put, List.setIfInBounds_toArray, List.set_cons_zero, List.set_cons_succ, i64_w, i32_w]
              rfl
             refine pure_ (i := 25) (N := some 119) (v := ?_) (a' := ?_) #[true, true, true, true, true, true, true, true, true, true, true, true, true, true, true, true, true, true, true, true, true, true, true, true, true, true, false, false, false, false, false, false, false, false, false, false, false, false, false, false, false, false, false, false, false, false, false, false, false, false, false, false, false, false, false] rfl rfl (any_of HT_.out (by kernel_rfl)) (fun _ _ _ h => h) (Or.inl ⟨by rfl, ?_⟩) ?_ ?_
             rotate_left
             ·intro w'
              go_simp
              with_reducible rfl
             rotate_left
             ·simp only [Act.put, List.setIfInBounds_toArray, List.set_cons_zero, List.set_cons_succ, i64_w, i32_w]
              rfl
             refine pure_ (i := 26) (N := some 120) (v := ?_) (a' := ?_) #[true, true, true, true, true, true, true, true, true, true, true, true, true, true, true, true, true, true, true, true, true, true, true, true, true, true, true, false, false, false, false, false, false, false, false, false, false, false, false, false, false, false, false, false, false, false, false, false, false, false, false, false, false, false, false] rfl rfl (any_of HT_.out (by kernel_rfl)) (fun _ _ _ h => h) (Or.inl ⟨by rfl, ?_⟩) ?_ ?_
             rotate_left
             ·intro w'
              go_simp
              with_reducible rfl
             rotate_left
             ·simp only [Act.put, List.setIfInBounds_toArray, List.set_cons_zero, List.set_cons_succ, i64_w, i32_w]
              rfl
             refine pure_ (i := 27) (N := some 121) (v := ?_) (a' := ?_) #[true, true, true, true, true, true, true, true, true, true, true, true, true, true, true, true, true, true, true, true, true, true, true, true, true, true, true, true, false, false, false, false, false, false, false, false, false, false, false, false, false, false, false, false, false, false, false, false, false, false, false, false, false, false, false] rfl rfl (any_of HT_.out (by kernel_rfl)) (fun _ _ _ h => h) (Or.inl ⟨by rfl, ?_⟩) ?_ ?_
             rotate_left
             ·intro w'
              go_simp
              with_reducible rfl
             rotate_left
             ·simp only [Act.put, List.setIfInBounds_toArray, List.set_cons_zero, List.set_cons_succ, i64_w, i32_w]
              rfl
             refine pure_ (i := 28) (N := some 122) (v := ?_) (a' := ?_) #[true, true, true, true, true, true, true, true, true, true, true, true, true, true, true, true, true, true, true, true, true, true, true, true, true, true, true, true, true, false, false, false, false, false, false, false, false, false, false, false, false, false, false, false, false, false, false, false, false, false, false, false, false, false, false] rfl rfl (any_of HT_.out (by kernel_rfl)) (fun _ _ _ h => h) (Or.inl ⟨by rfl, ?_⟩) ?_ ?_
             rotate_left
             ·intro w'
              go_simp
              with_reducible rfl
             rotate_left
             ·simp only [Act.put, List.setIfInBounds_toArray, List.set_cons_zero, List.set_cons_succ, i64_w, i32_w]
              rfl
             refine pure_ (i := 29) (N := some 123) (v := ?_) (a' := ?_) #[true, true, true, true, true, true, true, true, true, true, true, true, true, true, true, true, true, true, true, true, true, true, true, true, true, true, true, true, true, true, false, false, false, false, false, false, false, false, false, false, false, false, false, false, false, false, false, false, false, false, false, false, false, false, false] rfl rfl (any_of HT_.out (by kernel_rfl)) (fun _ _ _ h => h) (Or.inl ⟨by rfl, ?_⟩) ?_ ?_
             rotate_left
             ·intro w'
              go_simp
              with_reducible rfl
             rotate_left
             ·simp only [Act.put, List.setIfInBounds_toArray, List.set_cons_zero, List.set_cons_succ, i64_w, i32_w]
              rfl
             refine pure_ (i := 30) (N := some 124) (v := ?_) (a' := ?_) #[true, true, true, true, true, true, true, true, true, true, true, true, true, true, true, true, true, true, true, true, true, true, true, true, true, true, true, true, true, true, true, false, false, false, false, false, false, false, false, false, false, false, false, false, false, false, false, false, false, false, false, false, false, false, false] rfl rfl (any_of HT_.out (by kernel_rfl)) (fun _ _ _ h => h) (Or.inl ⟨by rfl, ?_⟩) ?_ ?_
             rotate_left
             ·intro w'
              go_simp
              with_reducible rfl
             rotate_left
             ·simp only [Act.put, List.setIfInBounds_toArray, List.set_cons_zero, List.set_cons_succ, i64_w, i32_w]
              rfl
             refine pure_ (i := 31) (N := some 125) (v := ?_) (a' := ?_) #[true, true, true, true, true, true, true, true, true, true, true, true, true, true, true, true, true, true, true, true, true, true, true, true, true, true, true, true, true, true, true, true, false, false, false, false, false, false, false, false, false, false, false, false, false, false, false, false, false, false, false, false, false, false, false] rfl rfl (any_of HT_.out (by kernel_rfl)) (fun _ _ _ h => h) (Or.inl ⟨by rfl, ?_⟩) ?_ ?_
             rotate_left
             ·intro w'
              go_simp
              with_reducible rfl
             rotate_left
             ·simp only [Act.put, List.setIfInBounds_toArray, List.set_cons_zero, List.set_cons_succ, i64_w, i32_w]
              rfl
             refine pure_ (i := 32) (N := some 126) (v := ?_) (a' := ?_) #[true, true, true, true, true, true, true, true, true, true, true, true, true, true, true, true, true, true, true, true, true, true, true, true, true, true, true, true, true, true, true, true, true, false, false, false, false, false, false, false, false, false, false, false, false, false, false, false, false, false, false, false, false, false, false] rfl rfl (any_of HT_.out (by kernel_rfl)) (fun _ _ _ h => h) (Or.inl ⟨by rfl, ?_⟩) ?_ ?_
             rotate_left
             ·intro w'
              go_simp
              with_reducible rfl
             rotate_left
             ·simp only [Act.put, List.setIfInBounds_toArray, List.set_cons_zero, List.set_cons_succ, i64_w, i32_w]
              rfl
             refine pure_ (i := 33) (N := some 127) (v := ?_) (a' := ?_) #[true, true, true, true, true, true, true, true, true, true, true, true, true, true, true, true, true, true, true, true, true, true, true, true, true, true, true, true, true, true, true, true, true, true, false, false, false, false, false, false, false, false, false, false, false, false, false, false, false, false, false, false, false, false, false] rfl rfl (any_of HT_.out (by kernel_rfl)) (fun _ _ _ h => h) (Or.inl ⟨by rfl, ?_⟩) ?_ ?_
             rotate_left
             ·intro w'
              go_simp
              with_reducible rfl
             rotate_left
             ·simp only [Act.put, List.setIfInBounds_toArray, List.set_cons_zero, List.set_cons_succ, i64_w, i32_w]
              rfl
             refine pure_ (i := 34) (N := some 128) (v := ?_) (a' := ?_) #[true, true, true, true, true, true, true, true, true, true, true, true, true, true, true, true, true, true, true, true, true, true, true, true, true, true, true, true, true, true, true, true, true, true, true, false, false, false, false, false, false, false, false, false, false, false, false, false, false, false, false, false, false, false, false] rfl rfl (any_of HT_.out (by kernel_rfl)) (fun _ _ _ h => h) (Or.inl ⟨by rfl, ?_⟩) ?_ ?_
             rotate_left
             ·intro w'
              go_simp
              with_reducible rfl
             rotate_left
             ·simp only [Act.put, List.setIfInBounds_toArray, List.set_cons_zero, List.set_cons_succ, i64_w, i32_w]
              rfl
             refine pure_ (i := 35) (N := some 129) (v := ?_) (a' := ?_) #[true, true, true, true, true, true, true, true, true, true, true, true, true, true, true, true, true, true, true, true, true, true, true, true, true, true, true, true, true, true, true, true, true, true, true, true, false, false, false, false, false, false, false, false, false, false, false, false, false, false, false, false, false, false, false] rfl rfl (any_of HT_.out (by kernel_rfl)) (fun _ _ _ h => h) (Or.inl ⟨by rfl, ?_⟩) ?_ ?_
             rotate_left
             ·intro w'
              go_simp
              with_reducible rfl
             rotate_left
             ·simp only [Act.put, List.setIfInBounds_toArray, List.set_cons_zero, List.set_cons_succ, i64_w, i32_w]
              rfl
             refine pure_ (i := 36) (N := some 130) (v := ?_) (a' := ?_) #[true, true, true, true, true, true, true, true, true, true, true, true, true, true, true, true, true, true, true, true, true, true, true, true, true, true, true, true, true, true, true, true, true, true, true, true, true, false, false, false, false, false, false, false, false, false, false, false, false, false, false, false, false, false, false] rfl rfl (any_of HT_.out (by kernel_rfl)) (fun _ _ _ h => h) (Or.inl ⟨by rfl, ?_⟩) ?_ ?_
             rotate_left
             ·intro w'
              go_simp
              with_reducible rfl
             rotate_left
             ·simp only [Act.put, List.setIfInBounds_toArray, List.set_cons_zero, List.set_cons_succ, i64_w, i32_w]
              rfl
             refine pure_ (i := 37) (N := some 131) (v := ?_) (a' := ?_) #[true, true, true, true, true, true, true, true, true, true, true, true, true, true, true, true, true, true, true, true, true, true, true, true, true, true, true, true, true, true, true, true, true, true, true, true, true, true, false, false, false, false, false, false, false, false, false, false, false, false, false, false, false, false, false] rfl rfl (any_of HT_.out (by kernel_rfl)) (fun _ _ _ h => h) (Or.inl ⟨by rfl, ?_⟩) ?_ ?_
             rotate_left
             ·intro w'
              go_simp
              with_reducible rfl
             rotate_left
             ·simp only [Act.put, List.setIfInBounds_toArray, List.set_cons_zero, List.set_cons_succ, i64_w, i32_w]
              rfl
             refine pure_ (i := 38) (N := some 132) (v := ?_) (a' := ?_) #[true, true, true, true, true, true, true, true, true, true, true, true, true, true, true, true, true, true, true, true, true, true, true, true, true, true, true, true, true, true, true, true, true, true, true, true, true, true, true, false, false, false, false, false, false, false, false, false, false, false, false, false, false, false, false] rfl rfl (any_of HT_.out (by kernel_rfl)) (fun _ _ _ h => h) (Or.inl ⟨by rfl, ?_⟩) ?_ ?_
             rotate_left
             ·intro w'
              go_simp
              with_reducible rfl
             rotate_left
             ·simp only [Act.put, List.setIfInBounds_toArray, List.set_cons_zero, List.set_cons_succ, i64_w, i32_w]
              rfl
             refine pure_ (i := 39) (N := some 133) (v := ?_) (a' := ?_) #[true, true, true, true, true, true, true, true, true, true, true, true, true, true, true, true, true, true, true, true, true, true, true, true, true, true, true, true, true, true, true, true, true, true, true, true, true, true, true, true, false, false, false, false, false, false, false, false, false, false, false, false, false, false, false] rfl rfl (any_of HT_.out (by kernel_rfl)) (fun _ _ _ h => h) (Or.inl ⟨by rfl, ?_⟩) ?_ ?_
             rotate_left
             ·intro w'
              go_simp
              with_reducible rfl
             rotate_left
             ·simp only [Act.put, List.setIfInBounds_toArray, List.set_cons_zero, List.set_cons_succ, i64_w, i32_w]
              rfl
             refine pure_ (i := 40) (N := some 134) (v := ?_) (a' := ?_) #[true, true, true, true, true, true, true, true, true, true, true, true, true, true, true, true, true, true, true, true, true, true, true, true, true, true, true, true, true, true, true, true, true, true, true, true, true, true, true, true, true, false, false, false, false, false, false, false, false, false, false, false, false, false, false] rfl rfl (any_of HT_.out (by kernel_rfl)) (fun _ _ _ h => h) (Or.inl ⟨by rfl, ?_⟩) ?_ ?_
             rotate_left
             ·intro w'
              go_simp
              with_reducible rfl
             rotate_left
             ·simp only [Act.put, List.setIfInBounds_toArray, List.set_cons_zero, List.set_cons_succ, i64_w, i32_w]
              rfl
             refine pure_ (i := 41) (N := some 135) (v := ?_) (a' := ?_) #[true, true, true, true, true, true, true, true, true, true, true, true, true, true, true, true, true, true, true, true, true, true, true, true, true, true, true, true, true, true, true, true, true, true, true, true, true, true, true, true, true, true, false, false, false, false, false, false, false, false, false, false, false, false, false] rfl rfl (any_of HT_.out (by kernel_rfl)) (fun _ _ _ h => h) (Or.inl ⟨by rfl, ?_⟩) ?_ ?_
             rotate_left
             ·intro w'
              go_simp
              with_reducible rfl
             rotate_left
             ·simp only [Act.put, List.setIfInBounds_toArray, List.set_cons_zero, List.set_cons_succ, i64_w, i32_w]
              rfl
             refine pure_ (i := 44) (N := some 138) (v := ?_) (a' := ?_) #[true, true, true, true, true, true, true, true, true, true, true, true, true, true, true, true, true, true, true, true, true, true, true, true, true, true, true, true, true, true, true, true, true, true, true, true, true, true, true, true, true, true, false, false, true, false, false, false, false, false, false, false, false, false, false] rfl rfl (any_of HT_.out (by kernel_rfl)) (fun _ _ _ h => h) (Or.inl ⟨by rfl, ?_⟩) ?_ ?_
             rotate_left
             ·intro w'
              go_simp
              with_reducible rfl
             rotate_left
             ·simp only [Act.put, List.setIfInBounds_toArray, List.set_cons_zero, List.set_cons_succ, i64_w, i32_w]
              rfl
             refine pure_ (i := 45) (N := some 139) (v := ?_) (a' := ?_) #[true, true, true, true, true, true, true, true, true, true, true, true, true, true, true, true, true, true, true, true, true, true, true, true, true, true, true, true, true, true, true, true, true, true, true, true, true, true, true, true, true, true, false, false, true, true, false, false, false, false, false, false, false, false, false] rfl rfl (any_of HT_.out (by kernel_rfl)) (fun _ _ _ h => h) (Or.inl ⟨by rfl, ?_⟩) ?_ ?_
             rotate_left
             ·intro w'
              go_simp
              with_reducible rfl
             rotate_left
             ·simp only [Act.put, List.setIfInBounds_toArray, List.set_cons_zero, List.set_cons_succ, i64_w, i32_w]
              rfl
             refine take_ (i := 42) (N := some 136) (v := ?_) (a' := ?_) #[true, true, true, true, true, true, true, true, true, true, true, true, true, true, true, true, true, true, true, true, true, true, true, true, true, true, true, true, true, true, true, true, true, true, true, true, true, true, true, true, true, true, true, false, true, true, false, false, false, false, false, false, false, false, false] rfl rfl (take_ofW HT_.out HW_.out (by kernel_rfl)) (fun _ _ _ h => h) (Or.inl ⟨by rfl, ?_⟩) hHeld ?_ ?_
             rotate_left
             ·rintro w' ⟨s0, s1, s2, s3, s4⟩
              go_simp
              with_reducible rfl
             rotate_left
             ·simp only [Act.put, List.setIfInBounds_toArray, List.set_cons_zero, List.set_cons_succ, i64_w, i32_w]
              rfl
             refine one_ (i := 43) (N := some 137) #[true, true, true, true, true, true, true, true, true, true, true, true, true, true, true, true, true, true, true, true, true, true, true, true, true, true, true, true, true, true, true, true, true, true, true, true, true, true, true, true, true, true, true, true, true, true, false, false, false, false, false, false, false, false, false] rfl rfl (one_of HT_.out (by kernel_rfl)) (by decide) (fun K hK => ?_)
             refine goes_ Try.func104 (by kernel_rfl) rfl #[.slice Ao27 t487.length co27, .agg #[.int .i64 t490, .bool t491, .int .i64 t492]] (by rfl) rfl rfl (by (try simp only [List.map_toArray, List.map_cons, List.map_nil]); first | done | rfl | (simp only [List.length_drop, List.length_take]; rfl)) ?_
             with_reducible refine (impl_CanCut.calls k _ _ t487 t490 t491 t492 t518 _ ?side1 ?side2 A52.out).mono ?_
             (case side1 => repeat (first | exact (Kd.R_reads' HO489.out).2.2 | (with_reducible refine Kd.C_alloc ?_ _) | (with_reducible refine Kd.C_drewN ?_ _) | (with_reducible refine Kd.C_drew ?_)))
             (case side2 => exact (Kd.R_reads' HO489.out).2.1)
             rintro e w67 ⟨rfl, hb⟩
             refine ⟨_, rfl, ?_⟩
             have n0_ := Aside0.mk (Kd.R_below (rx_ HO477.out) hb)
             have n1_ := Aside0.mk (Kd.R_below (rx_ HO481.out) hb)
             have n2_ := Aside0.mk (Kd.R_below (rx_ HO485.out) hb)
             have n3_ := Aside0.mk (Kd.R_below (rx_ HO489.out) hb)
             have n4_ := Aside0.mk (Kd.R_below (rx_ HO496.out) hb)
             have n5_ := Aside0.mk (Kd.R_below (rx_ HO500.out) hb)
             have n6_ := Aside0.mk (Kd.R_below (rx_ HO504.out) hb)
             have n7_ := Aside0.mk (blk_below (g := gb478) (o := .cells #[.int .i64 t473, .int .i64 t474] 77 (0, 0)) (bx_ BK478.out) hb)
             have n8_ := Aside0.mk (blk_below (g := gb493) (o := .cells #[.int .i64 t490, .bool t491, .int .i64 t492] 85 (0, 0)) (bx_ BK493.out) hb)
             have n9_ := Aside0.mk (blk_below (g := gb507) (o := .cells #[.int .i64 t505, .int .i64 t506] 77 (0, 0)) (bx_ BK507.out) hb)
             have n10_ := Aside0.mk (below_step (hx_ HB.out) hb)
             clear HO477
             clear HO481
             clear HO485
             clear HO489
             clear HO496
             clear HO500
             clear HO504
             clear BK478
             clear BK493
             clear BK507
             clear HB
             have HO477 := n0_
             have HO481 := n1_
             have HO485 := n2_
             have HO489 := n3_
             have HO496 := n4_
             have HO500 := n5_
             have HO504 := n6_
             have BK478 := n7_
             have BK493 := n8_
             have BK507 := n9_
             have HB := n10_
             clear n0_ n1_ n2_ n3_ n4_ n5_ n6_ n7_ n8_ n9_ n10_
             (try clear hb)
             (try clear hb2)
             (try clear hk)
             (try clear hi)
             refine hK.out _ _ ⟨(blk_cell BK493.out 0).trans rfl, (blk_cell BK493.out 1).trans rfl, (blk_cell BK493.out 2).trans rfl, (blk_cell BK478.out 0).trans rfl, (blk_cell BK478.out 1).trans rfl⟩ (fun hHeld => ?_)
             clear hK K
             refine norm_ (a' := ?_) ?_ ?_
             rotate_left
             ·show Act.put _ (some 137) _ = _
              simp only [Act.put, List.setIfInBounds_toArray, List.set_cons_zero, List.set_cons_succ, i64_w, i32_w]
              rfl
             refine pure_ (i := 46) (N := some 140) (v := ?_) (a' := ?_) #[true, true, true, true, true, true, true, true, true, true, true, true, true, true, true, true, true, true, true, true, true, true, true, true, true, true, true, true, true, true, true, true, true, true, true, true, true, true, true, true, true, true, true, true, true, true, true, false, false, false, false, false, false, false, false] rfl rfl (any_of HT_.out (by kernel_rfl)) (fun _ _ _ h => h) (Or.inl ⟨by rfl, ?_⟩) ?_ ?_
             rotate_left
             ·intro w'
              go_simp
              with_reducible rfl
             rotate_left
             ·simp only [Act.put, List.setIfInBounds_toArray, List.set_cons_zero, List.set_cons_succ, i64_w, i32_w]
              rfl
             refine pure_ (i := 47) (N := some 141) (v := ?_) (a' := ?_) #[true, true, true, true, true, true, true, true, true, true, true, true, true, true, true, true, true, true, true, true, true, true, true, true, true, true, true, true, true, true, true, true, true, true, true, true, true, true, true, true, true, true, true, true, true, true, true, true, false, false, false, false, false, false, false] rfl rfl (any_of HT_.out (by kernel_rfl)) (fun _ _ _ h => h) (Or.inl ⟨by rfl, ?_⟩) ?_ ?_
             rotate_left
             ·intro w'
              go_simp
              with_reducible rfl
             rotate_left
             ·simp only [Act.put, List.setIfInBounds_toArray, List.set_cons_zero, List.set_cons_succ, i64_w, i32_w]
              rfl
             refine pure_ (i := 48) (N := some 142) (v := ?_) (a' := ?_) #[true, true, true, true, true, true, true, true, true, true, true, true, true, true, true, true, true, true, true, true, true, true, true, true, true, true, true, true, true, true, true, true, true, true, true, true, true, true, true, true, true, true, true, true, true, true, true, true, true, false, false, false, false, false, false] rfl rfl (any_of HT_.out (by kernel_rfl)) (fun _ _ _ h => h) (Or.inl ⟨by rfl, ?_⟩) ?_ ?_
             rotate_left
             ·intro w'
              go_simp
              with_reducible rfl
             rotate_left
             ·simp only [Act.put, List.setIfInBounds_toArray, List.set_cons_zero, List.set_cons_succ, i64_w, i32_w]
              rfl
             refine take_ (i := 49) (N := some 143) (v := ?_) (a' := ?_) #[true, true, true, true, true, true, true, true, true, true, true, true, true, true, true, true, true, true, true, true, true, true, true, true, true, true, true, true, true, true, true, true, true, true, true, true, true, true, true, true, true, true, true, true, true, true, true, true, true, true, false, false, false, false, false] rfl rfl (take_ofW HT_.out HW_.out (by kernel_rfl)) (fun _ _ _ h => h) (Or.inl ⟨by rfl, ?_⟩) hHeld ?_ ?_
             rotate_left
             ·rintro w' ⟨s0, s1, s2, s3, s4⟩
              go_simp
              with_reducible rfl
             rotate_left
             ·simp only [Act.put, List.setIfInBounds_toArray, List.set_cons_zero, List.set_cons_succ, i64_w, i32_w]
              rfl
             refine take_ (i := 51) (N := some 145) (v := ?_) (a' := ?_) #[true, true, true, true, true, true, true, true, true, true, true, true, true, true, true, true, true, true, true, true, true, true, true, true, true, true, true, true, true, true, true, true, true, true, true, true, true, true, true, true, true, true, true, true, true, true, true, true, true, true, false, true, false, false, false] rfl rfl (take_ofW HT_.out HW_.out (by kernel_rfl)) (fun _ _ _ h => h) (Or.inl ⟨by rfl, ?_⟩) hHeld ?_ ?_
             rotate_left
             ·rintro w' ⟨s0, s1, s2, s3, s4⟩
              go_simp
              with_reducible rfl
             rotate_left
             ·simp only [Act.put, List.setIfInBounds_toArray, List.set_cons_zero, List.set_cons_succ, i64_w, i32_w]
              rfl
             refine one_ (i := 50) (N := some 144) #[true, true, true, true, true, true, true, true, true, true, true, true, true, true, true, true, true, true, true, true, true, true, true, true, true, true, true, true, true, true, true, true, true, true, true, true, true, true, true, true, true, true, true, true, true, true, true, true, true, true, true, true, false, false, false] rfl rfl (one_of HT_.out (by kernel_rfl)) (by decide) (fun K hK => ?_)
             refine goes_ Try.func105 (by kernel_rfl) rfl #[.agg #[.int .i64 t473, .int .i64 t474]] (by rfl) rfl rfl (by (try simp only [List.map_toArray, List.map_cons, List.map_nil]); first | done | rfl | (simp only [List.length_drop, List.length_take]; rfl)) ?_
             with_reducible refine (impl_IsPiece.calls t473 t474 t519 _ A60.out).mono ?_
             rintro e w68 ⟨rfl, hb⟩
             refine ⟨_, rfl, ?_⟩
             have n0_ := Aside0.mk (Kd.R_below (rx_ HO477.out) hb)
             have n1_ := Aside0.mk (Kd.R_below (rx_ HO481.out) hb)
             have n2_ := Aside0.mk (Kd.R_below (rx_ HO485.out) hb)
             have n3_ := Aside0.mk (Kd.R_below (rx_ HO489.out) hb)
             have n4_ := Aside0.mk (Kd.R_below (rx_ HO496.out) hb)
             have n5_ := Aside0.mk (Kd.R_below (rx_ HO500.out) hb)
             have n6_ := Aside0.mk (Kd.R_below (rx_ HO504.out) hb)
             have n7_ := Aside0.mk (blk_below (g := gb478) (o := .cells #[.int .i64 t473, .int .i64 t474] 77 (0, 0)) (bx_ BK478.out) hb)
             have n8_ := Aside0.mk (blk_below (g := gb493) (o := .cells #[.int .i64 t490, .bool t491, .int .i64 t492] 85 (0, 0)) (bx_ BK493.out) hb)
             have n9_ := Aside0.mk (blk_below (g := gb507) (o := .cells #[.int .i64 t505, .int .i64 t506] 77 (0, 0)) (bx_ BK507.out) hb)
             have n10_ := Aside0.mk (below_step (hx_ HB.out) hb)
             clear HO477
             clear HO481
             clear HO485
             clear HO489
             clear HO496
             clear HO500
             clear HO504
             clear BK478
             clear BK493
             clear BK507
             clear HB
             have HO477 := n0_
             have HO481 := n1_
             have HO485 := n2_
             have HO489 := n3_
             have HO496 := n4_
             have HO500 := n5_
             have HO504 := n6_
             have BK478 := n7_
             have BK493 := n8_
             have BK507 := n9_
             have HB := n10_
             clear n0_ n1_ n2_ n3_ n4_ n5_ n6_ n7_ n8_ n9_ n10_
             (try clear hb)
             (try clear hb2)
             (try clear hk)
             (try clear hi)
             refine hK.out _ _ ⟨(blk_cell BK493.out 0).trans rfl, (blk_cell BK493.out 1).trans rfl, (blk_cell BK493.out 2).trans rfl, (blk_cell BK478.out 0).trans rfl, (blk_cell BK478.out 1).trans rfl⟩ (fun hHeld => ?_)
             clear hK K
             refine norm_ (a' := ?_) ?_ ?_
             rotate_left
             ·show Act.put _ (some 144) _ = _
              simp only [Act.put, List.setIfInBounds_toArray, List.set_cons_zero, List.set_cons_succ, i64_w, i32_w]
              rfl
             refine one_ (i := 52) (N := some 146) #[true, true, true, true, true, true, true, true, true, true, true, true, true, true, true, true, true, true, true, true, true, true, true, true, true, true, true, true, true, true, true, true, true, true, true, true, true, true, true, true, true, true, true, true, true, true, true, true, true, true, true, true, true, false, false] rfl rfl (one_of HT_.out (by kernel_rfl)) (by decide) (fun K hK => ?_)
             refine goes_ Try.func106 (by kernel_rfl) rfl #[.agg #[.int .i64 t473, .int .i64 t474]] (by rfl) rfl rfl (by (try simp only [List.map_toArray, List.map_cons, List.map_nil]); first | done | rfl | (simp only [List.length_drop, List.length_take]; rfl)) ?_
             with_reducible refine (spec_IsPiece.calls t473 t474 t520 _ A61.out).mono ?_
             rintro e w69 ⟨rfl, hb⟩
             refine ⟨_, rfl, ?_⟩
             have n0_ := Aside0.mk (Kd.R_below (rx_ HO477.out) hb)
             have n1_ := Aside0.mk (Kd.R_below (rx_ HO481.out) hb)
             have n2_ := Aside0.mk (Kd.R_below (rx_ HO485.out) hb)
             have n3_ := Aside0.mk (Kd.R_below (rx_ HO489.out) hb)
             have n4_ := Aside0.mk (Kd.R_below (rx_ HO496.out) hb)
             have n5_ := Aside0.mk (Kd.R_below (rx_ HO500.out) hb)
             have n6_ := Aside0.mk (Kd.R_below (rx_ HO504.out) hb)
             have n7_ := Aside0.mk (blk_below (g := gb478) (o := .cells #[.int .i64 t473, .int .i64 t474] 77 (0, 0)) (bx_ BK478.out) hb)
             have n8_ := Aside0.mk (blk_below (g := gb493) (o := .cells #[.int .i64 t490, .bool t491, .int .i64 t492] 85 (0, 0)) (bx_ BK493.out) hb)
             have n9_ := Aside0.mk (blk_below (g := gb507) (o := .cells #[.int .i64 t505, .int .i64 t506] 77 (0, 0)) (bx_ BK507.out) hb)
             have n10_ := Aside0.mk (below_step (hx_ HB.out) hb)
             clear HO477
             clear HO481
             clear HO485
             clear HO489
             clear HO496
             clear HO500
             clear HO504
             clear BK478
             clear BK493
             clear BK507
             clear HB
             have HO477 := n0_
             have HO481 := n1_
             have HO485 := n2_
             have HO489 := n3_
             have HO496 := n4_
             have HO500 := n5_
             have HO504 := n6_
             have BK478 := n7_
             have BK493 := n8_
             have BK507 := n9_
             have HB := n10_
             clear n0_ n1_ n2_ n3_ n4_ n5_ n6_ n7_ n8_ n9_ n10_
             (try clear hb)
             (try clear hb2)
             (try clear hk)
             (try clear hi)
             refine hK.out _ _ ⟨(blk_cell BK493.out 0).trans rfl, (blk_cell BK493.out 1).trans rfl, (blk_cell BK493.out 2).trans rfl, (blk_cell BK478.out 0).trans rfl, (blk_cell BK478.out 1).trans rfl⟩ (fun hHeld => ?_)
             clear hK K
             refine norm_ (a' := ?_) ?_ ?_
             rotate_left
             ·show Act.put _ (some 146) _ = _
              simp only [Act.put, List.setIfInBounds_toArray, List.set_cons_zero, List.set_cons_succ, i64_w, i32_w]
              rfl
             refine pure_ (i := 53) (N := some 147) (v := ?_) (a' := ?_) #[true, true, true, true, true, true, true, true, true, true, true, true, true, true, true, true, true, true, true, true, true, true, true, true, true, true, true, true, true, true, true, true, true, true, true, true, true, true, true, true, true, true, true, true, true, true, true, true, true, true, true, true, true, true, false] rfl rfl (any_of HT_.out (by kernel_rfl)) (fun _ _ _ h => h) (Or.inl ⟨by rfl, ?_⟩) ?_ ?_
             rotate_left
             ·intro w'
              go_simp
              with_reducible rfl
             rotate_left
             ·simp only [Act.put, List.setIfInBounds_toArray, List.set_cons_zero, List.set_cons_succ, i64_w, i32_w]
              rfl
             refine pure_ (i := 54) (N := some 148) (v := ?_) (a' := ?_) #[true, true, true, true, true, true, true, true, true, true, true, true, true, true, true, true, true, true, true, true, true, true, true, true, true, true, true, true, true, true, true, true, true, true, true, true, true, true, true, true, true, true, true, true, true, true, true, true, true, true, true, true, true, true, true] rfl rfl (any_of HT_.out (by kernel_rfl)) (fun _ _ _ h => h) (Or.inl ⟨by rfl, ?_⟩) ?_ ?_
             rotate_left
             ·intro w'
              go_simp
              with_reducible rfl
             rotate_left
             ·simp only [Act.put, List.setIfInBounds_toArray, List.set_cons_zero, List.set_cons_succ, i64_w, i32_w]
              rfl
             refine done_ (done_of HT_.out (by kernel_rfl)) ?_
             try go_wp2
             go_meet
             case rel => exact ⟨_, ((t519 != t520)), (by first | rfl | (simp; done) | (simp [*]; done)), H', ⟨by first | omega | exact Nat.le_refl _⟩, ⟨by (with_reducible repeat (first | apply Kd.R_alloc | apply Kd.R_drewN | apply Kd.R_drew)); exact Kd.R_mono HO477.out (fun _ hk => hk.2)⟩, ⟨by (with_reducible repeat (first | apply Kd.R_alloc | apply Kd.R_drewN | apply Kd.R_drew)); exact Kd.R_mono HO481.out (fun _ hk => ⟨hk.1.1.1.1.2, ⟨hk.1.1.1.2, ⟨hk.1.1.1.1.1.1.2, hk.2⟩⟩⟩)⟩, ⟨by (with_reducible repeat (first | apply Kd.R_alloc | apply Kd.R_drewN | apply Kd.R_drew)); exact Kd.R_mono HO489.out (fun _ hk => ⟨hk.1.1.1.1.1.1.2, ⟨hk.1.1.1.2, ⟨hk.1.1.1.1.2, hk.2⟩⟩⟩)⟩, ⟨by (with_reducible repeat (first | apply Kd.R_alloc | apply Kd.R_drewN | apply Kd.R_drew)); exact Kd.R_mono HO496.out (fun _ hk => ⟨hk.1.1.1.1.1.1.2, ⟨hk.1.1.1.1.2, ⟨hk.1.1.1.2, hk.2⟩⟩⟩)⟩, ⟨bx_ BK478.out⟩, ⟨bx_ BK493.out⟩, ⟨bx_ BK507.out⟩, ⟨hx_ HB.out⟩⟩
           ·rw [if_neg c51] at H
            exact absurd H (by simp)
          ·rw [if_neg c50] at H
           exact absurd H (by simp)
         ·rw [if_neg c49] at H
          exact absurd H (by simp)
        ·rw [if_neg c48] at H
         exact absurd H (by simp)
       ·replace c47 := Bool.eq_false_iff.mpr c47
        subst c47
        have H1 : (none) = some r := by rw [if_neg (show ¬ (false = true) by decide)] at H; exact H
        clear H
        have H := H1
        clear H1
        exact absurd H (by simp)
      ·rw [if_neg c45] at H
       exact absurd H (by simp)
     ·replace c44 := Bool.eq_false_iff.mpr c44
      subst c44
      have H1 : (none) = some r := by rw [if_neg (show ¬ (false = true) by decide)] at H; exact H
      clear H
      have H := H1
      clear H1
      exact absurd H (by simp)
    ·rw [if_neg c42] at H
     exact absurd H (by simp)
  case rest =>
   as_aux_lemma =>
    clear HC15
    (try clear p2); (try clear c4); (try clear c42); (try clear c42b0); (try clear c42b1)
    obtain ⟨kq, x148_14, rfl, HA, HJ14, HO_4, HO_5, HO_9, HO_11, BK478, BK493, BK507, HB⟩ := hcut
    cases kq with
    | zero => exact absurd HA.out (by simp [laws_FnCuts.j0])
    | succ kj14 =>
     have H := HA.out
     clear HA
     simp only [laws_FnCuts.j0] at H
     by_cases c102 : x148_14 = true
     ·subst c102
      have H1 : (none) = some r := by rw [if_pos rfl] at H; exact H
      clear H
      have H := H1
      clear H1
      exact absurd H (by simp)
     ·replace c102 := Bool.eq_false_iff.mpr c102
      subst c102
      have H1 : (if t497 = 0 then ((impl_AreaOf.f kj14 t487).bind fun bt521 => ((impl_AreaOf.f kj14 t494).bind fun bt523 => (if bt521.2 = 0 then (if bt523.2 = 0 then (if bt521.1 = bt523.1 then (laws_FnCuts.j1 kj14 t475 t479 t482 ((t494.length : Int) != (wrap64 ((t487.length : Int) + 1))) t473 t474) else (none)) else (none)) else (none)))) else (if t482 = 0 then ((impl_AreaOf.f kj14 t479).bind fun bt527 => (if bt527.2 = 0 then (if bt527.1 = (wrap64 (t473 * t474)) then (some ((t479.length : Int) == (wrap64 ((t475.length : Int) + 1)))) else (none)) else (none))) else (some true))) = some r := by rw [if_neg (show ¬ (false = true) by decide)] at H; exact H
      clear H
      have H := H1
      clear H1
      by_cases c103 : t497 = 0
      ·rw [if_pos c103] at H
       have c103b0 : (t497 == 0) = true := beq_iff_eq.mpr c103
       have c103b1 : (t497 != 0) = false := bne_eq_false_iff_eq.mpr c103
       clear c103
       replace H := Option.bind_eq_some_iff.mp H
       obtain ⟨⟨t521, t522⟩, A1040, H⟩ := H
       replace H : ((impl_AreaOf.f kj14 t494).bind fun bt523 => (if t522 = 0 then (if bt523.2 = 0 then (if t521 = bt523.1 then (laws_FnCuts.j1 kj14 t475 t479 t482 ((t494.length : Int) != (wrap64 ((t487.length : Int) + 1))) t473 t474) else (none)) else (none)) else (none))) = some r := H
       have A104 := Aside0.mk A1040
       clear A1040
       replace H := Option.bind_eq_some_iff.mp H
       obtain ⟨⟨t523, t524⟩, A1050, H⟩ := H
       replace H : (if t522 = 0 then (if t524 = 0 then (if t521 = t523 then (laws_FnCuts.j1 kj14 t475 t479 t482 ((t494.length : Int) != (wrap64 ((t487.length : Int) + 1))) t473 t474) else (none)) else (none)) else (none)) = some r := H
       have A105 := Aside0.mk A1050
       clear A1050
       have HC106 := Aside0.mk H
       clear H
       go_upto_region 19 with (first | ((with_reducible refine gate_callee (f := 101) rfl ?_); refine goesL_ (some 153) rfl rfl Try.func101 (by kernel_rfl) rfl #[.slice Ao27 t487.length co27] rfl (by (try simp only [List.map_toArray, List.map_cons, List.map_nil]); first | done | rfl | (simp only [List.length_drop, List.length_take]; rfl)) ?_; (with_reducible refine (impl_AreaOf.calls kj14 _ _ t487 t521 t522 _ ?side1 ?side2 A104.out).mono ?_); (case side1 => repeat (first | exact (Kd.R_reads' HO_9.out).2.2 | (with_reducible refine Kd.C_alloc ?_ _) | (with_reducible refine Kd.C_drewN ?_ _) | (with_reducible refine Kd.C_drew ?_))); (case side2 => exact (Kd.R_reads' HO_9.out).2.1); rintro e w107 ⟨rfl, hb⟩; refine ⟨_, rfl, ?_⟩; have n0_ := Aside0.mk (Kd.R_below (rx_ HO_4.out) hb); have n1_ := Aside0.mk (Kd.R_below (rx_ HO_5.out) hb); have n2_ := Aside0.mk (Kd.R_below (rx_ HO_9.out) hb); have n3_ := Aside0.mk (Kd.R_below (rx_ HO_11.out) hb); have n4_ := Aside0.mk (blk_below (g := gb478) (o := .cells #[.int .i64 t473, .int .i64 t474] 77 (0, 0)) (bx_ BK478.out) hb); have n5_ := Aside0.mk (blk_below (g := gb493) (o := .cells #[.int .i64 t490, .bool t491, .int .i64 t492] 85 (0, 0)) (bx_ BK493.out) hb); have n6_ := Aside0.mk (blk_below (g := gb507) (o := .cells #[.int .i64 t505, .int .i64 t506] 77 (0, 0)) (bx_ BK507.out) hb); have n7_ := Aside0.mk (below_step (hx_ HB.out) hb); clear HO_4; clear HO_5; clear HO_9; clear HO_11; clear BK478; clear BK493; clear BK507; clear HB; have HO_4 := n0_; have HO_5 := n1_; have HO_9 := n2_; have HO_11 := n3_; have BK478 := n4_; have BK493 := n5_; have BK507 := n6_; have HB := n7_; clear n0_ n1_ n2_ n3_ n4_ n5_ n6_ n7_; (try clear hb); (try clear hb2); (try clear hk); (try clear hi); obtain ⟨Ao108, co108, eo108⟩ := Kd.R_slice HO_11.out; subst eo108) | ((with_reducible refine gate_callee (f := 101) rfl ?_); refine goesL_ (some 158) rfl rfl Try.func101 (by kernel_rfl) rfl #[.slice Ao108 t494.length co108] rfl (by (try simp only [List.map_toArray, List.map_cons, List.map_nil]); first | done | rfl | (simp only [List.length_drop, List.length_take]; rfl)) ?_; (with_reducible refine (impl_AreaOf.calls kj14 _ _ t494 t523 t524 _ ?side1 ?side2 A105.out).mono ?_); (case side1 => repeat (first | exact (Kd.R_reads' HO_11.out).2.2 | (with_reducible refine Kd.C_alloc ?_ _) | (with_reducible refine Kd.C_drewN ?_ _) | (with_reducible refine Kd.C_drew ?_))); (case side2 => exact (Kd.R_reads' HO_11.out).2.1); rintro e w109 ⟨rfl, hb⟩; refine ⟨_, rfl, ?_⟩; have n0_ := Aside0.mk (Kd.R_below (rx_ HO_4.out) hb); have n1_ := Aside0.mk (Kd.R_below (rx_ HO_5.out) hb); have n2_ := Aside0.mk (Kd.R_below (rx_ HO_9.out) hb); have n3_ := Aside0.mk (Kd.R_below (rx_ HO_11.out) hb); have n4_ := Aside0.mk (blk_below (g := gb478) (o := .cells #[.int .i64 t473, .int .i64 t474] 77 (0, 0)) (bx_ BK478.out) hb); have n5_ := Aside0.mk (blk_below (g := gb493) (o := .cells #[.int .i64 t490, .bool t491, .int .i64 t492] 85 (0, 0)) (bx_ BK493.out) hb); have n6_ := Aside0.mk (blk_below (g := gb507) (o := .cells #[.int .i64 t505, .int .i64 t506] 77 (0, 0)) (bx_ BK507.out) hb); have n7_ := Aside0.mk (below_step (hx_ HB.out) hb); clear HO_4; clear HO_5; clear HO_9; clear HO_11; clear BK478; clear BK493; clear BK507; clear HB; have HO_4 := n0_; have HO_5 := n1_; have HO_9 := n2_; have HO_11 := n3_; have BK478 := n4_; have BK493 := n5_; have BK507 := n6_; have HB := n7_; clear n0_ n1_ n2_ n3_ n4_ n5_ n6_ n7_; (try clear hb); (try clear hb2); (try clear hk); (try clear hi)))
       (try simp only [Act.put, List.setIfInBounds_toArray, List.set_cons_zero, List.set_cons_succ])
       go_cut [179] (fun v179 wc => ∃ (kq : Nat) (x179_105 : Bool), v179 = .bool x179_105 ∧ Aside0 (laws_FnCuts.j1 kq t475 t479 t482 x179_105 t473 t474 = some r) ∧ Aside0 (kq ≤ kj14) ∧ Aside0 (Kd.R k85 85 wc w.heap.size (fun k_ => k_ ≠ gb493) (.slice Ao19 t475.length co19) t475) ∧ Aside0 (Kd.R k77 77 wc w.heap.size (fun k_ => k_ ≠ gb478 ∧ k_ ≠ gb507) v480 t479) ∧ Aside0 (wc.heap[gb478]? = some (.cells #[.int .i64 t473, .int .i64 t474] 77 (0, 0))) ∧ Aside0 (wc.heap[gb493]? = some (.cells #[.int .i64 t490, .bool t491, .int .i64 t492] 85 (0, 0))) ∧ Aside0 (wc.heap[gb507]? = some (.cells #[.int .i64 t505, .int .i64 t506] 77 (0, 0))) ∧ Aside0 (Below w.heap.size w wc))
       case first =>
        as_aux_lemma =>
         have H := HC106.out
         clear HC106
         by_cases c110 : t522 = 0
         ·rw [if_pos c110] at H
          have c110b0 : (t522 == 0) = true := beq_iff_eq.mpr c110
          have c110b1 : (t522 != 0) = false := bne_eq_false_iff_eq.mpr c110
          clear c110
          (first | rw [c110b0] | (simp only [i64_w, i32_w]; rw [c110b0]) | skip)
          by_cases c111 : t524 = 0
          ·rw [if_pos c111] at H
           have c111b0 : (t524 == 0) = true := beq_iff_eq.mpr c111
           have c111b1 : (t524 != 0) = false := bne_eq_false_iff_eq.mpr c111
           clear c111
           by_cases c112 : t521 = t523
           ·rw [if_pos c112] at H
            have c112b0 : (t521 == t523) = true := beq_iff_eq.mpr c112
            have c112b1 : (t521 != t523) = false := bne_eq_false_iff_eq.mpr c112
            clear c112
            have H' := Aside0.mk H
            clear H
            go_wp2
            go_meet
            case rel => exact ⟨_, (((t494.length : Int) != (wrap64 ((t487.length : Int) + 1)))), (by first | rfl | (simp; done) | (simp [*]; done)), H', ⟨by have := HJ14.out; first | omega | exact Nat.le_refl _⟩, ⟨rx_ HO_4.out⟩, ⟨by (with_reducible repeat (first | apply Kd.R_alloc | apply Kd.R_drewN | apply Kd.R_drew)); exact Kd.R_mono HO_5.out (fun _ hk => ⟨hk.2.2.1, hk.2.2.2⟩)⟩, ⟨bx_ BK478.out⟩, ⟨bx_ BK493.out⟩, ⟨bx_ BK507.out⟩, ⟨hx_ HB.out⟩⟩
           ·rw [if_neg c112] at H
            exact absurd H (by simp)
          ·rw [if_neg c111] at H
           exact absurd H (by simp)
         ·rw [if_neg c110] at H
          exact absurd H (by simp)
       case rest =>
        as_aux_lemma =>
         clear HC106
         (try clear c1); (try clear p2); (try clear c4); (try clear p6); (try clear c10); (try clear c11); (try clear c42); (try clear c42b0); (try clear c42b1); (try clear p64); (try clear c101); (try clear c102); (try clear c103); (try clear c103b0); (try clear c103b1); (try clear c110); (try clear c110b0); (try clear c110b1); (try clear c111); (try clear c111b0); (try clear c111b1); (try clear c112); (try clear c112b0); (try clear c112b1); (try clear p2)
         obtain ⟨kq, x179_105, rfl, HA, HJ105, HO_4, HO_5, BK478, BK493, BK507, HB⟩ := hcut
         cases kq with
         | zero => exact absurd HA.out (by simp [laws_FnCuts.j1])
         | succ kj105 =>
          have H := HA.out
          clear HA
          simp only [laws_FnCuts.j1] at H
          by_cases c113 : x179_105 = true
          ·subst c113
           have H1 : (none) = some r := by rw [if_pos rfl] at H; exact H
           clear H
           have H := H1
           clear H1
           exact absurd H (by simp)
          ·replace c113 := Bool.eq_false_iff.mpr c113
           subst c113
           have H1 : (if t482 = 0 then ((impl_AreaOf.f kj105 t479).bind fun bt525 => (if bt525.2 = 0 then (if bt525.1 = (wrap64 (t473 * t474)) then (some ((t479.length : Int) == (wrap64 ((t475.length : Int) + 1)))) else (none)) else (none))) else (some true)) = some r := by rw [if_neg (show ¬ (false = true) by decide)] at H; exact H
           clear H
           have H := H1
           clear H1
           by_cases c114 : t482 = 0
           ·rw [if_pos c114] at H
            have c114b0 : (t482 == 0) = true := beq_iff_eq.mpr c114
            have c114b1 : (t482 != 0) = false := bne_eq_false_iff_eq.mpr c114
            clear c114
            replace H := Option.bind_eq_some_iff.mp H
            obtain ⟨⟨t525, t526⟩, A1150, H⟩ := H
            replace H : (if t526 = 0 then (if t525 = (wrap64 (t473 * t474)) then (some ((t479.length : Int) == (wrap64 ((t475.length : Int) + 1)))) else (none)) else (none)) = some r := H
            have A115 := Aside0.mk A1150
            clear A1150
            by_cases c116 : t526 = 0
            ·rw [if_pos c116] at H
             have c116b0 : (t526 == 0) = true := beq_iff_eq.mpr c116
             have c116b1 : (t526 != 0) = false := bne_eq_false_iff_eq.mpr c116
             clear c116
             by_cases c117 : t525 = (wrap64 (t473 * t474))
             ·rw [if_pos c117] at H
              have c117b0 : (t525 == (wrap64 (t473 * t474))) = true := beq_iff_eq.mpr c117
              have c117b1 : (t525 != (wrap64 (t473 * t474))) = false := bne_eq_false_iff_eq.mpr c117
              clear c117
              obtain rfl := Option.some.inj H
              obtain ⟨Ao118, co118, eo118⟩ := Kd.R_slice HO_5.out
              subst eo118
              go_wp2_with (first | ((with_reducible refine gate_callee (f := 101) rfl ?_); refine goesL_ (some 184) rfl rfl Try.func101 (by kernel_rfl) rfl #[.slice Ao118 t479.length co118] rfl (by (try simp only [List.map_toArray, List.map_cons, List.map_nil]); first | done | rfl | (simp only [List.length_drop, List.length_take]; rfl)) ?_; (with_reducible refine (impl_AreaOf.calls kj105 _ _ t479 t525 t526 _ ?side1 ?side2 A115.out).mono ?_); (case side1 => repeat (first | exact (Kd.R_reads' HO_5.out).2.2 | (with_reducible refine Kd.C_alloc ?_ _) | (with_reducible refine Kd.C_drewN ?_ _) | (with_reducible refine Kd.C_drew ?_))); (case side2 => exact (Kd.R_reads' HO_5.out).2.1); rintro e w119 ⟨rfl, hb⟩; refine ⟨_, rfl, ?_⟩; have n0_ := Aside0.mk (Kd.R_below (rx_ HO_4.out) hb); have n1_ := Aside0.mk (Kd.R_below (rx_ HO_5.out) hb); have n2_ := Aside0.mk (blk_below (g := gb478) (o := .cells #[.int .i64 t473, .int .i64 t474] 77 (0, 0)) (bx_ BK478.out) hb); have n3_ := Aside0.mk (blk_below (g := gb493) (o := .cells #[.int .i64 t490, .bool t491, .int .i64 t492] 85 (0, 0)) (bx_ BK493.out) hb); have n4_ := Aside0.mk (blk_below (g := gb507) (o := .cells #[.int .i64 t505, .int .i64 t506] 77 (0, 0)) (bx_ BK507.out) hb); have n5_ := Aside0.mk (below_step (hx_ HB.out) hb); clear HO_4; clear HO_5; clear BK478; clear BK493; clear BK507; clear HB; have HO_4 := n0_; have HO_5 := n1_; have BK478 := n2_; have BK493 := n3_; have BK507 := n4_; have HB := n5_; clear n0_ n1_ n2_ n3_ n4_ n5_; (try clear hb); (try clear hb2); (try clear hk); (try clear hi); have hnb120 := NB478_493.out; have hnc120 := NB493_478.out; have hnb121 := NB478_507.out; have hnc121 := NB507_478.out; have hcz122_0 : w119.cell? ⟨gb478, 0, none⟩ = some (.int .i64 t473) := (blk_cell BK478.out 0).trans rfl; have hcz122_1 : w119.cell? ⟨gb478, 1, none⟩ = some (.int .i64 t474) := (blk_cell BK478.out 1).trans rfl; have hfz122_0 := blk_frozen BK478.out 0; have hfz122_1 := blk_frozen BK478.out 1))
              go_ret
              exact ⟨by first | rfl | (simp [errW_none, errW_some] <;> rfl) | (simp [*, errW_none, errW_some] <;> rfl), hx_ HB.out⟩
             ·rw [if_neg c117] at H
              exact absurd H (by simp)
            ·rw [if_neg c116] at H
             exact absurd H (by simp)
           ·rw [if_neg c114] at H
            have c114b0 : (t482 == 0) = false := beq_eq_false_iff_ne.mpr c114
            have c114b1 : (t482 != 0) = true := bne_iff_ne.mpr c114
            obtain rfl := Option.some.inj H
            go_wp2
            go_ret
            exact ⟨by first | rfl | (simp [errW_none, errW_some] <;> rfl) | (simp [*, errW_none, errW_some] <;> rfl), hx_ HB.out⟩
      ·rw [if_neg c103] at H
       have c103b0 : (t497 == 0) = false := beq_eq_false_iff_ne.mpr c103
       have c103b1 : (t497 != 0) = true := bne_iff_ne.mpr c103
       by_cases c130 : t482 = 0
       ·rw [if_pos c130] at H
        have c130b0 : (t482 == 0) = true := beq_iff_eq.mpr c130
        have c130b1 : (t482 != 0) = false := bne_eq_false_iff_eq.mpr c130
        clear c130
        replace H := Option.bind_eq_some_iff.mp H
        obtain ⟨⟨t527, t528⟩, A1310, H⟩ := H
        replace H : (if t528 = 0 then (if t527 = (wrap64 (t473 * t474)) then (some ((t479.length : Int) == (wrap64 ((t475.length : Int) + 1)))) else (none)) else (none)) = some r := H
        have A131 := Aside0.mk A1310
        clear A1310
        by_cases c132 : t528 = 0
        ·rw [if_pos c132] at H
         have c132b0 : (t528 == 0) = true := beq_iff_eq.mpr c132
         have c132b1 : (t528 != 0) = false := bne_eq_false_iff_eq.mpr c132
         clear c132
         by_cases c133 : t527 = (wrap64 (t473 * t474))
         ·rw [if_pos c133] at H
          have c133b0 : (t527 == (wrap64 (t473 * t474))) = true := beq_iff_eq.mpr c133
          have c133b1 : (t527 != (wrap64 (t473 * t474))) = false := bne_eq_false_iff_eq.mpr c133
          clear c133
          obtain rfl := Option.some.inj H
          obtain ⟨Ao134, co134, eo134⟩ := Kd.R_slice HO_5.out
          subst eo134
          go_wp2_with (first | ((with_reducible refine gate_callee (f := 101) rfl ?_); refine goesL_ (some 184) rfl rfl Try.func101 (by kernel_rfl) rfl #[.slice Ao134 t479.length co134] rfl (by (try simp only [List.map_toArray, List.map_cons, List.map_nil]); first | done | rfl | (simp only [List.length_drop, List.length_take]; rfl)) ?_; (with_reducible refine (impl_AreaOf.calls kj14 _ _ t479 t527 t528 _ ?side1 ?side2 A131.out).mono ?_); (case side1 => repeat (first | exact (Kd.R_reads' HO_5.out).2.2 | (with_reducible refine Kd.C_alloc ?_ _) | (with_reducible refine Kd.C_drewN ?_ _) | (with_reducible refine Kd.C_drew ?_))); (case side2 => exact (Kd.R_reads' HO_5.out).2.1); rintro e w135 ⟨rfl, hb⟩; refine ⟨_, rfl, ?_⟩; have n0_ := Aside0.mk (Kd.R_below (rx_ HO_4.out) hb); have n1_ := Aside0.mk (Kd.R_below (rx_ HO_5.out) hb); have n2_ := Aside0.mk (Kd.R_below (rx_ HO_9.out) hb); have n3_ := Aside0.mk (Kd.R_below (rx_ HO_11.out) hb); have n4_ := Aside0.mk (blk_below (g := gb478) (o := .cells #[.int .i64 t473, .int .i64 t474] 77 (0, 0)) (bx_ BK478.out) hb); have n5_ := Aside0.mk (blk_below (g := gb493) (o := .cells #[.int .i64 t490, .bool t491, .int .i64 t492] 85 (0, 0)) (bx_ BK493.out) hb); have n6_ := Aside0.mk (blk_below (g := gb507) (o := .cells #[.int .i64 t505, .int .i64 t506] 77 (0, 0)) (bx_ BK507.out) hb); have n7_ := Aside0.mk (below_step (hx_ HB.out) hb); clear HO_4; clear HO_5; clear HO_9; clear HO_11; clear BK478; clear BK493; clear BK507; clear HB; have HO_4 := n0_; have HO_5 := n1_; have HO_9 := n2_; have HO_11 := n3_; have BK478 := n4_; have BK493 := n5_; have BK507 := n6_; have HB := n7_; clear n0_ n1_ n2_ n3_ n4_ n5_ n6_ n7_; (try clear hb); (try clear hb2); (try clear hk); (try clear hi); have hnb136 := NB478_493.out; have hnc136 := NB493_478.out; have hnb137 := NB478_507.out; have hnc137 := NB507_478.out; have hcz138_0 : w135.cell? ⟨gb478, 0, none⟩ = some (.int .i64 t473) := (blk_cell BK478.out 0).trans rfl; have hcz138_1 : w135.cell? ⟨gb478, 1, none⟩ = some (.int .i64 t474) := (blk_cell BK478.out 1).trans rfl; have hfz138_0 := blk_frozen BK478.out 0; have hfz138_1 := blk_frozen BK478.out 1))
          go_ret
          exact ⟨by first | rfl | (simp [errW_none, errW_some] <;> rfl) | (simp [*, errW_none, errW_some] <;> rfl), hx_ HB.out⟩
         ·rw [if_neg c133] at H
          exact absurd H (by simp)
        ·rw [if_neg c132] at H
         exact absurd H (by simp)
       ·rw [if_neg c130] at H
        have c130b0 : (t482 == 0) = false := beq_eq_false_iff_ne.mpr c130
        have c130b1 : (t482 != 0) = true := bne_iff_ne.mpr c130
        obtain rfl := Option.some.inj H
        go_wp2
        go_ret
        exact ⟨by first | rfl | (simp [errW_none, errW_some] <;> rfl) | (simp [*, errW_none, errW_some] <;> rfl), hx_ HB.out⟩

/-- THE ONE PURE STATEMENT of laws_FnCuts: yours. -/
def laws_FnCuts.Pure : Prop := ∀ (l0 : List Int), l0.length ≤ maxLen → l0.length * 1 ≤ 140737488351232 → (∀ x ∈ l0, (Lit.int .u8 x).wf = true) → ∃ k, laws_FnCuts.f k l0 = some true
theorem laws_FnCuts.walk (P : laws_FnCuts.Pure) (a0 : Option Addr) (len0 cap0 : Nat) (z0 : List Int) (w : World) (w0 : (a0 = none ∧ len0 = 0 ∧ cap0 = 0 ∧ z0 = []) ∨ ∃ x, a0 = some x ∧ len0 ≤ cap0 ∧ cap0 ≤ maxLen ∧ z0.length = cap0 ∧ (∀ i, i < z0.length → w.cell? (x.add i) = some (.int .u8 (z0.getD i 0))) ∧ ∀ n ∈ z0, (Lit.int .u8 n).wf = true) (y0 : len0 * 1 ≤ 140737488351232) :
  Calls Try.prog 11 #[.slice a0 len0 cap0] w fun e w' => e = .returned (.bool true) ∧ Below w.heap.size w w' := by
 obtain ⟨l0, rfl, hr0, hm0, hw0, hc0⟩ := ReadsInt.ofRowC w0
 obtain ⟨k, h⟩ := P l0 hm0 y0 hw0
 refine (laws_FnCuts.calls k _ _ l0 true w (Kd.C_of_reads (d := (0 : Int)) (h1 := fun _ => rfl) hr0) hc0 h).mono ?_
 rintro e w' ⟨rfl, hd⟩
 exact ⟨rfl, hd⟩

end Go.Proofs.Ythapadejldlmfaa.PFnCuts
