-- Written by wip/inject.py: a contract of each function that the law reaches; those of the stand-ins are proved in this seat's Hand texts
import Derived.Test.YthapadejldlmfaaPFnSignaturesx0
import Derived.Test.YthapadejldlmfaaPFnSignaturesx1
import Derived.Test.YthapadejldlmfaaPFnSignaturesx2
import Derived.Test.YthapadejldlmfaaPFnSignaturesx3
import Derived.Test.YthapadejldlmfaaPFnSignaturesx4
namespace Go.Proofs.Ythapadejldlmfaa.PFnSignatures
open Go.RowKit Go.Proofs.YthapadejldlmfaaW.PrintWords Go.Proofs.YthapadejldlmfaaW.PrintLast Go.Proofs.YthapadejldlmfaaW.PrintMore
attribute [local go_sem] max2_int min2_int max_two min_two max_three min_three max_four min_four   -- for this text's walks alone
set_option linter.unusedVariables false
set_option linter.unusedSimpArgs false

/-! ### laws_FnSignatures: function 8 -/
mutual
def laws_FnSignatures.j0 : Nat → Int → Int → Int → Int → Int → Int → Int → Int → List Int → List Int → Int → Bool → Option (Bool)
  | 0, _, _, _, _, _, _, _, _, _, _, _, _ => none
  | k + 1, x4, x5, x6, x7, x8, x12, x16, x17, x18, x19, x20, x124 => if x124 = true then (none) else (if x20 = 0 then (laws_FnSignatures.l0 k x4 x5 x6 x7 x8 x12 x16 x17 x18 x19 0 0) else (if x8 = 0 then (if (wrap64 ((wrap64 (x6 * x4)) + x7)) = x5 then (if x6 < x12 then (some (decide (x7 ≤ x4))) else (none)) else (none)) else (some true)))
def laws_FnSignatures.l0 : Nat → Int → Int → Int → Int → Int → Int → Int → Int → List Int → List Int → Int → Int → Option (Bool)
  | 0, _, _, _, _, _, _, _, _, _, _, _, _ => none
  | k + 1, x4, x5, x6, x7, x8, x12, x16, x17, x18, x19, x23, x24 => if x24 < (x19.length : Int) then (if 0 ≤ x24 then (if (rd x19 x24) = 0 then (laws_FnSignatures.l0 k x4 x5 x6 x7 x8 x12 x16 x17 x18 x19 (wrap64 (x23 + 1)) (wrap64 (x24 + 1))) else ((impl_SignatureOf.f x16 x17 (rd x19 x24)).bind fun bt312 => (if bt312.2.2 = 0 then (if x17 = 0 then (none) else (if 0 ≤ (wrap64 (Int.tdiv x24 x17)) then (if (wrap64 (Int.tdiv x24 x17)) < (x18.length : Int) then (if bt312.1 = (rd x18 (wrap64 (Int.tdiv x24 x17))) then (if bt312.2.1 = (wrap64 ((Int.tmod x24 x17) + 1)) then (laws_FnSignatures.l0 k x4 x5 x6 x7 x8 x12 x16 x17 x18 x19 x23 (wrap64 (x24 + 1))) else (none)) else (none)) else (none)) else (none))) else (none)))) else (none)) else (if (wrap64 ((x19.length : Int) - x23)) = x16 then (if x8 = 0 then (if (wrap64 ((wrap64 (x6 * x4)) + x7)) = x5 then (if x6 < x12 then (some (decide (x7 ≤ x4))) else (none)) else (none)) else (some true)) else (none))
end
def laws_FnSignatures.f (k : Nat) (l0 : List Int) : Option (Bool) := (laws_big.f l0).bind fun t280 => (if t280 = true then (some true) else ((spec_DrawSignatureOf.f k l0).bind fun bt281 => ((impl_SignatureOf.f bt281.1 bt281.2.1 bt281.2.2).bind fun bt284 => ((spec_SignatureOf.f k bt281.1 bt281.2.1 bt281.2.2).bind fun bt287 => ((impl_SignatureCount.f bt281.1 bt281.2.1).bind fun bt290 => ((spec_SignatureCount.f k bt281.1 bt281.2.1).bind fun bt292 => ((spec_DrawGatherPages.f k l0).bind fun bt294 => ((impl_GatherPages.f k bt294.1 bt294.2.1 bt294.2.2).bind fun bt299 => ((spec_GatherPages.f k bt294.1 bt294.2.1 bt294.2.2).bind fun bt303 => (if bt284.2.2 = bt287.2.2 then (if bt284.1 = bt287.1 then (if bt284.2.1 = bt287.2.1 then (if bt290.2 = bt292.2 then (if bt290.1 = bt292.1 then (if bt299.2 = bt303.2 then ((laws_likeInts.f k bt299.1 bt303.1).bind fun t307 => (if t307 = true then ((impl_IsUnit.f bt281.2.1).bind fun t308 => ((spec_IsUnit.f k bt281.2.1).bind fun t309 => (laws_FnSignatures.j0 k bt281.2.1 bt281.2.2 bt284.1 bt284.2.1 bt284.2.2 bt290.1 bt294.1 bt294.2.1 bt294.2.2 bt299.1 bt299.2 (t308 != t309)))) else (none))) else (none)) else (none)) else (none)) else (none)) else (none)) else (none)))))))))))
theorem laws_FnSignatures.mono_l : ∀ k, (∀ y0 y1 y2 y3 y4 y5 y6 y7 y8 y9 y10 y11, LeO (laws_FnSignatures.j0 k y0 y1 y2 y3 y4 y5 y6 y7 y8 y9 y10 y11) (laws_FnSignatures.j0 (k + 1) y0 y1 y2 y3 y4 y5 y6 y7 y8 y9 y10 y11)) ∧ (∀ y0 y1 y2 y3 y4 y5 y6 y7 y8 y9 y10 y11, LeO (laws_FnSignatures.l0 k y0 y1 y2 y3 y4 y5 y6 y7 y8 y9 y10 y11) (laws_FnSignatures.l0 (k + 1) y0 y1 y2 y3 y4 y5 y6 y7 y8 y9 y10 y11))
  | 0 => ⟨fun _ _ _ _ _ _ _ _ _ _ _ _ r h => by simp [laws_FnSignatures.j0] at h, fun _ _ _ _ _ _ _ _ _ _ _ _ r h => by simp [laws_FnSignatures.l0] at h⟩
  | k + 1 => by
    obtain ⟨ih0, ih1⟩ := laws_FnSignatures.mono_l k
    refine ⟨?_, ?_⟩
    · intro y0 y1 y2 y3 y4 y5 y6 y7 y8 y9 y10 y11
      unfold laws_FnSignatures.j0
      repeat' first
      | (with_reducible exact ih0 _ _ _ _ _ _ _ _ _ _ _ _)
      | (with_reducible exact ih1 _ _ _ _ _ _ _ _ _ _ _ _)
      | (with_reducible exact impl_GatherPages.mono _ _ _ _)
      | (with_reducible exact laws_likeInts.mono _ _ _)
      | (with_reducible exact spec_DrawGatherPages.mono _ _)
      | (with_reducible exact spec_DrawSignatureOf.mono _ _)
      | (with_reducible exact spec_GatherPages.mono _ _ _ _)
      | (with_reducible exact spec_IsUnit.mono _ _)
      | (with_reducible exact spec_SignatureCount.mono _ _ _)
      | (with_reducible exact spec_SignatureOf.mono _ _ _ _)
      | (with_reducible exact LeO.refl _)
      | (with_reducible exact LeO.none _)
      | (with_reducible refine LeO.ite ?_ ?_)
      | (with_reducible refine LeO.bind ?_ (fun _ => ?_))
      | exact ih0 _ _ _ _ _ _ _ _ _ _ _ _
      | exact ih1 _ _ _ _ _ _ _ _ _ _ _ _
      | exact impl_GatherPages.mono _ _ _ _
      | exact laws_likeInts.mono _ _ _
      | exact spec_DrawGatherPages.mono _ _
      | exact spec_DrawSignatureOf.mono _ _
      | exact spec_GatherPages.mono _ _ _ _
      | exact spec_IsUnit.mono _ _
      | exact spec_SignatureCount.mono _ _ _
      | exact spec_SignatureOf.mono _ _ _ _
      | exact LeO.none _
      | refine LeO.ite ?_ ?_
      | refine LeO.bind ?_ (fun _ => ?_)
    · intro y0 y1 y2 y3 y4 y5 y6 y7 y8 y9 y10 y11
      unfold laws_FnSignatures.l0
      repeat' first
      | (with_reducible exact ih0 _ _ _ _ _ _ _ _ _ _ _ _)
      | (with_reducible exact ih1 _ _ _ _ _ _ _ _ _ _ _ _)
      | (with_reducible exact impl_GatherPages.mono _ _ _ _)
      | (with_reducible exact laws_likeInts.mono _ _ _)
      | (with_reducible exact spec_DrawGatherPages.mono _ _)
      | (with_reducible exact spec_DrawSignatureOf.mono _ _)
      | (with_reducible exact spec_GatherPages.mono _ _ _ _)
      | (with_reducible exact spec_IsUnit.mono _ _)
      | (with_reducible exact spec_SignatureCount.mono _ _ _)
      | (with_reducible exact spec_SignatureOf.mono _ _ _ _)
      | (with_reducible exact LeO.refl _)
      | (with_reducible exact LeO.none _)
      | (with_reducible refine LeO.ite ?_ ?_)
      | (with_reducible refine LeO.bind ?_ (fun _ => ?_))
      | exact ih0 _ _ _ _ _ _ _ _ _ _ _ _
      | exact ih1 _ _ _ _ _ _ _ _ _ _ _ _
      | exact impl_GatherPages.mono _ _ _ _
      | exact laws_likeInts.mono _ _ _
      | exact spec_DrawGatherPages.mono _ _
      | exact spec_DrawSignatureOf.mono _ _
      | exact spec_GatherPages.mono _ _ _ _
      | exact spec_IsUnit.mono _ _
      | exact spec_SignatureCount.mono _ _ _
      | exact spec_SignatureOf.mono _ _ _ _
      | exact LeO.none _
      | refine LeO.ite ?_ ?_
      | refine LeO.bind ?_ (fun _ => ?_)
theorem laws_FnSignatures.mono : ∀ a0 k, LeO (laws_FnSignatures.f k a0) (laws_FnSignatures.f (k + 1) a0) := by
  intro a0 k
  obtain ⟨ih0, ih1⟩ := laws_FnSignatures.mono_l k
  unfold laws_FnSignatures.f
  repeat' first
      | (with_reducible exact ih0 _ _ _ _ _ _ _ _ _ _ _ _)
      | (with_reducible exact ih1 _ _ _ _ _ _ _ _ _ _ _ _)
      | (with_reducible exact impl_GatherPages.mono _ _ _ _)
      | (with_reducible exact laws_likeInts.mono _ _ _)
      | (with_reducible exact spec_DrawGatherPages.mono _ _)
      | (with_reducible exact spec_DrawSignatureOf.mono _ _)
      | (with_reducible exact spec_GatherPages.mono _ _ _ _)
      | (with_reducible exact spec_IsUnit.mono _ _)
      | (with_reducible exact spec_SignatureCount.mono _ _ _)
      | (with_reducible exact spec_SignatureOf.mono _ _ _ _)
      | (with_reducible exact LeO.refl _)
      | (with_reducible exact LeO.none _)
      | (with_reducible refine LeO.ite ?_ ?_)
      | (with_reducible refine LeO.bind ?_ (fun _ => ?_))
      | exact ih0 _ _ _ _ _ _ _ _ _ _ _ _
      | exact ih1 _ _ _ _ _ _ _ _ _ _ _ _
      | exact impl_GatherPages.mono _ _ _ _
      | exact laws_likeInts.mono _ _ _
      | exact spec_DrawGatherPages.mono _ _
      | exact spec_DrawSignatureOf.mono _ _
      | exact spec_GatherPages.mono _ _ _ _
      | exact spec_IsUnit.mono _ _
      | exact spec_SignatureCount.mono _ _ _
      | exact spec_SignatureOf.mono _ _ _ _
      | exact LeO.none _
      | refine LeO.ite ?_ ?_
      | refine LeO.bind ?_ (fun _ => ?_)
set_option maxHeartbeats 8000000 in
set_option maxRecDepth 100000 in
theorem laws_FnSignatures.calls (k : Nat) (A0 : Option Addr) (c0 : Nat) (l0 : List Int) (r : Bool) (w : World) (hr0 : Kd.C (Kd.int .u8) w A0 l0.length l0) (hc0 : l0.length ≤ c0) (h : laws_FnSignatures.f k l0 = some r) :
    Calls Try.prog 8 #[.slice A0 l0.length c0] w fun e w' => e = .returned (.bool r) ∧ Below w.heap.size w w' := by
  have HR0 := Aside0.mk hr0
  have HC0 := Aside0.mk hc0
  clear hr0 hc0
  have HB := Aside0.mk (Below.refl w.heap.size w)
  have H : ((laws_big.f l0).bind fun t280 => (if t280 = true then (some true) else ((spec_DrawSignatureOf.f k l0).bind fun bt281 => ((impl_SignatureOf.f bt281.1 bt281.2.1 bt281.2.2).bind fun bt284 => ((spec_SignatureOf.f k bt281.1 bt281.2.1 bt281.2.2).bind fun bt287 => ((impl_SignatureCount.f bt281.1 bt281.2.1).bind fun bt290 => ((spec_SignatureCount.f k bt281.1 bt281.2.1).bind fun bt292 => ((spec_DrawGatherPages.f k l0).bind fun bt294 => ((impl_GatherPages.f k bt294.1 bt294.2.1 bt294.2.2).bind fun bt299 => ((spec_GatherPages.f k bt294.1 bt294.2.1 bt294.2.2).bind fun bt303 => (if bt284.2.2 = bt287.2.2 then (if bt284.1 = bt287.1 then (if bt284.2.1 = bt287.2.1 then (if bt290.2 = bt292.2 then (if bt290.1 = bt292.1 then (if bt299.2 = bt303.2 then ((laws_likeInts.f k bt299.1 bt303.1).bind fun t307 => (if t307 = true then ((impl_IsUnit.f bt281.2.1).bind fun t308 => ((spec_IsUnit.f k bt281.2.1).bind fun t309 => (laws_FnSignatures.j0 k bt281.2.1 bt281.2.2 bt284.1 bt284.2.1 bt284.2.2 bt290.1 bt294.1 bt294.2.1 bt294.2.2 bt299.1 bt299.2 (t308 != t309)))) else (none))) else (none)) else (none)) else (none)) else (none)) else (none)) else (none)))))))))))) = some r := h
  clear h
  replace H := Option.bind_eq_some_iff.mp H
  obtain ⟨t280, A20, H⟩ := H
  replace H : (if t280 = true then (some true) else ((spec_DrawSignatureOf.f k l0).bind fun bt281 => ((impl_SignatureOf.f bt281.1 bt281.2.1 bt281.2.2).bind fun bt284 => ((spec_SignatureOf.f k bt281.1 bt281.2.1 bt281.2.2).bind fun bt287 => ((impl_SignatureCount.f bt281.1 bt281.2.1).bind fun bt290 => ((spec_SignatureCount.f k bt281.1 bt281.2.1).bind fun bt292 => ((spec_DrawGatherPages.f k l0).bind fun bt294 => ((impl_GatherPages.f k bt294.1 bt294.2.1 bt294.2.2).bind fun bt299 => ((spec_GatherPages.f k bt294.1 bt294.2.1 bt294.2.2).bind fun bt303 => (if bt284.2.2 = bt287.2.2 then (if bt284.1 = bt287.1 then (if bt284.2.1 = bt287.2.1 then (if bt290.2 = bt292.2 then (if bt290.1 = bt292.1 then (if bt299.2 = bt303.2 then ((laws_likeInts.f k bt299.1 bt303.1).bind fun t307 => (if t307 = true then ((impl_IsUnit.f bt281.2.1).bind fun t308 => ((spec_IsUnit.f k bt281.2.1).bind fun t309 => (laws_FnSignatures.j0 k bt281.2.1 bt281.2.2 bt284.1 bt284.2.1 bt284.2.2 bt290.1 bt294.1 bt294.2.1 bt294.2.2 bt299.1 bt299.2 (t308 != t309)))) else (none))) else (none)) else (none)) else (none)) else (none)) else (none)) else (none))))))))))) = some r := H
  have A2 := Aside0.mk A20
  clear A20
  by_cases c3 : t280 = true
  · subst c3
    have H1 : (some true) = some r := by rw [if_pos rfl] at H; exact H
    clear H
    have H := H1
    clear H1
    obtain rfl := Option.some.inj H
    go_enter Try.func8, Try.ntmps8
    go_wp2_with (first | ((with_reducible refine gate_callee (f := 13) rfl ?_); refine goesL_ (some 29) rfl rfl Try.func13 (by kernel_rfl) rfl #[.slice A0 l0.length c0] rfl (by (try simp only [List.map_toArray, List.map_cons, List.map_nil]); first | done | rfl | (simp only [List.length_drop, List.length_take]; rfl)) ?_; (with_reducible refine (laws_big.calls _ _ l0 true _ ?side1 ?side2 A2.out).mono ?_); (case side1 => repeat (first | exact HR0.out | (with_reducible refine Kd.C_alloc ?_ _) | (with_reducible refine Kd.C_drewN ?_ _) | (with_reducible refine Kd.C_drew ?_))); (case side2 => exact HC0.out); rintro e w' ⟨rfl, ⟨nd, rfl⟩⟩; refine ⟨_, rfl, ?_⟩))
    go_ret
    exact ⟨by first | rfl | (simp [errW_none, errW_some] <;> rfl) | (simp [*, errW_none, errW_some] <;> rfl), by repeat (first | (with_reducible first | exact HB.out | apply below_alloc | apply pw_below_drewN | apply below_drew1) | exact HB.out)⟩
  · replace c3 := Bool.eq_false_iff.mpr c3
    subst c3
    have H1 : ((spec_DrawSignatureOf.f k l0).bind fun bt281 => ((impl_SignatureOf.f bt281.1 bt281.2.1 bt281.2.2).bind fun bt284 => ((spec_SignatureOf.f k bt281.1 bt281.2.1 bt281.2.2).bind fun bt287 => ((impl_SignatureCount.f bt281.1 bt281.2.1).bind fun bt290 => ((spec_SignatureCount.f k bt281.1 bt281.2.1).bind fun bt292 => ((spec_DrawGatherPages.f k l0).bind fun bt294 => ((impl_GatherPages.f k bt294.1 bt294.2.1 bt294.2.2).bind fun bt299 => ((spec_GatherPages.f k bt294.1 bt294.2.1 bt294.2.2).bind fun bt303 => (if bt284.2.2 = bt287.2.2 then (if bt284.1 = bt287.1 then (if bt284.2.1 = bt287.2.1 then (if bt290.2 = bt292.2 then (if bt290.1 = bt292.1 then (if bt299.2 = bt303.2 then ((laws_likeInts.f k bt299.1 bt303.1).bind fun t307 => (if t307 = true then ((impl_IsUnit.f bt281.2.1).bind fun t308 => ((spec_IsUnit.f k bt281.2.1).bind fun t309 => (laws_FnSignatures.j0 k bt281.2.1 bt281.2.2 bt284.1 bt284.2.1 bt284.2.2 bt290.1 bt294.1 bt294.2.1 bt294.2.2 bt299.1 bt299.2 (t308 != t309)))) else (none))) else (none)) else (none)) else (none)) else (none)) else (none)) else (none)))))))))) = some r := by rw [if_neg (show ¬ (false = true) by decide)] at H; exact H
    clear H
    have H := H1
    clear H1
    replace H := Option.bind_eq_some_iff.mp H
    obtain ⟨⟨t281, t282, t283⟩, A40, H⟩ := H
    replace H : ((impl_SignatureOf.f t281 t282 t283).bind fun bt284 => ((spec_SignatureOf.f k t281 t282 t283).bind fun bt287 => ((impl_SignatureCount.f t281 t282).bind fun bt290 => ((spec_SignatureCount.f k t281 t282).bind fun bt292 => ((spec_DrawGatherPages.f k l0).bind fun bt294 => ((impl_GatherPages.f k bt294.1 bt294.2.1 bt294.2.2).bind fun bt299 => ((spec_GatherPages.f k bt294.1 bt294.2.1 bt294.2.2).bind fun bt303 => (if bt284.2.2 = bt287.2.2 then (if bt284.1 = bt287.1 then (if bt284.2.1 = bt287.2.1 then (if bt290.2 = bt292.2 then (if bt290.1 = bt292.1 then (if bt299.2 = bt303.2 then ((laws_likeInts.f k bt299.1 bt303.1).bind fun t307 => (if t307 = true then ((impl_IsUnit.f t282).bind fun t308 => ((spec_IsUnit.f k t282).bind fun t309 => (laws_FnSignatures.j0 k t282 t283 bt284.1 bt284.2.1 bt284.2.2 bt290.1 bt294.1 bt294.2.1 bt294.2.2 bt299.1 bt299.2 (t308 != t309)))) else (none))) else (none)) else (none)) else (none)) else (none)) else (none)) else (none))))))))) = some r := H
    have A4 := Aside0.mk A40
    clear A40
    replace H := Option.bind_eq_some_iff.mp H
    obtain ⟨⟨t284, t285, t286⟩, A50, H⟩ := H
    replace H : ((spec_SignatureOf.f k t281 t282 t283).bind fun bt287 => ((impl_SignatureCount.f t281 t282).bind fun bt290 => ((spec_SignatureCount.f k t281 t282).bind fun bt292 => ((spec_DrawGatherPages.f k l0).bind fun bt294 => ((impl_GatherPages.f k bt294.1 bt294.2.1 bt294.2.2).bind fun bt299 => ((spec_GatherPages.f k bt294.1 bt294.2.1 bt294.2.2).bind fun bt303 => (if t286 = bt287.2.2 then (if t284 = bt287.1 then (if t285 = bt287.2.1 then (if bt290.2 = bt292.2 then (if bt290.1 = bt292.1 then (if bt299.2 = bt303.2 then ((laws_likeInts.f k bt299.1 bt303.1).bind fun t307 => (if t307 = true then ((impl_IsUnit.f t282).bind fun t308 => ((spec_IsUnit.f k t282).bind fun t309 => (laws_FnSignatures.j0 k t282 t283 t284 t285 t286 bt290.1 bt294.1 bt294.2.1 bt294.2.2 bt299.1 bt299.2 (t308 != t309)))) else (none))) else (none)) else (none)) else (none)) else (none)) else (none)) else (none)))))))) = some r := H
    have A5 := Aside0.mk A50
    clear A50
    replace H := Option.bind_eq_some_iff.mp H
    obtain ⟨⟨t287, t288, t289⟩, A60, H⟩ := H
    replace H : ((impl_SignatureCount.f t281 t282).bind fun bt290 => ((spec_SignatureCount.f k t281 t282).bind fun bt292 => ((spec_DrawGatherPages.f k l0).bind fun bt294 => ((impl_GatherPages.f k bt294.1 bt294.2.1 bt294.2.2).bind fun bt299 => ((spec_GatherPages.f k bt294.1 bt294.2.1 bt294.2.2).bind fun bt303 => (if t286 = t289 then (if t284 = t287 then (if t285 = t288 then (if bt290.2 = bt292.2 then (if bt290.1 = bt292.1 then (if bt299.2 = bt303.2 then ((laws_likeInts.f k bt299.1 bt303.1).bind fun t307 => (if t307 = true then ((impl_IsUnit.f t282).bind fun t308 => ((spec_IsUnit.f k t282).bind fun t309 => (laws_FnSignatures.j0 k t282 t283 t284 t285 t286 bt290.1 bt294.1 bt294.2.1 bt294.2.2 bt299.1 bt299.2 (t308 != t309)))) else (none))) else (none)) else (none)) else (none)) else (none)) else (none)) else (none))))))) = some r := H
    have A6 := Aside0.mk A60
    clear A60
    replace H := Option.bind_eq_some_iff.mp H
    obtain ⟨⟨t290, t291⟩, A70, H⟩ := H
    replace H : ((spec_SignatureCount.f k t281 t282).bind fun bt292 => ((spec_DrawGatherPages.f k l0).bind fun bt294 => ((impl_GatherPages.f k bt294.1 bt294.2.1 bt294.2.2).bind fun bt299 => ((spec_GatherPages.f k bt294.1 bt294.2.1 bt294.2.2).bind fun bt303 => (if t286 = t289 then (if t284 = t287 then (if t285 = t288 then (if t291 = bt292.2 then (if t290 = bt292.1 then (if bt299.2 = bt303.2 then ((laws_likeInts.f k bt299.1 bt303.1).bind fun t307 => (if t307 = true then ((impl_IsUnit.f t282).bind fun t308 => ((spec_IsUnit.f k t282).bind fun t309 => (laws_FnSignatures.j0 k t282 t283 t284 t285 t286 t290 bt294.1 bt294.2.1 bt294.2.2 bt299.1 bt299.2 (t308 != t309)))) else (none))) else (none)) else (none)) else (none)) else (none)) else (none)) else (none)))))) = some r := H
    have A7 := Aside0.mk A70
    clear A70
    replace H := Option.bind_eq_some_iff.mp H
    obtain ⟨⟨t292, t293⟩, A80, H⟩ := H
    replace H : ((spec_DrawGatherPages.f k l0).bind fun bt294 => ((impl_GatherPages.f k bt294.1 bt294.2.1 bt294.2.2).bind fun bt299 => ((spec_GatherPages.f k bt294.1 bt294.2.1 bt294.2.2).bind fun bt303 => (if t286 = t289 then (if t284 = t287 then (if t285 = t288 then (if t291 = t293 then (if t290 = t292 then (if bt299.2 = bt303.2 then ((laws_likeInts.f k bt299.1 bt303.1).bind fun t307 => (if t307 = true then ((impl_IsUnit.f t282).bind fun t308 => ((spec_IsUnit.f k t282).bind fun t309 => (laws_FnSignatures.j0 k t282 t283 t284 t285 t286 t290 bt294.1 bt294.2.1 bt294.2.2 bt299.1 bt299.2 (t308 != t309)))) else (none))) else (none)) else (none)) else (none)) else (none)) else (none)) else (none))))) = some r := H
    have A8 := Aside0.mk A80
    clear A80
    replace H := Option.bind_eq_some_iff.mp H
    obtain ⟨⟨t294, t295, t296⟩, A90, H⟩ := H
    replace H : ((impl_GatherPages.f k t294 t295 t296).bind fun bt299 => ((spec_GatherPages.f k t294 t295 t296).bind fun bt303 => (if t286 = t289 then (if t284 = t287 then (if t285 = t288 then (if t291 = t293 then (if t290 = t292 then (if bt299.2 = bt303.2 then ((laws_likeInts.f k bt299.1 bt303.1).bind fun t307 => (if t307 = true then ((impl_IsUnit.f t282).bind fun t308 => ((spec_IsUnit.f k t282).bind fun t309 => (laws_FnSignatures.j0 k t282 t283 t284 t285 t286 t290 t294 t295 t296 bt299.1 bt299.2 (t308 != t309)))) else (none))) else (none)) else (none)) else (none)) else (none)) else (none)) else (none)))) = some r := H
    have A9 := Aside0.mk A90
    clear A90
    replace H := Option.bind_eq_some_iff.mp H
    obtain ⟨⟨t299, t300⟩, A100, H⟩ := H
    replace H : ((spec_GatherPages.f k t294 t295 t296).bind fun bt303 => (if t286 = t289 then (if t284 = t287 then (if t285 = t288 then (if t291 = t293 then (if t290 = t292 then (if t300 = bt303.2 then ((laws_likeInts.f k t299 bt303.1).bind fun t307 => (if t307 = true then ((impl_IsUnit.f t282).bind fun t308 => ((spec_IsUnit.f k t282).bind fun t309 => (laws_FnSignatures.j0 k t282 t283 t284 t285 t286 t290 t294 t295 t296 t299 t300 (t308 != t309)))) else (none))) else (none)) else (none)) else (none)) else (none)) else (none)) else (none))) = some r := H
    have A10 := Aside0.mk A100
    clear A100
    replace H := Option.bind_eq_some_iff.mp H
    obtain ⟨⟨t303, t304⟩, A110, H⟩ := H
    replace H : (if t286 = t289 then (if t284 = t287 then (if t285 = t288 then (if t291 = t293 then (if t290 = t292 then (if t300 = t304 then ((laws_likeInts.f k t299 t303).bind fun t307 => (if t307 = true then ((impl_IsUnit.f t282).bind fun t308 => ((spec_IsUnit.f k t282).bind fun t309 => (laws_FnSignatures.j0 k t282 t283 t284 t285 t286 t290 t294 t295 t296 t299 t300 (t308 != t309)))) else (none))) else (none)) else (none)) else (none)) else (none)) else (none)) else (none)) = some r := H
    have A11 := Aside0.mk A110
    clear A110
    have HC12 := Aside0.mk H
    clear H
    go_enter Try.func8, Try.ntmps8
    go_upto_region 11 with (first | ((with_reducible refine gate_callee (f := 13) rfl ?_); refine goesL_ (some 29) rfl rfl Try.func13 (by kernel_rfl) rfl #[.slice A0 l0.length c0] rfl (by (try simp only [List.map_toArray, List.map_cons, List.map_nil]); first | done | rfl | (simp only [List.length_drop, List.length_take]; rfl)) ?_; (with_reducible refine (laws_big.calls _ _ l0 false _ ?side1 ?side2 A2.out).mono ?_); (case side1 => repeat (first | exact HR0.out | (with_reducible refine Kd.C_alloc ?_ _) | (with_reducible refine Kd.C_drewN ?_ _) | (with_reducible refine Kd.C_drew ?_))); (case side2 => exact HC0.out); rintro e w' ⟨rfl, ⟨nd, rfl⟩⟩; refine ⟨_, rfl, ?_⟩) | ((with_reducible refine gate_callee (f := 60) rfl ?_); refine goesL_ (some 32) rfl rfl Try.func60 (by kernel_rfl) rfl #[.slice A0 l0.length c0] rfl (by (try simp only [List.map_toArray, List.map_cons, List.map_nil]); first | done | rfl | (simp only [List.length_drop, List.length_take]; rfl)) ?_; (with_reducible refine (spec_DrawSignatureOf.calls k _ _ l0 t281 t282 t283 _ ?side1 ?side2 A4.out).mono ?_); (case side1 => repeat (first | exact HR0.out | (with_reducible refine Kd.C_alloc ?_ _) | (with_reducible refine Kd.C_drewN ?_ _) | (with_reducible refine Kd.C_drew ?_))); (case side2 => exact HC0.out); rintro e w13 ⟨rfl, hb⟩; refine ⟨_, rfl, ?_⟩; have n0_ := Aside0.mk (below_step (by repeat (first | (with_reducible first | exact HB.out | apply below_alloc | apply pw_below_drewN | apply below_drew1) | exact HB.out)) hb); clear HB; have HB := n0_; clear n0_; (try clear hb); (try clear hb2); (try clear hk); (try clear hi)) | ((with_reducible refine gate_callee (f := 61) rfl ?_); refine goesL_ (some 40) rfl rfl Try.func61 (by kernel_rfl) rfl #[.int .i64 t281, .int .i64 t282, .int .i64 t283] rfl (by (try simp only [List.map_toArray, List.map_cons, List.map_nil]); first | done | rfl | (simp only [List.length_drop, List.length_take]; rfl)) ?_; (with_reducible refine (impl_SignatureOf.calls t281 t282 t283 t284 t285 t286 _ A5.out).mono ?_); rintro e w' ⟨rfl, ⟨nd, rfl⟩⟩; refine ⟨_, rfl, ?_⟩) | ((with_reducible refine gate_callee (f := 62) rfl ?_); refine goesL_ (some 48) rfl rfl Try.func62 (by kernel_rfl) rfl #[.int .i64 t281, .int .i64 t282, .int .i64 t283] rfl (by (try simp only [List.map_toArray, List.map_cons, List.map_nil]); first | done | rfl | (simp only [List.length_drop, List.length_take]; rfl)) ?_; (with_reducible refine (spec_SignatureOf.calls k t281 t282 t283 t287 t288 t289 _ A6.out).mono ?_); rintro e w14 ⟨rfl, hb⟩; refine ⟨_, rfl, ?_⟩; have n0_ := Aside0.mk (below_step (by repeat (first | (with_reducible first | exact HB.out | apply below_alloc | apply pw_below_drewN | apply below_drew1) | exact HB.out)) hb); clear HB; have HB := n0_; clear n0_; (try clear hb); (try clear hb2); (try clear hk); (try clear hi)) | ((with_reducible refine gate_callee (f := 63) rfl ?_); refine goesL_ (some 55) rfl rfl Try.func63 (by kernel_rfl) rfl #[.int .i64 t281, .int .i64 t282] rfl (by (try simp only [List.map_toArray, List.map_cons, List.map_nil]); first | done | rfl | (simp only [List.length_drop, List.length_take]; rfl)) ?_; (with_reducible refine (impl_SignatureCount.calls t281 t282 t290 t291 _ A7.out).mono ?_); rintro e w' ⟨rfl, ⟨nd, rfl⟩⟩; refine ⟨_, rfl, ?_⟩) | ((with_reducible refine gate_callee (f := 64) rfl ?_); refine goesL_ (some 61) rfl rfl Try.func64 (by kernel_rfl) rfl #[.int .i64 t281, .int .i64 t282] rfl (by (try simp only [List.map_toArray, List.map_cons, List.map_nil]); first | done | rfl | (simp only [List.length_drop, List.length_take]; rfl)) ?_; (with_reducible refine (spec_SignatureCount.calls k t281 t282 t292 t293 _ A8.out).mono ?_); rintro e w15 ⟨rfl, hb⟩; refine ⟨_, rfl, ?_⟩; have n0_ := Aside0.mk (below_step (by repeat (first | (with_reducible first | exact HB.out | apply below_alloc | apply pw_below_drewN | apply below_drew1) | exact HB.out)) hb); clear HB; have HB := n0_; clear n0_; (try clear hb); (try clear hb2); (try clear hk); (try clear hi)) | ((with_reducible refine gate_callee (f := 65) rfl ?_); refine goesL_ (some 66) rfl rfl Try.func65 (by kernel_rfl) rfl #[.slice A0 l0.length c0] rfl (by (try simp only [List.map_toArray, List.map_cons, List.map_nil]); first | done | rfl | (simp only [List.length_drop, List.length_take]; rfl)) ?_; (with_reducible refine (spec_DrawGatherPages.calls k _ _ l0 t294 t295 t296 _ ?side1 ?side2 A9.out).mono ?_); (case side1 => repeat (first | exact (Kd.C_below HR0.out HB.out) | (with_reducible refine Kd.C_alloc ?_ _) | (with_reducible refine Kd.C_drewN ?_ _) | (with_reducible refine Kd.C_drew ?_))); (case side2 => exact HC0.out); rintro e w16 ⟨v297, rfl, ho0, hb⟩; refine ⟨_, rfl, ?_⟩; have n0_ := Aside0.mk (Kd.R_lower ho0 (below_size (by repeat (first | (with_reducible first | exact HB.out | apply below_alloc | apply pw_below_drewN | apply below_drew1) | exact HB.out)))); have n1_ := Aside0.mk (below_step (by repeat (first | (with_reducible first | exact HB.out | apply below_alloc | apply pw_below_drewN | apply below_drew1) | exact HB.out)) hb); clear HB; have HO298 := n0_; have HB := n1_; clear n0_ n1_; (try clear hb); (try clear hb2); (try clear hk); (try clear hi); (try clear ho0); obtain ⟨Ao17, co17, eo17⟩ := Kd.R_slice HO298.out; subst eo17) | ((with_reducible refine gate_callee (f := 66) rfl ?_); refine goesL_ (some 74) rfl rfl Try.func66 (by kernel_rfl) rfl #[.int .i64 t294, .int .i64 t295, .slice Ao17 t296.length co17] rfl (by (try simp only [List.map_toArray, List.map_cons, List.map_nil]); first | done | rfl | (simp only [List.length_drop, List.length_take]; rfl)) ?_; (with_reducible refine (impl_GatherPages.calls k t294 t295 _ _ t296 t299 t300 _ ?side1 ?side2 A10.out).mono ?_); (case side1 => repeat (first | exact (Kd.R_reads' HO298.out).2.2 | (with_reducible refine Kd.C_alloc ?_ _) | (with_reducible refine Kd.C_drewN ?_ _) | (with_reducible refine Kd.C_drew ?_))); (case side2 => exact (Kd.R_reads' HO298.out).2.1); rintro e w18 ⟨v301, rfl, ho0, hb⟩; refine ⟨_, rfl, ?_⟩; have n0_ := Aside0.mk (Kd.R_elder' (by (with_reducible repeat (first | apply Kd.R_alloc | apply Kd.R_drewN | apply Kd.R_drew)); exact HO298.out) (Kd.R_base ho0) hb); have n1_ := Aside0.mk (Kd.R_lower (Kd.R_new' ho0 (Kd.R_lt (by (with_reducible repeat (first | apply Kd.R_alloc | apply Kd.R_drewN | apply Kd.R_drew)); exact HO298.out))) (below_size (by repeat (first | (with_reducible first | exact HB.out | apply below_alloc | apply pw_below_drewN | apply below_drew1) | exact HB.out)))); have n2_ := Aside0.mk (below_step (by repeat (first | (with_reducible first | exact HB.out | apply below_alloc | apply pw_below_drewN | apply below_drew1) | exact HB.out)) hb); clear HO298; clear HB; have HO298 := n0_; have HO302 := n1_; have HB := n2_; clear n0_ n1_ n2_; (try clear hb); (try clear hb2); (try clear hk); (try clear hi); (try clear ho0)) | ((with_reducible refine gate_callee (f := 67) rfl ?_); refine goesL_ (some 81) rfl rfl Try.func67 (by kernel_rfl) rfl #[.int .i64 t294, .int .i64 t295, .slice Ao17 t296.length co17] rfl (by (try simp only [List.map_toArray, List.map_cons, List.map_nil]); first | done | rfl | (simp only [List.length_drop, List.length_take]; rfl)) ?_; (with_reducible refine (spec_GatherPages.calls k t294 t295 _ _ t296 t303 t304 _ ?side1 ?side2 A11.out).mono ?_); (case side1 => repeat (first | exact (Kd.R_reads' HO298.out).2.2 | (with_reducible refine Kd.C_alloc ?_ _) | (with_reducible refine Kd.C_drewN ?_ _) | (with_reducible refine Kd.C_drew ?_))); (case side2 => exact (Kd.R_reads' HO298.out).2.1); rintro e w19 ⟨v305, rfl, ho0, hb⟩; refine ⟨_, rfl, ?_⟩; have n0_ := Aside0.mk (Kd.R_elder' (by (with_reducible repeat (first | apply Kd.R_alloc | apply Kd.R_drewN | apply Kd.R_drew)); exact HO298.out) (Kd.R_base ho0) hb); have n1_ := Aside0.mk (Kd.R_elder' (by (with_reducible repeat (first | apply Kd.R_alloc | apply Kd.R_drewN | apply Kd.R_drew)); exact HO302.out) (Kd.R_base ho0) hb); have n2_ := Aside0.mk (Kd.R_lower (Kd.R_new' (Kd.R_new' ho0 (Kd.R_lt (by (with_reducible repeat (first | apply Kd.R_alloc | apply Kd.R_drewN | apply Kd.R_drew)); exact HO298.out))) (Kd.R_lt (by (with_reducible repeat (first | apply Kd.R_alloc | apply Kd.R_drewN | apply Kd.R_drew)); exact HO302.out))) (below_size (by repeat (first | (with_reducible first | exact HB.out | apply below_alloc | apply pw_below_drewN | apply below_drew1) | exact HB.out)))); have n3_ := Aside0.mk (below_step (by repeat (first | (with_reducible first | exact HB.out | apply below_alloc | apply pw_below_drewN | apply below_drew1) | exact HB.out)) hb); clear HO298; clear HO302; clear HB; have HO298 := n0_; have HO302 := n1_; have HO306 := n2_; have HB := n3_; clear n0_ n1_ n2_ n3_; (try clear hb); (try clear hb2); (try clear hk); (try clear hi); (try clear ho0)))
    (try simp only [Act.put, List.setIfInBounds_toArray, List.set_cons_zero, List.set_cons_succ])
    go_cut [124] (fun v124 wc => ∃ (kq : Nat) (x124_11 : Bool), v124 = .bool x124_11 ∧ Aside0 (laws_FnSignatures.j0 kq t282 t283 t284 t285 t286 t290 t294 t295 t296 t299 t300 x124_11 = some r) ∧ Aside0 (kq ≤ k) ∧ Aside0 (Kd.R (Kd.int .i64) 2 wc w.heap.size (fun k_ => some k_ ≠ (v301 : Value).ownBlock) (.slice Ao17 t296.length co17) t296) ∧ Aside0 (Kd.R (Kd.int .i64) 2 wc w.heap.size (fun k_ => some k_ ≠ ((.slice Ao17 t296.length co17) : Value).ownBlock) v301 t299) ∧ Aside0 (Below w.heap.size w wc))
    case first =>
      as_aux_lemma =>
        have H := HC12.out
        clear HC12
        by_cases c20 : t286 = t289
        · rw [if_pos c20] at H
          have c20b0 : (t286 == t289) = true := beq_iff_eq.mpr c20
          have c20b1 : (t286 != t289) = false := bne_eq_false_iff_eq.mpr c20
          clear c20
          (first | rw [c20b0] | (simp only [i64_w, i32_w]; rw [c20b0]) | skip)
          by_cases c21 : t284 = t287
          · rw [if_pos c21] at H
            have c21b0 : (t284 == t287) = true := beq_iff_eq.mpr c21
            have c21b1 : (t284 != t287) = false := bne_eq_false_iff_eq.mpr c21
            clear c21
            by_cases c22 : t285 = t288
            · rw [if_pos c22] at H
              have c22b0 : (t285 == t288) = true := beq_iff_eq.mpr c22
              have c22b1 : (t285 != t288) = false := bne_eq_false_iff_eq.mpr c22
              clear c22
              by_cases c23 : t291 = t293
              · rw [if_pos c23] at H
                have c23b0 : (t291 == t293) = true := beq_iff_eq.mpr c23
                have c23b1 : (t291 != t293) = false := bne_eq_false_iff_eq.mpr c23
                clear c23
                by_cases c24 : t290 = t292
                · rw [if_pos c24] at H
                  have c24b0 : (t290 == t292) = true := beq_iff_eq.mpr c24
                  have c24b1 : (t290 != t292) = false := bne_eq_false_iff_eq.mpr c24
                  clear c24
                  by_cases c25 : t300 = t304
                  · rw [if_pos c25] at H
                    have c25b0 : (t300 == t304) = true := beq_iff_eq.mpr c25
                    have c25b1 : (t300 != t304) = false := bne_eq_false_iff_eq.mpr c25
                    clear c25
                    replace H := Option.bind_eq_some_iff.mp H
                    obtain ⟨t307, A260, H⟩ := H
                    replace H : (if t307 = true then ((impl_IsUnit.f t282).bind fun t308 => ((spec_IsUnit.f k t282).bind fun t309 => (laws_FnSignatures.j0 k t282 t283 t284 t285 t286 t290 t294 t295 t296 t299 t300 (t308 != t309)))) else (none)) = some r := H
                    have A26 := Aside0.mk A260
                    clear A260
                    by_cases c27 : t307 = true
                    · subst c27
                      have H1 : ((impl_IsUnit.f t282).bind fun t308 => ((spec_IsUnit.f k t282).bind fun t309 => (laws_FnSignatures.j0 k t282 t283 t284 t285 t286 t290 t294 t295 t296 t299 t300 (t308 != t309)))) = some r := by rw [if_pos rfl] at H; exact H
                      clear H
                      have H := H1
                      clear H1
                      replace H := Option.bind_eq_some_iff.mp H
                      obtain ⟨t308, A280, H⟩ := H
                      replace H : ((spec_IsUnit.f k t282).bind fun t309 => (laws_FnSignatures.j0 k t282 t283 t284 t285 t286 t290 t294 t295 t296 t299 t300 (t308 != t309))) = some r := H
                      have A28 := Aside0.mk A280
                      clear A280
                      replace H := Option.bind_eq_some_iff.mp H
                      obtain ⟨t309, A290, H⟩ := H
                      replace H : (laws_FnSignatures.j0 k t282 t283 t284 t285 t286 t290 t294 t295 t296 t299 t300 (t308 != t309)) = some r := H
                      have A29 := Aside0.mk A290
                      clear A290
                      have H' := Aside0.mk H
                      clear H
                      obtain ⟨Ao30, co30, eo30⟩ := Kd.R_slice HO302.out
                      subst eo30
                      obtain ⟨Ao31, co31, eo31⟩ := Kd.R_slice HO306.out
                      subst eo31
                      go_wp2_with (first | (go_at_call 22; (with_reducible refine (laws_likeInts.calls k _ _ t299 _ _ t303 true _ ?side1 ?side2 ?side3 ?side4 A26.out).mono ?_); (case side1 => repeat (first | exact (Kd.R_reads' HO302.out).2.2 | (with_reducible refine Kd.C_alloc ?_ _) | (with_reducible refine Kd.C_drewN ?_ _) | (with_reducible refine Kd.C_drew ?_))); (case side2 => exact (Kd.R_reads' HO302.out).2.1); (case side3 => repeat (first | exact (Kd.R_reads' HO306.out).2.2 | (with_reducible refine Kd.C_alloc ?_ _) | (with_reducible refine Kd.C_drewN ?_ _) | (with_reducible refine Kd.C_drew ?_))); (case side4 => exact (Kd.R_reads' HO306.out).2.1); rintro e w' ⟨rfl, ⟨nd, rfl⟩⟩) | (go_at_call 68; (with_reducible refine (impl_IsUnit.calls t282 t308 _ A28.out).mono ?_); rintro e w' ⟨rfl, ⟨nd, rfl⟩⟩) | (go_at_call 69; (with_reducible refine (spec_IsUnit.calls k t282 t309 _ A29.out).mono ?_); rintro e w32 ⟨rfl, hb⟩; have n0_ := Aside0.mk (Kd.R_below (by (with_reducible repeat (first | apply Kd.R_alloc | apply Kd.R_drewN | apply Kd.R_drew)); exact HO298.out) hb); have n1_ := Aside0.mk (Kd.R_below (by (with_reducible repeat (first | apply Kd.R_alloc | apply Kd.R_drewN | apply Kd.R_drew)); exact HO302.out) hb); have n2_ := Aside0.mk (Kd.R_below (by (with_reducible repeat (first | apply Kd.R_alloc | apply Kd.R_drewN | apply Kd.R_drew)); exact HO306.out) hb); have n3_ := Aside0.mk (below_step (by repeat (first | (with_reducible first | exact HB.out | apply below_alloc | apply pw_below_drewN | apply below_drew1) | exact HB.out)) hb); clear HO298; clear HO302; clear HO306; clear HB; have HO298 := n0_; have HO302 := n1_; have HO306 := n2_; have HB := n3_; clear n0_ n1_ n2_ n3_; (try clear hb); (try clear hb2); (try clear hk); (try clear hi)))
                      go_meet
                      case rel => exact ⟨_, ((t308 != t309)), (by first | rfl | (simp; done) | (simp [*]; done)), H', ⟨by first | omega | exact Nat.le_refl _⟩, ⟨by (with_reducible repeat (first | apply Kd.R_alloc | apply Kd.R_drewN | apply Kd.R_drew)); exact Kd.R_mono HO298.out (fun _ hk => hk.1.2)⟩, ⟨by (with_reducible repeat (first | apply Kd.R_alloc | apply Kd.R_drewN | apply Kd.R_drew)); exact Kd.R_mono HO302.out (fun _ hk => hk.1.2)⟩, ⟨by repeat (first | (with_reducible first | exact HB.out | apply below_alloc | apply pw_below_drewN | apply below_drew1) | exact HB.out)⟩⟩
                    · replace c27 := Bool.eq_false_iff.mpr c27
                      subst c27
                      have H1 : (none) = some r := by rw [if_neg (show ¬ (false = true) by decide)] at H; exact H
                      clear H
                      have H := H1
                      clear H1
                      exact absurd H (by simp)
                  · rw [if_neg c25] at H
                    exact absurd H (by simp)
                · rw [if_neg c24] at H
                  exact absurd H (by simp)
              · rw [if_neg c23] at H
                exact absurd H (by simp)
            · rw [if_neg c22] at H
              exact absurd H (by simp)
          · rw [if_neg c21] at H
            exact absurd H (by simp)
        · rw [if_neg c20] at H
          exact absurd H (by simp)
    case rest =>
      as_aux_lemma =>
        clear HC12
        (try clear c1); (try clear c2); (try clear p2); (try clear c3); (try clear c6); (try clear c8); (try clear c13); (try clear c20); (try clear c20b0); (try clear c20b1); (try clear c21); (try clear c21b0); (try clear c21b1); (try clear c22); (try clear c22b0); (try clear c22b1); (try clear c23); (try clear c23b0); (try clear c23b1); (try clear c24); (try clear c24b0); (try clear c24b1); (try clear c25); (try clear c25b0); (try clear c25b1); (try clear c27)
        obtain ⟨kq, x124_11, rfl, HA, HJ11, HO_18, HO_19, HB⟩ := hcut
        cases kq with
        | zero => exact absurd HA.out (by simp [laws_FnSignatures.j0])
        | succ kj11 =>
          have H := HA.out
          clear HA
          simp only [laws_FnSignatures.j0] at H
          by_cases c35 : x124_11 = true
          · subst c35
            have H1 : (none) = some r := by rw [if_pos rfl] at H; exact H
            clear H
            have H := H1
            clear H1
            exact absurd H (by simp)
          · replace c35 := Bool.eq_false_iff.mpr c35
            subst c35
            have H1 : (if t300 = 0 then (laws_FnSignatures.l0 kj11 t282 t283 t284 t285 t286 t290 t294 t295 t296 t299 0 0) else (if t286 = 0 then (if (wrap64 ((wrap64 (t284 * t282)) + t285)) = t283 then (if t284 < t290 then (some (decide (t285 ≤ t282))) else (none)) else (none)) else (some true))) = some r := by rw [if_neg (show ¬ (false = true) by decide)] at H; exact H
            clear H
            have H := H1
            clear H1
            by_cases c36 : t300 = 0
            · rw [if_pos c36] at H
              have c36b0 : (t300 == 0) = true := beq_iff_eq.mpr c36
              have c36b1 : (t300 != 0) = false := bne_eq_false_iff_eq.mpr c36
              clear c36
              have H' := Aside0.mk H
              clear H
              go_wp2
              go_loopg [23, 24] kj11 (fun kq v23 v24 w' => ∃ (x23_2 : Int) (x24_2 : Int), v23 = .int .i64 x23_2 ∧ v24 = .int .i64 x24_2 ∧ Aside0 (laws_FnSignatures.l0 kq t282 t283 t284 t285 t286 t290 t294 t295 t296 t299 x23_2 x24_2 = some r) ∧ Aside0 (kq ≤ kj11) ∧ Aside0 (Kd.R (Kd.int .i64) 2 w' w.heap.size (fun k_ => some k_ ≠ (v301 : Value).ownBlock) (.slice Ao17 t296.length co17) t296) ∧ Aside0 (Kd.R (Kd.int .i64) 2 w' w.heap.size (fun k_ => some k_ ≠ ((.slice Ao17 t296.length co17) : Value).ownBlock) v301 t299) ∧ Aside0 (Below w.heap.size w w'))
              case atStart => exact ⟨(0), (0), (by first | rfl | (simp; done) | (simp [*]; done)), (by first | rfl | (simp; done) | (simp [*]; done)), H', ⟨Nat.le_refl _⟩, ⟨by (with_reducible repeat (first | apply Kd.R_alloc | apply Kd.R_drewN | apply Kd.R_drew)); exact HO_18.out⟩, ⟨by (with_reducible repeat (first | apply Kd.R_alloc | apply Kd.R_drewN | apply Kd.R_drew)); exact HO_19.out⟩, ⟨by repeat (first | (with_reducible first | exact HB.out | apply below_alloc | apply pw_below_drewN | apply below_drew1) | exact HB.out)⟩⟩
              case round =>
                as_aux_lemma =>
                  clear H'
                  (try clear c1); (try clear c2); (try clear p2); (try clear c3); (try clear c6); (try clear p6); (try clear c8); (try clear c13); (try clear c20); (try clear c20b0); (try clear c20b1); (try clear c21); (try clear c21b0); (try clear c21b1); (try clear c22); (try clear c22b0); (try clear c22b1); (try clear c23); (try clear c23b0); (try clear c23b1); (try clear c24); (try clear c24b0); (try clear c24b1); (try clear c25); (try clear c25b0); (try clear c25b1); (try clear c27); (try clear c35); (try clear c36); (try clear c36b0); (try clear c36b1); (try clear p2)
                  obtain ⟨x23_2, x24_2, rfl, rfl, HA, HK2, HO_18, HO_19, HB⟩ := hrel
                  cases gk with
                  | zero => exact absurd HA.out (by simp [laws_FnSignatures.l0])
                  | succ k2 =>
                    have H := HA.out
                    clear HA
                    simp only [laws_FnSignatures.l0] at H
                    by_cases c37 : x24_2 < (t299.length : Int)
                    · rw [if_pos c37] at H
                      have c37b0 : decide (x24_2 < (t299.length : Int)) = true := decide_eq_true c37
                      clear c37
                      by_cases c38 : 0 ≤ x24_2
                      · rw [if_pos c38] at H
                        have c38b0 : decide (0 ≤ x24_2) = true := decide_eq_true c38
                        clear c38
                        by_cases c39 : (rd t299 x24_2) = 0
                        · rw [if_pos c39] at H
                          have c39b0 : ((rd t299 x24_2) == 0) = true := beq_iff_eq.mpr c39
                          have c39b1 : ((rd t299 x24_2) != 0) = false := bne_eq_false_iff_eq.mpr c39
                          clear c39
                          have H' := Aside0.mk H
                          clear H
                          obtain ⟨Ao40, co40, eo40⟩ := Kd.R_slice HO_19.out
                          subst eo40
                          have p310 : 0 ≤ (x24_2 : Int) := of_decide_eq_true (by first | (with_reducible assumption) | assumption)
                          have q310 : x24_2 < (t299.length : Int) := of_decide_eq_true (by first | (with_reducible assumption) | assumption)
                          obtain ⟨ad310, e310, hx310_0⟩ := Kd.at_int (Kd.R_reads' HO_19.out).2.2 x24_2 p310 q310
                          cases e310
                          replace p310 := eq_true p310
                          replace q310 := eq_true q310
                          go_wp2
                          go_roundg k2
                          case measure => have := HJ11.out; have := HK2.out; omega
                          case rel => exact ⟨(wrap64 (x23_2 + 1)), (wrap64 (x24_2 + 1)), (by first | rfl | (simp; done) | (simp [*]; done)), (by first | rfl | (simp; done) | (simp [*]; done)), H', ⟨by have := HJ11.out; have := HK2.out; omega⟩, ⟨by (with_reducible repeat (first | apply Kd.R_alloc | apply Kd.R_drewN | apply Kd.R_drew)); exact HO_18.out⟩, ⟨by (with_reducible repeat (first | apply Kd.R_alloc | apply Kd.R_drewN | apply Kd.R_drew)); exact HO_19.out⟩, ⟨by repeat (first | (with_reducible first | exact HB.out | apply below_alloc | apply pw_below_drewN | apply below_drew1) | exact HB.out)⟩⟩
                        · rw [if_neg c39] at H
                          have c39b0 : ((rd t299 x24_2) == 0) = false := beq_eq_false_iff_ne.mpr c39
                          have c39b1 : ((rd t299 x24_2) != 0) = true := bne_iff_ne.mpr c39
                          replace H := Option.bind_eq_some_iff.mp H
                          obtain ⟨⟨t312, t313, t314⟩, A410, H⟩ := H
                          replace H : (if t314 = 0 then (if t295 = 0 then (none) else (if 0 ≤ (wrap64 (Int.tdiv x24_2 t295)) then (if (wrap64 (Int.tdiv x24_2 t295)) < (t296.length : Int) then (if t312 = (rd t296 (wrap64 (Int.tdiv x24_2 t295))) then (if t313 = (wrap64 ((Int.tmod x24_2 t295) + 1)) then (laws_FnSignatures.l0 k2 t282 t283 t284 t285 t286 t290 t294 t295 t296 t299 x23_2 (wrap64 (x24_2 + 1))) else (none)) else (none)) else (none)) else (none))) else (none)) = some r := H
                          have A41 := Aside0.mk A410
                          clear A410
                          by_cases c42 : t314 = 0
                          · rw [if_pos c42] at H
                            have c42b0 : (t314 == 0) = true := beq_iff_eq.mpr c42
                            have c42b1 : (t314 != 0) = false := bne_eq_false_iff_eq.mpr c42
                            clear c42
                            by_cases c43 : t295 = 0
                            · rw [if_pos c43] at H
                              exact absurd H (by simp)
                            · rw [if_neg c43] at H
                              have c43b0 : (t295 == 0) = false := beq_eq_false_iff_ne.mpr c43
                              have c43b1 : (t295 != 0) = true := bne_iff_ne.mpr c43
                              obtain ⟨ji44, hji44⟩ : ∃ j_ : Int, (wrap64 (Int.tdiv x24_2 t295)) = j_ := ⟨_, rfl⟩
                              replace H : (if 0 ≤ (ji44) then (if (ji44) < (t296.length : Int) then (if t312 = (rd t296 (ji44)) then (if t313 = (wrap64 ((Int.tmod x24_2 t295) + 1)) then (laws_FnSignatures.l0 k2 t282 t283 t284 t285 t286 t290 t294 t295 t296 t299 x23_2 (wrap64 (x24_2 + 1))) else (none)) else (none)) else (none)) else (none)) = some r := by first | (rw [hji44] at H; exact H) | (simp only [hji44] at H ⊢; exact H)
                              (try rw [hji44] at A41)
                              have hji44w : (IntKind.i64.wrap (Int.tdiv x24_2 t295)) = ji44 := (i64_w _).trans hji44
                              by_cases c45 : 0 ≤ (ji44)
                              · rw [if_pos c45] at H
                                have c45b0 : decide (0 ≤ (ji44)) = true := decide_eq_true c45
                                clear c45
                                by_cases c46 : (ji44) < (t296.length : Int)
                                · rw [if_pos c46] at H
                                  have c46b0 : decide ((ji44) < (t296.length : Int)) = true := decide_eq_true c46
                                  clear c46
                                  by_cases c47 : t312 = (rd t296 (ji44))
                                  · rw [if_pos c47] at H
                                    have c47b0 : (t312 == (rd t296 (ji44))) = true := beq_iff_eq.mpr c47
                                    have c47b1 : (t312 != (rd t296 (ji44))) = false := bne_eq_false_iff_eq.mpr c47
                                    clear c47
                                    by_cases c48 : t313 = (wrap64 ((Int.tmod x24_2 t295) + 1))
                                    · rw [if_pos c48] at H
                                      have c48b0 : (t313 == (wrap64 ((Int.tmod x24_2 t295) + 1))) = true := beq_iff_eq.mpr c48
                                      have c48b1 : (t313 != (wrap64 ((Int.tmod x24_2 t295) + 1))) = false := bne_eq_false_iff_eq.mpr c48
                                      clear c48
                                      have H' := Aside0.mk H
                                      clear H
                                      obtain ⟨Ao49, co49, eo49⟩ := Kd.R_slice HO_19.out
                                      subst eo49
                                      have p310 : 0 ≤ (x24_2 : Int) := of_decide_eq_true (by first | (with_reducible assumption) | assumption)
                                      have q310 : x24_2 < (t299.length : Int) := of_decide_eq_true (by first | (with_reducible assumption) | assumption)
                                      obtain ⟨ad310, e310, hx310_0⟩ := Kd.at_int (Kd.R_reads' HO_19.out).2.2 x24_2 p310 q310
                                      cases e310
                                      replace p310 := eq_true p310
                                      replace q310 := eq_true q310
                                      have p311 : 0 ≤ (x24_2 : Int) := of_decide_eq_true (by first | (with_reducible assumption) | assumption)
                                      have q311 : x24_2 < (t299.length : Int) := of_decide_eq_true (by first | (with_reducible assumption) | assumption)
                                      obtain ⟨ad311, e311, hx311_0⟩ := Kd.at_int (Kd.R_reads' HO_19.out).2.2 x24_2 p311 q311
                                      obtain rfl : ad310 = ad311 := (by injection e311)
                                      replace p311 := eq_true p311
                                      replace q311 := eq_true q311
                                      go_wp2_with (first | ((with_reducible refine gate_callee (f := 61) rfl ?_); refine goesL_ (some 147) rfl rfl Try.func61 (by kernel_rfl) rfl #[.int .i64 t294, .int .i64 t295, .int .i64 (rd t299 x24_2)] rfl (by (try simp only [List.map_toArray, List.map_cons, List.map_nil]); first | done | rfl | (simp only [List.length_drop, List.length_take]; rfl)) ?_; (with_reducible refine (impl_SignatureOf.calls t294 t295 (rd t299 x24_2) t312 t313 t314 _ A41.out).mono ?_); rintro e w' ⟨rfl, ⟨nd, rfl⟩⟩; refine ⟨_, rfl, ?_⟩; have p315 : 0 ≤ ((ji44) : Int) := of_decide_eq_true (by first | (with_reducible assumption) | assumption); have q315 : (ji44) < (t296.length : Int) := of_decide_eq_true (by first | (with_reducible assumption) | assumption); obtain ⟨ad315, e315, hx315_0⟩ := Kd.at_int (Kd.R_reads' HO_18.out).2.2 (ji44) p315 q315; cases e315; replace p315 := eq_true p315; replace q315 := eq_true q315))
                                      go_roundg k2
                                      case measure => have := HJ11.out; have := HK2.out; omega
                                      case rel => exact ⟨(x23_2), (wrap64 (x24_2 + 1)), (by first | rfl | (simp; done) | (simp [*]; done)), (by first | rfl | (simp; done) | (simp [*]; done)), H', ⟨by have := HJ11.out; have := HK2.out; omega⟩, ⟨by (with_reducible repeat (first | apply Kd.R_alloc | apply Kd.R_drewN | apply Kd.R_drew)); exact HO_18.out⟩, ⟨by (with_reducible repeat (first | apply Kd.R_alloc | apply Kd.R_drewN | apply Kd.R_drew)); exact HO_19.out⟩, ⟨by repeat (first | (with_reducible first | exact HB.out | apply below_alloc | apply pw_below_drewN | apply below_drew1) | exact HB.out)⟩⟩
                                    · rw [if_neg c48] at H
                                      exact absurd H (by simp)
                                  · rw [if_neg c47] at H
                                    exact absurd H (by simp)
                                · rw [if_neg c46] at H
                                  exact absurd H (by simp)
                              · rw [if_neg c45] at H
                                exact absurd H (by simp)
                          · rw [if_neg c42] at H
                            exact absurd H (by simp)
                      · rw [if_neg c38] at H
                        exact absurd H (by simp)
                    · rw [if_neg c37] at H
                      have c37b0 : decide (x24_2 < (t299.length : Int)) = false := decide_eq_false c37
                      clear c37
                      by_cases c53 : (wrap64 ((t299.length : Int) - x23_2)) = t294
                      · rw [if_pos c53] at H
                        have c53b0 : ((wrap64 ((t299.length : Int) - x23_2)) == t294) = true := beq_iff_eq.mpr c53
                        have c53b1 : ((wrap64 ((t299.length : Int) - x23_2)) != t294) = false := bne_eq_false_iff_eq.mpr c53
                        clear c53
                        by_cases c54 : t286 = 0
                        · rw [if_pos c54] at H
                          have c54b0 : (t286 == 0) = true := beq_iff_eq.mpr c54
                          have c54b1 : (t286 != 0) = false := bne_eq_false_iff_eq.mpr c54
                          clear c54
                          by_cases c55 : (wrap64 ((wrap64 (t284 * t282)) + t285)) = t283
                          · rw [if_pos c55] at H
                            have c55b0 : ((wrap64 ((wrap64 (t284 * t282)) + t285)) == t283) = true := beq_iff_eq.mpr c55
                            have c55b1 : ((wrap64 ((wrap64 (t284 * t282)) + t285)) != t283) = false := bne_eq_false_iff_eq.mpr c55
                            clear c55
                            by_cases c56 : t284 < t290
                            · rw [if_pos c56] at H
                              have c56b0 : decide (t284 < t290) = true := decide_eq_true c56
                              clear c56
                              obtain rfl := Option.some.inj H
                              obtain ⟨Ao57, co57, eo57⟩ := Kd.R_slice HO_19.out
                              subst eo57
                              go_wp2
                              go_ret
                              exact ⟨by first | rfl | (simp [errW_none, errW_some] <;> rfl) | (simp [*, errW_none, errW_some] <;> rfl), by repeat (first | (with_reducible first | exact HB.out | apply below_alloc | apply pw_below_drewN | apply below_drew1) | exact HB.out)⟩
                            · rw [if_neg c56] at H
                              exact absurd H (by simp)
                          · rw [if_neg c55] at H
                            exact absurd H (by simp)
                        · rw [if_neg c54] at H
                          have c54b0 : (t286 == 0) = false := beq_eq_false_iff_ne.mpr c54
                          have c54b1 : (t286 != 0) = true := bne_iff_ne.mpr c54
                          obtain rfl := Option.some.inj H
                          obtain ⟨Ao60, co60, eo60⟩ := Kd.R_slice HO_19.out
                          subst eo60
                          go_wp2
                          go_ret
                          exact ⟨by first | rfl | (simp [errW_none, errW_some] <;> rfl) | (simp [*, errW_none, errW_some] <;> rfl), by repeat (first | (with_reducible first | exact HB.out | apply below_alloc | apply pw_below_drewN | apply below_drew1) | exact HB.out)⟩
                      · rw [if_neg c53] at H
                        exact absurd H (by simp)
            · rw [if_neg c36] at H
              have c36b0 : (t300 == 0) = false := beq_eq_false_iff_ne.mpr c36
              have c36b1 : (t300 != 0) = true := bne_iff_ne.mpr c36
              by_cases c62 : t286 = 0
              · rw [if_pos c62] at H
                have c62b0 : (t286 == 0) = true := beq_iff_eq.mpr c62
                have c62b1 : (t286 != 0) = false := bne_eq_false_iff_eq.mpr c62
                clear c62
                by_cases c63 : (wrap64 ((wrap64 (t284 * t282)) + t285)) = t283
                · rw [if_pos c63] at H
                  have c63b0 : ((wrap64 ((wrap64 (t284 * t282)) + t285)) == t283) = true := beq_iff_eq.mpr c63
                  have c63b1 : ((wrap64 ((wrap64 (t284 * t282)) + t285)) != t283) = false := bne_eq_false_iff_eq.mpr c63
                  clear c63
                  by_cases c64 : t284 < t290
                  · rw [if_pos c64] at H
                    have c64b0 : decide (t284 < t290) = true := decide_eq_true c64
                    clear c64
                    obtain rfl := Option.some.inj H
                    go_wp2
                    go_ret
                    exact ⟨by first | rfl | (simp [errW_none, errW_some] <;> rfl) | (simp [*, errW_none, errW_some] <;> rfl), by repeat (first | (with_reducible first | exact HB.out | apply below_alloc | apply pw_below_drewN | apply below_drew1) | exact HB.out)⟩
                  · rw [if_neg c64] at H
                    exact absurd H (by simp)
                · rw [if_neg c63] at H
                  exact absurd H (by simp)
              · rw [if_neg c62] at H
                have c62b0 : (t286 == 0) = false := beq_eq_false_iff_ne.mpr c62
                have c62b1 : (t286 != 0) = true := bne_iff_ne.mpr c62
                obtain rfl := Option.some.inj H
                go_wp2
                go_ret
                exact ⟨by first | rfl | (simp [errW_none, errW_some] <;> rfl) | (simp [*, errW_none, errW_some] <;> rfl), by repeat (first | (with_reducible first | exact HB.out | apply below_alloc | apply pw_below_drewN | apply below_drew1) | exact HB.out)⟩

/-- THE ONE PURE STATEMENT of laws_FnSignatures: yours. -/
def laws_FnSignatures.Pure : Prop := ∀ (l0 : List Int), l0.length ≤ maxLen → l0.length * 1 ≤ 140737488351232 → (∀ x ∈ l0, (Lit.int .u8 x).wf = true) → ∃ k, laws_FnSignatures.f k l0 = some true
theorem laws_FnSignatures.walk (P : laws_FnSignatures.Pure) (a0 : Option Addr) (len0 cap0 : Nat) (z0 : List Int) (w : World) (w0 : (a0 = none ∧ len0 = 0 ∧ cap0 = 0 ∧ z0 = []) ∨ ∃ x, a0 = some x ∧ len0 ≤ cap0 ∧ cap0 ≤ maxLen ∧ z0.length = cap0 ∧ (∀ i, i < z0.length → w.cell? (x.add i) = some (.int .u8 (z0.getD i 0))) ∧ ∀ n ∈ z0, (Lit.int .u8 n).wf = true) (y0 : len0 * 1 ≤ 140737488351232) :
    Calls Try.prog 8 #[.slice a0 len0 cap0] w fun e w' => e = .returned (.bool true) ∧ Below w.heap.size w w' := by
  obtain ⟨l0, rfl, hr0, hm0, hw0, hc0⟩ := ReadsInt.ofRowC w0
  obtain ⟨k, h⟩ := P l0 hm0 y0 hw0
  refine (laws_FnSignatures.calls k _ _ l0 true w (Kd.C_of_reads (d := (0 : Int)) (h1 := fun _ => rfl) hr0) hc0 h).mono ?_
  rintro e w' ⟨rfl, hd⟩
  exact ⟨rfl, hd⟩

end Go.Proofs.Ythapadejldlmfaa.PFnSignatures
