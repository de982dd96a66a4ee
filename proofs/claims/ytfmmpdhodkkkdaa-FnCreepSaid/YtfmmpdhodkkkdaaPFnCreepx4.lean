-- Written by wip/inject.py: a contract of each function that the law reaches; those of the stand-ins are proved in this seat's Hand texts
import Derived.Test.YtfmmpdhodkkkdaaPFnCreepx0
import Derived.Test.YtfmmpdhodkkkdaaPFnCreepx1
import Derived.Test.YtfmmpdhodkkkdaaPFnCreepx2
import Derived.Test.YtfmmpdhodkkkdaaPFnCreepx3
namespace Go.Proofs.Ytfmmpdhodkkkdaa.PFnCreep
open Go.RowKit Go.Proofs.YtfmmpdhodkkkdaaW.PrintWords Go.Proofs.YtfmmpdhodkkkdaaW.PrintLast Go.Proofs.YtfmmpdhodkkkdaaW.PrintMore
attribute [local go_sem] max2_int min2_int max_two min_two max_three min_three max_four min_four   -- for this text's walks alone
set_option linter.unusedVariables false
set_option linter.unusedSimpArgs false

/-! ### laws_FnCreep: function 7 -/
mutual
def laws_FnCreep.j0 : Nat → Int → Int → Int → List Int → Int → List Int → Int → Int → Int → Int → Int → Bool → Option (Bool)
  | 0, _, _, _, _, _, _, _, _, _, _, _, _ => none
  | k + 1, x3, x4, x5, x6, x7, x10, x11, x25, x26, x27, x28, x170 => if x170 = true then (some false) else (if x28 = 0 then ((impl_TrimLoss.f x27 x25).bind fun bt316 => ((impl_TrimLoss.f (wrap64 (x27 + 1)) x25).bind fun bt318 => (if bt316.2 = 0 then (if bt316.1 > x26 then (some false) else (if bt318.2 = 0 then (if bt318.1 ≤ x26 then (some false) else (laws_FnCreep.j1 k x3 x4 x5 x6 x7 x10 x11)) else (laws_FnCreep.j1 k x3 x4 x5 x6 x7 x10 x11))) else (some false)))) else (laws_FnCreep.j1 k x3 x4 x5 x6 x7 x10 x11))
def laws_FnCreep.j1 : Nat → Int → Int → Int → List Int → Int → List Int → Int → Option (Bool)
  | 0, _, _, _, _, _, _, _ => none
  | k + 1, x3, x4, x5, x6, x7, x10, x11 => laws_FnCreep.l0 k x3 x4 x5 x6 x7 x10 x11 0
def laws_FnCreep.l0 : Nat → Int → Int → Int → List Int → Int → List Int → Int → Int → Option (Bool)
  | 0, _, _, _, _, _, _, _, _ => none
  | k + 1, x3, x4, x5, x6, x7, x10, x11, x35 => if x11 = 0 then (laws_FnCreep.j3 k x3 x4 x5 x6 x7 x10 x11 x35 (decide (x35 < x3))) else (laws_FnCreep.j3 k x3 x4 x5 x6 x7 x10 x11 x35 false)
def laws_FnCreep.j3 : Nat → Int → Int → Int → List Int → Int → List Int → Int → Int → Bool → Option (Bool)
  | 0, _, _, _, _, _, _, _, _, _ => none
  | k + 1, x3, x4, x5, x6, x7, x10, x11, x35, x208 => if x208 = true then ((impl_CreepOf.f x3 x35 x4).bind fun bt320 => (if bt320.2 = 0 then (if 0 ≤ x35 then (if x35 < (x10.length : Int) then (if (wrap64 ((wrap64 (100 * (rd x10 x35))) - bt320.1)) > 50 then (some false) else (if (wrap64 (bt320.1 - (wrap64 (100 * (rd x10 x35))))) ≥ 50 then (some false) else (if x7 = 0 then (if x35 < (x6.length : Int) then (if (wrap64 ((rd x6 x35) + (rd x10 x35))) = x5 then (laws_FnCreep.l0 k x3 x4 x5 x6 x7 x10 x11 (wrap64 (x35 + 1))) else (some false)) else (none)) else (laws_FnCreep.l0 k x3 x4 x5 x6 x7 x10 x11 (wrap64 (x35 + 1)))))) else (none)) else (none)) else (some false))) else (some true)
end
def laws_FnCreep.f (k : Nat) (l0 : List Int) : Option (Bool) := (laws_big.f l0).bind fun t277 => (if t277 = true then (some true) else ((spec_DrawMarginsFor.f k l0).bind fun bt278 => ((impl_MarginsFor.f k bt278.1 bt278.2.1 bt278.2.2).bind fun bt281 => ((spec_MarginsFor.f k bt278.1 bt278.2.1 bt278.2.2).bind fun bt285 => ((impl_CreepTenths.f k bt278.1 bt278.2.1).bind fun bt289 => ((spec_CreepTenths.f k bt278.1 bt278.2.1).bind fun bt293 => ((spec_DrawCreepOf.f k l0).bind fun bt297 => ((impl_CreepOf.f bt297.1 bt297.2.1 bt297.2.2).bind fun bt300 => ((spec_CreepOf.f bt297.1 bt297.2.1 bt297.2.2).bind fun bt302 => ((impl_TrimLoss.f bt278.1 bt278.2.1).bind fun bt304 => ((spec_TrimLoss.f bt278.1 bt278.2.1).bind fun bt306 => ((spec_DrawMostNested.f k l0).bind fun bt308 => ((impl_MostNested.f bt308.1 bt308.2).bind fun bt310 => ((spec_MostNested.f bt308.1 bt308.2).bind fun bt312 => (if bt281.2 = bt285.2 then ((laws_likeInts.f k bt281.1 bt285.1).bind fun t314 => (if t314 = true then (if bt289.2 = bt293.2 then ((laws_likeInts.f k bt289.1 bt293.1).bind fun t315 => (if t315 = true then (if bt300.2 = bt302.2 then (if bt300.1 = bt302.1 then (if bt304.2 = bt306.2 then (if bt304.1 = bt306.1 then (if bt310.2 = bt312.2 then (laws_FnCreep.j0 k bt278.1 bt278.2.1 bt278.2.2 bt281.1 bt281.2 bt289.1 bt289.2 bt308.1 bt308.2 bt310.1 bt310.2 (bt310.1 != bt312.1)) else (none)) else (none)) else (none)) else (none)) else (none)) else (none))) else (none)) else (none))) else (none))))))))))))))))
theorem laws_FnCreep.mono_l : ∀ k, (∀ y0 y1 y2 y3 y4 y5 y6 y7 y8 y9 y10 y11, LeO (laws_FnCreep.j0 k y0 y1 y2 y3 y4 y5 y6 y7 y8 y9 y10 y11) (laws_FnCreep.j0 (k + 1) y0 y1 y2 y3 y4 y5 y6 y7 y8 y9 y10 y11)) ∧ (∀ y0 y1 y2 y3 y4 y5 y6, LeO (laws_FnCreep.j1 k y0 y1 y2 y3 y4 y5 y6) (laws_FnCreep.j1 (k + 1) y0 y1 y2 y3 y4 y5 y6)) ∧ (∀ y0 y1 y2 y3 y4 y5 y6 y7, LeO (laws_FnCreep.l0 k y0 y1 y2 y3 y4 y5 y6 y7) (laws_FnCreep.l0 (k + 1) y0 y1 y2 y3 y4 y5 y6 y7)) ∧ (∀ y0 y1 y2 y3 y4 y5 y6 y7 y8, LeO (laws_FnCreep.j3 k y0 y1 y2 y3 y4 y5 y6 y7 y8) (laws_FnCreep.j3 (k + 1) y0 y1 y2 y3 y4 y5 y6 y7 y8))
  | 0 => ⟨fun _ _ _ _ _ _ _ _ _ _ _ _ r h => by simp [laws_FnCreep.j0] at h, fun _ _ _ _ _ _ _ r h => by simp [laws_FnCreep.j1] at h, fun _ _ _ _ _ _ _ _ r h => by simp [laws_FnCreep.l0] at h, fun _ _ _ _ _ _ _ _ _ r h => by simp [laws_FnCreep.j3] at h⟩
  | k + 1 => by
    obtain ⟨ih0, ih1, ih2, ih3⟩ := laws_FnCreep.mono_l k
    refine ⟨?_, ?_, ?_, ?_⟩
    · intro y0 y1 y2 y3 y4 y5 y6 y7 y8 y9 y10 y11
      unfold laws_FnCreep.j0
      repeat' first
      | (with_reducible exact ih0 _ _ _ _ _ _ _ _ _ _ _ _)
      | (with_reducible exact ih1 _ _ _ _ _ _ _)
      | (with_reducible exact ih2 _ _ _ _ _ _ _ _)
      | (with_reducible exact ih3 _ _ _ _ _ _ _ _ _)
      | (with_reducible exact impl_CreepTenths.mono _ _ _)
      | (with_reducible exact impl_MarginsFor.mono _ _ _ _)
      | (with_reducible exact laws_likeInts.mono _ _ _)
      | (with_reducible exact spec_CreepTenths.mono _ _ _)
      | (with_reducible exact spec_DrawCreepOf.mono _ _)
      | (with_reducible exact spec_DrawMarginsFor.mono _ _)
      | (with_reducible exact spec_DrawMostNested.mono _ _)
      | (with_reducible exact spec_MarginsFor.mono _ _ _ _)
      | (with_reducible exact LeO.refl _)
      | (with_reducible exact LeO.none _)
      | (with_reducible refine LeO.ite ?_ ?_)
      | (with_reducible refine LeO.bind ?_ (fun _ => ?_))
      | exact ih0 _ _ _ _ _ _ _ _ _ _ _ _
      | exact ih1 _ _ _ _ _ _ _
      | exact ih2 _ _ _ _ _ _ _ _
      | exact ih3 _ _ _ _ _ _ _ _ _
      | exact impl_CreepTenths.mono _ _ _
      | exact impl_MarginsFor.mono _ _ _ _
      | exact laws_likeInts.mono _ _ _
      | exact spec_CreepTenths.mono _ _ _
      | exact spec_DrawCreepOf.mono _ _
      | exact spec_DrawMarginsFor.mono _ _
      | exact spec_DrawMostNested.mono _ _
      | exact spec_MarginsFor.mono _ _ _ _
      | exact LeO.none _
      | refine LeO.ite ?_ ?_
      | refine LeO.bind ?_ (fun _ => ?_)
    · intro y0 y1 y2 y3 y4 y5 y6
      unfold laws_FnCreep.j1
      repeat' first
      | (with_reducible exact ih0 _ _ _ _ _ _ _ _ _ _ _ _)
      | (with_reducible exact ih1 _ _ _ _ _ _ _)
      | (with_reducible exact ih2 _ _ _ _ _ _ _ _)
      | (with_reducible exact ih3 _ _ _ _ _ _ _ _ _)
      | (with_reducible exact impl_CreepTenths.mono _ _ _)
      | (with_reducible exact impl_MarginsFor.mono _ _ _ _)
      | (with_reducible exact laws_likeInts.mono _ _ _)
      | (with_reducible exact spec_CreepTenths.mono _ _ _)
      | (with_reducible exact spec_DrawCreepOf.mono _ _)
      | (with_reducible exact spec_DrawMarginsFor.mono _ _)
      | (with_reducible exact spec_DrawMostNested.mono _ _)
      | (with_reducible exact spec_MarginsFor.mono _ _ _ _)
      | (with_reducible exact LeO.refl _)
      | (with_reducible exact LeO.none _)
      | (with_reducible refine LeO.ite ?_ ?_)
      | (with_reducible refine LeO.bind ?_ (fun _ => ?_))
      | exact ih0 _ _ _ _ _ _ _ _ _ _ _ _
      | exact ih1 _ _ _ _ _ _ _
      | exact ih2 _ _ _ _ _ _ _ _
      | exact ih3 _ _ _ _ _ _ _ _ _
      | exact impl_CreepTenths.mono _ _ _
      | exact impl_MarginsFor.mono _ _ _ _
      | exact laws_likeInts.mono _ _ _
      | exact spec_CreepTenths.mono _ _ _
      | exact spec_DrawCreepOf.mono _ _
      | exact spec_DrawMarginsFor.mono _ _
      | exact spec_DrawMostNested.mono _ _
      | exact spec_MarginsFor.mono _ _ _ _
      | exact LeO.none _
      | refine LeO.ite ?_ ?_
      | refine LeO.bind ?_ (fun _ => ?_)
    · intro y0 y1 y2 y3 y4 y5 y6 y7
      unfold laws_FnCreep.l0
      repeat' first
      | (with_reducible exact ih0 _ _ _ _ _ _ _ _ _ _ _ _)
      | (with_reducible exact ih1 _ _ _ _ _ _ _)
      | (with_reducible exact ih2 _ _ _ _ _ _ _ _)
      | (with_reducible exact ih3 _ _ _ _ _ _ _ _ _)
      | (with_reducible exact impl_CreepTenths.mono _ _ _)
      | (with_reducible exact impl_MarginsFor.mono _ _ _ _)
      | (with_reducible exact laws_likeInts.mono _ _ _)
      | (with_reducible exact spec_CreepTenths.mono _ _ _)
      | (with_reducible exact spec_DrawCreepOf.mono _ _)
      | (with_reducible exact spec_DrawMarginsFor.mono _ _)
      | (with_reducible exact spec_DrawMostNested.mono _ _)
      | (with_reducible exact spec_MarginsFor.mono _ _ _ _)
      | (with_reducible exact LeO.refl _)
      | (with_reducible exact LeO.none _)
      | (with_reducible refine LeO.ite ?_ ?_)
      | (with_reducible refine LeO.bind ?_ (fun _ => ?_))
      | exact ih0 _ _ _ _ _ _ _ _ _ _ _ _
      | exact ih1 _ _ _ _ _ _ _
      | exact ih2 _ _ _ _ _ _ _ _
      | exact ih3 _ _ _ _ _ _ _ _ _
      | exact impl_CreepTenths.mono _ _ _
      | exact impl_MarginsFor.mono _ _ _ _
      | exact laws_likeInts.mono _ _ _
      | exact spec_CreepTenths.mono _ _ _
      | exact spec_DrawCreepOf.mono _ _
      | exact spec_DrawMarginsFor.mono _ _
      | exact spec_DrawMostNested.mono _ _
      | exact spec_MarginsFor.mono _ _ _ _
      | exact LeO.none _
      | refine LeO.ite ?_ ?_
      | refine LeO.bind ?_ (fun _ => ?_)
    · intro y0 y1 y2 y3 y4 y5 y6 y7 y8
      unfold laws_FnCreep.j3
      repeat' first
      | (with_reducible exact ih0 _ _ _ _ _ _ _ _ _ _ _ _)
      | (with_reducible exact ih1 _ _ _ _ _ _ _)
      | (with_reducible exact ih2 _ _ _ _ _ _ _ _)
      | (with_reducible exact ih3 _ _ _ _ _ _ _ _ _)
      | (with_reducible exact impl_CreepTenths.mono _ _ _)
      | (with_reducible exact impl_MarginsFor.mono _ _ _ _)
      | (with_reducible exact laws_likeInts.mono _ _ _)
      | (with_reducible exact spec_CreepTenths.mono _ _ _)
      | (with_reducible exact spec_DrawCreepOf.mono _ _)
      | (with_reducible exact spec_DrawMarginsFor.mono _ _)
      | (with_reducible exact spec_DrawMostNested.mono _ _)
      | (with_reducible exact spec_MarginsFor.mono _ _ _ _)
      | (with_reducible exact LeO.refl _)
      | (with_reducible exact LeO.none _)
      | (with_reducible refine LeO.ite ?_ ?_)
      | (with_reducible refine LeO.bind ?_ (fun _ => ?_))
      | exact ih0 _ _ _ _ _ _ _ _ _ _ _ _
      | exact ih1 _ _ _ _ _ _ _
      | exact ih2 _ _ _ _ _ _ _ _
      | exact ih3 _ _ _ _ _ _ _ _ _
      | exact impl_CreepTenths.mono _ _ _
      | exact impl_MarginsFor.mono _ _ _ _
      | exact laws_likeInts.mono _ _ _
      | exact spec_CreepTenths.mono _ _ _
      | exact spec_DrawCreepOf.mono _ _
      | exact spec_DrawMarginsFor.mono _ _
      | exact spec_DrawMostNested.mono _ _
      | exact spec_MarginsFor.mono _ _ _ _
      | exact LeO.none _
      | refine LeO.ite ?_ ?_
      | refine LeO.bind ?_ (fun _ => ?_)
theorem laws_FnCreep.mono : ∀ a0 k, LeO (laws_FnCreep.f k a0) (laws_FnCreep.f (k + 1) a0) := by
  intro a0 k
  obtain ⟨ih0, ih1, ih2, ih3⟩ := laws_FnCreep.mono_l k
  unfold laws_FnCreep.f
  repeat' first
      | (with_reducible exact ih0 _ _ _ _ _ _ _ _ _ _ _ _)
      | (with_reducible exact ih1 _ _ _ _ _ _ _)
      | (with_reducible exact ih2 _ _ _ _ _ _ _ _)
      | (with_reducible exact ih3 _ _ _ _ _ _ _ _ _)
      | (with_reducible exact impl_CreepTenths.mono _ _ _)
      | (with_reducible exact impl_MarginsFor.mono _ _ _ _)
      | (with_reducible exact laws_likeInts.mono _ _ _)
      | (with_reducible exact spec_CreepTenths.mono _ _ _)
      | (with_reducible exact spec_DrawCreepOf.mono _ _)
      | (with_reducible exact spec_DrawMarginsFor.mono _ _)
      | (with_reducible exact spec_DrawMostNested.mono _ _)
      | (with_reducible exact spec_MarginsFor.mono _ _ _ _)
      | (with_reducible exact LeO.refl _)
      | (with_reducible exact LeO.none _)
      | (with_reducible refine LeO.ite ?_ ?_)
      | (with_reducible refine LeO.bind ?_ (fun _ => ?_))
      | exact ih0 _ _ _ _ _ _ _ _ _ _ _ _
      | exact ih1 _ _ _ _ _ _ _
      | exact ih2 _ _ _ _ _ _ _ _
      | exact ih3 _ _ _ _ _ _ _ _ _
      | exact impl_CreepTenths.mono _ _ _
      | exact impl_MarginsFor.mono _ _ _ _
      | exact laws_likeInts.mono _ _ _
      | exact spec_CreepTenths.mono _ _ _
      | exact spec_DrawCreepOf.mono _ _
      | exact spec_DrawMarginsFor.mono _ _
      | exact spec_DrawMostNested.mono _ _
      | exact spec_MarginsFor.mono _ _ _ _
      | exact LeO.none _
      | refine LeO.ite ?_ ?_
      | refine LeO.bind ?_ (fun _ => ?_)
set_option maxHeartbeats 8000000 in
set_option maxRecDepth 100000 in
theorem laws_FnCreep.calls (k : Nat) (A0 : Option Addr) (c0 : Nat) (l0 : List Int) (r : Bool) (w : World) (hr0 : Kd.C (Kd.int .u8) w A0 l0.length l0) (hc0 : l0.length ≤ c0) (h : laws_FnCreep.f k l0 = some r) :
    Calls Try.prog 7 #[.slice A0 l0.length c0] w fun e w' => e = .returned (.bool r) ∧ Below w.heap.size w w' := by
  have HR0 := Aside0.mk hr0
  have HC0 := Aside0.mk hc0
  clear hr0 hc0
  have HB := Aside0.mk (Below.refl w.heap.size w)
  have H : ((laws_big.f l0).bind fun t277 => (if t277 = true then (some true) else ((spec_DrawMarginsFor.f k l0).bind fun bt278 => ((impl_MarginsFor.f k bt278.1 bt278.2.1 bt278.2.2).bind fun bt281 => ((spec_MarginsFor.f k bt278.1 bt278.2.1 bt278.2.2).bind fun bt285 => ((impl_CreepTenths.f k bt278.1 bt278.2.1).bind fun bt289 => ((spec_CreepTenths.f k bt278.1 bt278.2.1).bind fun bt293 => ((spec_DrawCreepOf.f k l0).bind fun bt297 => ((impl_CreepOf.f bt297.1 bt297.2.1 bt297.2.2).bind fun bt300 => ((spec_CreepOf.f bt297.1 bt297.2.1 bt297.2.2).bind fun bt302 => ((impl_TrimLoss.f bt278.1 bt278.2.1).bind fun bt304 => ((spec_TrimLoss.f bt278.1 bt278.2.1).bind fun bt306 => ((spec_DrawMostNested.f k l0).bind fun bt308 => ((impl_MostNested.f bt308.1 bt308.2).bind fun bt310 => ((spec_MostNested.f bt308.1 bt308.2).bind fun bt312 => (if bt281.2 = bt285.2 then ((laws_likeInts.f k bt281.1 bt285.1).bind fun t314 => (if t314 = true then (if bt289.2 = bt293.2 then ((laws_likeInts.f k bt289.1 bt293.1).bind fun t315 => (if t315 = true then (if bt300.2 = bt302.2 then (if bt300.1 = bt302.1 then (if bt304.2 = bt306.2 then (if bt304.1 = bt306.1 then (if bt310.2 = bt312.2 then (laws_FnCreep.j0 k bt278.1 bt278.2.1 bt278.2.2 bt281.1 bt281.2 bt289.1 bt289.2 bt308.1 bt308.2 bt310.1 bt310.2 (bt310.1 != bt312.1)) else (none)) else (none)) else (none)) else (none)) else (none)) else (none))) else (none)) else (none))) else (none))))))))))))))))) = some r := h
  clear h
  replace H := Option.bind_eq_some_iff.mp H
  obtain ⟨t277, A20, H⟩ := H
  replace H : (if t277 = true then (some true) else ((spec_DrawMarginsFor.f k l0).bind fun bt278 => ((impl_MarginsFor.f k bt278.1 bt278.2.1 bt278.2.2).bind fun bt281 => ((spec_MarginsFor.f k bt278.1 bt278.2.1 bt278.2.2).bind fun bt285 => ((impl_CreepTenths.f k bt278.1 bt278.2.1).bind fun bt289 => ((spec_CreepTenths.f k bt278.1 bt278.2.1).bind fun bt293 => ((spec_DrawCreepOf.f k l0).bind fun bt297 => ((impl_CreepOf.f bt297.1 bt297.2.1 bt297.2.2).bind fun bt300 => ((spec_CreepOf.f bt297.1 bt297.2.1 bt297.2.2).bind fun bt302 => ((impl_TrimLoss.f bt278.1 bt278.2.1).bind fun bt304 => ((spec_TrimLoss.f bt278.1 bt278.2.1).bind fun bt306 => ((spec_DrawMostNested.f k l0).bind fun bt308 => ((impl_MostNested.f bt308.1 bt308.2).bind fun bt310 => ((spec_MostNested.f bt308.1 bt308.2).bind fun bt312 => (if bt281.2 = bt285.2 then ((laws_likeInts.f k bt281.1 bt285.1).bind fun t314 => (if t314 = true then (if bt289.2 = bt293.2 then ((laws_likeInts.f k bt289.1 bt293.1).bind fun t315 => (if t315 = true then (if bt300.2 = bt302.2 then (if bt300.1 = bt302.1 then (if bt304.2 = bt306.2 then (if bt304.1 = bt306.1 then (if bt310.2 = bt312.2 then (laws_FnCreep.j0 k bt278.1 bt278.2.1 bt278.2.2 bt281.1 bt281.2 bt289.1 bt289.2 bt308.1 bt308.2 bt310.1 bt310.2 (bt310.1 != bt312.1)) else (none)) else (none)) else (none)) else (none)) else (none)) else (none))) else (none)) else (none))) else (none)))))))))))))))) = some r := H
  have A2 := Aside0.mk A20
  clear A20
  by_cases c3 : t277 = true
  · subst c3
    have H1 : (some true) = some r := by rw [if_pos rfl] at H; exact H
    clear H
    have H := H1
    clear H1
    obtain rfl := Option.some.inj H
    go_enter Try.func7, Try.ntmps7
    go_wp2_with (first | (go_at_call 13; (with_reducible refine (laws_big.calls _ _ l0 true _ ?side1 ?side2 A2.out).mono ?_); (case side1 => repeat (first | exact HR0.out | (with_reducible refine Kd.C_alloc ?_ _) | (with_reducible refine Kd.C_drewN ?_ _) | (with_reducible refine Kd.C_drew ?_))); (case side2 => exact HC0.out); rintro e w' ⟨rfl, ⟨nd, rfl⟩⟩; (try first | exact ⟨rfl, _, World.drewN_drewN _ _ _⟩ | exact ⟨rfl, _, Eq.trans (World.drewN_drewN _ _ _) (congrArg (World.drewN _) (Nat.add_assoc _ _ _))⟩)))
    repeat (go_quiet (first | (go_at_call 13; (with_reducible refine (laws_big.calls _ _ l0 true _ ?side1 ?side2 A2.out).mono ?_); (case side1 => repeat (first | exact HR0.out | (with_reducible refine Kd.C_alloc ?_ _) | (with_reducible refine Kd.C_drewN ?_ _) | (with_reducible refine Kd.C_drew ?_))); (case side2 => exact HC0.out); rintro e w' ⟨rfl, ⟨nd, rfl⟩⟩; (try first | exact ⟨rfl, _, World.drewN_drewN _ _ _⟩ | exact ⟨rfl, _, Eq.trans (World.drewN_drewN _ _ _) (congrArg (World.drewN _) (Nat.add_assoc _ _ _))⟩))); try go_wp2_with (first | (go_at_call 13; (with_reducible refine (laws_big.calls _ _ l0 true _ ?side1 ?side2 A2.out).mono ?_); (case side1 => repeat (first | exact HR0.out | (with_reducible refine Kd.C_alloc ?_ _) | (with_reducible refine Kd.C_drewN ?_ _) | (with_reducible refine Kd.C_drew ?_))); (case side2 => exact HC0.out); rintro e w' ⟨rfl, ⟨nd, rfl⟩⟩; (try first | exact ⟨rfl, _, World.drewN_drewN _ _ _⟩ | exact ⟨rfl, _, Eq.trans (World.drewN_drewN _ _ _) (congrArg (World.drewN _) (Nat.add_assoc _ _ _))⟩))))
    go_ret
    exact ⟨by first | rfl | (simp [errW_none, errW_some] <;> rfl) | (simp [*, errW_none, errW_some] <;> rfl), by repeat (first | (with_reducible first | exact HB.out | apply below_alloc | apply pw_below_drewN | apply below_drew1) | exact HB.out)⟩
  · replace c3 := Bool.eq_false_iff.mpr c3
    subst c3
    have H1 : ((spec_DrawMarginsFor.f k l0).bind fun bt278 => ((impl_MarginsFor.f k bt278.1 bt278.2.1 bt278.2.2).bind fun bt281 => ((spec_MarginsFor.f k bt278.1 bt278.2.1 bt278.2.2).bind fun bt285 => ((impl_CreepTenths.f k bt278.1 bt278.2.1).bind fun bt289 => ((spec_CreepTenths.f k bt278.1 bt278.2.1).bind fun bt293 => ((spec_DrawCreepOf.f k l0).bind fun bt297 => ((impl_CreepOf.f bt297.1 bt297.2.1 bt297.2.2).bind fun bt300 => ((spec_CreepOf.f bt297.1 bt297.2.1 bt297.2.2).bind fun bt302 => ((impl_TrimLoss.f bt278.1 bt278.2.1).bind fun bt304 => ((spec_TrimLoss.f bt278.1 bt278.2.1).bind fun bt306 => ((spec_DrawMostNested.f k l0).bind fun bt308 => ((impl_MostNested.f bt308.1 bt308.2).bind fun bt310 => ((spec_MostNested.f bt308.1 bt308.2).bind fun bt312 => (if bt281.2 = bt285.2 then ((laws_likeInts.f k bt281.1 bt285.1).bind fun t314 => (if t314 = true then (if bt289.2 = bt293.2 then ((laws_likeInts.f k bt289.1 bt293.1).bind fun t315 => (if t315 = true then (if bt300.2 = bt302.2 then (if bt300.1 = bt302.1 then (if bt304.2 = bt306.2 then (if bt304.1 = bt306.1 then (if bt310.2 = bt312.2 then (laws_FnCreep.j0 k bt278.1 bt278.2.1 bt278.2.2 bt281.1 bt281.2 bt289.1 bt289.2 bt308.1 bt308.2 bt310.1 bt310.2 (bt310.1 != bt312.1)) else (none)) else (none)) else (none)) else (none)) else (none)) else (none))) else (none)) else (none))) else (none))))))))))))))) = some r := by rw [if_neg (show ¬ (false = true) by decide)] at H; exact H
    clear H
    have H := H1
    clear H1
    replace H := Option.bind_eq_some_iff.mp H
    obtain ⟨⟨t278, t279, t280⟩, A40, H⟩ := H
    replace H : ((impl_MarginsFor.f k t278 t279 t280).bind fun bt281 => ((spec_MarginsFor.f k t278 t279 t280).bind fun bt285 => ((impl_CreepTenths.f k t278 t279).bind fun bt289 => ((spec_CreepTenths.f k t278 t279).bind fun bt293 => ((spec_DrawCreepOf.f k l0).bind fun bt297 => ((impl_CreepOf.f bt297.1 bt297.2.1 bt297.2.2).bind fun bt300 => ((spec_CreepOf.f bt297.1 bt297.2.1 bt297.2.2).bind fun bt302 => ((impl_TrimLoss.f t278 t279).bind fun bt304 => ((spec_TrimLoss.f t278 t279).bind fun bt306 => ((spec_DrawMostNested.f k l0).bind fun bt308 => ((impl_MostNested.f bt308.1 bt308.2).bind fun bt310 => ((spec_MostNested.f bt308.1 bt308.2).bind fun bt312 => (if bt281.2 = bt285.2 then ((laws_likeInts.f k bt281.1 bt285.1).bind fun t314 => (if t314 = true then (if bt289.2 = bt293.2 then ((laws_likeInts.f k bt289.1 bt293.1).bind fun t315 => (if t315 = true then (if bt300.2 = bt302.2 then (if bt300.1 = bt302.1 then (if bt304.2 = bt306.2 then (if bt304.1 = bt306.1 then (if bt310.2 = bt312.2 then (laws_FnCreep.j0 k t278 t279 t280 bt281.1 bt281.2 bt289.1 bt289.2 bt308.1 bt308.2 bt310.1 bt310.2 (bt310.1 != bt312.1)) else (none)) else (none)) else (none)) else (none)) else (none)) else (none))) else (none)) else (none))) else (none)))))))))))))) = some r := H
    have A4 := Aside0.mk A40
    clear A40
    replace H := Option.bind_eq_some_iff.mp H
    obtain ⟨⟨t281, t282⟩, A50, H⟩ := H
    replace H : ((spec_MarginsFor.f k t278 t279 t280).bind fun bt285 => ((impl_CreepTenths.f k t278 t279).bind fun bt289 => ((spec_CreepTenths.f k t278 t279).bind fun bt293 => ((spec_DrawCreepOf.f k l0).bind fun bt297 => ((impl_CreepOf.f bt297.1 bt297.2.1 bt297.2.2).bind fun bt300 => ((spec_CreepOf.f bt297.1 bt297.2.1 bt297.2.2).bind fun bt302 => ((impl_TrimLoss.f t278 t279).bind fun bt304 => ((spec_TrimLoss.f t278 t279).bind fun bt306 => ((spec_DrawMostNested.f k l0).bind fun bt308 => ((impl_MostNested.f bt308.1 bt308.2).bind fun bt310 => ((spec_MostNested.f bt308.1 bt308.2).bind fun bt312 => (if t282 = bt285.2 then ((laws_likeInts.f k t281 bt285.1).bind fun t314 => (if t314 = true then (if bt289.2 = bt293.2 then ((laws_likeInts.f k bt289.1 bt293.1).bind fun t315 => (if t315 = true then (if bt300.2 = bt302.2 then (if bt300.1 = bt302.1 then (if bt304.2 = bt306.2 then (if bt304.1 = bt306.1 then (if bt310.2 = bt312.2 then (laws_FnCreep.j0 k t278 t279 t280 t281 t282 bt289.1 bt289.2 bt308.1 bt308.2 bt310.1 bt310.2 (bt310.1 != bt312.1)) else (none)) else (none)) else (none)) else (none)) else (none)) else (none))) else (none)) else (none))) else (none))))))))))))) = some r := H
    have A5 := Aside0.mk A50
    clear A50
    replace H := Option.bind_eq_some_iff.mp H
    obtain ⟨⟨t285, t286⟩, A60, H⟩ := H
    replace H : ((impl_CreepTenths.f k t278 t279).bind fun bt289 => ((spec_CreepTenths.f k t278 t279).bind fun bt293 => ((spec_DrawCreepOf.f k l0).bind fun bt297 => ((impl_CreepOf.f bt297.1 bt297.2.1 bt297.2.2).bind fun bt300 => ((spec_CreepOf.f bt297.1 bt297.2.1 bt297.2.2).bind fun bt302 => ((impl_TrimLoss.f t278 t279).bind fun bt304 => ((spec_TrimLoss.f t278 t279).bind fun bt306 => ((spec_DrawMostNested.f k l0).bind fun bt308 => ((impl_MostNested.f bt308.1 bt308.2).bind fun bt310 => ((spec_MostNested.f bt308.1 bt308.2).bind fun bt312 => (if t282 = t286 then ((laws_likeInts.f k t281 t285).bind fun t314 => (if t314 = true then (if bt289.2 = bt293.2 then ((laws_likeInts.f k bt289.1 bt293.1).bind fun t315 => (if t315 = true then (if bt300.2 = bt302.2 then (if bt300.1 = bt302.1 then (if bt304.2 = bt306.2 then (if bt304.1 = bt306.1 then (if bt310.2 = bt312.2 then (laws_FnCreep.j0 k t278 t279 t280 t281 t282 bt289.1 bt289.2 bt308.1 bt308.2 bt310.1 bt310.2 (bt310.1 != bt312.1)) else (none)) else (none)) else (none)) else (none)) else (none)) else (none))) else (none)) else (none))) else (none)))))))))))) = some r := H
    have A6 := Aside0.mk A60
    clear A60
    replace H := Option.bind_eq_some_iff.mp H
    obtain ⟨⟨t289, t290⟩, A70, H⟩ := H
    replace H : ((spec_CreepTenths.f k t278 t279).bind fun bt293 => ((spec_DrawCreepOf.f k l0).bind fun bt297 => ((impl_CreepOf.f bt297.1 bt297.2.1 bt297.2.2).bind fun bt300 => ((spec_CreepOf.f bt297.1 bt297.2.1 bt297.2.2).bind fun bt302 => ((impl_TrimLoss.f t278 t279).bind fun bt304 => ((spec_TrimLoss.f t278 t279).bind fun bt306 => ((spec_DrawMostNested.f k l0).bind fun bt308 => ((impl_MostNested.f bt308.1 bt308.2).bind fun bt310 => ((spec_MostNested.f bt308.1 bt308.2).bind fun bt312 => (if t282 = t286 then ((laws_likeInts.f k t281 t285).bind fun t314 => (if t314 = true then (if t290 = bt293.2 then ((laws_likeInts.f k t289 bt293.1).bind fun t315 => (if t315 = true then (if bt300.2 = bt302.2 then (if bt300.1 = bt302.1 then (if bt304.2 = bt306.2 then (if bt304.1 = bt306.1 then (if bt310.2 = bt312.2 then (laws_FnCreep.j0 k t278 t279 t280 t281 t282 t289 t290 bt308.1 bt308.2 bt310.1 bt310.2 (bt310.1 != bt312.1)) else (none)) else (none)) else (none)) else (none)) else (none)) else (none))) else (none)) else (none))) else (none))))))))))) = some r := H
    have A7 := Aside0.mk A70
    clear A70
    replace H := Option.bind_eq_some_iff.mp H
    obtain ⟨⟨t293, t294⟩, A80, H⟩ := H
    replace H : ((spec_DrawCreepOf.f k l0).bind fun bt297 => ((impl_CreepOf.f bt297.1 bt297.2.1 bt297.2.2).bind fun bt300 => ((spec_CreepOf.f bt297.1 bt297.2.1 bt297.2.2).bind fun bt302 => ((impl_TrimLoss.f t278 t279).bind fun bt304 => ((spec_TrimLoss.f t278 t279).bind fun bt306 => ((spec_DrawMostNested.f k l0).bind fun bt308 => ((impl_MostNested.f bt308.1 bt308.2).bind fun bt310 => ((spec_MostNested.f bt308.1 bt308.2).bind fun bt312 => (if t282 = t286 then ((laws_likeInts.f k t281 t285).bind fun t314 => (if t314 = true then (if t290 = t294 then ((laws_likeInts.f k t289 t293).bind fun t315 => (if t315 = true then (if bt300.2 = bt302.2 then (if bt300.1 = bt302.1 then (if bt304.2 = bt306.2 then (if bt304.1 = bt306.1 then (if bt310.2 = bt312.2 then (laws_FnCreep.j0 k t278 t279 t280 t281 t282 t289 t290 bt308.1 bt308.2 bt310.1 bt310.2 (bt310.1 != bt312.1)) else (none)) else (none)) else (none)) else (none)) else (none)) else (none))) else (none)) else (none))) else (none)))))))))) = some r := H
    have A8 := Aside0.mk A80
    clear A80
    replace H := Option.bind_eq_some_iff.mp H
    obtain ⟨⟨t297, t298, t299⟩, A90, H⟩ := H
    replace H : ((impl_CreepOf.f t297 t298 t299).bind fun bt300 => ((spec_CreepOf.f t297 t298 t299).bind fun bt302 => ((impl_TrimLoss.f t278 t279).bind fun bt304 => ((spec_TrimLoss.f t278 t279).bind fun bt306 => ((spec_DrawMostNested.f k l0).bind fun bt308 => ((impl_MostNested.f bt308.1 bt308.2).bind fun bt310 => ((spec_MostNested.f bt308.1 bt308.2).bind fun bt312 => (if t282 = t286 then ((laws_likeInts.f k t281 t285).bind fun t314 => (if t314 = true then (if t290 = t294 then ((laws_likeInts.f k t289 t293).bind fun t315 => (if t315 = true then (if bt300.2 = bt302.2 then (if bt300.1 = bt302.1 then (if bt304.2 = bt306.2 then (if bt304.1 = bt306.1 then (if bt310.2 = bt312.2 then (laws_FnCreep.j0 k t278 t279 t280 t281 t282 t289 t290 bt308.1 bt308.2 bt310.1 bt310.2 (bt310.1 != bt312.1)) else (none)) else (none)) else (none)) else (none)) else (none)) else (none))) else (none)) else (none))) else (none))))))))) = some r := H
    have A9 := Aside0.mk A90
    clear A90
    replace H := Option.bind_eq_some_iff.mp H
    obtain ⟨⟨t300, t301⟩, A100, H⟩ := H
    replace H : ((spec_CreepOf.f t297 t298 t299).bind fun bt302 => ((impl_TrimLoss.f t278 t279).bind fun bt304 => ((spec_TrimLoss.f t278 t279).bind fun bt306 => ((spec_DrawMostNested.f k l0).bind fun bt308 => ((impl_MostNested.f bt308.1 bt308.2).bind fun bt310 => ((spec_MostNested.f bt308.1 bt308.2).bind fun bt312 => (if t282 = t286 then ((laws_likeInts.f k t281 t285).bind fun t314 => (if t314 = true then (if t290 = t294 then ((laws_likeInts.f k t289 t293).bind fun t315 => (if t315 = true then (if t301 = bt302.2 then (if t300 = bt302.1 then (if bt304.2 = bt306.2 then (if bt304.1 = bt306.1 then (if bt310.2 = bt312.2 then (laws_FnCreep.j0 k t278 t279 t280 t281 t282 t289 t290 bt308.1 bt308.2 bt310.1 bt310.2 (bt310.1 != bt312.1)) else (none)) else (none)) else (none)) else (none)) else (none)) else (none))) else (none)) else (none))) else (none)))))))) = some r := H
    have A10 := Aside0.mk A100
    clear A100
    replace H := Option.bind_eq_some_iff.mp H
    obtain ⟨⟨t302, t303⟩, A110, H⟩ := H
    replace H : ((impl_TrimLoss.f t278 t279).bind fun bt304 => ((spec_TrimLoss.f t278 t279).bind fun bt306 => ((spec_DrawMostNested.f k l0).bind fun bt308 => ((impl_MostNested.f bt308.1 bt308.2).bind fun bt310 => ((spec_MostNested.f bt308.1 bt308.2).bind fun bt312 => (if t282 = t286 then ((laws_likeInts.f k t281 t285).bind fun t314 => (if t314 = true then (if t290 = t294 then ((laws_likeInts.f k t289 t293).bind fun t315 => (if t315 = true then (if t301 = t303 then (if t300 = t302 then (if bt304.2 = bt306.2 then (if bt304.1 = bt306.1 then (if bt310.2 = bt312.2 then (laws_FnCreep.j0 k t278 t279 t280 t281 t282 t289 t290 bt308.1 bt308.2 bt310.1 bt310.2 (bt310.1 != bt312.1)) else (none)) else (none)) else (none)) else (none)) else (none)) else (none))) else (none)) else (none))) else (none))))))) = some r := H
    have A11 := Aside0.mk A110
    clear A110
    replace H := Option.bind_eq_some_iff.mp H
    obtain ⟨⟨t304, t305⟩, A120, H⟩ := H
    replace H : ((spec_TrimLoss.f t278 t279).bind fun bt306 => ((spec_DrawMostNested.f k l0).bind fun bt308 => ((impl_MostNested.f bt308.1 bt308.2).bind fun bt310 => ((spec_MostNested.f bt308.1 bt308.2).bind fun bt312 => (if t282 = t286 then ((laws_likeInts.f k t281 t285).bind fun t314 => (if t314 = true then (if t290 = t294 then ((laws_likeInts.f k t289 t293).bind fun t315 => (if t315 = true then (if t301 = t303 then (if t300 = t302 then (if t305 = bt306.2 then (if t304 = bt306.1 then (if bt310.2 = bt312.2 then (laws_FnCreep.j0 k t278 t279 t280 t281 t282 t289 t290 bt308.1 bt308.2 bt310.1 bt310.2 (bt310.1 != bt312.1)) else (none)) else (none)) else (none)) else (none)) else (none)) else (none))) else (none)) else (none))) else (none)))))) = some r := H
    have A12 := Aside0.mk A120
    clear A120
    replace H := Option.bind_eq_some_iff.mp H
    obtain ⟨⟨t306, t307⟩, A130, H⟩ := H
    replace H : ((spec_DrawMostNested.f k l0).bind fun bt308 => ((impl_MostNested.f bt308.1 bt308.2).bind fun bt310 => ((spec_MostNested.f bt308.1 bt308.2).bind fun bt312 => (if t282 = t286 then ((laws_likeInts.f k t281 t285).bind fun t314 => (if t314 = true then (if t290 = t294 then ((laws_likeInts.f k t289 t293).bind fun t315 => (if t315 = true then (if t301 = t303 then (if t300 = t302 then (if t305 = t307 then (if t304 = t306 then (if bt310.2 = bt312.2 then (laws_FnCreep.j0 k t278 t279 t280 t281 t282 t289 t290 bt308.1 bt308.2 bt310.1 bt310.2 (bt310.1 != bt312.1)) else (none)) else (none)) else (none)) else (none)) else (none)) else (none))) else (none)) else (none))) else (none))))) = some r := H
    have A13 := Aside0.mk A130
    clear A130
    replace H := Option.bind_eq_some_iff.mp H
    obtain ⟨⟨t308, t309⟩, A140, H⟩ := H
    replace H : ((impl_MostNested.f t308 t309).bind fun bt310 => ((spec_MostNested.f t308 t309).bind fun bt312 => (if t282 = t286 then ((laws_likeInts.f k t281 t285).bind fun t314 => (if t314 = true then (if t290 = t294 then ((laws_likeInts.f k t289 t293).bind fun t315 => (if t315 = true then (if t301 = t303 then (if t300 = t302 then (if t305 = t307 then (if t304 = t306 then (if bt310.2 = bt312.2 then (laws_FnCreep.j0 k t278 t279 t280 t281 t282 t289 t290 t308 t309 bt310.1 bt310.2 (bt310.1 != bt312.1)) else (none)) else (none)) else (none)) else (none)) else (none)) else (none))) else (none)) else (none))) else (none)))) = some r := H
    have A14 := Aside0.mk A140
    clear A140
    replace H := Option.bind_eq_some_iff.mp H
    obtain ⟨⟨t310, t311⟩, A150, H⟩ := H
    replace H : ((spec_MostNested.f t308 t309).bind fun bt312 => (if t282 = t286 then ((laws_likeInts.f k t281 t285).bind fun t314 => (if t314 = true then (if t290 = t294 then ((laws_likeInts.f k t289 t293).bind fun t315 => (if t315 = true then (if t301 = t303 then (if t300 = t302 then (if t305 = t307 then (if t304 = t306 then (if t311 = bt312.2 then (laws_FnCreep.j0 k t278 t279 t280 t281 t282 t289 t290 t308 t309 t310 t311 (t310 != bt312.1)) else (none)) else (none)) else (none)) else (none)) else (none)) else (none))) else (none)) else (none))) else (none))) = some r := H
    have A15 := Aside0.mk A150
    clear A150
    replace H := Option.bind_eq_some_iff.mp H
    obtain ⟨⟨t312, t313⟩, A160, H⟩ := H
    replace H : (if t282 = t286 then ((laws_likeInts.f k t281 t285).bind fun t314 => (if t314 = true then (if t290 = t294 then ((laws_likeInts.f k t289 t293).bind fun t315 => (if t315 = true then (if t301 = t303 then (if t300 = t302 then (if t305 = t307 then (if t304 = t306 then (if t311 = t313 then (laws_FnCreep.j0 k t278 t279 t280 t281 t282 t289 t290 t308 t309 t310 t311 (t310 != t312)) else (none)) else (none)) else (none)) else (none)) else (none)) else (none))) else (none)) else (none))) else (none)) = some r := H
    have A16 := Aside0.mk A160
    clear A160
    have HC17 := Aside0.mk H
    clear H
    go_enter Try.func7, Try.ntmps7
    go_upto_region 16 with (first | (go_at_call 13; (with_reducible refine (laws_big.calls _ _ l0 false _ ?side1 ?side2 A2.out).mono ?_); (case side1 => repeat (first | exact HR0.out | (with_reducible refine Kd.C_alloc ?_ _) | (with_reducible refine Kd.C_drewN ?_ _) | (with_reducible refine Kd.C_drew ?_))); (case side2 => exact HC0.out); rintro e w' ⟨rfl, ⟨nd, rfl⟩⟩; (try first | exact ⟨rfl, _, World.drewN_drewN _ _ _⟩ | exact ⟨rfl, _, Eq.trans (World.drewN_drewN _ _ _) (congrArg (World.drewN _) (Nat.add_assoc _ _ _))⟩)) | (go_at_call 47; (with_reducible refine (spec_DrawMarginsFor.calls k _ _ l0 t278 t279 t280 _ ?side1 ?side2 A4.out).mono ?_); (case side1 => repeat (first | exact HR0.out | (with_reducible refine Kd.C_alloc ?_ _) | (with_reducible refine Kd.C_drewN ?_ _) | (with_reducible refine Kd.C_drew ?_))); (case side2 => exact HC0.out); rintro e w18 ⟨rfl, hb⟩; have n0_ := Aside0.mk (below_step (by repeat (first | (with_reducible first | exact HB.out | apply below_alloc | apply pw_below_drewN | apply below_drew1) | exact HB.out)) hb); clear HB; have HB := n0_; clear n0_; (try clear hb); (try clear hb2); (try clear hk); (try clear hi)) | (go_at_call 48; (with_reducible refine (impl_MarginsFor.calls k t278 t279 t280 t281 t282 _ A5.out).mono ?_); rintro e w19 ⟨v283, rfl, ho0, hb⟩; have n0_ := Aside0.mk (Kd.R_lower ho0 (below_size (by repeat (first | (with_reducible first | exact HB.out | apply below_alloc | apply pw_below_drewN | apply below_drew1) | exact HB.out)))); have n1_ := Aside0.mk (below_step (by repeat (first | (with_reducible first | exact HB.out | apply below_alloc | apply pw_below_drewN | apply below_drew1) | exact HB.out)) hb); clear HB; have HO284 := n0_; have HB := n1_; clear n0_ n1_; (try clear hb); (try clear hb2); (try clear hk); (try clear hi); (try clear ho0)) | (go_at_call 49; (with_reducible refine (spec_MarginsFor.calls k t278 t279 t280 t285 t286 _ A6.out).mono ?_); rintro e w20 ⟨v287, rfl, ho0, hb⟩; have n0_ := Aside0.mk (Kd.R_elder' (by (with_reducible repeat (first | apply Kd.R_alloc | apply Kd.R_drewN | apply Kd.R_drew)); exact HO284.out) (Kd.R_base ho0) hb); have n1_ := Aside0.mk (Kd.R_lower (Kd.R_new' ho0 (Kd.R_lt (by (with_reducible repeat (first | apply Kd.R_alloc | apply Kd.R_drewN | apply Kd.R_drew)); exact HO284.out))) (below_size (by repeat (first | (with_reducible first | exact HB.out | apply below_alloc | apply pw_below_drewN | apply below_drew1) | exact HB.out)))); have n2_ := Aside0.mk (below_step (by repeat (first | (with_reducible first | exact HB.out | apply below_alloc | apply pw_below_drewN | apply below_drew1) | exact HB.out)) hb); clear HO284; clear HB; have HO284 := n0_; have HO288 := n1_; have HB := n2_; clear n0_ n1_ n2_; (try clear hb); (try clear hb2); (try clear hk); (try clear hi); (try clear ho0)) | (go_at_call 50; (with_reducible refine (impl_CreepTenths.calls k t278 t279 t289 t290 _ A7.out).mono ?_); rintro e w21 ⟨v291, rfl, ho0, hb⟩; have n0_ := Aside0.mk (Kd.R_elder' (by (with_reducible repeat (first | apply Kd.R_alloc | apply Kd.R_drewN | apply Kd.R_drew)); exact HO284.out) (Kd.R_base ho0) hb); have n1_ := Aside0.mk (Kd.R_elder' (by (with_reducible repeat (first | apply Kd.R_alloc | apply Kd.R_drewN | apply Kd.R_drew)); exact HO288.out) (Kd.R_base ho0) hb); have n2_ := Aside0.mk (Kd.R_lower (Kd.R_new' (Kd.R_new' ho0 (Kd.R_lt (by (with_reducible repeat (first | apply Kd.R_alloc | apply Kd.R_drewN | apply Kd.R_drew)); exact HO284.out))) (Kd.R_lt (by (with_reducible repeat (first | apply Kd.R_alloc | apply Kd.R_drewN | apply Kd.R_drew)); exact HO288.out))) (below_size (by repeat (first | (with_reducible first | exact HB.out | apply below_alloc | apply pw_below_drewN | apply below_drew1) | exact HB.out)))); have n3_ := Aside0.mk (below_step (by repeat (first | (with_reducible first | exact HB.out | apply below_alloc | apply pw_below_drewN | apply below_drew1) | exact HB.out)) hb); clear HO284; clear HO288; clear HB; have HO284 := n0_; have HO288 := n1_; have HO292 := n2_; have HB := n3_; clear n0_ n1_ n2_ n3_; (try clear hb); (try clear hb2); (try clear hk); (try clear hi); (try clear ho0)) | (go_at_call 51; (with_reducible refine (spec_CreepTenths.calls k t278 t279 t293 t294 _ A8.out).mono ?_); rintro e w22 ⟨v295, rfl, ho0, hb⟩; have n0_ := Aside0.mk (Kd.R_elder' (by (with_reducible repeat (first | apply Kd.R_alloc | apply Kd.R_drewN | apply Kd.R_drew)); exact HO284.out) (Kd.R_base ho0) hb); have n1_ := Aside0.mk (Kd.R_elder' (by (with_reducible repeat (first | apply Kd.R_alloc | apply Kd.R_drewN | apply Kd.R_drew)); exact HO288.out) (Kd.R_base ho0) hb); have n2_ := Aside0.mk (Kd.R_elder' (by (with_reducible repeat (first | apply Kd.R_alloc | apply Kd.R_drewN | apply Kd.R_drew)); exact HO292.out) (Kd.R_base ho0) hb); have n3_ := Aside0.mk (Kd.R_lower (Kd.R_new' (Kd.R_new' (Kd.R_new' ho0 (Kd.R_lt (by (with_reducible repeat (first | apply Kd.R_alloc | apply Kd.R_drewN | apply Kd.R_drew)); exact HO284.out))) (Kd.R_lt (by (with_reducible repeat (first | apply Kd.R_alloc | apply Kd.R_drewN | apply Kd.R_drew)); exact HO288.out))) (Kd.R_lt (by (with_reducible repeat (first | apply Kd.R_alloc | apply Kd.R_drewN | apply Kd.R_drew)); exact HO292.out))) (below_size (by repeat (first | (with_reducible first | exact HB.out | apply below_alloc | apply pw_below_drewN | apply below_drew1) | exact HB.out)))); have n4_ := Aside0.mk (below_step (by repeat (first | (with_reducible first | exact HB.out | apply below_alloc | apply pw_below_drewN | apply below_drew1) | exact HB.out)) hb); clear HO284; clear HO288; clear HO292; clear HB; have HO284 := n0_; have HO288 := n1_; have HO292 := n2_; have HO296 := n3_; have HB := n4_; clear n0_ n1_ n2_ n3_ n4_; (try clear hb); (try clear hb2); (try clear hk); (try clear hi); (try clear ho0)) | (go_at_call 52; (with_reducible refine (spec_DrawCreepOf.calls k _ _ l0 t297 t298 t299 _ ?side1 ?side2 A9.out).mono ?_); (case side1 => repeat (first | exact (Kd.C_below HR0.out HB.out) | (with_reducible refine Kd.C_alloc ?_ _) | (with_reducible refine Kd.C_drewN ?_ _) | (with_reducible refine Kd.C_drew ?_))); (case side2 => exact HC0.out); rintro e w23 ⟨rfl, hb⟩; have n0_ := Aside0.mk (Kd.R_below (by (with_reducible repeat (first | apply Kd.R_alloc | apply Kd.R_drewN | apply Kd.R_drew)); exact HO284.out) hb); have n1_ := Aside0.mk (Kd.R_below (by (with_reducible repeat (first | apply Kd.R_alloc | apply Kd.R_drewN | apply Kd.R_drew)); exact HO288.out) hb); have n2_ := Aside0.mk (Kd.R_below (by (with_reducible repeat (first | apply Kd.R_alloc | apply Kd.R_drewN | apply Kd.R_drew)); exact HO292.out) hb); have n3_ := Aside0.mk (Kd.R_below (by (with_reducible repeat (first | apply Kd.R_alloc | apply Kd.R_drewN | apply Kd.R_drew)); exact HO296.out) hb); have n4_ := Aside0.mk (below_step (by repeat (first | (with_reducible first | exact HB.out | apply below_alloc | apply pw_below_drewN | apply below_drew1) | exact HB.out)) hb); clear HO284; clear HO288; clear HO292; clear HO296; clear HB; have HO284 := n0_; have HO288 := n1_; have HO292 := n2_; have HO296 := n3_; have HB := n4_; clear n0_ n1_ n2_ n3_ n4_; (try clear hb); (try clear hb2); (try clear hk); (try clear hi)) | (go_at_call 53; (with_reducible refine (impl_CreepOf.calls t297 t298 t299 t300 t301 _ A10.out).mono ?_); rintro e w' ⟨rfl, ⟨nd, rfl⟩⟩; (try first | exact ⟨rfl, _, World.drewN_drewN _ _ _⟩ | exact ⟨rfl, _, Eq.trans (World.drewN_drewN _ _ _) (congrArg (World.drewN _) (Nat.add_assoc _ _ _))⟩)) | (go_at_call 54; (with_reducible refine (spec_CreepOf.calls t297 t298 t299 t302 t303 _ A11.out).mono ?_); rintro e w' ⟨rfl, ⟨nd, rfl⟩⟩; (try first | exact ⟨rfl, _, World.drewN_drewN _ _ _⟩ | exact ⟨rfl, _, Eq.trans (World.drewN_drewN _ _ _) (congrArg (World.drewN _) (Nat.add_assoc _ _ _))⟩)) | (go_at_call 55; (with_reducible refine (impl_TrimLoss.calls t278 t279 t304 t305 _ A12.out).mono ?_); rintro e w' ⟨rfl, ⟨nd, rfl⟩⟩; (try first | exact ⟨rfl, _, World.drewN_drewN _ _ _⟩ | exact ⟨rfl, _, Eq.trans (World.drewN_drewN _ _ _) (congrArg (World.drewN _) (Nat.add_assoc _ _ _))⟩)) | (go_at_call 56; (with_reducible refine (spec_TrimLoss.calls t278 t279 t306 t307 _ A13.out).mono ?_); rintro e w' ⟨rfl, ⟨nd, rfl⟩⟩; (try first | exact ⟨rfl, _, World.drewN_drewN _ _ _⟩ | exact ⟨rfl, _, Eq.trans (World.drewN_drewN _ _ _) (congrArg (World.drewN _) (Nat.add_assoc _ _ _))⟩)) | (go_at_call 57; (with_reducible refine (spec_DrawMostNested.calls k _ _ l0 t308 t309 _ ?side1 ?side2 A14.out).mono ?_); (case side1 => repeat (first | exact (Kd.C_below HR0.out (by repeat (first | (with_reducible first | exact HB.out | apply below_alloc | apply pw_below_drewN | apply below_drew1) | exact HB.out))) | (with_reducible refine Kd.C_alloc ?_ _) | (with_reducible refine Kd.C_drewN ?_ _) | (with_reducible refine Kd.C_drew ?_))); (case side2 => exact HC0.out); rintro e w24 ⟨rfl, hb⟩; have n0_ := Aside0.mk (Kd.R_below (by (with_reducible repeat (first | apply Kd.R_alloc | apply Kd.R_drewN | apply Kd.R_drew)); exact HO284.out) hb); have n1_ := Aside0.mk (Kd.R_below (by (with_reducible repeat (first | apply Kd.R_alloc | apply Kd.R_drewN | apply Kd.R_drew)); exact HO288.out) hb); have n2_ := Aside0.mk (Kd.R_below (by (with_reducible repeat (first | apply Kd.R_alloc | apply Kd.R_drewN | apply Kd.R_drew)); exact HO292.out) hb); have n3_ := Aside0.mk (Kd.R_below (by (with_reducible repeat (first | apply Kd.R_alloc | apply Kd.R_drewN | apply Kd.R_drew)); exact HO296.out) hb); have n4_ := Aside0.mk (below_step (by repeat (first | (with_reducible first | exact HB.out | apply below_alloc | apply pw_below_drewN | apply below_drew1) | exact HB.out)) hb); clear HO284; clear HO288; clear HO292; clear HO296; clear HB; have HO284 := n0_; have HO288 := n1_; have HO292 := n2_; have HO296 := n3_; have HB := n4_; clear n0_ n1_ n2_ n3_ n4_; (try clear hb); (try clear hb2); (try clear hk); (try clear hi)) | (go_at_call 58; (with_reducible refine (impl_MostNested.calls t308 t309 t310 t311 _ A15.out).mono ?_); rintro e w25 ⟨rfl, hb⟩; have n0_ := Aside0.mk (Kd.R_below (by (with_reducible repeat (first | apply Kd.R_alloc | apply Kd.R_drewN | apply Kd.R_drew)); exact HO284.out) hb); have n1_ := Aside0.mk (Kd.R_below (by (with_reducible repeat (first | apply Kd.R_alloc | apply Kd.R_drewN | apply Kd.R_drew)); exact HO288.out) hb); have n2_ := Aside0.mk (Kd.R_below (by (with_reducible repeat (first | apply Kd.R_alloc | apply Kd.R_drewN | apply Kd.R_drew)); exact HO292.out) hb); have n3_ := Aside0.mk (Kd.R_below (by (with_reducible repeat (first | apply Kd.R_alloc | apply Kd.R_drewN | apply Kd.R_drew)); exact HO296.out) hb); have n4_ := Aside0.mk (below_step (by repeat (first | (with_reducible first | exact HB.out | apply below_alloc | apply pw_below_drewN | apply below_drew1) | exact HB.out)) hb); clear HO284; clear HO288; clear HO292; clear HO296; clear HB; have HO284 := n0_; have HO288 := n1_; have HO292 := n2_; have HO296 := n3_; have HB := n4_; clear n0_ n1_ n2_ n3_ n4_; (try clear hb); (try clear hb2); (try clear hk); (try clear hi)) | (go_at_call 59; (with_reducible refine (spec_MostNested.calls t308 t309 t312 t313 _ A16.out).mono ?_); rintro e w26 ⟨rfl, hb⟩; have n0_ := Aside0.mk (Kd.R_below (by (with_reducible repeat (first | apply Kd.R_alloc | apply Kd.R_drewN | apply Kd.R_drew)); exact HO284.out) hb); have n1_ := Aside0.mk (Kd.R_below (by (with_reducible repeat (first | apply Kd.R_alloc | apply Kd.R_drewN | apply Kd.R_drew)); exact HO288.out) hb); have n2_ := Aside0.mk (Kd.R_below (by (with_reducible repeat (first | apply Kd.R_alloc | apply Kd.R_drewN | apply Kd.R_drew)); exact HO292.out) hb); have n3_ := Aside0.mk (Kd.R_below (by (with_reducible repeat (first | apply Kd.R_alloc | apply Kd.R_drewN | apply Kd.R_drew)); exact HO296.out) hb); have n4_ := Aside0.mk (below_step (by repeat (first | (with_reducible first | exact HB.out | apply below_alloc | apply pw_below_drewN | apply below_drew1) | exact HB.out)) hb); clear HO284; clear HO288; clear HO292; clear HO296; clear HB; have HO284 := n0_; have HO288 := n1_; have HO292 := n2_; have HO296 := n3_; have HB := n4_; clear n0_ n1_ n2_ n3_ n4_; (try clear hb); (try clear hb2); (try clear hk); (try clear hi)))
    repeat (go_quiet (first | (go_at_call 13; (with_reducible refine (laws_big.calls _ _ l0 false _ ?side1 ?side2 A2.out).mono ?_); (case side1 => repeat (first | exact HR0.out | (with_reducible refine Kd.C_alloc ?_ _) | (with_reducible refine Kd.C_drewN ?_ _) | (with_reducible refine Kd.C_drew ?_))); (case side2 => exact HC0.out); rintro e w' ⟨rfl, ⟨nd, rfl⟩⟩; (try first | exact ⟨rfl, _, World.drewN_drewN _ _ _⟩ | exact ⟨rfl, _, Eq.trans (World.drewN_drewN _ _ _) (congrArg (World.drewN _) (Nat.add_assoc _ _ _))⟩)) | (go_at_call 47; (with_reducible refine (spec_DrawMarginsFor.calls k _ _ l0 t278 t279 t280 _ ?side1 ?side2 A4.out).mono ?_); (case side1 => repeat (first | exact HR0.out | (with_reducible refine Kd.C_alloc ?_ _) | (with_reducible refine Kd.C_drewN ?_ _) | (with_reducible refine Kd.C_drew ?_))); (case side2 => exact HC0.out); rintro e w18 ⟨rfl, hb⟩; have n0_ := Aside0.mk (below_step (by repeat (first | (with_reducible first | exact HB.out | apply below_alloc | apply pw_below_drewN | apply below_drew1) | exact HB.out)) hb); clear HB; have HB := n0_; clear n0_; (try clear hb); (try clear hb2); (try clear hk); (try clear hi)) | (go_at_call 48; (with_reducible refine (impl_MarginsFor.calls k t278 t279 t280 t281 t282 _ A5.out).mono ?_); rintro e w19 ⟨v283, rfl, ho0, hb⟩; have n0_ := Aside0.mk (Kd.R_lower ho0 (below_size (by repeat (first | (with_reducible first | exact HB.out | apply below_alloc | apply pw_below_drewN | apply below_drew1) | exact HB.out)))); have n1_ := Aside0.mk (below_step (by repeat (first | (with_reducible first | exact HB.out | apply below_alloc | apply pw_below_drewN | apply below_drew1) | exact HB.out)) hb); clear HB; have HO284 := n0_; have HB := n1_; clear n0_ n1_; (try clear hb); (try clear hb2); (try clear hk); (try clear hi); (try clear ho0)) | (go_at_call 49; (with_reducible refine (spec_MarginsFor.calls k t278 t279 t280 t285 t286 _ A6.out).mono ?_); rintro e w20 ⟨v287, rfl, ho0, hb⟩; have n0_ := Aside0.mk (Kd.R_elder' (by (with_reducible repeat (first | apply Kd.R_alloc | apply Kd.R_drewN | apply Kd.R_drew)); exact HO284.out) (Kd.R_base ho0) hb); have n1_ := Aside0.mk (Kd.R_lower (Kd.R_new' ho0 (Kd.R_lt (by (with_reducible repeat (first | apply Kd.R_alloc | apply Kd.R_drewN | apply Kd.R_drew)); exact HO284.out))) (below_size (by repeat (first | (with_reducible first | exact HB.out | apply below_alloc | apply pw_below_drewN | apply below_drew1) | exact HB.out)))); have n2_ := Aside0.mk (below_step (by repeat (first | (with_reducible first | exact HB.out | apply below_alloc | apply pw_below_drewN | apply below_drew1) | exact HB.out)) hb); clear HO284; clear HB; have HO284 := n0_; have HO288 := n1_; have HB := n2_; clear n0_ n1_ n2_; (try clear hb); (try clear hb2); (try clear hk); (try clear hi); (try clear ho0)) | (go_at_call 50; (with_reducible refine (impl_CreepTenths.calls k t278 t279 t289 t290 _ A7.out).mono ?_); rintro e w21 ⟨v291, rfl, ho0, hb⟩; have n0_ := Aside0.mk (Kd.R_elder' (by (with_reducible repeat (first | apply Kd.R_alloc | apply Kd.R_drewN | apply Kd.R_drew)); exact HO284.out) (Kd.R_base ho0) hb); have n1_ := Aside0.mk (Kd.R_elder' (by (with_reducible repeat (first | apply Kd.R_alloc | apply Kd.R_drewN | apply Kd.R_drew)); exact HO288.out) (Kd.R_base ho0) hb); have n2_ := Aside0.mk (Kd.R_lower (Kd.R_new' (Kd.R_new' ho0 (Kd.R_lt (by (with_reducible repeat (first | apply Kd.R_alloc | apply Kd.R_drewN | apply Kd.R_drew)); exact HO284.out))) (Kd.R_lt (by (with_reducible repeat (first | apply Kd.R_alloc | apply Kd.R_drewN | apply Kd.R_drew)); exact HO288.out))) (below_size (by repeat (first | (with_reducible first | exact HB.out | apply below_alloc | apply pw_below_drewN | apply below_drew1) | exact HB.out)))); have n3_ := Aside0.mk (below_step (by repeat (first | (with_reducible first | exact HB.out | apply below_alloc | apply pw_below_drewN | apply below_drew1) | exact HB.out)) hb); clear HO284; clear HO288; clear HB; have HO284 := n0_; have HO288 := n1_; have HO292 := n2_; have HB := n3_; clear n0_ n1_ n2_ n3_; (try clear hb); (try clear hb2); (try clear hk); (try clear hi); (try clear ho0)) | (go_at_call 51; (with_reducible refine (spec_CreepTenths.calls k t278 t279 t293 t294 _ A8.out).mono ?_); rintro e w22 ⟨v295, rfl, ho0, hb⟩; have n0_ := Aside0.mk (Kd.R_elder' (by (with_reducible repeat (first | apply Kd.R_alloc | apply Kd.R_drewN | apply Kd.R_drew)); exact HO284.out) (Kd.R_base ho0) hb); have n1_ := Aside0.mk (Kd.R_elder' (by (with_reducible repeat (first | apply Kd.R_alloc | apply Kd.R_drewN | apply Kd.R_drew)); exact HO288.out) (Kd.R_base ho0) hb); have n2_ := Aside0.mk (Kd.R_elder' (by (with_reducible repeat (first | apply Kd.R_alloc | apply Kd.R_drewN | apply Kd.R_drew)); exact HO292.out) (Kd.R_base ho0) hb); have n3_ := Aside0.mk (Kd.R_lower (Kd.R_new' (Kd.R_new' (Kd.R_new' ho0 (Kd.R_lt (by (with_reducible repeat (first | apply Kd.R_alloc | apply Kd.R_drewN | apply Kd.R_drew)); exact HO284.out))) (Kd.R_lt (by (with_reducible repeat (first | apply Kd.R_alloc | apply Kd.R_drewN | apply Kd.R_drew)); exact HO288.out))) (Kd.R_lt (by (with_reducible repeat (first | apply Kd.R_alloc | apply Kd.R_drewN | apply Kd.R_drew)); exact HO292.out))) (below_size (by repeat (first | (with_reducible first | exact HB.out | apply below_alloc | apply pw_below_drewN | apply below_drew1) | exact HB.out)))); have n4_ := Aside0.mk (below_step (by repeat (first | (with_reducible first | exact HB.out | apply below_alloc | apply pw_below_drewN | apply below_drew1) | exact HB.out)) hb); clear HO284; clear HO288; clear HO292; clear HB; have HO284 := n0_; have HO288 := n1_; have HO292 := n2_; have HO296 := n3_; have HB := n4_; clear n0_ n1_ n2_ n3_ n4_; (try clear hb); (try clear hb2); (try clear hk); (try clear hi); (try clear ho0)) | (go_at_call 52; (with_reducible refine (spec_DrawCreepOf.calls k _ _ l0 t297 t298 t299 _ ?side1 ?side2 A9.out).mono ?_); (case side1 => repeat (first | exact (Kd.C_below HR0.out HB.out) | (with_reducible refine Kd.C_alloc ?_ _) | (with_reducible refine Kd.C_drewN ?_ _) | (with_reducible refine Kd.C_drew ?_))); (case side2 => exact HC0.out); rintro e w23 ⟨rfl, hb⟩; have n0_ := Aside0.mk (Kd.R_below (by (with_reducible repeat (first | apply Kd.R_alloc | apply Kd.R_drewN | apply Kd.R_drew)); exact HO284.out) hb); have n1_ := Aside0.mk (Kd.R_below (by (with_reducible repeat (first | apply Kd.R_alloc | apply Kd.R_drewN | apply Kd.R_drew)); exact HO288.out) hb); have n2_ := Aside0.mk (Kd.R_below (by (with_reducible repeat (first | apply Kd.R_alloc | apply Kd.R_drewN | apply Kd.R_drew)); exact HO292.out) hb); have n3_ := Aside0.mk (Kd.R_below (by (with_reducible repeat (first | apply Kd.R_alloc | apply Kd.R_drewN | apply Kd.R_drew)); exact HO296.out) hb); have n4_ := Aside0.mk (below_step (by repeat (first | (with_reducible first | exact HB.out | apply below_alloc | apply pw_below_drewN | apply below_drew1) | exact HB.out)) hb); clear HO284; clear HO288; clear HO292; clear HO296; clear HB; have HO284 := n0_; have HO288 := n1_; have HO292 := n2_; have HO296 := n3_; have HB := n4_; clear n0_ n1_ n2_ n3_ n4_; (try clear hb); (try clear hb2); (try clear hk); (try clear hi)) | (go_at_call 53; (with_reducible refine (impl_CreepOf.calls t297 t298 t299 t300 t301 _ A10.out).mono ?_); rintro e w' ⟨rfl, ⟨nd, rfl⟩⟩; (try first | exact ⟨rfl, _, World.drewN_drewN _ _ _⟩ | exact ⟨rfl, _, Eq.trans (World.drewN_drewN _ _ _) (congrArg (World.drewN _) (Nat.add_assoc _ _ _))⟩)) | (go_at_call 54; (with_reducible refine (spec_CreepOf.calls t297 t298 t299 t302 t303 _ A11.out).mono ?_); rintro e w' ⟨rfl, ⟨nd, rfl⟩⟩; (try first | exact ⟨rfl, _, World.drewN_drewN _ _ _⟩ | exact ⟨rfl, _, Eq.trans (World.drewN_drewN _ _ _) (congrArg (World.drewN _) (Nat.add_assoc _ _ _))⟩)) | (go_at_call 55; (with_reducible refine (impl_TrimLoss.calls t278 t279 t304 t305 _ A12.out).mono ?_); rintro e w' ⟨rfl, ⟨nd, rfl⟩⟩; (try first | exact ⟨rfl, _, World.drewN_drewN _ _ _⟩ | exact ⟨rfl, _, Eq.trans (World.drewN_drewN _ _ _) (congrArg (World.drewN _) (Nat.add_assoc _ _ _))⟩)) | (go_at_call 56; (with_reducible refine (spec_TrimLoss.calls t278 t279 t306 t307 _ A13.out).mono ?_); rintro e w' ⟨rfl, ⟨nd, rfl⟩⟩; (try first | exact ⟨rfl, _, World.drewN_drewN _ _ _⟩ | exact ⟨rfl, _, Eq.trans (World.drewN_drewN _ _ _) (congrArg (World.drewN _) (Nat.add_assoc _ _ _))⟩)) | (go_at_call 57; (with_reducible refine (spec_DrawMostNested.calls k _ _ l0 t308 t309 _ ?side1 ?side2 A14.out).mono ?_); (case side1 => repeat (first | exact (Kd.C_below HR0.out (by repeat (first | (with_reducible first | exact HB.out | apply below_alloc | apply pw_below_drewN | apply below_drew1) | exact HB.out))) | (with_reducible refine Kd.C_alloc ?_ _) | (with_reducible refine Kd.C_drewN ?_ _) | (with_reducible refine Kd.C_drew ?_))); (case side2 => exact HC0.out); rintro e w24 ⟨rfl, hb⟩; have n0_ := Aside0.mk (Kd.R_below (by (with_reducible repeat (first | apply Kd.R_alloc | apply Kd.R_drewN | apply Kd.R_drew)); exact HO284.out) hb); have n1_ := Aside0.mk (Kd.R_below (by (with_reducible repeat (first | apply Kd.R_alloc | apply Kd.R_drewN | apply Kd.R_drew)); exact HO288.out) hb); have n2_ := Aside0.mk (Kd.R_below (by (with_reducible repeat (first | apply Kd.R_alloc | apply Kd.R_drewN | apply Kd.R_drew)); exact HO292.out) hb); have n3_ := Aside0.mk (Kd.R_below (by (with_reducible repeat (first | apply Kd.R_alloc | apply Kd.R_drewN | apply Kd.R_drew)); exact HO296.out) hb); have n4_ := Aside0.mk (below_step (by repeat (first | (with_reducible first | exact HB.out | apply below_alloc | apply pw_below_drewN | apply below_drew1) | exact HB.out)) hb); clear HO284; clear HO288; clear HO292; clear HO296; clear HB; have HO284 := n0_; have HO288 := n1_; have HO292 := n2_; have HO296 := n3_; have HB := n4_; clear n0_ n1_ n2_ n3_ n4_; (try clear hb); (try clear hb2); (try clear hk); (try clear hi)) | (go_at_call 58; (with_reducible refine (impl_MostNested.calls t308 t309 t310 t311 _ A15.out).mono ?_); rintro e w25 ⟨rfl, hb⟩; have n0_ := Aside0.mk (Kd.R_below (by (with_reducible repeat (first | apply Kd.R_alloc | apply Kd.R_drewN | apply Kd.R_drew)); exact HO284.out) hb); have n1_ := Aside0.mk (Kd.R_below (by (with_reducible repeat (first | apply Kd.R_alloc | apply Kd.R_drewN | apply Kd.R_drew)); exact HO288.out) hb); have n2_ := Aside0.mk (Kd.R_below (by (with_reducible repeat (first | apply Kd.R_alloc | apply Kd.R_drewN | apply Kd.R_drew)); exact HO292.out) hb); have n3_ := Aside0.mk (Kd.R_below (by (with_reducible repeat (first | apply Kd.R_alloc | apply Kd.R_drewN | apply Kd.R_drew)); exact HO296.out) hb); have n4_ := Aside0.mk (below_step (by repeat (first | (with_reducible first | exact HB.out | apply below_alloc | apply pw_below_drewN | apply below_drew1) | exact HB.out)) hb); clear HO284; clear HO288; clear HO292; clear HO296; clear HB; have HO284 := n0_; have HO288 := n1_; have HO292 := n2_; have HO296 := n3_; have HB := n4_; clear n0_ n1_ n2_ n3_ n4_; (try clear hb); (try clear hb2); (try clear hk); (try clear hi)) | (go_at_call 59; (with_reducible refine (spec_MostNested.calls t308 t309 t312 t313 _ A16.out).mono ?_); rintro e w26 ⟨rfl, hb⟩; have n0_ := Aside0.mk (Kd.R_below (by (with_reducible repeat (first | apply Kd.R_alloc | apply Kd.R_drewN | apply Kd.R_drew)); exact HO284.out) hb); have n1_ := Aside0.mk (Kd.R_below (by (with_reducible repeat (first | apply Kd.R_alloc | apply Kd.R_drewN | apply Kd.R_drew)); exact HO288.out) hb); have n2_ := Aside0.mk (Kd.R_below (by (with_reducible repeat (first | apply Kd.R_alloc | apply Kd.R_drewN | apply Kd.R_drew)); exact HO292.out) hb); have n3_ := Aside0.mk (Kd.R_below (by (with_reducible repeat (first | apply Kd.R_alloc | apply Kd.R_drewN | apply Kd.R_drew)); exact HO296.out) hb); have n4_ := Aside0.mk (below_step (by repeat (first | (with_reducible first | exact HB.out | apply below_alloc | apply pw_below_drewN | apply below_drew1) | exact HB.out)) hb); clear HO284; clear HO288; clear HO292; clear HO296; clear HB; have HO284 := n0_; have HO288 := n1_; have HO292 := n2_; have HO296 := n3_; have HB := n4_; clear n0_ n1_ n2_ n3_ n4_; (try clear hb); (try clear hb2); (try clear hk); (try clear hi))); go_upto_region 16 with (first | (go_at_call 13; (with_reducible refine (laws_big.calls _ _ l0 false _ ?side1 ?side2 A2.out).mono ?_); (case side1 => repeat (first | exact HR0.out | (with_reducible refine Kd.C_alloc ?_ _) | (with_reducible refine Kd.C_drewN ?_ _) | (with_reducible refine Kd.C_drew ?_))); (case side2 => exact HC0.out); rintro e w' ⟨rfl, ⟨nd, rfl⟩⟩; (try first | exact ⟨rfl, _, World.drewN_drewN _ _ _⟩ | exact ⟨rfl, _, Eq.trans (World.drewN_drewN _ _ _) (congrArg (World.drewN _) (Nat.add_assoc _ _ _))⟩)) | (go_at_call 47; (with_reducible refine (spec_DrawMarginsFor.calls k _ _ l0 t278 t279 t280 _ ?side1 ?side2 A4.out).mono ?_); (case side1 => repeat (first | exact HR0.out | (with_reducible refine Kd.C_alloc ?_ _) | (with_reducible refine Kd.C_drewN ?_ _) | (with_reducible refine Kd.C_drew ?_))); (case side2 => exact HC0.out); rintro e w18 ⟨rfl, hb⟩; have n0_ := Aside0.mk (below_step (by repeat (first | (with_reducible first | exact HB.out | apply below_alloc | apply pw_below_drewN | apply below_drew1) | exact HB.out)) hb); clear HB; have HB := n0_; clear n0_; (try clear hb); (try clear hb2); (try clear hk); (try clear hi)) | (go_at_call 48; (with_reducible refine (impl_MarginsFor.calls k t278 t279 t280 t281 t282 _ A5.out).mono ?_); rintro e w19 ⟨v283, rfl, ho0, hb⟩; have n0_ := Aside0.mk (Kd.R_lower ho0 (below_size (by repeat (first | (with_reducible first | exact HB.out | apply below_alloc | apply pw_below_drewN | apply below_drew1) | exact HB.out)))); have n1_ := Aside0.mk (below_step (by repeat (first | (with_reducible first | exact HB.out | apply below_alloc | apply pw_below_drewN | apply below_drew1) | exact HB.out)) hb); clear HB; have HO284 := n0_; have HB := n1_; clear n0_ n1_; (try clear hb); (try clear hb2); (try clear hk); (try clear hi); (try clear ho0)) | (go_at_call 49; (with_reducible refine (spec_MarginsFor.calls k t278 t279 t280 t285 t286 _ A6.out).mono ?_); rintro e w20 ⟨v287, rfl, ho0, hb⟩; have n0_ := Aside0.mk (Kd.R_elder' (by (with_reducible repeat (first | apply Kd.R_alloc | apply Kd.R_drewN | apply Kd.R_drew)); exact HO284.out) (Kd.R_base ho0) hb); have n1_ := Aside0.mk (Kd.R_lower (Kd.R_new' ho0 (Kd.R_lt (by (with_reducible repeat (first | apply Kd.R_alloc | apply Kd.R_drewN | apply Kd.R_drew)); exact HO284.out))) (below_size (by repeat (first | (with_reducible first | exact HB.out | apply below_alloc | apply pw_below_drewN | apply below_drew1) | exact HB.out)))); have n2_ := Aside0.mk (below_step (by repeat (first | (with_reducible first | exact HB.out | apply below_alloc | apply pw_below_drewN | apply below_drew1) | exact HB.out)) hb); clear HO284; clear HB; have HO284 := n0_; have HO288 := n1_; have HB := n2_; clear n0_ n1_ n2_; (try clear hb); (try clear hb2); (try clear hk); (try clear hi); (try clear ho0)) | (go_at_call 50; (with_reducible refine (impl_CreepTenths.calls k t278 t279 t289 t290 _ A7.out).mono ?_); rintro e w21 ⟨v291, rfl, ho0, hb⟩; have n0_ := Aside0.mk (Kd.R_elder' (by (with_reducible repeat (first | apply Kd.R_alloc | apply Kd.R_drewN | apply Kd.R_drew)); exact HO284.out) (Kd.R_base ho0) hb); have n1_ := Aside0.mk (Kd.R_elder' (by (with_reducible repeat (first | apply Kd.R_alloc | apply Kd.R_drewN | apply Kd.R_drew)); exact HO288.out) (Kd.R_base ho0) hb); have n2_ := Aside0.mk (Kd.R_lower (Kd.R_new' (Kd.R_new' ho0 (Kd.R_lt (by (with_reducible repeat (first | apply Kd.R_alloc | apply Kd.R_drewN | apply Kd.R_drew)); exact HO284.out))) (Kd.R_lt (by (with_reducible repeat (first | apply Kd.R_alloc | apply Kd.R_drewN | apply Kd.R_drew)); exact HO288.out))) (below_size (by repeat (first | (with_reducible first | exact HB.out | apply below_alloc | apply pw_below_drewN | apply below_drew1) | exact HB.out)))); have n3_ := Aside0.mk (below_step (by repeat (first | (with_reducible first | exact HB.out | apply below_alloc | apply pw_below_drewN | apply below_drew1) | exact HB.out)) hb); clear HO284; clear HO288; clear HB; have HO284 := n0_; have HO288 := n1_; have HO292 := n2_; have HB := n3_; clear n0_ n1_ n2_ n3_; (try clear hb); (try clear hb2); (try clear hk); (try clear hi); (try clear ho0)) | (go_at_call 51; (with_reducible refine (spec_CreepTenths.calls k t278 t279 t293 t294 _ A8.out).mono ?_); rintro e w22 ⟨v295, rfl, ho0, hb⟩; have n0_ := Aside0.mk (Kd.R_elder' (by (with_reducible repeat (first | apply Kd.R_alloc | apply Kd.R_drewN | apply Kd.R_drew)); exact HO284.out) (Kd.R_base ho0) hb); have n1_ := Aside0.mk (Kd.R_elder' (by (with_reducible repeat (first | apply Kd.R_alloc | apply Kd.R_drewN | apply Kd.R_drew)); exact HO288.out) (Kd.R_base ho0) hb); have n2_ := Aside0.mk (Kd.R_elder' (by (with_reducible repeat (first | apply Kd.R_alloc | apply Kd.R_drewN | apply Kd.R_drew)); exact HO292.out) (Kd.R_base ho0) hb); have n3_ := Aside0.mk (Kd.R_lower (Kd.R_new' (Kd.R_new' (Kd.R_new' ho0 (Kd.R_lt (by (with_reducible repeat (first | apply Kd.R_alloc | apply Kd.R_drewN | apply Kd.R_drew)); exact HO284.out))) (Kd.R_lt (by (with_reducible repeat (first | apply Kd.R_alloc | apply Kd.R_drewN | apply Kd.R_drew)); exact HO288.out))) (Kd.R_lt (by (with_reducible repeat (first | apply Kd.R_alloc | apply Kd.R_drewN | apply Kd.R_drew)); exact HO292.out))) (below_size (by repeat (first | (with_reducible first | exact HB.out | apply below_alloc | apply pw_below_drewN | apply below_drew1) | exact HB.out)))); have n4_ := Aside0.mk (below_step (by repeat (first | (with_reducible first | exact HB.out | apply below_alloc | apply pw_below_drewN | apply below_drew1) | exact HB.out)) hb); clear HO284; clear HO288; clear HO292; clear HB; have HO284 := n0_; have HO288 := n1_; have HO292 := n2_; have HO296 := n3_; have HB := n4_; clear n0_ n1_ n2_ n3_ n4_; (try clear hb); (try clear hb2); (try clear hk); (try clear hi); (try clear ho0)) | (go_at_call 52; (with_reducible refine (spec_DrawCreepOf.calls k _ _ l0 t297 t298 t299 _ ?side1 ?side2 A9.out).mono ?_); (case side1 => repeat (first | exact (Kd.C_below HR0.out HB.out) | (with_reducible refine Kd.C_alloc ?_ _) | (with_reducible refine Kd.C_drewN ?_ _) | (with_reducible refine Kd.C_drew ?_))); (case side2 => exact HC0.out); rintro e w23 ⟨rfl, hb⟩; have n0_ := Aside0.mk (Kd.R_below (by (with_reducible repeat (first | apply Kd.R_alloc | apply Kd.R_drewN | apply Kd.R_drew)); exact HO284.out) hb); have n1_ := Aside0.mk (Kd.R_below (by (with_reducible repeat (first | apply Kd.R_alloc | apply Kd.R_drewN | apply Kd.R_drew)); exact HO288.out) hb); have n2_ := Aside0.mk (Kd.R_below (by (with_reducible repeat (first | apply Kd.R_alloc | apply Kd.R_drewN | apply Kd.R_drew)); exact HO292.out) hb); have n3_ := Aside0.mk (Kd.R_below (by (with_reducible repeat (first | apply Kd.R_alloc | apply Kd.R_drewN | apply Kd.R_drew)); exact HO296.out) hb); have n4_ := Aside0.mk (below_step (by repeat (first | (with_reducible first | exact HB.out | apply below_alloc | apply pw_below_drewN | apply below_drew1) | exact HB.out)) hb); clear HO284; clear HO288; clear HO292; clear HO296; clear HB; have HO284 := n0_; have HO288 := n1_; have HO292 := n2_; have HO296 := n3_; have HB := n4_; clear n0_ n1_ n2_ n3_ n4_; (try clear hb); (try clear hb2); (try clear hk); (try clear hi)) | (go_at_call 53; (with_reducible refine (impl_CreepOf.calls t297 t298 t299 t300 t301 _ A10.out).mono ?_); rintro e w' ⟨rfl, ⟨nd, rfl⟩⟩; (try first | exact ⟨rfl, _, World.drewN_drewN _ _ _⟩ | exact ⟨rfl, _, Eq.trans (World.drewN_drewN _ _ _) (congrArg (World.drewN _) (Nat.add_assoc _ _ _))⟩)) | (go_at_call 54; (with_reducible refine (spec_CreepOf.calls t297 t298 t299 t302 t303 _ A11.out).mono ?_); rintro e w' ⟨rfl, ⟨nd, rfl⟩⟩; (try first | exact ⟨rfl, _, World.drewN_drewN _ _ _⟩ | exact ⟨rfl, _, Eq.trans (World.drewN_drewN _ _ _) (congrArg (World.drewN _) (Nat.add_assoc _ _ _))⟩)) | (go_at_call 55; (with_reducible refine (impl_TrimLoss.calls t278 t279 t304 t305 _ A12.out).mono ?_); rintro e w' ⟨rfl, ⟨nd, rfl⟩⟩; (try first | exact ⟨rfl, _, World.drewN_drewN _ _ _⟩ | exact ⟨rfl, _, Eq.trans (World.drewN_drewN _ _ _) (congrArg (World.drewN _) (Nat.add_assoc _ _ _))⟩)) | (go_at_call 56; (with_reducible refine (spec_TrimLoss.calls t278 t279 t306 t307 _ A13.out).mono ?_); rintro e w' ⟨rfl, ⟨nd, rfl⟩⟩; (try first | exact ⟨rfl, _, World.drewN_drewN _ _ _⟩ | exact ⟨rfl, _, Eq.trans (World.drewN_drewN _ _ _) (congrArg (World.drewN _) (Nat.add_assoc _ _ _))⟩)) | (go_at_call 57; (with_reducible refine (spec_DrawMostNested.calls k _ _ l0 t308 t309 _ ?side1 ?side2 A14.out).mono ?_); (case side1 => repeat (first | exact (Kd.C_below HR0.out (by repeat (first | (with_reducible first | exact HB.out | apply below_alloc | apply pw_below_drewN | apply below_drew1) | exact HB.out))) | (with_reducible refine Kd.C_alloc ?_ _) | (with_reducible refine Kd.C_drewN ?_ _) | (with_reducible refine Kd.C_drew ?_))); (case side2 => exact HC0.out); rintro e w24 ⟨rfl, hb⟩; have n0_ := Aside0.mk (Kd.R_below (by (with_reducible repeat (first | apply Kd.R_alloc | apply Kd.R_drewN | apply Kd.R_drew)); exact HO284.out) hb); have n1_ := Aside0.mk (Kd.R_below (by (with_reducible repeat (first | apply Kd.R_alloc | apply Kd.R_drewN | apply Kd.R_drew)); exact HO288.out) hb); have n2_ := Aside0.mk (Kd.R_below (by (with_reducible repeat (first | apply Kd.R_alloc | apply Kd.R_drewN | apply Kd.R_drew)); exact HO292.out) hb); have n3_ := Aside0.mk (Kd.R_below (by (with_reducible repeat (first | apply Kd.R_alloc | apply Kd.R_drewN | apply Kd.R_drew)); exact HO296.out) hb); have n4_ := Aside0.mk (below_step (by repeat (first | (with_reducible first | exact HB.out | apply below_alloc | apply pw_below_drewN | apply below_drew1) | exact HB.out)) hb); clear HO284; clear HO288; clear HO292; clear HO296; clear HB; have HO284 := n0_; have HO288 := n1_; have HO292 := n2_; have HO296 := n3_; have HB := n4_; clear n0_ n1_ n2_ n3_ n4_; (try clear hb); (try clear hb2); (try clear hk); (try clear hi)) | (go_at_call 58; (with_reducible refine (impl_MostNested.calls t308 t309 t310 t311 _ A15.out).mono ?_); rintro e w25 ⟨rfl, hb⟩; have n0_ := Aside0.mk (Kd.R_below (by (with_reducible repeat (first | apply Kd.R_alloc | apply Kd.R_drewN | apply Kd.R_drew)); exact HO284.out) hb); have n1_ := Aside0.mk (Kd.R_below (by (with_reducible repeat (first | apply Kd.R_alloc | apply Kd.R_drewN | apply Kd.R_drew)); exact HO288.out) hb); have n2_ := Aside0.mk (Kd.R_below (by (with_reducible repeat (first | apply Kd.R_alloc | apply Kd.R_drewN | apply Kd.R_drew)); exact HO292.out) hb); have n3_ := Aside0.mk (Kd.R_below (by (with_reducible repeat (first | apply Kd.R_alloc | apply Kd.R_drewN | apply Kd.R_drew)); exact HO296.out) hb); have n4_ := Aside0.mk (below_step (by repeat (first | (with_reducible first | exact HB.out | apply below_alloc | apply pw_below_drewN | apply below_drew1) | exact HB.out)) hb); clear HO284; clear HO288; clear HO292; clear HO296; clear HB; have HO284 := n0_; have HO288 := n1_; have HO292 := n2_; have HO296 := n3_; have HB := n4_; clear n0_ n1_ n2_ n3_ n4_; (try clear hb); (try clear hb2); (try clear hk); (try clear hi)) | (go_at_call 59; (with_reducible refine (spec_MostNested.calls t308 t309 t312 t313 _ A16.out).mono ?_); rintro e w26 ⟨rfl, hb⟩; have n0_ := Aside0.mk (Kd.R_below (by (with_reducible repeat (first | apply Kd.R_alloc | apply Kd.R_drewN | apply Kd.R_drew)); exact HO284.out) hb); have n1_ := Aside0.mk (Kd.R_below (by (with_reducible repeat (first | apply Kd.R_alloc | apply Kd.R_drewN | apply Kd.R_drew)); exact HO288.out) hb); have n2_ := Aside0.mk (Kd.R_below (by (with_reducible repeat (first | apply Kd.R_alloc | apply Kd.R_drewN | apply Kd.R_drew)); exact HO292.out) hb); have n3_ := Aside0.mk (Kd.R_below (by (with_reducible repeat (first | apply Kd.R_alloc | apply Kd.R_drewN | apply Kd.R_drew)); exact HO296.out) hb); have n4_ := Aside0.mk (below_step (by repeat (first | (with_reducible first | exact HB.out | apply below_alloc | apply pw_below_drewN | apply below_drew1) | exact HB.out)) hb); clear HO284; clear HO288; clear HO292; clear HO296; clear HB; have HO284 := n0_; have HO288 := n1_; have HO292 := n2_; have HO296 := n3_; have HB := n4_; clear n0_ n1_ n2_ n3_ n4_; (try clear hb); (try clear hb2); (try clear hk); (try clear hi))))
    (try simp only [Act.put, List.setIfInBounds_toArray, List.set_cons_zero, List.set_cons_succ])
    go_cut [170] (fun v170 wc => ∃ (kq : Nat) (x170_16 : Bool), v170 = .bool x170_16 ∧ Aside0 (laws_FnCreep.j0 kq t278 t279 t280 t281 t282 t289 t290 t308 t309 t310 t311 x170_16 = some r) ∧ Aside0 (kq ≤ k) ∧ Aside0 (Kd.R (Kd.int .i64) 2 wc w.heap.size (fun k_ => some k_ ≠ (v291 : Value).ownBlock) v283 t281) ∧ Aside0 (Kd.R (Kd.int .i64) 2 wc w.heap.size (fun k_ => some k_ ≠ (v283 : Value).ownBlock) v291 t289) ∧ Aside0 (Below w.heap.size w wc))
    case first =>
      as_aux_lemma =>
        have H := HC17.out
        clear HC17
        by_cases c27 : t282 = t286
        · rw [if_pos c27] at H
          have c27b0 : (t282 == t286) = true := beq_iff_eq.mpr c27
          have c27b1 : (t282 != t286) = false := bne_eq_false_iff_eq.mpr c27
          clear c27
          (first | rw [c27b0] | (simp only [i64_w, i32_w]; rw [c27b0]) | skip)
          replace H := Option.bind_eq_some_iff.mp H
          obtain ⟨t314, A280, H⟩ := H
          replace H : (if t314 = true then (if t290 = t294 then ((laws_likeInts.f k t289 t293).bind fun t315 => (if t315 = true then (if t301 = t303 then (if t300 = t302 then (if t305 = t307 then (if t304 = t306 then (if t311 = t313 then (laws_FnCreep.j0 k t278 t279 t280 t281 t282 t289 t290 t308 t309 t310 t311 (t310 != t312)) else (none)) else (none)) else (none)) else (none)) else (none)) else (none))) else (none)) else (none)) = some r := H
          have A28 := Aside0.mk A280
          clear A280
          by_cases c29 : t314 = true
          · subst c29
            have H1 : (if t290 = t294 then ((laws_likeInts.f k t289 t293).bind fun t315 => (if t315 = true then (if t301 = t303 then (if t300 = t302 then (if t305 = t307 then (if t304 = t306 then (if t311 = t313 then (laws_FnCreep.j0 k t278 t279 t280 t281 t282 t289 t290 t308 t309 t310 t311 (t310 != t312)) else (none)) else (none)) else (none)) else (none)) else (none)) else (none))) else (none)) = some r := by rw [if_pos rfl] at H; exact H
            clear H
            have H := H1
            clear H1
            by_cases c30 : t290 = t294
            · rw [if_pos c30] at H
              have c30b0 : (t290 == t294) = true := beq_iff_eq.mpr c30
              have c30b1 : (t290 != t294) = false := bne_eq_false_iff_eq.mpr c30
              clear c30
              replace H := Option.bind_eq_some_iff.mp H
              obtain ⟨t315, A310, H⟩ := H
              replace H : (if t315 = true then (if t301 = t303 then (if t300 = t302 then (if t305 = t307 then (if t304 = t306 then (if t311 = t313 then (laws_FnCreep.j0 k t278 t279 t280 t281 t282 t289 t290 t308 t309 t310 t311 (t310 != t312)) else (none)) else (none)) else (none)) else (none)) else (none)) else (none)) = some r := H
              have A31 := Aside0.mk A310
              clear A310
              by_cases c32 : t315 = true
              · subst c32
                have H1 : (if t301 = t303 then (if t300 = t302 then (if t305 = t307 then (if t304 = t306 then (if t311 = t313 then (laws_FnCreep.j0 k t278 t279 t280 t281 t282 t289 t290 t308 t309 t310 t311 (t310 != t312)) else (none)) else (none)) else (none)) else (none)) else (none)) = some r := by rw [if_pos rfl] at H; exact H
                clear H
                have H := H1
                clear H1
                by_cases c33 : t301 = t303
                · rw [if_pos c33] at H
                  have c33b0 : (t301 == t303) = true := beq_iff_eq.mpr c33
                  have c33b1 : (t301 != t303) = false := bne_eq_false_iff_eq.mpr c33
                  clear c33
                  by_cases c34 : t300 = t302
                  · rw [if_pos c34] at H
                    have c34b0 : (t300 == t302) = true := beq_iff_eq.mpr c34
                    have c34b1 : (t300 != t302) = false := bne_eq_false_iff_eq.mpr c34
                    clear c34
                    by_cases c35 : t305 = t307
                    · rw [if_pos c35] at H
                      have c35b0 : (t305 == t307) = true := beq_iff_eq.mpr c35
                      have c35b1 : (t305 != t307) = false := bne_eq_false_iff_eq.mpr c35
                      clear c35
                      by_cases c36 : t304 = t306
                      · rw [if_pos c36] at H
                        have c36b0 : (t304 == t306) = true := beq_iff_eq.mpr c36
                        have c36b1 : (t304 != t306) = false := bne_eq_false_iff_eq.mpr c36
                        clear c36
                        by_cases c37 : t311 = t313
                        · rw [if_pos c37] at H
                          have c37b0 : (t311 == t313) = true := beq_iff_eq.mpr c37
                          have c37b1 : (t311 != t313) = false := bne_eq_false_iff_eq.mpr c37
                          clear c37
                          have H' := Aside0.mk H
                          clear H
                          obtain ⟨Ao38, co38, eo38⟩ := Kd.R_slice HO284.out
                          subst eo38
                          obtain ⟨Ao39, co39, eo39⟩ := Kd.R_slice HO288.out
                          subst eo39
                          go_wp2_with (first | (go_at_call 22; (with_reducible refine (laws_likeInts.calls k _ _ t281 _ _ t285 true _ ?side1 ?side2 ?side3 ?side4 A28.out).mono ?_); (case side1 => repeat (first | exact (Kd.R_reads' HO284.out).2.2 | (with_reducible refine Kd.C_alloc ?_ _) | (with_reducible refine Kd.C_drewN ?_ _) | (with_reducible refine Kd.C_drew ?_))); (case side2 => exact (Kd.R_reads' HO284.out).2.1); (case side3 => repeat (first | exact (Kd.R_reads' HO288.out).2.2 | (with_reducible refine Kd.C_alloc ?_ _) | (with_reducible refine Kd.C_drewN ?_ _) | (with_reducible refine Kd.C_drew ?_))); (case side4 => exact (Kd.R_reads' HO288.out).2.1); rintro e w' ⟨rfl, ⟨nd, rfl⟩⟩; (try first | exact ⟨rfl, _, World.drewN_drewN _ _ _⟩ | exact ⟨rfl, _, Eq.trans (World.drewN_drewN _ _ _) (congrArg (World.drewN _) (Nat.add_assoc _ _ _))⟩); obtain ⟨Ao40, co40, eo40⟩ := Kd.R_slice HO292.out; subst eo40; obtain ⟨Ao41, co41, eo41⟩ := Kd.R_slice HO296.out; subst eo41) | (go_at_call 22; (with_reducible refine (laws_likeInts.calls k _ _ t289 _ _ t293 true _ ?side1 ?side2 ?side3 ?side4 A31.out).mono ?_); (case side1 => repeat (first | exact (Kd.R_reads' HO292.out).2.2 | (with_reducible refine Kd.C_alloc ?_ _) | (with_reducible refine Kd.C_drewN ?_ _) | (with_reducible refine Kd.C_drew ?_))); (case side2 => exact (Kd.R_reads' HO292.out).2.1); (case side3 => repeat (first | exact (Kd.R_reads' HO296.out).2.2 | (with_reducible refine Kd.C_alloc ?_ _) | (with_reducible refine Kd.C_drewN ?_ _) | (with_reducible refine Kd.C_drew ?_))); (case side4 => exact (Kd.R_reads' HO296.out).2.1); rintro e w' ⟨rfl, ⟨nd, rfl⟩⟩; (try first | exact ⟨rfl, _, World.drewN_drewN _ _ _⟩ | exact ⟨rfl, _, Eq.trans (World.drewN_drewN _ _ _) (congrArg (World.drewN _) (Nat.add_assoc _ _ _))⟩)))
                          repeat (go_quiet (first | (go_at_call 22; (with_reducible refine (laws_likeInts.calls k _ _ t281 _ _ t285 true _ ?side1 ?side2 ?side3 ?side4 A28.out).mono ?_); (case side1 => repeat (first | exact (Kd.R_reads' HO284.out).2.2 | (with_reducible refine Kd.C_alloc ?_ _) | (with_reducible refine Kd.C_drewN ?_ _) | (with_reducible refine Kd.C_drew ?_))); (case side2 => exact (Kd.R_reads' HO284.out).2.1); (case side3 => repeat (first | exact (Kd.R_reads' HO288.out).2.2 | (with_reducible refine Kd.C_alloc ?_ _) | (with_reducible refine Kd.C_drewN ?_ _) | (with_reducible refine Kd.C_drew ?_))); (case side4 => exact (Kd.R_reads' HO288.out).2.1); rintro e w' ⟨rfl, ⟨nd, rfl⟩⟩; (try first | exact ⟨rfl, _, World.drewN_drewN _ _ _⟩ | exact ⟨rfl, _, Eq.trans (World.drewN_drewN _ _ _) (congrArg (World.drewN _) (Nat.add_assoc _ _ _))⟩); obtain ⟨Ao40, co40, eo40⟩ := Kd.R_slice HO292.out; subst eo40; obtain ⟨Ao41, co41, eo41⟩ := Kd.R_slice HO296.out; subst eo41) | (go_at_call 22; (with_reducible refine (laws_likeInts.calls k _ _ t289 _ _ t293 true _ ?side1 ?side2 ?side3 ?side4 A31.out).mono ?_); (case side1 => repeat (first | exact (Kd.R_reads' HO292.out).2.2 | (with_reducible refine Kd.C_alloc ?_ _) | (with_reducible refine Kd.C_drewN ?_ _) | (with_reducible refine Kd.C_drew ?_))); (case side2 => exact (Kd.R_reads' HO292.out).2.1); (case side3 => repeat (first | exact (Kd.R_reads' HO296.out).2.2 | (with_reducible refine Kd.C_alloc ?_ _) | (with_reducible refine Kd.C_drewN ?_ _) | (with_reducible refine Kd.C_drew ?_))); (case side4 => exact (Kd.R_reads' HO296.out).2.1); rintro e w' ⟨rfl, ⟨nd, rfl⟩⟩; (try first | exact ⟨rfl, _, World.drewN_drewN _ _ _⟩ | exact ⟨rfl, _, Eq.trans (World.drewN_drewN _ _ _) (congrArg (World.drewN _) (Nat.add_assoc _ _ _))⟩))); try go_wp2_with (first | (go_at_call 22; (with_reducible refine (laws_likeInts.calls k _ _ t281 _ _ t285 true _ ?side1 ?side2 ?side3 ?side4 A28.out).mono ?_); (case side1 => repeat (first | exact (Kd.R_reads' HO284.out).2.2 | (with_reducible refine Kd.C_alloc ?_ _) | (with_reducible refine Kd.C_drewN ?_ _) | (with_reducible refine Kd.C_drew ?_))); (case side2 => exact (Kd.R_reads' HO284.out).2.1); (case side3 => repeat (first | exact (Kd.R_reads' HO288.out).2.2 | (with_reducible refine Kd.C_alloc ?_ _) | (with_reducible refine Kd.C_drewN ?_ _) | (with_reducible refine Kd.C_drew ?_))); (case side4 => exact (Kd.R_reads' HO288.out).2.1); rintro e w' ⟨rfl, ⟨nd, rfl⟩⟩; (try first | exact ⟨rfl, _, World.drewN_drewN _ _ _⟩ | exact ⟨rfl, _, Eq.trans (World.drewN_drewN _ _ _) (congrArg (World.drewN _) (Nat.add_assoc _ _ _))⟩); obtain ⟨Ao40, co40, eo40⟩ := Kd.R_slice HO292.out; subst eo40; obtain ⟨Ao41, co41, eo41⟩ := Kd.R_slice HO296.out; subst eo41) | (go_at_call 22; (with_reducible refine (laws_likeInts.calls k _ _ t289 _ _ t293 true _ ?side1 ?side2 ?side3 ?side4 A31.out).mono ?_); (case side1 => repeat (first | exact (Kd.R_reads' HO292.out).2.2 | (with_reducible refine Kd.C_alloc ?_ _) | (with_reducible refine Kd.C_drewN ?_ _) | (with_reducible refine Kd.C_drew ?_))); (case side2 => exact (Kd.R_reads' HO292.out).2.1); (case side3 => repeat (first | exact (Kd.R_reads' HO296.out).2.2 | (with_reducible refine Kd.C_alloc ?_ _) | (with_reducible refine Kd.C_drewN ?_ _) | (with_reducible refine Kd.C_drew ?_))); (case side4 => exact (Kd.R_reads' HO296.out).2.1); rintro e w' ⟨rfl, ⟨nd, rfl⟩⟩; (try first | exact ⟨rfl, _, World.drewN_drewN _ _ _⟩ | exact ⟨rfl, _, Eq.trans (World.drewN_drewN _ _ _) (congrArg (World.drewN _) (Nat.add_assoc _ _ _))⟩))))
                          go_meet
                          case rel => exact ⟨_, ((t310 != t312)), (by first | rfl | (simp; done) | (simp [*]; done)), H', ⟨by first | omega | exact Nat.le_refl _⟩, ⟨by (with_reducible repeat (first | apply Kd.R_alloc | apply Kd.R_drewN | apply Kd.R_drew)); exact Kd.R_mono HO284.out (fun _ hk => hk.1.2)⟩, ⟨by (with_reducible repeat (first | apply Kd.R_alloc | apply Kd.R_drewN | apply Kd.R_drew)); exact Kd.R_mono HO292.out (fun _ hk => hk.1.1.2)⟩, ⟨by repeat (first | (with_reducible first | exact HB.out | apply below_alloc | apply pw_below_drewN | apply below_drew1) | exact HB.out)⟩⟩
                        · rw [if_neg c37] at H
                          exact absurd H (by simp)
                      · rw [if_neg c36] at H
                        exact absurd H (by simp)
                    · rw [if_neg c35] at H
                      exact absurd H (by simp)
                  · rw [if_neg c34] at H
                    exact absurd H (by simp)
                · rw [if_neg c33] at H
                  exact absurd H (by simp)
              · replace c32 := Bool.eq_false_iff.mpr c32
                subst c32
                have H1 : (none) = some r := by rw [if_neg (show ¬ (false = true) by decide)] at H; exact H
                clear H
                have H := H1
                clear H1
                exact absurd H (by simp)
            · rw [if_neg c30] at H
              exact absurd H (by simp)
          · replace c29 := Bool.eq_false_iff.mpr c29
            subst c29
            have H1 : (none) = some r := by rw [if_neg (show ¬ (false = true) by decide)] at H; exact H
            clear H
            have H := H1
            clear H1
            exact absurd H (by simp)
        · rw [if_neg c27] at H
          exact absurd H (by simp)
    case rest =>
      as_aux_lemma =>
        clear HC17
        try clear c2
        try clear p2
        try clear c3
        try clear c7
        try clear c27
        try clear c27b0
        try clear c27b1
        try clear c29
        try clear c30
        try clear c30b0
        try clear c30b1
        try clear c32
        try clear c33
        try clear c33b0
        try clear c33b1
        try clear c34
        try clear c34b0
        try clear c34b1
        try clear c35
        try clear c35b0
        try clear c35b1
        try clear c36
        try clear c36b0
        try clear c36b1
        try clear c37
        try clear c37b0
        try clear c37b1
        obtain ⟨kq, x170_16, rfl, HA, HJ16, HO_6, HO_10, HB⟩ := hcut
        cases kq with
        | zero => exact absurd HA.out (by simp [laws_FnCreep.j0])
        | succ kj16 =>
          have H := HA.out
          clear HA
          simp only [laws_FnCreep.j0] at H
          by_cases c70 : x170_16 = true
          · subst c70
            have H1 : (some false) = some r := by rw [if_pos rfl] at H; exact H
            clear H
            have H := H1
            clear H1
            obtain rfl := Option.some.inj H
            go_wp2
            repeat (go_quiet (fail); try go_wp2)
            go_ret
            exact ⟨by first | rfl | (simp [errW_none, errW_some] <;> rfl) | (simp [*, errW_none, errW_some] <;> rfl), by repeat (first | (with_reducible first | exact HB.out | apply below_alloc | apply pw_below_drewN | apply below_drew1) | exact HB.out)⟩
          · replace c70 := Bool.eq_false_iff.mpr c70
            subst c70
            have H1 : (if t311 = 0 then ((impl_TrimLoss.f t310 t308).bind fun bt316 => ((impl_TrimLoss.f (wrap64 (t310 + 1)) t308).bind fun bt318 => (if bt316.2 = 0 then (if bt316.1 > t309 then (some false) else (if bt318.2 = 0 then (if bt318.1 ≤ t309 then (some false) else (laws_FnCreep.j1 kj16 t278 t279 t280 t281 t282 t289 t290)) else (laws_FnCreep.j1 kj16 t278 t279 t280 t281 t282 t289 t290))) else (some false)))) else (laws_FnCreep.j1 kj16 t278 t279 t280 t281 t282 t289 t290)) = some r := by rw [if_neg (show ¬ (false = true) by decide)] at H; exact H
            clear H
            have H := H1
            clear H1
            have HC71 := Aside0.mk H
            clear H
            go_upto_if 172 with (fail)
            repeat (go_quiet (fail); go_upto_if 172 with (fail))
            go_cut [] (fun wc => ∃ (kq : Nat), Aside0 (laws_FnCreep.j1 kq t278 t279 t280 t281 t282 t289 t290 = some r) ∧ Aside0 (kq ≤ kj16) ∧ Aside0 (Kd.R (Kd.int .i64) 2 wc w.heap.size (fun k_ => some k_ ≠ (v291 : Value).ownBlock) v283 t281) ∧ Aside0 (Kd.R (Kd.int .i64) 2 wc w.heap.size (fun k_ => some k_ ≠ (v283 : Value).ownBlock) v291 t289) ∧ Aside0 (Below w.heap.size w wc))
            case first =>
              as_aux_lemma =>
                have H := HC71.out
                clear HC71
                by_cases c72 : t311 = 0
                · rw [if_pos c72] at H
                  have c72b0 : (t311 == 0) = true := beq_iff_eq.mpr c72
                  have c72b1 : (t311 != 0) = false := bne_eq_false_iff_eq.mpr c72
                  clear c72
                  (first | rw [c72b0] | (simp only [i64_w, i32_w]; rw [c72b0]) | skip)
                  replace H := Option.bind_eq_some_iff.mp H
                  obtain ⟨⟨t316, t317⟩, A730, H⟩ := H
                  replace H : ((impl_TrimLoss.f (wrap64 (t310 + 1)) t308).bind fun bt318 => (if t317 = 0 then (if t316 > t309 then (some false) else (if bt318.2 = 0 then (if bt318.1 ≤ t309 then (some false) else (laws_FnCreep.j1 kj16 t278 t279 t280 t281 t282 t289 t290)) else (laws_FnCreep.j1 kj16 t278 t279 t280 t281 t282 t289 t290))) else (some false))) = some r := H
                  have A73 := Aside0.mk A730
                  clear A730
                  replace H := Option.bind_eq_some_iff.mp H
                  obtain ⟨⟨t318, t319⟩, A740, H⟩ := H
                  replace H : (if t317 = 0 then (if t316 > t309 then (some false) else (if t319 = 0 then (if t318 ≤ t309 then (some false) else (laws_FnCreep.j1 kj16 t278 t279 t280 t281 t282 t289 t290)) else (laws_FnCreep.j1 kj16 t278 t279 t280 t281 t282 t289 t290))) else (some false)) = some r := H
                  have A74 := Aside0.mk A740
                  clear A740
                  by_cases c75 : t317 = 0
                  · rw [if_pos c75] at H
                    have c75b0 : (t317 == 0) = true := beq_iff_eq.mpr c75
                    have c75b1 : (t317 != 0) = false := bne_eq_false_iff_eq.mpr c75
                    clear c75
                    by_cases c76 : t316 > t309
                    · rw [if_pos c76] at H
                      have c76b0 : decide (t309 < t316) = true := decide_eq_true c76
                      clear c76
                      obtain rfl := Option.some.inj H
                      go_wp2_with (first | (go_at_call 55; (with_reducible refine (impl_TrimLoss.calls t310 t308 t316 t317 _ A73.out).mono ?_); rintro e w' ⟨rfl, ⟨nd, rfl⟩⟩; (try first | exact ⟨rfl, _, World.drewN_drewN _ _ _⟩ | exact ⟨rfl, _, Eq.trans (World.drewN_drewN _ _ _) (congrArg (World.drewN _) (Nat.add_assoc _ _ _))⟩)) | (go_at_call 55; (with_reducible refine (impl_TrimLoss.calls (wrap64 (t310 + 1)) t308 t318 t319 _ A74.out).mono ?_); rintro e w' ⟨rfl, ⟨nd, rfl⟩⟩; (try first | exact ⟨rfl, _, World.drewN_drewN _ _ _⟩ | exact ⟨rfl, _, Eq.trans (World.drewN_drewN _ _ _) (congrArg (World.drewN _) (Nat.add_assoc _ _ _))⟩)))
                      repeat (go_quiet (first | (go_at_call 55; (with_reducible refine (impl_TrimLoss.calls t310 t308 t316 t317 _ A73.out).mono ?_); rintro e w' ⟨rfl, ⟨nd, rfl⟩⟩; (try first | exact ⟨rfl, _, World.drewN_drewN _ _ _⟩ | exact ⟨rfl, _, Eq.trans (World.drewN_drewN _ _ _) (congrArg (World.drewN _) (Nat.add_assoc _ _ _))⟩)) | (go_at_call 55; (with_reducible refine (impl_TrimLoss.calls (wrap64 (t310 + 1)) t308 t318 t319 _ A74.out).mono ?_); rintro e w' ⟨rfl, ⟨nd, rfl⟩⟩; (try first | exact ⟨rfl, _, World.drewN_drewN _ _ _⟩ | exact ⟨rfl, _, Eq.trans (World.drewN_drewN _ _ _) (congrArg (World.drewN _) (Nat.add_assoc _ _ _))⟩))); try go_wp2_with (first | (go_at_call 55; (with_reducible refine (impl_TrimLoss.calls t310 t308 t316 t317 _ A73.out).mono ?_); rintro e w' ⟨rfl, ⟨nd, rfl⟩⟩; (try first | exact ⟨rfl, _, World.drewN_drewN _ _ _⟩ | exact ⟨rfl, _, Eq.trans (World.drewN_drewN _ _ _) (congrArg (World.drewN _) (Nat.add_assoc _ _ _))⟩)) | (go_at_call 55; (with_reducible refine (impl_TrimLoss.calls (wrap64 (t310 + 1)) t308 t318 t319 _ A74.out).mono ?_); rintro e w' ⟨rfl, ⟨nd, rfl⟩⟩; (try first | exact ⟨rfl, _, World.drewN_drewN _ _ _⟩ | exact ⟨rfl, _, Eq.trans (World.drewN_drewN _ _ _) (congrArg (World.drewN _) (Nat.add_assoc _ _ _))⟩))))
                      go_ret
                      exact ⟨by first | rfl | (simp [errW_none, errW_some] <;> rfl) | (simp [*, errW_none, errW_some] <;> rfl), by repeat (first | (with_reducible first | exact HB.out | apply below_alloc | apply pw_below_drewN | apply below_drew1) | exact HB.out)⟩
                    · rw [if_neg c76] at H
                      have c76b0 : decide (t309 < t316) = false := decide_eq_false c76
                      clear c76
                      by_cases c77 : t319 = 0
                      · rw [if_pos c77] at H
                        have c77b0 : (t319 == 0) = true := beq_iff_eq.mpr c77
                        have c77b1 : (t319 != 0) = false := bne_eq_false_iff_eq.mpr c77
                        clear c77
                        by_cases c78 : t318 ≤ t309
                        · rw [if_pos c78] at H
                          have c78b0 : decide (t318 ≤ t309) = true := decide_eq_true c78
                          clear c78
                          obtain rfl := Option.some.inj H
                          go_wp2_with (first | (go_at_call 55; (with_reducible refine (impl_TrimLoss.calls t310 t308 t316 t317 _ A73.out).mono ?_); rintro e w' ⟨rfl, ⟨nd, rfl⟩⟩; (try first | exact ⟨rfl, _, World.drewN_drewN _ _ _⟩ | exact ⟨rfl, _, Eq.trans (World.drewN_drewN _ _ _) (congrArg (World.drewN _) (Nat.add_assoc _ _ _))⟩)) | (go_at_call 55; (with_reducible refine (impl_TrimLoss.calls (wrap64 (t310 + 1)) t308 t318 t319 _ A74.out).mono ?_); rintro e w' ⟨rfl, ⟨nd, rfl⟩⟩; (try first | exact ⟨rfl, _, World.drewN_drewN _ _ _⟩ | exact ⟨rfl, _, Eq.trans (World.drewN_drewN _ _ _) (congrArg (World.drewN _) (Nat.add_assoc _ _ _))⟩)))
                          repeat (go_quiet (first | (go_at_call 55; (with_reducible refine (impl_TrimLoss.calls t310 t308 t316 t317 _ A73.out).mono ?_); rintro e w' ⟨rfl, ⟨nd, rfl⟩⟩; (try first | exact ⟨rfl, _, World.drewN_drewN _ _ _⟩ | exact ⟨rfl, _, Eq.trans (World.drewN_drewN _ _ _) (congrArg (World.drewN _) (Nat.add_assoc _ _ _))⟩)) | (go_at_call 55; (with_reducible refine (impl_TrimLoss.calls (wrap64 (t310 + 1)) t308 t318 t319 _ A74.out).mono ?_); rintro e w' ⟨rfl, ⟨nd, rfl⟩⟩; (try first | exact ⟨rfl, _, World.drewN_drewN _ _ _⟩ | exact ⟨rfl, _, Eq.trans (World.drewN_drewN _ _ _) (congrArg (World.drewN _) (Nat.add_assoc _ _ _))⟩))); try go_wp2_with (first | (go_at_call 55; (with_reducible refine (impl_TrimLoss.calls t310 t308 t316 t317 _ A73.out).mono ?_); rintro e w' ⟨rfl, ⟨nd, rfl⟩⟩; (try first | exact ⟨rfl, _, World.drewN_drewN _ _ _⟩ | exact ⟨rfl, _, Eq.trans (World.drewN_drewN _ _ _) (congrArg (World.drewN _) (Nat.add_assoc _ _ _))⟩)) | (go_at_call 55; (with_reducible refine (impl_TrimLoss.calls (wrap64 (t310 + 1)) t308 t318 t319 _ A74.out).mono ?_); rintro e w' ⟨rfl, ⟨nd, rfl⟩⟩; (try first | exact ⟨rfl, _, World.drewN_drewN _ _ _⟩ | exact ⟨rfl, _, Eq.trans (World.drewN_drewN _ _ _) (congrArg (World.drewN _) (Nat.add_assoc _ _ _))⟩))))
                          go_ret
                          exact ⟨by first | rfl | (simp [errW_none, errW_some] <;> rfl) | (simp [*, errW_none, errW_some] <;> rfl), by repeat (first | (with_reducible first | exact HB.out | apply below_alloc | apply pw_below_drewN | apply below_drew1) | exact HB.out)⟩
                        · rw [if_neg c78] at H
                          have c78b0 : decide (t318 ≤ t309) = false := decide_eq_false c78
                          clear c78
                          have H' := Aside0.mk H
                          clear H
                          go_wp2_with (first | (go_at_call 55; (with_reducible refine (impl_TrimLoss.calls t310 t308 t316 t317 _ A73.out).mono ?_); rintro e w' ⟨rfl, ⟨nd, rfl⟩⟩; (try first | exact ⟨rfl, _, World.drewN_drewN _ _ _⟩ | exact ⟨rfl, _, Eq.trans (World.drewN_drewN _ _ _) (congrArg (World.drewN _) (Nat.add_assoc _ _ _))⟩)) | (go_at_call 55; (with_reducible refine (impl_TrimLoss.calls (wrap64 (t310 + 1)) t308 t318 t319 _ A74.out).mono ?_); rintro e w' ⟨rfl, ⟨nd, rfl⟩⟩; (try first | exact ⟨rfl, _, World.drewN_drewN _ _ _⟩ | exact ⟨rfl, _, Eq.trans (World.drewN_drewN _ _ _) (congrArg (World.drewN _) (Nat.add_assoc _ _ _))⟩)))
                          repeat (go_quiet (first | (go_at_call 55; (with_reducible refine (impl_TrimLoss.calls t310 t308 t316 t317 _ A73.out).mono ?_); rintro e w' ⟨rfl, ⟨nd, rfl⟩⟩; (try first | exact ⟨rfl, _, World.drewN_drewN _ _ _⟩ | exact ⟨rfl, _, Eq.trans (World.drewN_drewN _ _ _) (congrArg (World.drewN _) (Nat.add_assoc _ _ _))⟩)) | (go_at_call 55; (with_reducible refine (impl_TrimLoss.calls (wrap64 (t310 + 1)) t308 t318 t319 _ A74.out).mono ?_); rintro e w' ⟨rfl, ⟨nd, rfl⟩⟩; (try first | exact ⟨rfl, _, World.drewN_drewN _ _ _⟩ | exact ⟨rfl, _, Eq.trans (World.drewN_drewN _ _ _) (congrArg (World.drewN _) (Nat.add_assoc _ _ _))⟩))); try go_wp2_with (first | (go_at_call 55; (with_reducible refine (impl_TrimLoss.calls t310 t308 t316 t317 _ A73.out).mono ?_); rintro e w' ⟨rfl, ⟨nd, rfl⟩⟩; (try first | exact ⟨rfl, _, World.drewN_drewN _ _ _⟩ | exact ⟨rfl, _, Eq.trans (World.drewN_drewN _ _ _) (congrArg (World.drewN _) (Nat.add_assoc _ _ _))⟩)) | (go_at_call 55; (with_reducible refine (impl_TrimLoss.calls (wrap64 (t310 + 1)) t308 t318 t319 _ A74.out).mono ?_); rintro e w' ⟨rfl, ⟨nd, rfl⟩⟩; (try first | exact ⟨rfl, _, World.drewN_drewN _ _ _⟩ | exact ⟨rfl, _, Eq.trans (World.drewN_drewN _ _ _) (congrArg (World.drewN _) (Nat.add_assoc _ _ _))⟩))))
                          go_meet
                          case rel => exact ⟨_, H', ⟨by have := HJ16.out; first | omega | exact Nat.le_refl _⟩, ⟨by (with_reducible repeat (first | apply Kd.R_alloc | apply Kd.R_drewN | apply Kd.R_drew)); exact HO_6.out⟩, ⟨by (with_reducible repeat (first | apply Kd.R_alloc | apply Kd.R_drewN | apply Kd.R_drew)); exact HO_10.out⟩, ⟨by repeat (first | (with_reducible first | exact HB.out | apply below_alloc | apply pw_below_drewN | apply below_drew1) | exact HB.out)⟩⟩
                      · rw [if_neg c77] at H
                        have c77b0 : (t319 == 0) = false := beq_eq_false_iff_ne.mpr c77
                        have c77b1 : (t319 != 0) = true := bne_iff_ne.mpr c77
                        have H' := Aside0.mk H
                        clear H
                        go_wp2_with (first | (go_at_call 55; (with_reducible refine (impl_TrimLoss.calls t310 t308 t316 t317 _ A73.out).mono ?_); rintro e w' ⟨rfl, ⟨nd, rfl⟩⟩; (try first | exact ⟨rfl, _, World.drewN_drewN _ _ _⟩ | exact ⟨rfl, _, Eq.trans (World.drewN_drewN _ _ _) (congrArg (World.drewN _) (Nat.add_assoc _ _ _))⟩)) | (go_at_call 55; (with_reducible refine (impl_TrimLoss.calls (wrap64 (t310 + 1)) t308 t318 t319 _ A74.out).mono ?_); rintro e w' ⟨rfl, ⟨nd, rfl⟩⟩; (try first | exact ⟨rfl, _, World.drewN_drewN _ _ _⟩ | exact ⟨rfl, _, Eq.trans (World.drewN_drewN _ _ _) (congrArg (World.drewN _) (Nat.add_assoc _ _ _))⟩)))
                        repeat (go_quiet (first | (go_at_call 55; (with_reducible refine (impl_TrimLoss.calls t310 t308 t316 t317 _ A73.out).mono ?_); rintro e w' ⟨rfl, ⟨nd, rfl⟩⟩; (try first | exact ⟨rfl, _, World.drewN_drewN _ _ _⟩ | exact ⟨rfl, _, Eq.trans (World.drewN_drewN _ _ _) (congrArg (World.drewN _) (Nat.add_assoc _ _ _))⟩)) | (go_at_call 55; (with_reducible refine (impl_TrimLoss.calls (wrap64 (t310 + 1)) t308 t318 t319 _ A74.out).mono ?_); rintro e w' ⟨rfl, ⟨nd, rfl⟩⟩; (try first | exact ⟨rfl, _, World.drewN_drewN _ _ _⟩ | exact ⟨rfl, _, Eq.trans (World.drewN_drewN _ _ _) (congrArg (World.drewN _) (Nat.add_assoc _ _ _))⟩))); try go_wp2_with (first | (go_at_call 55; (with_reducible refine (impl_TrimLoss.calls t310 t308 t316 t317 _ A73.out).mono ?_); rintro e w' ⟨rfl, ⟨nd, rfl⟩⟩; (try first | exact ⟨rfl, _, World.drewN_drewN _ _ _⟩ | exact ⟨rfl, _, Eq.trans (World.drewN_drewN _ _ _) (congrArg (World.drewN _) (Nat.add_assoc _ _ _))⟩)) | (go_at_call 55; (with_reducible refine (impl_TrimLoss.calls (wrap64 (t310 + 1)) t308 t318 t319 _ A74.out).mono ?_); rintro e w' ⟨rfl, ⟨nd, rfl⟩⟩; (try first | exact ⟨rfl, _, World.drewN_drewN _ _ _⟩ | exact ⟨rfl, _, Eq.trans (World.drewN_drewN _ _ _) (congrArg (World.drewN _) (Nat.add_assoc _ _ _))⟩))))
                        go_meet
                        case rel => exact ⟨_, H', ⟨by have := HJ16.out; first | omega | exact Nat.le_refl _⟩, ⟨by (with_reducible repeat (first | apply Kd.R_alloc | apply Kd.R_drewN | apply Kd.R_drew)); exact HO_6.out⟩, ⟨by (with_reducible repeat (first | apply Kd.R_alloc | apply Kd.R_drewN | apply Kd.R_drew)); exact HO_10.out⟩, ⟨by repeat (first | (with_reducible first | exact HB.out | apply below_alloc | apply pw_below_drewN | apply below_drew1) | exact HB.out)⟩⟩
                  · rw [if_neg c75] at H
                    have c75b0 : (t317 == 0) = false := beq_eq_false_iff_ne.mpr c75
                    have c75b1 : (t317 != 0) = true := bne_iff_ne.mpr c75
                    obtain rfl := Option.some.inj H
                    go_wp2_with (first | (go_at_call 55; (with_reducible refine (impl_TrimLoss.calls t310 t308 t316 t317 _ A73.out).mono ?_); rintro e w' ⟨rfl, ⟨nd, rfl⟩⟩; (try first | exact ⟨rfl, _, World.drewN_drewN _ _ _⟩ | exact ⟨rfl, _, Eq.trans (World.drewN_drewN _ _ _) (congrArg (World.drewN _) (Nat.add_assoc _ _ _))⟩)) | (go_at_call 55; (with_reducible refine (impl_TrimLoss.calls (wrap64 (t310 + 1)) t308 t318 t319 _ A74.out).mono ?_); rintro e w' ⟨rfl, ⟨nd, rfl⟩⟩; (try first | exact ⟨rfl, _, World.drewN_drewN _ _ _⟩ | exact ⟨rfl, _, Eq.trans (World.drewN_drewN _ _ _) (congrArg (World.drewN _) (Nat.add_assoc _ _ _))⟩)))
                    repeat (go_quiet (first | (go_at_call 55; (with_reducible refine (impl_TrimLoss.calls t310 t308 t316 t317 _ A73.out).mono ?_); rintro e w' ⟨rfl, ⟨nd, rfl⟩⟩; (try first | exact ⟨rfl, _, World.drewN_drewN _ _ _⟩ | exact ⟨rfl, _, Eq.trans (World.drewN_drewN _ _ _) (congrArg (World.drewN _) (Nat.add_assoc _ _ _))⟩)) | (go_at_call 55; (with_reducible refine (impl_TrimLoss.calls (wrap64 (t310 + 1)) t308 t318 t319 _ A74.out).mono ?_); rintro e w' ⟨rfl, ⟨nd, rfl⟩⟩; (try first | exact ⟨rfl, _, World.drewN_drewN _ _ _⟩ | exact ⟨rfl, _, Eq.trans (World.drewN_drewN _ _ _) (congrArg (World.drewN _) (Nat.add_assoc _ _ _))⟩))); try go_wp2_with (first | (go_at_call 55; (with_reducible refine (impl_TrimLoss.calls t310 t308 t316 t317 _ A73.out).mono ?_); rintro e w' ⟨rfl, ⟨nd, rfl⟩⟩; (try first | exact ⟨rfl, _, World.drewN_drewN _ _ _⟩ | exact ⟨rfl, _, Eq.trans (World.drewN_drewN _ _ _) (congrArg (World.drewN _) (Nat.add_assoc _ _ _))⟩)) | (go_at_call 55; (with_reducible refine (impl_TrimLoss.calls (wrap64 (t310 + 1)) t308 t318 t319 _ A74.out).mono ?_); rintro e w' ⟨rfl, ⟨nd, rfl⟩⟩; (try first | exact ⟨rfl, _, World.drewN_drewN _ _ _⟩ | exact ⟨rfl, _, Eq.trans (World.drewN_drewN _ _ _) (congrArg (World.drewN _) (Nat.add_assoc _ _ _))⟩))))
                    go_ret
                    exact ⟨by first | rfl | (simp [errW_none, errW_some] <;> rfl) | (simp [*, errW_none, errW_some] <;> rfl), by repeat (first | (with_reducible first | exact HB.out | apply below_alloc | apply pw_below_drewN | apply below_drew1) | exact HB.out)⟩
                · rw [if_neg c72] at H
                  have c72b0 : (t311 == 0) = false := beq_eq_false_iff_ne.mpr c72
                  have c72b1 : (t311 != 0) = true := bne_iff_ne.mpr c72
                  (first | rw [c72b0] | (simp only [i64_w, i32_w]; rw [c72b0]) | skip)
                  have H' := Aside0.mk H
                  clear H
                  go_wp2
                  repeat (go_quiet (fail); try go_wp2)
                  go_meet
                  case rel => exact ⟨_, H', ⟨by have := HJ16.out; first | omega | exact Nat.le_refl _⟩, ⟨by (with_reducible repeat (first | apply Kd.R_alloc | apply Kd.R_drewN | apply Kd.R_drew)); exact HO_6.out⟩, ⟨by (with_reducible repeat (first | apply Kd.R_alloc | apply Kd.R_drewN | apply Kd.R_drew)); exact HO_10.out⟩, ⟨by repeat (first | (with_reducible first | exact HB.out | apply below_alloc | apply pw_below_drewN | apply below_drew1) | exact HB.out)⟩⟩
            case rest =>
              as_aux_lemma =>
                clear HC71
                try clear c2
                try clear p2
                try clear c3
                try clear p6
                try clear c7
                try clear c27
                try clear c27b0
                try clear c27b1
                try clear c29
                try clear c30
                try clear c30b0
                try clear c30b1
                try clear c32
                try clear c33
                try clear c33b0
                try clear c33b1
                try clear c34
                try clear c34b0
                try clear c34b1
                try clear c35
                try clear c35b0
                try clear c35b1
                try clear c36
                try clear c36b0
                try clear c36b1
                try clear c37
                try clear c37b0
                try clear c37b1
                try clear p64
                try clear c70
                try clear c72
                try clear c72b0
                try clear c72b1
                try clear c75
                try clear c75b0
                try clear c75b1
                try clear c76
                try clear c76b0
                try clear c77
                try clear c77b0
                try clear c77b1
                try clear c78
                try clear c78b0
                try clear p2
                obtain ⟨kq, HA, HJ70, HO_6, HO_10, HB⟩ := hcut
                cases kq with
                | zero => exact absurd HA.out (by simp [laws_FnCreep.j1])
                | succ kj70 =>
                  have H := HA.out
                  clear HA
                  simp only [laws_FnCreep.j1] at H
                  have H' := Aside0.mk H
                  clear H
                  go_wp2
                  repeat (go_quiet (fail); try go_wp2)
                  go_loopg [35] kj70 (fun kq v35 w' => ∃ (x35_3 : Int), v35 = .int .i64 x35_3 ∧ Aside0 (laws_FnCreep.l0 kq t278 t279 t280 t281 t282 t289 t290 x35_3 = some r) ∧ Aside0 (kq ≤ kj70) ∧ Aside0 (Kd.R (Kd.int .i64) 2 w' w.heap.size (fun k_ => some k_ ≠ (v291 : Value).ownBlock) v283 t281) ∧ Aside0 (Kd.R (Kd.int .i64) 2 w' w.heap.size (fun k_ => some k_ ≠ (v283 : Value).ownBlock) v291 t289) ∧ Aside0 (Below w.heap.size w w'))
                  case atStart => exact ⟨(0), (by first | rfl | (simp; done) | (simp [*]; done)), H', ⟨Nat.le_refl _⟩, ⟨by (with_reducible repeat (first | apply Kd.R_alloc | apply Kd.R_drewN | apply Kd.R_drew)); exact HO_6.out⟩, ⟨by (with_reducible repeat (first | apply Kd.R_alloc | apply Kd.R_drewN | apply Kd.R_drew)); exact HO_10.out⟩, ⟨by repeat (first | (with_reducible first | exact HB.out | apply below_alloc | apply pw_below_drewN | apply below_drew1) | exact HB.out)⟩⟩
                  case round =>
                    as_aux_lemma =>
                      clear H'
                      try clear c2
                      try clear p2
                      try clear c3
                      try clear p6
                      try clear c7
                      try clear c27
                      try clear c27b0
                      try clear c27b1
                      try clear c29
                      try clear c30
                      try clear c30b0
                      try clear c30b1
                      try clear c32
                      try clear c33
                      try clear c33b0
                      try clear c33b1
                      try clear c34
                      try clear c34b0
                      try clear c34b1
                      try clear c35
                      try clear c35b0
                      try clear c35b1
                      try clear c36
                      try clear c36b0
                      try clear c36b1
                      try clear c37
                      try clear c37b0
                      try clear c37b1
                      try clear p64
                      try clear c70
                      try clear c72
                      try clear c72b0
                      try clear c72b1
                      try clear c75
                      try clear c75b0
                      try clear c75b1
                      try clear c76
                      try clear c76b0
                      try clear c77
                      try clear c77b0
                      try clear c77b1
                      try clear c78
                      try clear c78b0
                      try clear p2
                      try clear p6
                      try clear p64
                      obtain ⟨x35_3, rfl, HA, HK3, HO_6, HO_10, HB⟩ := hrel
                      cases gk with
                      | zero => exact absurd HA.out (by simp [laws_FnCreep.l0])
                      | succ k3 =>
                        have H := HA.out
                        clear HA
                        simp only [laws_FnCreep.l0] at H
                        have HC79 := Aside0.mk H
                        clear H
                        go_upto_region 24 with (fail)
                        repeat (go_quiet (fail); go_upto_region 24 with (fail))
                        go_cut [208] (fun v208 wc => ∃ (kq : Nat) (x208_78 : Bool), v208 = .bool x208_78 ∧ Aside0 (laws_FnCreep.j3 kq t278 t279 t280 t281 t282 t289 t290 x35_3 x208_78 = some r) ∧ Aside0 (kq ≤ k3) ∧ Aside0 (Kd.R (Kd.int .i64) 2 wc w.heap.size (fun k_ => some k_ ≠ (v291 : Value).ownBlock) v283 t281) ∧ Aside0 (Kd.R (Kd.int .i64) 2 wc w.heap.size (fun k_ => some k_ ≠ (v283 : Value).ownBlock) v291 t289) ∧ Aside0 (Below w.heap.size w wc))
                        case first =>
                          as_aux_lemma =>
                            have H := HC79.out
                            clear HC79
                            by_cases c80 : t290 = 0
                            · rw [if_pos c80] at H
                              have c80b0 : (t290 == 0) = true := beq_iff_eq.mpr c80
                              have c80b1 : (t290 != 0) = false := bne_eq_false_iff_eq.mpr c80
                              clear c80
                              (first | rw [c80b0] | (simp only [i64_w, i32_w]; rw [c80b0]) | skip)
                              have H' := Aside0.mk H
                              clear H
                              go_wp2
                              repeat (go_quiet (fail); try go_wp2)
                              go_meet
                              case rel => exact ⟨_, (decide (x35_3 < t278)), (by first | rfl | (simp; done) | (simp [*]; done)), H', ⟨by have := HJ16.out; have := HJ70.out; have := HK3.out; first | omega | exact Nat.le_refl _⟩, ⟨by (with_reducible repeat (first | apply Kd.R_alloc | apply Kd.R_drewN | apply Kd.R_drew)); exact HO_6.out⟩, ⟨by (with_reducible repeat (first | apply Kd.R_alloc | apply Kd.R_drewN | apply Kd.R_drew)); exact HO_10.out⟩, ⟨by repeat (first | (with_reducible first | exact HB.out | apply below_alloc | apply pw_below_drewN | apply below_drew1) | exact HB.out)⟩⟩
                            · rw [if_neg c80] at H
                              have c80b0 : (t290 == 0) = false := beq_eq_false_iff_ne.mpr c80
                              have c80b1 : (t290 != 0) = true := bne_iff_ne.mpr c80
                              (first | rw [c80b0] | (simp only [i64_w, i32_w]; rw [c80b0]) | skip)
                              have H' := Aside0.mk H
                              clear H
                              go_wp2
                              repeat (go_quiet (fail); try go_wp2)
                              go_meet
                              case rel => exact ⟨_, (false), (by first | rfl | (simp; done) | (simp [*]; done)), H', ⟨by have := HJ16.out; have := HJ70.out; have := HK3.out; first | omega | exact Nat.le_refl _⟩, ⟨by (with_reducible repeat (first | apply Kd.R_alloc | apply Kd.R_drewN | apply Kd.R_drew)); exact HO_6.out⟩, ⟨by (with_reducible repeat (first | apply Kd.R_alloc | apply Kd.R_drewN | apply Kd.R_drew)); exact HO_10.out⟩, ⟨by repeat (first | (with_reducible first | exact HB.out | apply below_alloc | apply pw_below_drewN | apply below_drew1) | exact HB.out)⟩⟩
                        case rest =>
                          as_aux_lemma =>
                            clear HC79
                            try clear c2
                            try clear p2
                            try clear c3
                            try clear p6
                            try clear c7
                            try clear c8
                            try clear c27
                            try clear c27b0
                            try clear c27b1
                            try clear c29
                            try clear c30
                            try clear c30b0
                            try clear c30b1
                            try clear c32
                            try clear c33
                            try clear c33b0
                            try clear c33b1
                            try clear c34
                            try clear c34b0
                            try clear c34b1
                            try clear c35
                            try clear c35b0
                            try clear c35b1
                            try clear c36
                            try clear c36b0
                            try clear c36b1
                            try clear c37
                            try clear c37b0
                            try clear c37b1
                            try clear p64
                            try clear c70
                            try clear c72
                            try clear c72b0
                            try clear c72b1
                            try clear c75
                            try clear c75b0
                            try clear c75b1
                            try clear c76
                            try clear c76b0
                            try clear c77
                            try clear c77b0
                            try clear c77b1
                            try clear c78
                            try clear c78b0
                            try clear c80
                            try clear c80b0
                            try clear c80b1
                            try clear p2
                            try clear p6
                            try clear p64
                            obtain ⟨kq, x208_78, rfl, HA, HJ78, HO_6, HO_10, HB⟩ := hcut
                            cases kq with
                            | zero => exact absurd HA.out (by simp [laws_FnCreep.j3])
                            | succ kj78 =>
                              have H := HA.out
                              clear HA
                              simp only [laws_FnCreep.j3] at H
                              by_cases c81 : x208_78 = true
                              · subst c81
                                have H1 : ((impl_CreepOf.f t278 x35_3 t279).bind fun bt320 => (if bt320.2 = 0 then (if 0 ≤ x35_3 then (if x35_3 < (t289.length : Int) then (if (wrap64 ((wrap64 (100 * (rd t289 x35_3))) - bt320.1)) > 50 then (some false) else (if (wrap64 (bt320.1 - (wrap64 (100 * (rd t289 x35_3))))) ≥ 50 then (some false) else (if t282 = 0 then (if x35_3 < (t281.length : Int) then (if (wrap64 ((rd t281 x35_3) + (rd t289 x35_3))) = t280 then (laws_FnCreep.l0 kj78 t278 t279 t280 t281 t282 t289 t290 (wrap64 (x35_3 + 1))) else (some false)) else (none)) else (laws_FnCreep.l0 kj78 t278 t279 t280 t281 t282 t289 t290 (wrap64 (x35_3 + 1)))))) else (none)) else (none)) else (some false))) = some r := by rw [if_pos rfl] at H; exact H
                                clear H
                                have H := H1
                                clear H1
                                replace H := Option.bind_eq_some_iff.mp H
                                obtain ⟨⟨t320, t321⟩, A820, H⟩ := H
                                replace H : (if t321 = 0 then (if 0 ≤ x35_3 then (if x35_3 < (t289.length : Int) then (if (wrap64 ((wrap64 (100 * (rd t289 x35_3))) - t320)) > 50 then (some false) else (if (wrap64 (t320 - (wrap64 (100 * (rd t289 x35_3))))) ≥ 50 then (some false) else (if t282 = 0 then (if x35_3 < (t281.length : Int) then (if (wrap64 ((rd t281 x35_3) + (rd t289 x35_3))) = t280 then (laws_FnCreep.l0 kj78 t278 t279 t280 t281 t282 t289 t290 (wrap64 (x35_3 + 1))) else (some false)) else (none)) else (laws_FnCreep.l0 kj78 t278 t279 t280 t281 t282 t289 t290 (wrap64 (x35_3 + 1)))))) else (none)) else (none)) else (some false)) = some r := H
                                have A82 := Aside0.mk A820
                                clear A820
                                by_cases c83 : t321 = 0
                                · rw [if_pos c83] at H
                                  have c83b0 : (t321 == 0) = true := beq_iff_eq.mpr c83
                                  have c83b1 : (t321 != 0) = false := bne_eq_false_iff_eq.mpr c83
                                  clear c83
                                  by_cases c84 : 0 ≤ x35_3
                                  · rw [if_pos c84] at H
                                    have c84b0 : decide (0 ≤ x35_3) = true := decide_eq_true c84
                                    clear c84
                                    by_cases c85 : x35_3 < (t289.length : Int)
                                    · rw [if_pos c85] at H
                                      have c85b0 : decide (x35_3 < (t289.length : Int)) = true := decide_eq_true c85
                                      clear c85
                                      by_cases c86 : (wrap64 ((wrap64 (100 * (rd t289 x35_3))) - t320)) > 50
                                      · rw [if_pos c86] at H
                                        have c86b0 : decide (50 < (wrap64 ((wrap64 (100 * (rd t289 x35_3))) - t320))) = true := decide_eq_true c86
                                        clear c86
                                        obtain rfl := Option.some.inj H
                                        go_wp2_with (first | (go_at_call 53; (with_reducible refine (impl_CreepOf.calls t278 x35_3 t279 t320 t321 _ A82.out).mono ?_); rintro e w' ⟨rfl, ⟨nd, rfl⟩⟩; (try first | exact ⟨rfl, _, World.drewN_drewN _ _ _⟩ | exact ⟨rfl, _, Eq.trans (World.drewN_drewN _ _ _) (congrArg (World.drewN _) (Nat.add_assoc _ _ _))⟩); obtain ⟨Ao87, co87, eo87⟩ := Kd.R_slice HO_10.out; subst eo87; have p322 : 0 ≤ (x35_3 : Int) := of_decide_eq_true (by first | (with_reducible assumption) | assumption); have q322 : x35_3 < (t289.length : Int) := of_decide_eq_true (by first | (with_reducible assumption) | assumption); obtain ⟨ad322, e322, hx322_0⟩ := Kd.at_int (Kd.R_reads' HO_10.out).2.2 x35_3 p322 q322; cases e322; replace p322 := eq_true p322; replace q322 := eq_true q322))
                                        repeat (go_quiet (first | (go_at_call 53; (with_reducible refine (impl_CreepOf.calls t278 x35_3 t279 t320 t321 _ A82.out).mono ?_); rintro e w' ⟨rfl, ⟨nd, rfl⟩⟩; (try first | exact ⟨rfl, _, World.drewN_drewN _ _ _⟩ | exact ⟨rfl, _, Eq.trans (World.drewN_drewN _ _ _) (congrArg (World.drewN _) (Nat.add_assoc _ _ _))⟩); obtain ⟨Ao87, co87, eo87⟩ := Kd.R_slice HO_10.out; subst eo87; have p322 : 0 ≤ (x35_3 : Int) := of_decide_eq_true (by first | (with_reducible assumption) | assumption); have q322 : x35_3 < (t289.length : Int) := of_decide_eq_true (by first | (with_reducible assumption) | assumption); obtain ⟨ad322, e322, hx322_0⟩ := Kd.at_int (Kd.R_reads' HO_10.out).2.2 x35_3 p322 q322; cases e322; replace p322 := eq_true p322; replace q322 := eq_true q322)); try go_wp2_with (first | (go_at_call 53; (with_reducible refine (impl_CreepOf.calls t278 x35_3 t279 t320 t321 _ A82.out).mono ?_); rintro e w' ⟨rfl, ⟨nd, rfl⟩⟩; (try first | exact ⟨rfl, _, World.drewN_drewN _ _ _⟩ | exact ⟨rfl, _, Eq.trans (World.drewN_drewN _ _ _) (congrArg (World.drewN _) (Nat.add_assoc _ _ _))⟩); obtain ⟨Ao87, co87, eo87⟩ := Kd.R_slice HO_10.out; subst eo87; have p322 : 0 ≤ (x35_3 : Int) := of_decide_eq_true (by first | (with_reducible assumption) | assumption); have q322 : x35_3 < (t289.length : Int) := of_decide_eq_true (by first | (with_reducible assumption) | assumption); obtain ⟨ad322, e322, hx322_0⟩ := Kd.at_int (Kd.R_reads' HO_10.out).2.2 x35_3 p322 q322; cases e322; replace p322 := eq_true p322; replace q322 := eq_true q322)))
                                        go_ret
                                        exact ⟨by first | rfl | (simp [errW_none, errW_some] <;> rfl) | (simp [*, errW_none, errW_some] <;> rfl), by repeat (first | (with_reducible first | exact HB.out | apply below_alloc | apply pw_below_drewN | apply below_drew1) | exact HB.out)⟩
                                      · rw [if_neg c86] at H
                                        have c86b0 : decide (50 < (wrap64 ((wrap64 (100 * (rd t289 x35_3))) - t320))) = false := decide_eq_false c86
                                        clear c86
                                        by_cases c88 : (wrap64 (t320 - (wrap64 (100 * (rd t289 x35_3))))) ≥ 50
                                        · rw [if_pos c88] at H
                                          have c88b0 : decide (50 ≤ (wrap64 (t320 - (wrap64 (100 * (rd t289 x35_3)))))) = true := decide_eq_true c88
                                          clear c88
                                          obtain rfl := Option.some.inj H
                                          go_wp2_with (first | (go_at_call 53; (with_reducible refine (impl_CreepOf.calls t278 x35_3 t279 t320 t321 _ A82.out).mono ?_); rintro e w' ⟨rfl, ⟨nd, rfl⟩⟩; (try first | exact ⟨rfl, _, World.drewN_drewN _ _ _⟩ | exact ⟨rfl, _, Eq.trans (World.drewN_drewN _ _ _) (congrArg (World.drewN _) (Nat.add_assoc _ _ _))⟩); obtain ⟨Ao89, co89, eo89⟩ := Kd.R_slice HO_10.out; subst eo89; have p322 : 0 ≤ (x35_3 : Int) := of_decide_eq_true (by first | (with_reducible assumption) | assumption); have q322 : x35_3 < (t289.length : Int) := of_decide_eq_true (by first | (with_reducible assumption) | assumption); obtain ⟨ad322, e322, hx322_0⟩ := Kd.at_int (Kd.R_reads' HO_10.out).2.2 x35_3 p322 q322; cases e322; replace p322 := eq_true p322; replace q322 := eq_true q322; have p323 : 0 ≤ (x35_3 : Int) := of_decide_eq_true (by first | (with_reducible assumption) | assumption); have q323 : x35_3 < (t289.length : Int) := of_decide_eq_true (by first | (with_reducible assumption) | assumption); obtain ⟨ad323, e323, hx323_0⟩ := Kd.at_int (Kd.R_reads' HO_10.out).2.2 x35_3 p323 q323; obtain rfl : ad322 = ad323 := (by injection e323); replace p323 := eq_true p323; replace q323 := eq_true q323))
                                          repeat (go_quiet (first | (go_at_call 53; (with_reducible refine (impl_CreepOf.calls t278 x35_3 t279 t320 t321 _ A82.out).mono ?_); rintro e w' ⟨rfl, ⟨nd, rfl⟩⟩; (try first | exact ⟨rfl, _, World.drewN_drewN _ _ _⟩ | exact ⟨rfl, _, Eq.trans (World.drewN_drewN _ _ _) (congrArg (World.drewN _) (Nat.add_assoc _ _ _))⟩); obtain ⟨Ao89, co89, eo89⟩ := Kd.R_slice HO_10.out; subst eo89; have p322 : 0 ≤ (x35_3 : Int) := of_decide_eq_true (by first | (with_reducible assumption) | assumption); have q322 : x35_3 < (t289.length : Int) := of_decide_eq_true (by first | (with_reducible assumption) | assumption); obtain ⟨ad322, e322, hx322_0⟩ := Kd.at_int (Kd.R_reads' HO_10.out).2.2 x35_3 p322 q322; cases e322; replace p322 := eq_true p322; replace q322 := eq_true q322; have p323 : 0 ≤ (x35_3 : Int) := of_decide_eq_true (by first | (with_reducible assumption) | assumption); have q323 : x35_3 < (t289.length : Int) := of_decide_eq_true (by first | (with_reducible assumption) | assumption); obtain ⟨ad323, e323, hx323_0⟩ := Kd.at_int (Kd.R_reads' HO_10.out).2.2 x35_3 p323 q323; obtain rfl : ad322 = ad323 := (by injection e323); replace p323 := eq_true p323; replace q323 := eq_true q323)); try go_wp2_with (first | (go_at_call 53; (with_reducible refine (impl_CreepOf.calls t278 x35_3 t279 t320 t321 _ A82.out).mono ?_); rintro e w' ⟨rfl, ⟨nd, rfl⟩⟩; (try first | exact ⟨rfl, _, World.drewN_drewN _ _ _⟩ | exact ⟨rfl, _, Eq.trans (World.drewN_drewN _ _ _) (congrArg (World.drewN _) (Nat.add_assoc _ _ _))⟩); obtain ⟨Ao89, co89, eo89⟩ := Kd.R_slice HO_10.out; subst eo89; have p322 : 0 ≤ (x35_3 : Int) := of_decide_eq_true (by first | (with_reducible assumption) | assumption); have q322 : x35_3 < (t289.length : Int) := of_decide_eq_true (by first | (with_reducible assumption) | assumption); obtain ⟨ad322, e322, hx322_0⟩ := Kd.at_int (Kd.R_reads' HO_10.out).2.2 x35_3 p322 q322; cases e322; replace p322 := eq_true p322; replace q322 := eq_true q322; have p323 : 0 ≤ (x35_3 : Int) := of_decide_eq_true (by first | (with_reducible assumption) | assumption); have q323 : x35_3 < (t289.length : Int) := of_decide_eq_true (by first | (with_reducible assumption) | assumption); obtain ⟨ad323, e323, hx323_0⟩ := Kd.at_int (Kd.R_reads' HO_10.out).2.2 x35_3 p323 q323; obtain rfl : ad322 = ad323 := (by injection e323); replace p323 := eq_true p323; replace q323 := eq_true q323)))
                                          go_ret
                                          exact ⟨by first | rfl | (simp [errW_none, errW_some] <;> rfl) | (simp [*, errW_none, errW_some] <;> rfl), by repeat (first | (with_reducible first | exact HB.out | apply below_alloc | apply pw_below_drewN | apply below_drew1) | exact HB.out)⟩
                                        · rw [if_neg c88] at H
                                          have c88b0 : decide (50 ≤ (wrap64 (t320 - (wrap64 (100 * (rd t289 x35_3)))))) = false := decide_eq_false c88
                                          clear c88
                                          by_cases c90 : t282 = 0
                                          · rw [if_pos c90] at H
                                            have c90b0 : (t282 == 0) = true := beq_iff_eq.mpr c90
                                            have c90b1 : (t282 != 0) = false := bne_eq_false_iff_eq.mpr c90
                                            clear c90
                                            by_cases c91 : x35_3 < (t281.length : Int)
                                            · rw [if_pos c91] at H
                                              have c91b0 : decide (x35_3 < (t281.length : Int)) = true := decide_eq_true c91
                                              clear c91
                                              by_cases c92 : (wrap64 ((rd t281 x35_3) + (rd t289 x35_3))) = t280
                                              · rw [if_pos c92] at H
                                                have c92b0 : ((wrap64 ((rd t281 x35_3) + (rd t289 x35_3))) == t280) = true := beq_iff_eq.mpr c92
                                                have c92b1 : ((wrap64 ((rd t281 x35_3) + (rd t289 x35_3))) != t280) = false := bne_eq_false_iff_eq.mpr c92
                                                clear c92
                                                have H' := Aside0.mk H
                                                clear H
                                                go_wp2_with (first | (go_at_call 53; (with_reducible refine (impl_CreepOf.calls t278 x35_3 t279 t320 t321 _ A82.out).mono ?_); rintro e w' ⟨rfl, ⟨nd, rfl⟩⟩; (try first | exact ⟨rfl, _, World.drewN_drewN _ _ _⟩ | exact ⟨rfl, _, Eq.trans (World.drewN_drewN _ _ _) (congrArg (World.drewN _) (Nat.add_assoc _ _ _))⟩); obtain ⟨Ao93, co93, eo93⟩ := Kd.R_slice HO_10.out; subst eo93; have p322 : 0 ≤ (x35_3 : Int) := of_decide_eq_true (by first | (with_reducible assumption) | assumption); have q322 : x35_3 < (t289.length : Int) := of_decide_eq_true (by first | (with_reducible assumption) | assumption); obtain ⟨ad322, e322, hx322_0⟩ := Kd.at_int (Kd.R_reads' HO_10.out).2.2 x35_3 p322 q322; cases e322; replace p322 := eq_true p322; replace q322 := eq_true q322; have p323 : 0 ≤ (x35_3 : Int) := of_decide_eq_true (by first | (with_reducible assumption) | assumption); have q323 : x35_3 < (t289.length : Int) := of_decide_eq_true (by first | (with_reducible assumption) | assumption); obtain ⟨ad323, e323, hx323_0⟩ := Kd.at_int (Kd.R_reads' HO_10.out).2.2 x35_3 p323 q323; obtain rfl : ad322 = ad323 := (by injection e323); replace p323 := eq_true p323; replace q323 := eq_true q323; obtain ⟨Ao94, co94, eo94⟩ := Kd.R_slice HO_6.out; subst eo94; have p324 : 0 ≤ (x35_3 : Int) := of_decide_eq_true (by first | (with_reducible assumption) | assumption); have q324 : x35_3 < (t281.length : Int) := of_decide_eq_true (by first | (with_reducible assumption) | assumption); obtain ⟨ad324, e324, hx324_0⟩ := Kd.at_int (Kd.R_reads' HO_6.out).2.2 x35_3 p324 q324; cases e324; replace p324 := eq_true p324; replace q324 := eq_true q324; have p325 : 0 ≤ (x35_3 : Int) := of_decide_eq_true (by first | (with_reducible assumption) | assumption); have q325 : x35_3 < (t289.length : Int) := of_decide_eq_true (by first | (with_reducible assumption) | assumption); obtain ⟨ad325, e325, hx325_0⟩ := Kd.at_int (Kd.R_reads' HO_10.out).2.2 x35_3 p325 q325; obtain rfl : ad322 = ad325 := (by injection e325); replace p325 := eq_true p325; replace q325 := eq_true q325))
                                                repeat (go_quiet (first | (go_at_call 53; (with_reducible refine (impl_CreepOf.calls t278 x35_3 t279 t320 t321 _ A82.out).mono ?_); rintro e w' ⟨rfl, ⟨nd, rfl⟩⟩; (try first | exact ⟨rfl, _, World.drewN_drewN _ _ _⟩ | exact ⟨rfl, _, Eq.trans (World.drewN_drewN _ _ _) (congrArg (World.drewN _) (Nat.add_assoc _ _ _))⟩); obtain ⟨Ao93, co93, eo93⟩ := Kd.R_slice HO_10.out; subst eo93; have p322 : 0 ≤ (x35_3 : Int) := of_decide_eq_true (by first | (with_reducible assumption) | assumption); have q322 : x35_3 < (t289.length : Int) := of_decide_eq_true (by first | (with_reducible assumption) | assumption); obtain ⟨ad322, e322, hx322_0⟩ := Kd.at_int (Kd.R_reads' HO_10.out).2.2 x35_3 p322 q322; cases e322; replace p322 := eq_true p322; replace q322 := eq_true q322; have p323 : 0 ≤ (x35_3 : Int) := of_decide_eq_true (by first | (with_reducible assumption) | assumption); have q323 : x35_3 < (t289.length : Int) := of_decide_eq_true (by first | (with_reducible assumption) | assumption); obtain ⟨ad323, e323, hx323_0⟩ := Kd.at_int (Kd.R_reads' HO_10.out).2.2 x35_3 p323 q323; obtain rfl : ad322 = ad323 := (by injection e323); replace p323 := eq_true p323; replace q323 := eq_true q323; obtain ⟨Ao94, co94, eo94⟩ := Kd.R_slice HO_6.out; subst eo94; have p324 : 0 ≤ (x35_3 : Int) := of_decide_eq_true (by first | (with_reducible assumption) | assumption); have q324 : x35_3 < (t281.length : Int) := of_decide_eq_true (by first | (with_reducible assumption) | assumption); obtain ⟨ad324, e324, hx324_0⟩ := Kd.at_int (Kd.R_reads' HO_6.out).2.2 x35_3 p324 q324; cases e324; replace p324 := eq_true p324; replace q324 := eq_true q324; have p325 : 0 ≤ (x35_3 : Int) := of_decide_eq_true (by first | (with_reducible assumption) | assumption); have q325 : x35_3 < (t289.length : Int) := of_decide_eq_true (by first | (with_reducible assumption) | assumption); obtain ⟨ad325, e325, hx325_0⟩ := Kd.at_int (Kd.R_reads' HO_10.out).2.2 x35_3 p325 q325; obtain rfl : ad322 = ad325 := (by injection e325); replace p325 := eq_true p325; replace q325 := eq_true q325)); try go_wp2_with (first | (go_at_call 53; (with_reducible refine (impl_CreepOf.calls t278 x35_3 t279 t320 t321 _ A82.out).mono ?_); rintro e w' ⟨rfl, ⟨nd, rfl⟩⟩; (try first | exact ⟨rfl, _, World.drewN_drewN _ _ _⟩ | exact ⟨rfl, _, Eq.trans (World.drewN_drewN _ _ _) (congrArg (World.drewN _) (Nat.add_assoc _ _ _))⟩); obtain ⟨Ao93, co93, eo93⟩ := Kd.R_slice HO_10.out; subst eo93; have p322 : 0 ≤ (x35_3 : Int) := of_decide_eq_true (by first | (with_reducible assumption) | assumption); have q322 : x35_3 < (t289.length : Int) := of_decide_eq_true (by first | (with_reducible assumption) | assumption); obtain ⟨ad322, e322, hx322_0⟩ := Kd.at_int (Kd.R_reads' HO_10.out).2.2 x35_3 p322 q322; cases e322; replace p322 := eq_true p322; replace q322 := eq_true q322; have p323 : 0 ≤ (x35_3 : Int) := of_decide_eq_true (by first | (with_reducible assumption) | assumption); have q323 : x35_3 < (t289.length : Int) := of_decide_eq_true (by first | (with_reducible assumption) | assumption); obtain ⟨ad323, e323, hx323_0⟩ := Kd.at_int (Kd.R_reads' HO_10.out).2.2 x35_3 p323 q323; obtain rfl : ad322 = ad323 := (by injection e323); replace p323 := eq_true p323; replace q323 := eq_true q323; obtain ⟨Ao94, co94, eo94⟩ := Kd.R_slice HO_6.out; subst eo94; have p324 : 0 ≤ (x35_3 : Int) := of_decide_eq_true (by first | (with_reducible assumption) | assumption); have q324 : x35_3 < (t281.length : Int) := of_decide_eq_true (by first | (with_reducible assumption) | assumption); obtain ⟨ad324, e324, hx324_0⟩ := Kd.at_int (Kd.R_reads' HO_6.out).2.2 x35_3 p324 q324; cases e324; replace p324 := eq_true p324; replace q324 := eq_true q324; have p325 : 0 ≤ (x35_3 : Int) := of_decide_eq_true (by first | (with_reducible assumption) | assumption); have q325 : x35_3 < (t289.length : Int) := of_decide_eq_true (by first | (with_reducible assumption) | assumption); obtain ⟨ad325, e325, hx325_0⟩ := Kd.at_int (Kd.R_reads' HO_10.out).2.2 x35_3 p325 q325; obtain rfl : ad322 = ad325 := (by injection e325); replace p325 := eq_true p325; replace q325 := eq_true q325)))
                                                go_roundg kj78
                                                case measure => have := HJ16.out; have := HJ70.out; have := HK3.out; have := HJ78.out; omega
                                                case rel => exact ⟨(wrap64 (x35_3 + 1)), (by first | rfl | (simp; done) | (simp [*]; done)), H', ⟨by have := HJ16.out; have := HJ70.out; have := HK3.out; have := HJ78.out; omega⟩, ⟨by (with_reducible repeat (first | apply Kd.R_alloc | apply Kd.R_drewN | apply Kd.R_drew)); exact HO_6.out⟩, ⟨by (with_reducible repeat (first | apply Kd.R_alloc | apply Kd.R_drewN | apply Kd.R_drew)); exact HO_10.out⟩, ⟨by repeat (first | (with_reducible first | exact HB.out | apply below_alloc | apply pw_below_drewN | apply below_drew1) | exact HB.out)⟩⟩
                                              · rw [if_neg c92] at H
                                                have c92b0 : ((wrap64 ((rd t281 x35_3) + (rd t289 x35_3))) == t280) = false := beq_eq_false_iff_ne.mpr c92
                                                have c92b1 : ((wrap64 ((rd t281 x35_3) + (rd t289 x35_3))) != t280) = true := bne_iff_ne.mpr c92
                                                obtain rfl := Option.some.inj H
                                                go_wp2_with (first | (go_at_call 53; (with_reducible refine (impl_CreepOf.calls t278 x35_3 t279 t320 t321 _ A82.out).mono ?_); rintro e w' ⟨rfl, ⟨nd, rfl⟩⟩; (try first | exact ⟨rfl, _, World.drewN_drewN _ _ _⟩ | exact ⟨rfl, _, Eq.trans (World.drewN_drewN _ _ _) (congrArg (World.drewN _) (Nat.add_assoc _ _ _))⟩); obtain ⟨Ao95, co95, eo95⟩ := Kd.R_slice HO_10.out; subst eo95; have p322 : 0 ≤ (x35_3 : Int) := of_decide_eq_true (by first | (with_reducible assumption) | assumption); have q322 : x35_3 < (t289.length : Int) := of_decide_eq_true (by first | (with_reducible assumption) | assumption); obtain ⟨ad322, e322, hx322_0⟩ := Kd.at_int (Kd.R_reads' HO_10.out).2.2 x35_3 p322 q322; cases e322; replace p322 := eq_true p322; replace q322 := eq_true q322; have p323 : 0 ≤ (x35_3 : Int) := of_decide_eq_true (by first | (with_reducible assumption) | assumption); have q323 : x35_3 < (t289.length : Int) := of_decide_eq_true (by first | (with_reducible assumption) | assumption); obtain ⟨ad323, e323, hx323_0⟩ := Kd.at_int (Kd.R_reads' HO_10.out).2.2 x35_3 p323 q323; obtain rfl : ad322 = ad323 := (by injection e323); replace p323 := eq_true p323; replace q323 := eq_true q323; obtain ⟨Ao96, co96, eo96⟩ := Kd.R_slice HO_6.out; subst eo96; have p324 : 0 ≤ (x35_3 : Int) := of_decide_eq_true (by first | (with_reducible assumption) | assumption); have q324 : x35_3 < (t281.length : Int) := of_decide_eq_true (by first | (with_reducible assumption) | assumption); obtain ⟨ad324, e324, hx324_0⟩ := Kd.at_int (Kd.R_reads' HO_6.out).2.2 x35_3 p324 q324; cases e324; replace p324 := eq_true p324; replace q324 := eq_true q324; have p325 : 0 ≤ (x35_3 : Int) := of_decide_eq_true (by first | (with_reducible assumption) | assumption); have q325 : x35_3 < (t289.length : Int) := of_decide_eq_true (by first | (with_reducible assumption) | assumption); obtain ⟨ad325, e325, hx325_0⟩ := Kd.at_int (Kd.R_reads' HO_10.out).2.2 x35_3 p325 q325; obtain rfl : ad322 = ad325 := (by injection e325); replace p325 := eq_true p325; replace q325 := eq_true q325))
                                                repeat (go_quiet (first | (go_at_call 53; (with_reducible refine (impl_CreepOf.calls t278 x35_3 t279 t320 t321 _ A82.out).mono ?_); rintro e w' ⟨rfl, ⟨nd, rfl⟩⟩; (try first | exact ⟨rfl, _, World.drewN_drewN _ _ _⟩ | exact ⟨rfl, _, Eq.trans (World.drewN_drewN _ _ _) (congrArg (World.drewN _) (Nat.add_assoc _ _ _))⟩); obtain ⟨Ao95, co95, eo95⟩ := Kd.R_slice HO_10.out; subst eo95; have p322 : 0 ≤ (x35_3 : Int) := of_decide_eq_true (by first | (with_reducible assumption) | assumption); have q322 : x35_3 < (t289.length : Int) := of_decide_eq_true (by first | (with_reducible assumption) | assumption); obtain ⟨ad322, e322, hx322_0⟩ := Kd.at_int (Kd.R_reads' HO_10.out).2.2 x35_3 p322 q322; cases e322; replace p322 := eq_true p322; replace q322 := eq_true q322; have p323 : 0 ≤ (x35_3 : Int) := of_decide_eq_true (by first | (with_reducible assumption) | assumption); have q323 : x35_3 < (t289.length : Int) := of_decide_eq_true (by first | (with_reducible assumption) | assumption); obtain ⟨ad323, e323, hx323_0⟩ := Kd.at_int (Kd.R_reads' HO_10.out).2.2 x35_3 p323 q323; obtain rfl : ad322 = ad323 := (by injection e323); replace p323 := eq_true p323; replace q323 := eq_true q323; obtain ⟨Ao96, co96, eo96⟩ := Kd.R_slice HO_6.out; subst eo96; have p324 : 0 ≤ (x35_3 : Int) := of_decide_eq_true (by first | (with_reducible assumption) | assumption); have q324 : x35_3 < (t281.length : Int) := of_decide_eq_true (by first | (with_reducible assumption) | assumption); obtain ⟨ad324, e324, hx324_0⟩ := Kd.at_int (Kd.R_reads' HO_6.out).2.2 x35_3 p324 q324; cases e324; replace p324 := eq_true p324; replace q324 := eq_true q324; have p325 : 0 ≤ (x35_3 : Int) := of_decide_eq_true (by first | (with_reducible assumption) | assumption); have q325 : x35_3 < (t289.length : Int) := of_decide_eq_true (by first | (with_reducible assumption) | assumption); obtain ⟨ad325, e325, hx325_0⟩ := Kd.at_int (Kd.R_reads' HO_10.out).2.2 x35_3 p325 q325; obtain rfl : ad322 = ad325 := (by injection e325); replace p325 := eq_true p325; replace q325 := eq_true q325)); try go_wp2_with (first | (go_at_call 53; (with_reducible refine (impl_CreepOf.calls t278 x35_3 t279 t320 t321 _ A82.out).mono ?_); rintro e w' ⟨rfl, ⟨nd, rfl⟩⟩; (try first | exact ⟨rfl, _, World.drewN_drewN _ _ _⟩ | exact ⟨rfl, _, Eq.trans (World.drewN_drewN _ _ _) (congrArg (World.drewN _) (Nat.add_assoc _ _ _))⟩); obtain ⟨Ao95, co95, eo95⟩ := Kd.R_slice HO_10.out; subst eo95; have p322 : 0 ≤ (x35_3 : Int) := of_decide_eq_true (by first | (with_reducible assumption) | assumption); have q322 : x35_3 < (t289.length : Int) := of_decide_eq_true (by first | (with_reducible assumption) | assumption); obtain ⟨ad322, e322, hx322_0⟩ := Kd.at_int (Kd.R_reads' HO_10.out).2.2 x35_3 p322 q322; cases e322; replace p322 := eq_true p322; replace q322 := eq_true q322; have p323 : 0 ≤ (x35_3 : Int) := of_decide_eq_true (by first | (with_reducible assumption) | assumption); have q323 : x35_3 < (t289.length : Int) := of_decide_eq_true (by first | (with_reducible assumption) | assumption); obtain ⟨ad323, e323, hx323_0⟩ := Kd.at_int (Kd.R_reads' HO_10.out).2.2 x35_3 p323 q323; obtain rfl : ad322 = ad323 := (by injection e323); replace p323 := eq_true p323; replace q323 := eq_true q323; obtain ⟨Ao96, co96, eo96⟩ := Kd.R_slice HO_6.out; subst eo96; have p324 : 0 ≤ (x35_3 : Int) := of_decide_eq_true (by first | (with_reducible assumption) | assumption); have q324 : x35_3 < (t281.length : Int) := of_decide_eq_true (by first | (with_reducible assumption) | assumption); obtain ⟨ad324, e324, hx324_0⟩ := Kd.at_int (Kd.R_reads' HO_6.out).2.2 x35_3 p324 q324; cases e324; replace p324 := eq_true p324; replace q324 := eq_true q324; have p325 : 0 ≤ (x35_3 : Int) := of_decide_eq_true (by first | (with_reducible assumption) | assumption); have q325 : x35_3 < (t289.length : Int) := of_decide_eq_true (by first | (with_reducible assumption) | assumption); obtain ⟨ad325, e325, hx325_0⟩ := Kd.at_int (Kd.R_reads' HO_10.out).2.2 x35_3 p325 q325; obtain rfl : ad322 = ad325 := (by injection e325); replace p325 := eq_true p325; replace q325 := eq_true q325)))
                                                go_ret
                                                exact ⟨by first | rfl | (simp [errW_none, errW_some] <;> rfl) | (simp [*, errW_none, errW_some] <;> rfl), by repeat (first | (with_reducible first | exact HB.out | apply below_alloc | apply pw_below_drewN | apply below_drew1) | exact HB.out)⟩
                                            · rw [if_neg c91] at H
                                              exact absurd H (by simp)
                                          · rw [if_neg c90] at H
                                            have c90b0 : (t282 == 0) = false := beq_eq_false_iff_ne.mpr c90
                                            have c90b1 : (t282 != 0) = true := bne_iff_ne.mpr c90
                                            have H' := Aside0.mk H
                                            clear H
                                            go_wp2_with (first | (go_at_call 53; (with_reducible refine (impl_CreepOf.calls t278 x35_3 t279 t320 t321 _ A82.out).mono ?_); rintro e w' ⟨rfl, ⟨nd, rfl⟩⟩; (try first | exact ⟨rfl, _, World.drewN_drewN _ _ _⟩ | exact ⟨rfl, _, Eq.trans (World.drewN_drewN _ _ _) (congrArg (World.drewN _) (Nat.add_assoc _ _ _))⟩); obtain ⟨Ao97, co97, eo97⟩ := Kd.R_slice HO_10.out; subst eo97; have p322 : 0 ≤ (x35_3 : Int) := of_decide_eq_true (by first | (with_reducible assumption) | assumption); have q322 : x35_3 < (t289.length : Int) := of_decide_eq_true (by first | (with_reducible assumption) | assumption); obtain ⟨ad322, e322, hx322_0⟩ := Kd.at_int (Kd.R_reads' HO_10.out).2.2 x35_3 p322 q322; cases e322; replace p322 := eq_true p322; replace q322 := eq_true q322; have p323 : 0 ≤ (x35_3 : Int) := of_decide_eq_true (by first | (with_reducible assumption) | assumption); have q323 : x35_3 < (t289.length : Int) := of_decide_eq_true (by first | (with_reducible assumption) | assumption); obtain ⟨ad323, e323, hx323_0⟩ := Kd.at_int (Kd.R_reads' HO_10.out).2.2 x35_3 p323 q323; obtain rfl : ad322 = ad323 := (by injection e323); replace p323 := eq_true p323; replace q323 := eq_true q323))
                                            repeat (go_quiet (first | (go_at_call 53; (with_reducible refine (impl_CreepOf.calls t278 x35_3 t279 t320 t321 _ A82.out).mono ?_); rintro e w' ⟨rfl, ⟨nd, rfl⟩⟩; (try first | exact ⟨rfl, _, World.drewN_drewN _ _ _⟩ | exact ⟨rfl, _, Eq.trans (World.drewN_drewN _ _ _) (congrArg (World.drewN _) (Nat.add_assoc _ _ _))⟩); obtain ⟨Ao97, co97, eo97⟩ := Kd.R_slice HO_10.out; subst eo97; have p322 : 0 ≤ (x35_3 : Int) := of_decide_eq_true (by first | (with_reducible assumption) | assumption); have q322 : x35_3 < (t289.length : Int) := of_decide_eq_true (by first | (with_reducible assumption) | assumption); obtain ⟨ad322, e322, hx322_0⟩ := Kd.at_int (Kd.R_reads' HO_10.out).2.2 x35_3 p322 q322; cases e322; replace p322 := eq_true p322; replace q322 := eq_true q322; have p323 : 0 ≤ (x35_3 : Int) := of_decide_eq_true (by first | (with_reducible assumption) | assumption); have q323 : x35_3 < (t289.length : Int) := of_decide_eq_true (by first | (with_reducible assumption) | assumption); obtain ⟨ad323, e323, hx323_0⟩ := Kd.at_int (Kd.R_reads' HO_10.out).2.2 x35_3 p323 q323; obtain rfl : ad322 = ad323 := (by injection e323); replace p323 := eq_true p323; replace q323 := eq_true q323)); try go_wp2_with (first | (go_at_call 53; (with_reducible refine (impl_CreepOf.calls t278 x35_3 t279 t320 t321 _ A82.out).mono ?_); rintro e w' ⟨rfl, ⟨nd, rfl⟩⟩; (try first | exact ⟨rfl, _, World.drewN_drewN _ _ _⟩ | exact ⟨rfl, _, Eq.trans (World.drewN_drewN _ _ _) (congrArg (World.drewN _) (Nat.add_assoc _ _ _))⟩); obtain ⟨Ao97, co97, eo97⟩ := Kd.R_slice HO_10.out; subst eo97; have p322 : 0 ≤ (x35_3 : Int) := of_decide_eq_true (by first | (with_reducible assumption) | assumption); have q322 : x35_3 < (t289.length : Int) := of_decide_eq_true (by first | (with_reducible assumption) | assumption); obtain ⟨ad322, e322, hx322_0⟩ := Kd.at_int (Kd.R_reads' HO_10.out).2.2 x35_3 p322 q322; cases e322; replace p322 := eq_true p322; replace q322 := eq_true q322; have p323 : 0 ≤ (x35_3 : Int) := of_decide_eq_true (by first | (with_reducible assumption) | assumption); have q323 : x35_3 < (t289.length : Int) := of_decide_eq_true (by first | (with_reducible assumption) | assumption); obtain ⟨ad323, e323, hx323_0⟩ := Kd.at_int (Kd.R_reads' HO_10.out).2.2 x35_3 p323 q323; obtain rfl : ad322 = ad323 := (by injection e323); replace p323 := eq_true p323; replace q323 := eq_true q323)))
                                            go_roundg kj78
                                            case measure => have := HJ16.out; have := HJ70.out; have := HK3.out; have := HJ78.out; omega
                                            case rel => exact ⟨(wrap64 (x35_3 + 1)), (by first | rfl | (simp; done) | (simp [*]; done)), H', ⟨by have := HJ16.out; have := HJ70.out; have := HK3.out; have := HJ78.out; omega⟩, ⟨by (with_reducible repeat (first | apply Kd.R_alloc | apply Kd.R_drewN | apply Kd.R_drew)); exact HO_6.out⟩, ⟨by (with_reducible repeat (first | apply Kd.R_alloc | apply Kd.R_drewN | apply Kd.R_drew)); exact HO_10.out⟩, ⟨by repeat (first | (with_reducible first | exact HB.out | apply below_alloc | apply pw_below_drewN | apply below_drew1) | exact HB.out)⟩⟩
                                    · rw [if_neg c85] at H
                                      exact absurd H (by simp)
                                  · rw [if_neg c84] at H
                                    exact absurd H (by simp)
                                · rw [if_neg c83] at H
                                  have c83b0 : (t321 == 0) = false := beq_eq_false_iff_ne.mpr c83
                                  have c83b1 : (t321 != 0) = true := bne_iff_ne.mpr c83
                                  obtain rfl := Option.some.inj H
                                  go_wp2_with (first | (go_at_call 53; (with_reducible refine (impl_CreepOf.calls t278 x35_3 t279 t320 t321 _ A82.out).mono ?_); rintro e w' ⟨rfl, ⟨nd, rfl⟩⟩; (try first | exact ⟨rfl, _, World.drewN_drewN _ _ _⟩ | exact ⟨rfl, _, Eq.trans (World.drewN_drewN _ _ _) (congrArg (World.drewN _) (Nat.add_assoc _ _ _))⟩)))
                                  repeat (go_quiet (first | (go_at_call 53; (with_reducible refine (impl_CreepOf.calls t278 x35_3 t279 t320 t321 _ A82.out).mono ?_); rintro e w' ⟨rfl, ⟨nd, rfl⟩⟩; (try first | exact ⟨rfl, _, World.drewN_drewN _ _ _⟩ | exact ⟨rfl, _, Eq.trans (World.drewN_drewN _ _ _) (congrArg (World.drewN _) (Nat.add_assoc _ _ _))⟩))); try go_wp2_with (first | (go_at_call 53; (with_reducible refine (impl_CreepOf.calls t278 x35_3 t279 t320 t321 _ A82.out).mono ?_); rintro e w' ⟨rfl, ⟨nd, rfl⟩⟩; (try first | exact ⟨rfl, _, World.drewN_drewN _ _ _⟩ | exact ⟨rfl, _, Eq.trans (World.drewN_drewN _ _ _) (congrArg (World.drewN _) (Nat.add_assoc _ _ _))⟩))))
                                  go_ret
                                  exact ⟨by first | rfl | (simp [errW_none, errW_some] <;> rfl) | (simp [*, errW_none, errW_some] <;> rfl), by repeat (first | (with_reducible first | exact HB.out | apply below_alloc | apply pw_below_drewN | apply below_drew1) | exact HB.out)⟩
                              · replace c81 := Bool.eq_false_iff.mpr c81
                                subst c81
                                have H1 : (some true) = some r := by rw [if_neg (show ¬ (false = true) by decide)] at H; exact H
                                clear H
                                have H := H1
                                clear H1
                                obtain rfl := Option.some.inj H
                                go_wp2
                                repeat (go_quiet (fail); try go_wp2)
                                go_ret
                                exact ⟨by first | rfl | (simp [errW_none, errW_some] <;> rfl) | (simp [*, errW_none, errW_some] <;> rfl), by repeat (first | (with_reducible first | exact HB.out | apply below_alloc | apply pw_below_drewN | apply below_drew1) | exact HB.out)⟩

/-- THE ONE PURE STATEMENT of laws_FnCreep: yours. -/
def laws_FnCreep.Pure : Prop := ∀ (l0 : List Int), l0.length ≤ maxLen → l0.length * 1 ≤ 140737488351232 → (∀ x ∈ l0, (Lit.int .u8 x).wf = true) → ∃ k, laws_FnCreep.f k l0 = some true
theorem laws_FnCreep.walk (P : laws_FnCreep.Pure) (a0 : Option Addr) (len0 cap0 : Nat) (z0 : List Int) (w : World) (w0 : (a0 = none ∧ len0 = 0 ∧ cap0 = 0 ∧ z0 = []) ∨ ∃ x, a0 = some x ∧ len0 ≤ cap0 ∧ cap0 ≤ maxLen ∧ z0.length = cap0 ∧ (∀ i, i < z0.length → w.cell? (x.add i) = some (.int .u8 (z0.getD i 0))) ∧ ∀ n ∈ z0, (Lit.int .u8 n).wf = true) (y0 : len0 * 1 ≤ 140737488351232) :
    Calls Try.prog 7 #[.slice a0 len0 cap0] w fun e w' => e = .returned (.bool true) ∧ Below w.heap.size w w' := by
  obtain ⟨l0, rfl, hr0, hm0, hw0, hc0⟩ := ReadsInt.ofRowC w0
  obtain ⟨k, h⟩ := P l0 hm0 y0 hw0
  refine (laws_FnCreep.calls k _ _ l0 true w (Kd.C_of_reads (d := (0 : Int)) (h1 := fun _ => rfl) hr0) hc0 h).mono ?_
  rintro e w' ⟨rfl, hd⟩
  exact ⟨rfl, hd⟩

end Go.Proofs.Ytfmmpdhodkkkdaa.PFnCreep
