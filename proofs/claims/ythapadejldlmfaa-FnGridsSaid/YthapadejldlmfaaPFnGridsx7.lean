-- Written by wip/inject.py: a contract of each function that the law reaches; those of the stand-ins are proved in this seat's Hand texts
import Derived.Test.YthapadejldlmfaaPFnGridsx0
import Derived.Test.YthapadejldlmfaaPFnGridsx1
import Derived.Test.YthapadejldlmfaaPFnGridsx2
import Derived.Test.YthapadejldlmfaaPFnGridsx3
import Derived.Test.YthapadejldlmfaaPFnGridsx4
import Derived.Test.YthapadejldlmfaaPFnGridsx5
import Derived.Test.YthapadejldlmfaaPFnGridsx6
namespace Go.Proofs.Ythapadejldlmfaa.PFnGrids
open Go.RowKit Go.Proofs.YthapadejldlmfaaW.PrintWords Go.Proofs.YthapadejldlmfaaW.PrintLast Go.Proofs.YthapadejldlmfaaW.PrintMore
attribute [local go_sem] max2_int min2_int max_two min_two max_three min_three max_four min_four   -- for this text's walks alone
set_option linter.unusedVariables false
set_option linter.unusedSimpArgs false

/-! ### laws_FnGrids: function 6 -/
mutual
def laws_FnGrids.j0 : Nat → Int → Int → Int → Int → Int → Int → Int → Int → Bool → Int → Int → Int → Bool → Int → Int → Int → Int → Int → Int → Int → Bool → Int → Int → Int → Int → Option (Bool)
  | 0, _, _, _, _, _, _, _, _, _, _, _, _, _, _, _, _, _, _, _, _, _, _, _, _, _ => none
  | k + 1, x5, x6, x7, x15, x16, x17, x21, x22, x134, x337000, x337001, x337002, x337003, x338000, x338001, x338002, x338003, x355000, x355001, x355002, x355003, x356000, x356001, x356002, x356003 => if x134 = true then (some false) else (if x17 = 0 then (if (wrap64 ((wrap64 (x15 + x356000)) + x356002)) > x355000 then (none) else (if (wrap64 ((wrap64 (x16 + x356001)) + x356002)) > (wrap64 (x355001 - x355002)) then (none) else (if x15 < x356002 then (none) else (laws_FnGrids.j1 k x5 x6 x7 x21 x22 (decide (x16 < x356002)) x337000 x337001 x337002 x337003 x338000 x338001 x338002 x338003)))) else (laws_FnGrids.j1 k x5 x6 x7 x21 x22 false x337000 x337001 x337002 x337003 x338000 x338001 x338002 x338003))
def laws_FnGrids.j1 : Nat → Int → Int → Int → Int → Int → Bool → Int → Int → Int → Bool → Int → Int → Int → Int → Option (Bool)
  | 0, _, _, _, _, _, _, _, _, _, _, _, _, _, _ => none
  | k + 1, x5, x6, x7, x21, x22, x175, x337000, x337001, x337002, x337003, x338000, x338001, x338002, x338003 => if x175 = true then (some false) else (if x7 = 0 then (if (wrap64 ((wrap64 ((wrap64 (x5 * x338000)) + (wrap64 ((wrap64 (x5 - 1)) * x338003)))) + (wrap64 (2 * x338002)))) > x337000 then (none) else (laws_FnGrids.j2 k x5 x6 x21 x22 (decide ((wrap64 ((wrap64 ((wrap64 ((wrap64 (x5 + 1)) * x338000)) + (wrap64 (x5 * x338003)))) + (wrap64 (2 * x338002)))) ≤ x337000)) x337000 x337001 x337002 x337003 x338000 x338001 x338002 x338003)) else (some (x22 == x7)))
def laws_FnGrids.j2 : Nat → Int → Int → Int → Int → Bool → Int → Int → Int → Bool → Int → Int → Int → Int → Option (Bool)
  | 0, _, _, _, _, _, _, _, _, _, _, _, _, _ => none
  | k + 1, x5, x6, x21, x22, x216, x337000, x337001, x337002, x337003, x338000, x338001, x338002, x338003 => if x216 = true then (some false) else (if (wrap64 ((wrap64 ((wrap64 (x6 * x338001)) + (wrap64 ((wrap64 (x6 - 1)) * x338003)))) + (wrap64 (2 * x338002)))) > (wrap64 (x337001 - x337002)) then (some false) else (if (wrap64 ((wrap64 ((wrap64 ((wrap64 (x6 + 1)) * x338001)) + (wrap64 (x6 * x338003)))) + (wrap64 (2 * x338002)))) ≤ (wrap64 (x337001 - x337002)) then (some false) else (if x22 = 0 then (if x21 = (wrap64 ((wrap64 (x337000 * x337001)) - (wrap64 ((wrap64 ((wrap64 (x5 * x6)) * x338000)) * x338001)))) then (some (decide (x21 ≥ 0))) else (some false)) else (some false))))
end
def laws_FnGrids.f (k : Nat) (l0 : List Int) : Option (Bool) := (laws_big.f l0).bind fun t327 => (if t327 = true then (some true) else ((spec_DrawGridOf.f k l0).bind fun bt328 => ((impl_GridOf.f k bt328.1 bt328.2.1 bt328.2.2.1 bt328.2.2.2.1 bt328.2.2.2.2.1 bt328.2.2.2.2.2.1 bt328.2.2.2.2.2.2.1 bt328.2.2.2.2.2.2.2).bind fun bt338 => ((spec_GridOf.f k bt328.1 bt328.2.1 bt328.2.2.1 bt328.2.2.2.1 bt328.2.2.2.2.1 bt328.2.2.2.2.2.1 bt328.2.2.2.2.2.2.1 bt328.2.2.2.2.2.2.2).bind fun bt341 => ((spec_DrawCornerOf.f k l0).bind fun bt344 => ((impl_CornerOf.f k bt344.1 bt344.2.1 bt344.2.2.1 bt344.2.2.2.1 bt344.2.2.2.2.1 bt344.2.2.2.2.2.1 bt344.2.2.2.2.2.2.1 bt344.2.2.2.2.2.2.2.1 bt344.2.2.2.2.2.2.2.2.1 bt344.2.2.2.2.2.2.2.2.2).bind fun bt356 => ((spec_CornerOf.f k bt344.1 bt344.2.1 bt344.2.2.1 bt344.2.2.2.1 bt344.2.2.2.2.1 bt344.2.2.2.2.2.1 bt344.2.2.2.2.2.2.1 bt344.2.2.2.2.2.2.2.1 bt344.2.2.2.2.2.2.2.2.1 bt344.2.2.2.2.2.2.2.2.2).bind fun bt359 => ((impl_WasteArea.f k bt328.1 bt328.2.1 bt328.2.2.1 bt328.2.2.2.1 bt328.2.2.2.2.1 bt328.2.2.2.2.2.1 bt328.2.2.2.2.2.2.1 bt328.2.2.2.2.2.2.2).bind fun bt362 => ((spec_WasteArea.f k bt328.1 bt328.2.1 bt328.2.2.1 bt328.2.2.2.1 bt328.2.2.2.2.1 bt328.2.2.2.2.2.1 bt328.2.2.2.2.2.2.1 bt328.2.2.2.2.2.2.2).bind fun bt364 => (if bt338.2.2 = bt341.2.2 then (if bt338.1 = bt341.1 then (if bt338.2.1 = bt341.2.1 then (if bt356.2.2 = bt359.2.2 then (if bt356.1 = bt359.1 then (if bt356.2.1 = bt359.2.1 then (if bt362.2 = bt364.2 then (if bt362.1 = bt364.1 then ((impl_IsPress.f bt328.1 bt328.2.1 bt328.2.2.1 bt328.2.2.2.1).bind fun t366 => ((spec_IsPress.f bt328.1 bt328.2.1 bt328.2.2.1 bt328.2.2.2.1).bind fun t367 => (if (t366 != t367) = true then (none) else ((impl_IsTrim.f bt328.2.2.2.2.1 bt328.2.2.2.2.2.1 bt328.2.2.2.2.2.2.1 bt328.2.2.2.2.2.2.2).bind fun t368 => ((spec_IsTrim.f bt328.2.2.2.2.1 bt328.2.2.2.2.2.1 bt328.2.2.2.2.2.2.1 bt328.2.2.2.2.2.2.2).bind fun t369 => (laws_FnGrids.j0 k bt338.1 bt338.2.1 bt338.2.2 bt356.1 bt356.2.1 bt356.2.2 bt362.1 bt362.2 (t368 != t369) bt328.1 bt328.2.1 bt328.2.2.1 bt328.2.2.2.1 bt328.2.2.2.2.1 bt328.2.2.2.2.2.1 bt328.2.2.2.2.2.2.1 bt328.2.2.2.2.2.2.2 bt344.1 bt344.2.1 bt344.2.2.1 bt344.2.2.2.1 bt344.2.2.2.2.1 bt344.2.2.2.2.2.1 bt344.2.2.2.2.2.2.1 bt344.2.2.2.2.2.2.2.1)))))) else (none)) else (none)) else (none)) else (none)) else (none)) else (none)) else (none)) else (none)))))))))))
theorem laws_FnGrids.mono_l : ∀ k, (∀ y0 y1 y2 y3 y4 y5 y6 y7 y8 y9 y10 y11 y12 y13 y14 y15 y16 y17 y18 y19 y20 y21 y22 y23 y24, LeO (laws_FnGrids.j0 k y0 y1 y2 y3 y4 y5 y6 y7 y8 y9 y10 y11 y12 y13 y14 y15 y16 y17 y18 y19 y20 y21 y22 y23 y24) (laws_FnGrids.j0 (k + 1) y0 y1 y2 y3 y4 y5 y6 y7 y8 y9 y10 y11 y12 y13 y14 y15 y16 y17 y18 y19 y20 y21 y22 y23 y24)) ∧ (∀ y0 y1 y2 y3 y4 y5 y6 y7 y8 y9 y10 y11 y12 y13, LeO (laws_FnGrids.j1 k y0 y1 y2 y3 y4 y5 y6 y7 y8 y9 y10 y11 y12 y13) (laws_FnGrids.j1 (k + 1) y0 y1 y2 y3 y4 y5 y6 y7 y8 y9 y10 y11 y12 y13)) ∧ (∀ y0 y1 y2 y3 y4 y5 y6 y7 y8 y9 y10 y11 y12, LeO (laws_FnGrids.j2 k y0 y1 y2 y3 y4 y5 y6 y7 y8 y9 y10 y11 y12) (laws_FnGrids.j2 (k + 1) y0 y1 y2 y3 y4 y5 y6 y7 y8 y9 y10 y11 y12))
  | 0 => ⟨fun _ _ _ _ _ _ _ _ _ _ _ _ _ _ _ _ _ _ _ _ _ _ _ _ _ r h => by simp [laws_FnGrids.j0] at h, fun _ _ _ _ _ _ _ _ _ _ _ _ _ _ r h => by simp [laws_FnGrids.j1] at h, fun _ _ _ _ _ _ _ _ _ _ _ _ _ r h => by simp [laws_FnGrids.j2] at h⟩
  | k + 1 => by
    obtain ⟨ih0, ih1, ih2⟩ := laws_FnGrids.mono_l k
    refine ⟨?_, ?_, ?_⟩
    · intro y0 y1 y2 y3 y4 y5 y6 y7 y8 y9 y10 y11 y12 y13 y14 y15 y16 y17 y18 y19 y20 y21 y22 y23 y24
      unfold laws_FnGrids.j0
      repeat' first
      | (with_reducible exact ih0 _ _ _ _ _ _ _ _ _ _ _ _ _ _ _ _ _ _ _ _ _ _ _ _ _)
      | (with_reducible exact ih1 _ _ _ _ _ _ _ _ _ _ _ _ _ _)
      | (with_reducible exact ih2 _ _ _ _ _ _ _ _ _ _ _ _ _)
      | (with_reducible exact impl_CornerOf.mono _ _ _ _ _ _ _ _ _ _ _)
      | (with_reducible exact impl_GridOf.mono _ _ _ _ _ _ _ _ _)
      | (with_reducible exact impl_WasteArea.mono _ _ _ _ _ _ _ _ _)
      | (with_reducible exact spec_CornerOf.mono _ _ _ _ _ _ _ _ _ _ _)
      | (with_reducible exact spec_DrawCornerOf.mono _ _)
      | (with_reducible exact spec_DrawGridOf.mono _ _)
      | (with_reducible exact spec_GridOf.mono _ _ _ _ _ _ _ _ _)
      | (with_reducible exact spec_WasteArea.mono _ _ _ _ _ _ _ _ _)
      | (with_reducible exact LeO.refl _)
      | (with_reducible exact LeO.none _)
      | (with_reducible refine LeO.ite ?_ ?_)
      | (with_reducible refine LeO.bind ?_ (fun _ => ?_))
      | exact ih0 _ _ _ _ _ _ _ _ _ _ _ _ _ _ _ _ _ _ _ _ _ _ _ _ _
      | exact ih1 _ _ _ _ _ _ _ _ _ _ _ _ _ _
      | exact ih2 _ _ _ _ _ _ _ _ _ _ _ _ _
      | exact impl_CornerOf.mono _ _ _ _ _ _ _ _ _ _ _
      | exact impl_GridOf.mono _ _ _ _ _ _ _ _ _
      | exact impl_WasteArea.mono _ _ _ _ _ _ _ _ _
      | exact spec_CornerOf.mono _ _ _ _ _ _ _ _ _ _ _
      | exact spec_DrawCornerOf.mono _ _
      | exact spec_DrawGridOf.mono _ _
      | exact spec_GridOf.mono _ _ _ _ _ _ _ _ _
      | exact spec_WasteArea.mono _ _ _ _ _ _ _ _ _
      | exact LeO.none _
      | refine LeO.ite ?_ ?_
      | refine LeO.bind ?_ (fun _ => ?_)
    · intro y0 y1 y2 y3 y4 y5 y6 y7 y8 y9 y10 y11 y12 y13
      unfold laws_FnGrids.j1
      repeat' first
      | (with_reducible exact ih0 _ _ _ _ _ _ _ _ _ _ _ _ _ _ _ _ _ _ _ _ _ _ _ _ _)
      | (with_reducible exact ih1 _ _ _ _ _ _ _ _ _ _ _ _ _ _)
      | (with_reducible exact ih2 _ _ _ _ _ _ _ _ _ _ _ _ _)
      | (with_reducible exact impl_CornerOf.mono _ _ _ _ _ _ _ _ _ _ _)
      | (with_reducible exact impl_GridOf.mono _ _ _ _ _ _ _ _ _)
      | (with_reducible exact impl_WasteArea.mono _ _ _ _ _ _ _ _ _)
      | (with_reducible exact spec_CornerOf.mono _ _ _ _ _ _ _ _ _ _ _)
      | (with_reducible exact spec_DrawCornerOf.mono _ _)
      | (with_reducible exact spec_DrawGridOf.mono _ _)
      | (with_reducible exact spec_GridOf.mono _ _ _ _ _ _ _ _ _)
      | (with_reducible exact spec_WasteArea.mono _ _ _ _ _ _ _ _ _)
      | (with_reducible exact LeO.refl _)
      | (with_reducible exact LeO.none _)
      | (with_reducible refine LeO.ite ?_ ?_)
      | (with_reducible refine LeO.bind ?_ (fun _ => ?_))
      | exact ih0 _ _ _ _ _ _ _ _ _ _ _ _ _ _ _ _ _ _ _ _ _ _ _ _ _
      | exact ih1 _ _ _ _ _ _ _ _ _ _ _ _ _ _
      | exact ih2 _ _ _ _ _ _ _ _ _ _ _ _ _
      | exact impl_CornerOf.mono _ _ _ _ _ _ _ _ _ _ _
      | exact impl_GridOf.mono _ _ _ _ _ _ _ _ _
      | exact impl_WasteArea.mono _ _ _ _ _ _ _ _ _
      | exact spec_CornerOf.mono _ _ _ _ _ _ _ _ _ _ _
      | exact spec_DrawCornerOf.mono _ _
      | exact spec_DrawGridOf.mono _ _
      | exact spec_GridOf.mono _ _ _ _ _ _ _ _ _
      | exact spec_WasteArea.mono _ _ _ _ _ _ _ _ _
      | exact LeO.none _
      | refine LeO.ite ?_ ?_
      | refine LeO.bind ?_ (fun _ => ?_)
    · intro y0 y1 y2 y3 y4 y5 y6 y7 y8 y9 y10 y11 y12
      unfold laws_FnGrids.j2
      repeat' first
      | (with_reducible exact ih0 _ _ _ _ _ _ _ _ _ _ _ _ _ _ _ _ _ _ _ _ _ _ _ _ _)
      | (with_reducible exact ih1 _ _ _ _ _ _ _ _ _ _ _ _ _ _)
      | (with_reducible exact ih2 _ _ _ _ _ _ _ _ _ _ _ _ _)
      | (with_reducible exact impl_CornerOf.mono _ _ _ _ _ _ _ _ _ _ _)
      | (with_reducible exact impl_GridOf.mono _ _ _ _ _ _ _ _ _)
      | (with_reducible exact impl_WasteArea.mono _ _ _ _ _ _ _ _ _)
      | (with_reducible exact spec_CornerOf.mono _ _ _ _ _ _ _ _ _ _ _)
      | (with_reducible exact spec_DrawCornerOf.mono _ _)
      | (with_reducible exact spec_DrawGridOf.mono _ _)
      | (with_reducible exact spec_GridOf.mono _ _ _ _ _ _ _ _ _)
      | (with_reducible exact spec_WasteArea.mono _ _ _ _ _ _ _ _ _)
      | (with_reducible exact LeO.refl _)
      | (with_reducible exact LeO.none _)
      | (with_reducible refine LeO.ite ?_ ?_)
      | (with_reducible refine LeO.bind ?_ (fun _ => ?_))
      | exact ih0 _ _ _ _ _ _ _ _ _ _ _ _ _ _ _ _ _ _ _ _ _ _ _ _ _
      | exact ih1 _ _ _ _ _ _ _ _ _ _ _ _ _ _
      | exact ih2 _ _ _ _ _ _ _ _ _ _ _ _ _
      | exact impl_CornerOf.mono _ _ _ _ _ _ _ _ _ _ _
      | exact impl_GridOf.mono _ _ _ _ _ _ _ _ _
      | exact impl_WasteArea.mono _ _ _ _ _ _ _ _ _
      | exact spec_CornerOf.mono _ _ _ _ _ _ _ _ _ _ _
      | exact spec_DrawCornerOf.mono _ _
      | exact spec_DrawGridOf.mono _ _
      | exact spec_GridOf.mono _ _ _ _ _ _ _ _ _
      | exact spec_WasteArea.mono _ _ _ _ _ _ _ _ _
      | exact LeO.none _
      | refine LeO.ite ?_ ?_
      | refine LeO.bind ?_ (fun _ => ?_)
theorem laws_FnGrids.mono : ∀ a0 k, LeO (laws_FnGrids.f k a0) (laws_FnGrids.f (k + 1) a0) := by
  intro a0 k
  obtain ⟨ih0, ih1, ih2⟩ := laws_FnGrids.mono_l k
  unfold laws_FnGrids.f
  repeat' first
      | (with_reducible exact ih0 _ _ _ _ _ _ _ _ _ _ _ _ _ _ _ _ _ _ _ _ _ _ _ _ _)
      | (with_reducible exact ih1 _ _ _ _ _ _ _ _ _ _ _ _ _ _)
      | (with_reducible exact ih2 _ _ _ _ _ _ _ _ _ _ _ _ _)
      | (with_reducible exact impl_CornerOf.mono _ _ _ _ _ _ _ _ _ _ _)
      | (with_reducible exact impl_GridOf.mono _ _ _ _ _ _ _ _ _)
      | (with_reducible exact impl_WasteArea.mono _ _ _ _ _ _ _ _ _)
      | (with_reducible exact spec_CornerOf.mono _ _ _ _ _ _ _ _ _ _ _)
      | (with_reducible exact spec_DrawCornerOf.mono _ _)
      | (with_reducible exact spec_DrawGridOf.mono _ _)
      | (with_reducible exact spec_GridOf.mono _ _ _ _ _ _ _ _ _)
      | (with_reducible exact spec_WasteArea.mono _ _ _ _ _ _ _ _ _)
      | (with_reducible exact LeO.refl _)
      | (with_reducible exact LeO.none _)
      | (with_reducible refine LeO.ite ?_ ?_)
      | (with_reducible refine LeO.bind ?_ (fun _ => ?_))
      | exact ih0 _ _ _ _ _ _ _ _ _ _ _ _ _ _ _ _ _ _ _ _ _ _ _ _ _
      | exact ih1 _ _ _ _ _ _ _ _ _ _ _ _ _ _
      | exact ih2 _ _ _ _ _ _ _ _ _ _ _ _ _
      | exact impl_CornerOf.mono _ _ _ _ _ _ _ _ _ _ _
      | exact impl_GridOf.mono _ _ _ _ _ _ _ _ _
      | exact impl_WasteArea.mono _ _ _ _ _ _ _ _ _
      | exact spec_CornerOf.mono _ _ _ _ _ _ _ _ _ _ _
      | exact spec_DrawCornerOf.mono _ _
      | exact spec_DrawGridOf.mono _ _
      | exact spec_GridOf.mono _ _ _ _ _ _ _ _ _
      | exact spec_WasteArea.mono _ _ _ _ _ _ _ _ _
      | exact LeO.none _
      | refine LeO.ite ?_ ?_
      | refine LeO.bind ?_ (fun _ => ?_)
def laws_FnGrids.T11 : Bool × List (List Nat × List Nat) := (true, [([], []), ([], []), ([0, 1], [0, 1]), ([2], [2]), ([3], [3]), ([3], [3]), ([4, 5, 3], [3, 4, 5]), ([3, 6], [3, 6]), ([7, 3], [7]), ([8], [8]), ([8], [8]), ([9, 10, 8], [8, 9, 10]), ([8, 11], [8, 11]), ([12, 8], [12]), ([13], [13]), ([13], [13]), ([14, 15, 13], [13, 14, 15]), ([13, 16], [13, 16]), ([17, 13], [17]), ([18], [18]), ([18], [18]), ([19, 20, 18], [18, 19, 20]), ([18, 21], [18, 21]), ([22, 18], [22]), ([23], [23]), ([23], [23]), ([24, 25, 23], [23, 24, 25]), ([23, 26], [23, 26]), ([27, 23], [27]), ([28], [28]), ([28], [28]), ([29, 30, 28], [28, 29, 30]), ([28, 31], [28, 31]), ([32, 28], [32]), ([33], [33]), ([33], [33]), ([34, 35, 33], [33, 34, 35]), ([33, 36], [33, 36]), ([37, 33], [37]), ([38], [38]), ([39, 38, 38], [38, 39]), ([38], [38]), ([41, 40, 38], [38, 41]), ([40, 42, 38], [38, 40, 42]), ([38, 43], [38, 43]), ([44, 42], [44]), ([45], [45]), ([46, 45, 45], [45, 46]), ([45], [45]), ([48, 47, 45], [45, 48]), ([47, 49, 45], [45, 47, 49]), ([45, 50], [45, 50])])
def laws_FnGrids.B11 : List Nat := [0, 0, 3, 7, 15, 15, 63, 127, 255, 511, 511, 2047, 4095, 8191, 16383, 16383, 65535, 131071, 262143, 524287, 524287, 2097151, 4194303, 8388607, 16777215, 16777215, 67108863, 134217727, 268435455, 536870911, 536870911, 2147483647, 4294967295, 8589934591, 17179869183, 17179869183, 68719476735, 137438953471, 274877906943, 549755813887, 1099511627775, 549755813887, 4398046511103, 8796093022207, 17592186044415, 35184372088831, 70368744177663, 140737488355327, 70368744177663, 562949953421311, 1125899906842623, 2251799813685247]
theorem laws_FnGrids.tab11 : rtab .any (opsOf Try.f6 11) = laws_FnGrids.T11 := by kernel_rfl
theorem laws_FnGrids.bits11 : waitsOk laws_FnGrids.T11.2 laws_FnGrids.B11 = true := by kernel_rfl
set_option maxHeartbeats 8000000 in
set_option maxRecDepth 100000 in
theorem laws_FnGrids.calls (k : Nat) (A0 : Option Addr) (c0 : Nat) (l0 : List Int) (r : Bool) (w : World) (hr0 : Kd.C (Kd.int .u8) w A0 l0.length l0) (hc0 : l0.length ≤ c0) (h : laws_FnGrids.f k l0 = some r) :
    Calls Try.prog 6 #[.slice A0 l0.length c0] w fun e w' => e = .returned (.bool r) ∧ Below w.heap.size w w' := by
  have hu39 := Try.underlying39
  have hu41 := Try.underlying41
  have HR0 := Aside0.mk hr0
  have HC0 := Aside0.mk hc0
  clear hr0 hc0
  have HB := Aside0.mk (Below.refl w.heap.size w)
  have H : ((laws_big.f l0).bind fun t327 => (if t327 = true then (some true) else ((spec_DrawGridOf.f k l0).bind fun bt328 => ((impl_GridOf.f k bt328.1 bt328.2.1 bt328.2.2.1 bt328.2.2.2.1 bt328.2.2.2.2.1 bt328.2.2.2.2.2.1 bt328.2.2.2.2.2.2.1 bt328.2.2.2.2.2.2.2).bind fun bt338 => ((spec_GridOf.f k bt328.1 bt328.2.1 bt328.2.2.1 bt328.2.2.2.1 bt328.2.2.2.2.1 bt328.2.2.2.2.2.1 bt328.2.2.2.2.2.2.1 bt328.2.2.2.2.2.2.2).bind fun bt341 => ((spec_DrawCornerOf.f k l0).bind fun bt344 => ((impl_CornerOf.f k bt344.1 bt344.2.1 bt344.2.2.1 bt344.2.2.2.1 bt344.2.2.2.2.1 bt344.2.2.2.2.2.1 bt344.2.2.2.2.2.2.1 bt344.2.2.2.2.2.2.2.1 bt344.2.2.2.2.2.2.2.2.1 bt344.2.2.2.2.2.2.2.2.2).bind fun bt356 => ((spec_CornerOf.f k bt344.1 bt344.2.1 bt344.2.2.1 bt344.2.2.2.1 bt344.2.2.2.2.1 bt344.2.2.2.2.2.1 bt344.2.2.2.2.2.2.1 bt344.2.2.2.2.2.2.2.1 bt344.2.2.2.2.2.2.2.2.1 bt344.2.2.2.2.2.2.2.2.2).bind fun bt359 => ((impl_WasteArea.f k bt328.1 bt328.2.1 bt328.2.2.1 bt328.2.2.2.1 bt328.2.2.2.2.1 bt328.2.2.2.2.2.1 bt328.2.2.2.2.2.2.1 bt328.2.2.2.2.2.2.2).bind fun bt362 => ((spec_WasteArea.f k bt328.1 bt328.2.1 bt328.2.2.1 bt328.2.2.2.1 bt328.2.2.2.2.1 bt328.2.2.2.2.2.1 bt328.2.2.2.2.2.2.1 bt328.2.2.2.2.2.2.2).bind fun bt364 => (if bt338.2.2 = bt341.2.2 then (if bt338.1 = bt341.1 then (if bt338.2.1 = bt341.2.1 then (if bt356.2.2 = bt359.2.2 then (if bt356.1 = bt359.1 then (if bt356.2.1 = bt359.2.1 then (if bt362.2 = bt364.2 then (if bt362.1 = bt364.1 then ((impl_IsPress.f bt328.1 bt328.2.1 bt328.2.2.1 bt328.2.2.2.1).bind fun t366 => ((spec_IsPress.f bt328.1 bt328.2.1 bt328.2.2.1 bt328.2.2.2.1).bind fun t367 => (if (t366 != t367) = true then (none) else ((impl_IsTrim.f bt328.2.2.2.2.1 bt328.2.2.2.2.2.1 bt328.2.2.2.2.2.2.1 bt328.2.2.2.2.2.2.2).bind fun t368 => ((spec_IsTrim.f bt328.2.2.2.2.1 bt328.2.2.2.2.2.1 bt328.2.2.2.2.2.2.1 bt328.2.2.2.2.2.2.2).bind fun t369 => (laws_FnGrids.j0 k bt338.1 bt338.2.1 bt338.2.2 bt356.1 bt356.2.1 bt356.2.2 bt362.1 bt362.2 (t368 != t369) bt328.1 bt328.2.1 bt328.2.2.1 bt328.2.2.2.1 bt328.2.2.2.2.1 bt328.2.2.2.2.2.1 bt328.2.2.2.2.2.2.1 bt328.2.2.2.2.2.2.2 bt344.1 bt344.2.1 bt344.2.2.1 bt344.2.2.2.1 bt344.2.2.2.2.1 bt344.2.2.2.2.2.1 bt344.2.2.2.2.2.2.1 bt344.2.2.2.2.2.2.2.1)))))) else (none)) else (none)) else (none)) else (none)) else (none)) else (none)) else (none)) else (none)))))))))))) = some r := h
  clear h
  replace H := Option.bind_eq_some_iff.mp H
  obtain ⟨t327, A20, H⟩ := H
  replace H : (if t327 = true then (some true) else ((spec_DrawGridOf.f k l0).bind fun bt328 => ((impl_GridOf.f k bt328.1 bt328.2.1 bt328.2.2.1 bt328.2.2.2.1 bt328.2.2.2.2.1 bt328.2.2.2.2.2.1 bt328.2.2.2.2.2.2.1 bt328.2.2.2.2.2.2.2).bind fun bt338 => ((spec_GridOf.f k bt328.1 bt328.2.1 bt328.2.2.1 bt328.2.2.2.1 bt328.2.2.2.2.1 bt328.2.2.2.2.2.1 bt328.2.2.2.2.2.2.1 bt328.2.2.2.2.2.2.2).bind fun bt341 => ((spec_DrawCornerOf.f k l0).bind fun bt344 => ((impl_CornerOf.f k bt344.1 bt344.2.1 bt344.2.2.1 bt344.2.2.2.1 bt344.2.2.2.2.1 bt344.2.2.2.2.2.1 bt344.2.2.2.2.2.2.1 bt344.2.2.2.2.2.2.2.1 bt344.2.2.2.2.2.2.2.2.1 bt344.2.2.2.2.2.2.2.2.2).bind fun bt356 => ((spec_CornerOf.f k bt344.1 bt344.2.1 bt344.2.2.1 bt344.2.2.2.1 bt344.2.2.2.2.1 bt344.2.2.2.2.2.1 bt344.2.2.2.2.2.2.1 bt344.2.2.2.2.2.2.2.1 bt344.2.2.2.2.2.2.2.2.1 bt344.2.2.2.2.2.2.2.2.2).bind fun bt359 => ((impl_WasteArea.f k bt328.1 bt328.2.1 bt328.2.2.1 bt328.2.2.2.1 bt328.2.2.2.2.1 bt328.2.2.2.2.2.1 bt328.2.2.2.2.2.2.1 bt328.2.2.2.2.2.2.2).bind fun bt362 => ((spec_WasteArea.f k bt328.1 bt328.2.1 bt328.2.2.1 bt328.2.2.2.1 bt328.2.2.2.2.1 bt328.2.2.2.2.2.1 bt328.2.2.2.2.2.2.1 bt328.2.2.2.2.2.2.2).bind fun bt364 => (if bt338.2.2 = bt341.2.2 then (if bt338.1 = bt341.1 then (if bt338.2.1 = bt341.2.1 then (if bt356.2.2 = bt359.2.2 then (if bt356.1 = bt359.1 then (if bt356.2.1 = bt359.2.1 then (if bt362.2 = bt364.2 then (if bt362.1 = bt364.1 then ((impl_IsPress.f bt328.1 bt328.2.1 bt328.2.2.1 bt328.2.2.2.1).bind fun t366 => ((spec_IsPress.f bt328.1 bt328.2.1 bt328.2.2.1 bt328.2.2.2.1).bind fun t367 => (if (t366 != t367) = true then (none) else ((impl_IsTrim.f bt328.2.2.2.2.1 bt328.2.2.2.2.2.1 bt328.2.2.2.2.2.2.1 bt328.2.2.2.2.2.2.2).bind fun t368 => ((spec_IsTrim.f bt328.2.2.2.2.1 bt328.2.2.2.2.2.1 bt328.2.2.2.2.2.2.1 bt328.2.2.2.2.2.2.2).bind fun t369 => (laws_FnGrids.j0 k bt338.1 bt338.2.1 bt338.2.2 bt356.1 bt356.2.1 bt356.2.2 bt362.1 bt362.2 (t368 != t369) bt328.1 bt328.2.1 bt328.2.2.1 bt328.2.2.2.1 bt328.2.2.2.2.1 bt328.2.2.2.2.2.1 bt328.2.2.2.2.2.2.1 bt328.2.2.2.2.2.2.2 bt344.1 bt344.2.1 bt344.2.2.1 bt344.2.2.2.1 bt344.2.2.2.2.1 bt344.2.2.2.2.2.1 bt344.2.2.2.2.2.2.1 bt344.2.2.2.2.2.2.2.1)))))) else (none)) else (none)) else (none)) else (none)) else (none)) else (none)) else (none)) else (none))))))))))) = some r := H
  have A2 := Aside0.mk A20
  clear A20
  by_cases c3 : t327 = true
  · subst c3
    have H1 : (some true) = some r := by rw [if_pos rfl] at H; exact H
    clear H
    have H := H1
    clear H1
    obtain rfl := Option.some.inj H
    go_enter Try.func6, Try.ntmps6
    go_wp2_with (first | ((with_reducible refine gate_callee (f := 13) rfl ?_); refine goesL_ (some 26) rfl rfl Try.func13 (by kernel_rfl) rfl #[.slice A0 l0.length c0] rfl (by (try simp only [List.map_toArray, List.map_cons, List.map_nil]); first | done | rfl | (simp only [List.length_drop, List.length_take]; rfl)) ?_; (with_reducible refine (laws_big.calls _ _ l0 true _ ?side1 ?side2 A2.out).mono ?_); (case side1 => repeat (first | exact HR0.out | (with_reducible refine Kd.C_alloc ?_ _) | (with_reducible refine Kd.C_drewN ?_ _) | (with_reducible refine Kd.C_drew ?_))); (case side2 => exact HC0.out); rintro e w' ⟨rfl, ⟨nd, rfl⟩⟩; refine ⟨_, rfl, ?_⟩))
    go_ret
    exact ⟨by first | rfl | (simp [errW_none, errW_some] <;> rfl) | (simp [*, errW_none, errW_some] <;> rfl), by repeat (first | (with_reducible first | exact HB.out | apply below_alloc | apply pw_below_drewN | apply below_drew1) | exact HB.out)⟩
  · replace c3 := Bool.eq_false_iff.mpr c3
    subst c3
    have H1 : ((spec_DrawGridOf.f k l0).bind fun bt328 => ((impl_GridOf.f k bt328.1 bt328.2.1 bt328.2.2.1 bt328.2.2.2.1 bt328.2.2.2.2.1 bt328.2.2.2.2.2.1 bt328.2.2.2.2.2.2.1 bt328.2.2.2.2.2.2.2).bind fun bt338 => ((spec_GridOf.f k bt328.1 bt328.2.1 bt328.2.2.1 bt328.2.2.2.1 bt328.2.2.2.2.1 bt328.2.2.2.2.2.1 bt328.2.2.2.2.2.2.1 bt328.2.2.2.2.2.2.2).bind fun bt341 => ((spec_DrawCornerOf.f k l0).bind fun bt344 => ((impl_CornerOf.f k bt344.1 bt344.2.1 bt344.2.2.1 bt344.2.2.2.1 bt344.2.2.2.2.1 bt344.2.2.2.2.2.1 bt344.2.2.2.2.2.2.1 bt344.2.2.2.2.2.2.2.1 bt344.2.2.2.2.2.2.2.2.1 bt344.2.2.2.2.2.2.2.2.2).bind fun bt356 => ((spec_CornerOf.f k bt344.1 bt344.2.1 bt344.2.2.1 bt344.2.2.2.1 bt344.2.2.2.2.1 bt344.2.2.2.2.2.1 bt344.2.2.2.2.2.2.1 bt344.2.2.2.2.2.2.2.1 bt344.2.2.2.2.2.2.2.2.1 bt344.2.2.2.2.2.2.2.2.2).bind fun bt359 => ((impl_WasteArea.f k bt328.1 bt328.2.1 bt328.2.2.1 bt328.2.2.2.1 bt328.2.2.2.2.1 bt328.2.2.2.2.2.1 bt328.2.2.2.2.2.2.1 bt328.2.2.2.2.2.2.2).bind fun bt362 => ((spec_WasteArea.f k bt328.1 bt328.2.1 bt328.2.2.1 bt328.2.2.2.1 bt328.2.2.2.2.1 bt328.2.2.2.2.2.1 bt328.2.2.2.2.2.2.1 bt328.2.2.2.2.2.2.2).bind fun bt364 => (if bt338.2.2 = bt341.2.2 then (if bt338.1 = bt341.1 then (if bt338.2.1 = bt341.2.1 then (if bt356.2.2 = bt359.2.2 then (if bt356.1 = bt359.1 then (if bt356.2.1 = bt359.2.1 then (if bt362.2 = bt364.2 then (if bt362.1 = bt364.1 then ((impl_IsPress.f bt328.1 bt328.2.1 bt328.2.2.1 bt328.2.2.2.1).bind fun t366 => ((spec_IsPress.f bt328.1 bt328.2.1 bt328.2.2.1 bt328.2.2.2.1).bind fun t367 => (if (t366 != t367) = true then (none) else ((impl_IsTrim.f bt328.2.2.2.2.1 bt328.2.2.2.2.2.1 bt328.2.2.2.2.2.2.1 bt328.2.2.2.2.2.2.2).bind fun t368 => ((spec_IsTrim.f bt328.2.2.2.2.1 bt328.2.2.2.2.2.1 bt328.2.2.2.2.2.2.1 bt328.2.2.2.2.2.2.2).bind fun t369 => (laws_FnGrids.j0 k bt338.1 bt338.2.1 bt338.2.2 bt356.1 bt356.2.1 bt356.2.2 bt362.1 bt362.2 (t368 != t369) bt328.1 bt328.2.1 bt328.2.2.1 bt328.2.2.2.1 bt328.2.2.2.2.1 bt328.2.2.2.2.2.1 bt328.2.2.2.2.2.2.1 bt328.2.2.2.2.2.2.2 bt344.1 bt344.2.1 bt344.2.2.1 bt344.2.2.2.1 bt344.2.2.2.2.1 bt344.2.2.2.2.2.1 bt344.2.2.2.2.2.2.1 bt344.2.2.2.2.2.2.2.1)))))) else (none)) else (none)) else (none)) else (none)) else (none)) else (none)) else (none)) else (none)))))))))) = some r := by rw [if_neg (show ¬ (false = true) by decide)] at H; exact H
    clear H
    have H := H1
    clear H1
    replace H := Option.bind_eq_some_iff.mp H
    obtain ⟨⟨t328, t329, t330, t331, t332, t333, t334, t335⟩, A40, H⟩ := H
    replace H : ((impl_GridOf.f k t328 t329 t330 t331 t332 t333 t334 t335).bind fun bt338 => ((spec_GridOf.f k t328 t329 t330 t331 t332 t333 t334 t335).bind fun bt341 => ((spec_DrawCornerOf.f k l0).bind fun bt344 => ((impl_CornerOf.f k bt344.1 bt344.2.1 bt344.2.2.1 bt344.2.2.2.1 bt344.2.2.2.2.1 bt344.2.2.2.2.2.1 bt344.2.2.2.2.2.2.1 bt344.2.2.2.2.2.2.2.1 bt344.2.2.2.2.2.2.2.2.1 bt344.2.2.2.2.2.2.2.2.2).bind fun bt356 => ((spec_CornerOf.f k bt344.1 bt344.2.1 bt344.2.2.1 bt344.2.2.2.1 bt344.2.2.2.2.1 bt344.2.2.2.2.2.1 bt344.2.2.2.2.2.2.1 bt344.2.2.2.2.2.2.2.1 bt344.2.2.2.2.2.2.2.2.1 bt344.2.2.2.2.2.2.2.2.2).bind fun bt359 => ((impl_WasteArea.f k t328 t329 t330 t331 t332 t333 t334 t335).bind fun bt362 => ((spec_WasteArea.f k t328 t329 t330 t331 t332 t333 t334 t335).bind fun bt364 => (if bt338.2.2 = bt341.2.2 then (if bt338.1 = bt341.1 then (if bt338.2.1 = bt341.2.1 then (if bt356.2.2 = bt359.2.2 then (if bt356.1 = bt359.1 then (if bt356.2.1 = bt359.2.1 then (if bt362.2 = bt364.2 then (if bt362.1 = bt364.1 then ((impl_IsPress.f t328 t329 t330 t331).bind fun t366 => ((spec_IsPress.f t328 t329 t330 t331).bind fun t367 => (if (t366 != t367) = true then (none) else ((impl_IsTrim.f t332 t333 t334 t335).bind fun t368 => ((spec_IsTrim.f t332 t333 t334 t335).bind fun t369 => (laws_FnGrids.j0 k bt338.1 bt338.2.1 bt338.2.2 bt356.1 bt356.2.1 bt356.2.2 bt362.1 bt362.2 (t368 != t369) t328 t329 t330 t331 t332 t333 t334 t335 bt344.1 bt344.2.1 bt344.2.2.1 bt344.2.2.2.1 bt344.2.2.2.2.1 bt344.2.2.2.2.2.1 bt344.2.2.2.2.2.2.1 bt344.2.2.2.2.2.2.2.1)))))) else (none)) else (none)) else (none)) else (none)) else (none)) else (none)) else (none)) else (none))))))))) = some r := H
    have A4 := Aside0.mk A40
    clear A40
    replace H := Option.bind_eq_some_iff.mp H
    obtain ⟨⟨t338, t339, t340⟩, A50, H⟩ := H
    replace H : ((spec_GridOf.f k t328 t329 t330 t331 t332 t333 t334 t335).bind fun bt341 => ((spec_DrawCornerOf.f k l0).bind fun bt344 => ((impl_CornerOf.f k bt344.1 bt344.2.1 bt344.2.2.1 bt344.2.2.2.1 bt344.2.2.2.2.1 bt344.2.2.2.2.2.1 bt344.2.2.2.2.2.2.1 bt344.2.2.2.2.2.2.2.1 bt344.2.2.2.2.2.2.2.2.1 bt344.2.2.2.2.2.2.2.2.2).bind fun bt356 => ((spec_CornerOf.f k bt344.1 bt344.2.1 bt344.2.2.1 bt344.2.2.2.1 bt344.2.2.2.2.1 bt344.2.2.2.2.2.1 bt344.2.2.2.2.2.2.1 bt344.2.2.2.2.2.2.2.1 bt344.2.2.2.2.2.2.2.2.1 bt344.2.2.2.2.2.2.2.2.2).bind fun bt359 => ((impl_WasteArea.f k t328 t329 t330 t331 t332 t333 t334 t335).bind fun bt362 => ((spec_WasteArea.f k t328 t329 t330 t331 t332 t333 t334 t335).bind fun bt364 => (if t340 = bt341.2.2 then (if t338 = bt341.1 then (if t339 = bt341.2.1 then (if bt356.2.2 = bt359.2.2 then (if bt356.1 = bt359.1 then (if bt356.2.1 = bt359.2.1 then (if bt362.2 = bt364.2 then (if bt362.1 = bt364.1 then ((impl_IsPress.f t328 t329 t330 t331).bind fun t366 => ((spec_IsPress.f t328 t329 t330 t331).bind fun t367 => (if (t366 != t367) = true then (none) else ((impl_IsTrim.f t332 t333 t334 t335).bind fun t368 => ((spec_IsTrim.f t332 t333 t334 t335).bind fun t369 => (laws_FnGrids.j0 k t338 t339 t340 bt356.1 bt356.2.1 bt356.2.2 bt362.1 bt362.2 (t368 != t369) t328 t329 t330 t331 t332 t333 t334 t335 bt344.1 bt344.2.1 bt344.2.2.1 bt344.2.2.2.1 bt344.2.2.2.2.1 bt344.2.2.2.2.2.1 bt344.2.2.2.2.2.2.1 bt344.2.2.2.2.2.2.2.1)))))) else (none)) else (none)) else (none)) else (none)) else (none)) else (none)) else (none)) else (none)))))))) = some r := H
    have A5 := Aside0.mk A50
    clear A50
    replace H := Option.bind_eq_some_iff.mp H
    obtain ⟨⟨t341, t342, t343⟩, A60, H⟩ := H
    replace H : ((spec_DrawCornerOf.f k l0).bind fun bt344 => ((impl_CornerOf.f k bt344.1 bt344.2.1 bt344.2.2.1 bt344.2.2.2.1 bt344.2.2.2.2.1 bt344.2.2.2.2.2.1 bt344.2.2.2.2.2.2.1 bt344.2.2.2.2.2.2.2.1 bt344.2.2.2.2.2.2.2.2.1 bt344.2.2.2.2.2.2.2.2.2).bind fun bt356 => ((spec_CornerOf.f k bt344.1 bt344.2.1 bt344.2.2.1 bt344.2.2.2.1 bt344.2.2.2.2.1 bt344.2.2.2.2.2.1 bt344.2.2.2.2.2.2.1 bt344.2.2.2.2.2.2.2.1 bt344.2.2.2.2.2.2.2.2.1 bt344.2.2.2.2.2.2.2.2.2).bind fun bt359 => ((impl_WasteArea.f k t328 t329 t330 t331 t332 t333 t334 t335).bind fun bt362 => ((spec_WasteArea.f k t328 t329 t330 t331 t332 t333 t334 t335).bind fun bt364 => (if t340 = t343 then (if t338 = t341 then (if t339 = t342 then (if bt356.2.2 = bt359.2.2 then (if bt356.1 = bt359.1 then (if bt356.2.1 = bt359.2.1 then (if bt362.2 = bt364.2 then (if bt362.1 = bt364.1 then ((impl_IsPress.f t328 t329 t330 t331).bind fun t366 => ((spec_IsPress.f t328 t329 t330 t331).bind fun t367 => (if (t366 != t367) = true then (none) else ((impl_IsTrim.f t332 t333 t334 t335).bind fun t368 => ((spec_IsTrim.f t332 t333 t334 t335).bind fun t369 => (laws_FnGrids.j0 k t338 t339 t340 bt356.1 bt356.2.1 bt356.2.2 bt362.1 bt362.2 (t368 != t369) t328 t329 t330 t331 t332 t333 t334 t335 bt344.1 bt344.2.1 bt344.2.2.1 bt344.2.2.2.1 bt344.2.2.2.2.1 bt344.2.2.2.2.2.1 bt344.2.2.2.2.2.2.1 bt344.2.2.2.2.2.2.2.1)))))) else (none)) else (none)) else (none)) else (none)) else (none)) else (none)) else (none)) else (none))))))) = some r := H
    have A6 := Aside0.mk A60
    clear A60
    replace H := Option.bind_eq_some_iff.mp H
    obtain ⟨⟨t344, t345, t346, t347, t348, t349, t350, t351, t352, t353⟩, A70, H⟩ := H
    replace H : ((impl_CornerOf.f k t344 t345 t346 t347 t348 t349 t350 t351 t352 t353).bind fun bt356 => ((spec_CornerOf.f k t344 t345 t346 t347 t348 t349 t350 t351 t352 t353).bind fun bt359 => ((impl_WasteArea.f k t328 t329 t330 t331 t332 t333 t334 t335).bind fun bt362 => ((spec_WasteArea.f k t328 t329 t330 t331 t332 t333 t334 t335).bind fun bt364 => (if t340 = t343 then (if t338 = t341 then (if t339 = t342 then (if bt356.2.2 = bt359.2.2 then (if bt356.1 = bt359.1 then (if bt356.2.1 = bt359.2.1 then (if bt362.2 = bt364.2 then (if bt362.1 = bt364.1 then ((impl_IsPress.f t328 t329 t330 t331).bind fun t366 => ((spec_IsPress.f t328 t329 t330 t331).bind fun t367 => (if (t366 != t367) = true then (none) else ((impl_IsTrim.f t332 t333 t334 t335).bind fun t368 => ((spec_IsTrim.f t332 t333 t334 t335).bind fun t369 => (laws_FnGrids.j0 k t338 t339 t340 bt356.1 bt356.2.1 bt356.2.2 bt362.1 bt362.2 (t368 != t369) t328 t329 t330 t331 t332 t333 t334 t335 t344 t345 t346 t347 t348 t349 t350 t351)))))) else (none)) else (none)) else (none)) else (none)) else (none)) else (none)) else (none)) else (none)))))) = some r := H
    have A7 := Aside0.mk A70
    clear A70
    replace H := Option.bind_eq_some_iff.mp H
    obtain ⟨⟨t356, t357, t358⟩, A80, H⟩ := H
    replace H : ((spec_CornerOf.f k t344 t345 t346 t347 t348 t349 t350 t351 t352 t353).bind fun bt359 => ((impl_WasteArea.f k t328 t329 t330 t331 t332 t333 t334 t335).bind fun bt362 => ((spec_WasteArea.f k t328 t329 t330 t331 t332 t333 t334 t335).bind fun bt364 => (if t340 = t343 then (if t338 = t341 then (if t339 = t342 then (if t358 = bt359.2.2 then (if t356 = bt359.1 then (if t357 = bt359.2.1 then (if bt362.2 = bt364.2 then (if bt362.1 = bt364.1 then ((impl_IsPress.f t328 t329 t330 t331).bind fun t366 => ((spec_IsPress.f t328 t329 t330 t331).bind fun t367 => (if (t366 != t367) = true then (none) else ((impl_IsTrim.f t332 t333 t334 t335).bind fun t368 => ((spec_IsTrim.f t332 t333 t334 t335).bind fun t369 => (laws_FnGrids.j0 k t338 t339 t340 t356 t357 t358 bt362.1 bt362.2 (t368 != t369) t328 t329 t330 t331 t332 t333 t334 t335 t344 t345 t346 t347 t348 t349 t350 t351)))))) else (none)) else (none)) else (none)) else (none)) else (none)) else (none)) else (none)) else (none))))) = some r := H
    have A8 := Aside0.mk A80
    clear A80
    replace H := Option.bind_eq_some_iff.mp H
    obtain ⟨⟨t359, t360, t361⟩, A90, H⟩ := H
    replace H : ((impl_WasteArea.f k t328 t329 t330 t331 t332 t333 t334 t335).bind fun bt362 => ((spec_WasteArea.f k t328 t329 t330 t331 t332 t333 t334 t335).bind fun bt364 => (if t340 = t343 then (if t338 = t341 then (if t339 = t342 then (if t358 = t361 then (if t356 = t359 then (if t357 = t360 then (if bt362.2 = bt364.2 then (if bt362.1 = bt364.1 then ((impl_IsPress.f t328 t329 t330 t331).bind fun t366 => ((spec_IsPress.f t328 t329 t330 t331).bind fun t367 => (if (t366 != t367) = true then (none) else ((impl_IsTrim.f t332 t333 t334 t335).bind fun t368 => ((spec_IsTrim.f t332 t333 t334 t335).bind fun t369 => (laws_FnGrids.j0 k t338 t339 t340 t356 t357 t358 bt362.1 bt362.2 (t368 != t369) t328 t329 t330 t331 t332 t333 t334 t335 t344 t345 t346 t347 t348 t349 t350 t351)))))) else (none)) else (none)) else (none)) else (none)) else (none)) else (none)) else (none)) else (none)))) = some r := H
    have A9 := Aside0.mk A90
    clear A90
    replace H := Option.bind_eq_some_iff.mp H
    obtain ⟨⟨t362, t363⟩, A100, H⟩ := H
    replace H : ((spec_WasteArea.f k t328 t329 t330 t331 t332 t333 t334 t335).bind fun bt364 => (if t340 = t343 then (if t338 = t341 then (if t339 = t342 then (if t358 = t361 then (if t356 = t359 then (if t357 = t360 then (if t363 = bt364.2 then (if t362 = bt364.1 then ((impl_IsPress.f t328 t329 t330 t331).bind fun t366 => ((spec_IsPress.f t328 t329 t330 t331).bind fun t367 => (if (t366 != t367) = true then (none) else ((impl_IsTrim.f t332 t333 t334 t335).bind fun t368 => ((spec_IsTrim.f t332 t333 t334 t335).bind fun t369 => (laws_FnGrids.j0 k t338 t339 t340 t356 t357 t358 t362 t363 (t368 != t369) t328 t329 t330 t331 t332 t333 t334 t335 t344 t345 t346 t347 t348 t349 t350 t351)))))) else (none)) else (none)) else (none)) else (none)) else (none)) else (none)) else (none)) else (none))) = some r := H
    have A10 := Aside0.mk A100
    clear A100
    replace H := Option.bind_eq_some_iff.mp H
    obtain ⟨⟨t364, t365⟩, A110, H⟩ := H
    replace H : (if t340 = t343 then (if t338 = t341 then (if t339 = t342 then (if t358 = t361 then (if t356 = t359 then (if t357 = t360 then (if t363 = t365 then (if t362 = t364 then ((impl_IsPress.f t328 t329 t330 t331).bind fun t366 => ((spec_IsPress.f t328 t329 t330 t331).bind fun t367 => (if (t366 != t367) = true then (none) else ((impl_IsTrim.f t332 t333 t334 t335).bind fun t368 => ((spec_IsTrim.f t332 t333 t334 t335).bind fun t369 => (laws_FnGrids.j0 k t338 t339 t340 t356 t357 t358 t362 t363 (t368 != t369) t328 t329 t330 t331 t332 t333 t334 t335 t344 t345 t346 t347 t348 t349 t350 t351)))))) else (none)) else (none)) else (none)) else (none)) else (none)) else (none)) else (none)) else (none)) = some r := H
    have A11 := Aside0.mk A110
    clear A110
    have HC12 := Aside0.mk H
    clear H
    go_enter Try.func6, Try.ntmps6
    go_upto_region 11 with (first | ((with_reducible refine gate_callee (f := 13) rfl ?_); refine goesL_ (some 26) rfl rfl Try.func13 (by kernel_rfl) rfl #[.slice A0 l0.length c0] rfl (by (try simp only [List.map_toArray, List.map_cons, List.map_nil]); first | done | rfl | (simp only [List.length_drop, List.length_take]; rfl)) ?_; (with_reducible refine (laws_big.calls _ _ l0 false _ ?side1 ?side2 A2.out).mono ?_); (case side1 => repeat (first | exact HR0.out | (with_reducible refine Kd.C_alloc ?_ _) | (with_reducible refine Kd.C_drewN ?_ _) | (with_reducible refine Kd.C_drew ?_))); (case side2 => exact HC0.out); rintro e w' ⟨rfl, ⟨nd, rfl⟩⟩; refine ⟨_, rfl, ?_⟩) | ((with_reducible refine gate_callee (f := 35) rfl ?_); refine goesL_ (some 29) rfl rfl Try.func35 (by kernel_rfl) rfl #[.slice A0 l0.length c0] rfl (by (try simp only [List.map_toArray, List.map_cons, List.map_nil]); first | done | rfl | (simp only [List.length_drop, List.length_take]; rfl)) ?_; (with_reducible refine (spec_DrawGridOf.calls k _ _ l0 t328 t329 t330 t331 t332 t333 t334 t335 _ ?side1 ?side2 A4.out).mono ?_); (case side1 => repeat (first | exact HR0.out | (with_reducible refine Kd.C_alloc ?_ _) | (with_reducible refine Kd.C_drewN ?_ _) | (with_reducible refine Kd.C_drew ?_))); (case side2 => exact HC0.out); rintro e w13 ⟨rfl, hb⟩; refine ⟨_, rfl, ?_⟩; have n0_ := Aside0.mk (below_step (by repeat (first | (with_reducible first | exact HB.out | apply below_alloc | apply pw_below_drewN | apply below_drew1) | exact HB.out)) hb); clear HB; have HB := n0_; clear n0_; (try clear hb); (try clear hb2); (try clear hk); (try clear hi)) | ((with_reducible refine gate_dst (N := 3) rfl ?_); refine box_event ?hg (N := 3) ?hd (cs := #[.int .i64 0, .int .i64 0, .int .i64 0, .bool false]) (t := 39) ?hr ?_; (case hd => rfl); (case hg => rfl); (case hr => first | (go_simp; done) | (go_simp; rfl)); intro gb336 hg w14 hbox hb; have n0_ := Aside0.mk (below_step (by repeat (first | (with_reducible first | exact HB.out | apply below_alloc | apply pw_below_drewN | apply below_drew1) | exact HB.out)) hb); have n1_ := Aside0.mk (hbox); have n2_ := Aside0.mk ((by rw [hg]; exact (below_size (by repeat (first | (with_reducible first | exact HB.out | apply below_alloc | apply pw_below_drewN | apply below_drew1) | exact HB.out))) : w.heap.size ≤ gb336)); have n3_ := Aside0.mk ((by rw [hg]; exact (below_size (by repeat (first | (with_reducible first | exact HB.out | apply below_alloc | apply pw_below_drewN | apply below_drew1) | exact HB.out))) : w.heap.size ≤ gb336)); clear HB; have HB := n0_; have BK336 := n1_; have GW336 := n2_; have GE336 := n3_; clear n0_ n1_ n2_ n3_; clear hb hbox hg) | ((with_reducible refine gate_dst (N := 4) rfl ?_); refine box_event ?hg (N := 4) ?hd (cs := #[.int .i64 0, .int .i64 0, .int .i64 0, .int .i64 0]) (t := 41) ?hr ?_; (case hd => rfl); (case hg => rfl); (case hr => first | (go_simp; done) | (go_simp; rfl)); intro gb337 hg w15 hbox hb; have n0_ := Aside0.mk (blk_below (g := gb336) (o := .cells #[.int .i64 0, .int .i64 0, .int .i64 0, .bool false] 39 (0, 0)) (by (with_reducible repeat (first | refine blk_drewN ?_ _ | refine blk_drew ?_ | refine blk_alloc ?_ _)); exact BK336.out) hb); have n1_ := Aside0.mk (below_step (by repeat (first | (with_reducible first | exact HB.out | apply below_alloc | apply pw_below_drewN | apply below_drew1 | refine below_set ?_ GE336.out) | exact HB.out)) hb); have n2_ := Aside0.mk (hbox); have n3_ := Aside0.mk ((by rw [hg]; exact (below_size (by repeat (first | (with_reducible first | exact HB.out | apply below_alloc | apply pw_below_drewN | apply below_drew1 | refine below_set ?_ GE336.out) | exact HB.out))) : w.heap.size ≤ gb337)); have n4_ := Aside0.mk ((by rw [hg]; exact (below_size (by repeat (first | (with_reducible first | exact HB.out | apply below_alloc | apply pw_below_drewN | apply below_drew1 | refine below_set ?_ GE336.out) | exact HB.out))) : w.heap.size ≤ gb337)); have n5_ := Aside0.mk ((by rw [hg]; exact Nat.ne_of_lt (blk_lt (g := gb336) (o := .cells #[.int .i64 0, .int .i64 0, .int .i64 0, .bool false] 39 (0, 0)) (by (with_reducible repeat (first | refine blk_drewN ?_ _ | refine blk_drew ?_ | refine blk_alloc ?_ _)); exact BK336.out)) : gb336 ≠ gb337)); have n6_ := Aside0.mk ((by rw [hg]; exact Nat.ne_of_gt (blk_lt (g := gb336) (o := .cells #[.int .i64 0, .int .i64 0, .int .i64 0, .bool false] 39 (0, 0)) (by (with_reducible repeat (first | refine blk_drewN ?_ _ | refine blk_drew ?_ | refine blk_alloc ?_ _)); exact BK336.out)) : gb337 ≠ gb336)); clear BK336; clear HB; have BK336 := n0_; have HB := n1_; have BK337 := n2_; have GW337 := n3_; have GE337 := n4_; have NB336_337 := n5_; have NB337_336 := n6_; clear n0_ n1_ n2_ n3_ n4_ n5_ n6_; clear hb hbox hg; have hnb16 := NB336_337.out; have hnc16 := NB337_336.out; have hcz17_0 : w15.cell? ⟨gb336, 0, none⟩ = some (.int .i64 0) := (blk_cell BK336.out 0).trans rfl; have hcz17_1 : w15.cell? ⟨gb336, 1, none⟩ = some (.int .i64 0) := (blk_cell BK336.out 1).trans rfl; have hcz17_2 : w15.cell? ⟨gb336, 2, none⟩ = some (.int .i64 0) := (blk_cell BK336.out 2).trans rfl; have hcz17_3 : w15.cell? ⟨gb336, 3, none⟩ = some (.bool false) := (blk_cell BK336.out 3).trans rfl; have hfz17_0 := blk_frozen BK336.out 0; have hfz17_1 := blk_frozen BK336.out 1; have hfz17_2 := blk_frozen BK336.out 2; have hfz17_3 := blk_frozen BK336.out 3; have hcz18_0 : w15.cell? ⟨gb337, 0, none⟩ = some (.int .i64 0) := (blk_cell BK337.out 0).trans rfl; have hcz18_1 : w15.cell? ⟨gb337, 1, none⟩ = some (.int .i64 0) := (blk_cell BK337.out 1).trans rfl; have hcz18_2 : w15.cell? ⟨gb337, 2, none⟩ = some (.int .i64 0) := (blk_cell BK337.out 2).trans rfl; have hcz18_3 : w15.cell? ⟨gb337, 3, none⟩ = some (.int .i64 0) := (blk_cell BK337.out 3).trans rfl; have hfz18_0 := blk_frozen BK337.out 0; have hfz18_1 := blk_frozen BK337.out 1; have hfz18_2 := blk_frozen BK337.out 2; have hfz18_3 := blk_frozen BK337.out 3) | ((with_reducible refine gate_callee (f := 36) rfl ?_); refine goesL_ (some 35) rfl rfl Try.func36 (by kernel_rfl) rfl #[.agg #[.int .i64 t328, .int .i64 t329, .int .i64 t330, .bool t331], .agg #[.int .i64 t332, .int .i64 t333, .int .i64 t334, .int .i64 t335]] rfl (by (try simp only [List.map_toArray, List.map_cons, List.map_nil]); first | done | rfl | (simp only [List.length_drop, List.length_take]; rfl)) ?_; (with_reducible refine (impl_GridOf.calls k t328 t329 t330 t331 t332 t333 t334 t335 t338 t339 t340 _ A5.out).mono ?_); rintro e w19 ⟨rfl, hb⟩; refine ⟨_, rfl, ?_⟩; have n0_ := Aside0.mk (blk_below (g := gb336) (o := .cells #[.int .i64 t328, .int .i64 t329, .int .i64 t330, .bool t331] 39 (0, 0)) (by (with_reducible repeat (first | refine blk_drewN ?_ _ | refine blk_drew ?_ | refine blk_alloc ?_ _)); refine blk_far ?_ NB336_337.out _; (with_reducible repeat (first | refine blk_drewN ?_ _ | refine blk_drew ?_ | refine blk_alloc ?_ _)); refine blk_far ?_ NB336_337.out _; (with_reducible repeat (first | refine blk_drewN ?_ _ | refine blk_drew ?_ | refine blk_alloc ?_ _)); refine blk_far ?_ NB336_337.out _; (with_reducible repeat (first | refine blk_drewN ?_ _ | refine blk_drew ?_ | refine blk_alloc ?_ _)); refine blk_far ?_ NB336_337.out _; (with_reducible repeat (first | refine blk_drewN ?_ _ | refine blk_drew ?_ | refine blk_alloc ?_ _)); refine blk_put (cs := #[.int .i64 t328, .int .i64 t329, .int .i64 t330, .bool false]) ?_ 3 _ rfl; (with_reducible repeat (first | refine blk_drewN ?_ _ | refine blk_drew ?_ | refine blk_alloc ?_ _)); refine blk_put (cs := #[.int .i64 t328, .int .i64 t329, .int .i64 0, .bool false]) ?_ 2 _ rfl; (with_reducible repeat (first | refine blk_drewN ?_ _ | refine blk_drew ?_ | refine blk_alloc ?_ _)); refine blk_put (cs := #[.int .i64 t328, .int .i64 0, .int .i64 0, .bool false]) ?_ 1 _ rfl; (with_reducible repeat (first | refine blk_drewN ?_ _ | refine blk_drew ?_ | refine blk_alloc ?_ _)); refine blk_put (cs := #[.int .i64 0, .int .i64 0, .int .i64 0, .bool false]) ?_ 0 _ rfl; (with_reducible repeat (first | refine blk_drewN ?_ _ | refine blk_drew ?_ | refine blk_alloc ?_ _)); exact BK336.out) hb); have n1_ := Aside0.mk (blk_below (g := gb337) (o := .cells #[.int .i64 t332, .int .i64 t333, .int .i64 t334, .int .i64 t335] 41 (0, 0)) (by (with_reducible repeat (first | refine blk_drewN ?_ _ | refine blk_drew ?_ | refine blk_alloc ?_ _)); refine blk_put (cs := #[.int .i64 t332, .int .i64 t333, .int .i64 t334, .int .i64 0]) ?_ 3 _ rfl; (with_reducible repeat (first | refine blk_drewN ?_ _ | refine blk_drew ?_ | refine blk_alloc ?_ _)); refine blk_put (cs := #[.int .i64 t332, .int .i64 t333, .int .i64 0, .int .i64 0]) ?_ 2 _ rfl; (with_reducible repeat (first | refine blk_drewN ?_ _ | refine blk_drew ?_ | refine blk_alloc ?_ _)); refine blk_put (cs := #[.int .i64 t332, .int .i64 0, .int .i64 0, .int .i64 0]) ?_ 1 _ rfl; (with_reducible repeat (first | refine blk_drewN ?_ _ | refine blk_drew ?_ | refine blk_alloc ?_ _)); refine blk_put (cs := #[.int .i64 0, .int .i64 0, .int .i64 0, .int .i64 0]) ?_ 0 _ rfl; (with_reducible repeat (first | refine blk_drewN ?_ _ | refine blk_drew ?_ | refine blk_alloc ?_ _)); refine blk_far ?_ NB337_336.out _; (with_reducible repeat (first | refine blk_drewN ?_ _ | refine blk_drew ?_ | refine blk_alloc ?_ _)); refine blk_far ?_ NB337_336.out _; (with_reducible repeat (first | refine blk_drewN ?_ _ | refine blk_drew ?_ | refine blk_alloc ?_ _)); refine blk_far ?_ NB337_336.out _; (with_reducible repeat (first | refine blk_drewN ?_ _ | refine blk_drew ?_ | refine blk_alloc ?_ _)); refine blk_far ?_ NB337_336.out _; (with_reducible repeat (first | refine blk_drewN ?_ _ | refine blk_drew ?_ | refine blk_alloc ?_ _)); exact BK337.out) hb); have n2_ := Aside0.mk (below_step (by repeat (first | (with_reducible first | exact HB.out | apply below_alloc | apply pw_below_drewN | apply below_drew1 | refine below_set ?_ GE336.out | refine below_set ?_ GE337.out) | exact HB.out)) hb); clear BK336; clear BK337; clear HB; have BK336 := n0_; have BK337 := n1_; have HB := n2_; clear n0_ n1_ n2_; (try clear hb); (try clear hb2); (try clear hk); (try clear hi); have hcz20_0 : w19.cell? ⟨gb336, 0, none⟩ = some (.int .i64 t328) := (blk_cell BK336.out 0).trans rfl; have hcz20_1 : w19.cell? ⟨gb336, 1, none⟩ = some (.int .i64 t329) := (blk_cell BK336.out 1).trans rfl; have hcz20_2 : w19.cell? ⟨gb336, 2, none⟩ = some (.int .i64 t330) := (blk_cell BK336.out 2).trans rfl; have hcz20_3 : w19.cell? ⟨gb336, 3, none⟩ = some (.bool t331) := (blk_cell BK336.out 3).trans rfl; have hfz20_0 := blk_frozen BK336.out 0; have hfz20_1 := blk_frozen BK336.out 1; have hfz20_2 := blk_frozen BK336.out 2; have hfz20_3 := blk_frozen BK336.out 3; have hcz21_0 : w19.cell? ⟨gb337, 0, none⟩ = some (.int .i64 t332) := (blk_cell BK337.out 0).trans rfl; have hcz21_1 : w19.cell? ⟨gb337, 1, none⟩ = some (.int .i64 t333) := (blk_cell BK337.out 1).trans rfl; have hcz21_2 : w19.cell? ⟨gb337, 2, none⟩ = some (.int .i64 t334) := (blk_cell BK337.out 2).trans rfl; have hcz21_3 : w19.cell? ⟨gb337, 3, none⟩ = some (.int .i64 t335) := (blk_cell BK337.out 3).trans rfl; have hfz21_0 := blk_frozen BK337.out 0; have hfz21_1 := blk_frozen BK337.out 1; have hfz21_2 := blk_frozen BK337.out 2; have hfz21_3 := blk_frozen BK337.out 3) | ((with_reducible refine gate_callee (f := 37) rfl ?_); refine goesL_ (some 42) rfl rfl Try.func37 (by kernel_rfl) rfl #[.agg #[.int .i64 t328, .int .i64 t329, .int .i64 t330, .bool t331], .agg #[.int .i64 t332, .int .i64 t333, .int .i64 t334, .int .i64 t335]] rfl (by (try simp only [List.map_toArray, List.map_cons, List.map_nil]); first | done | rfl | (simp only [List.length_drop, List.length_take]; rfl)) ?_; (with_reducible refine (spec_GridOf.calls k t328 t329 t330 t331 t332 t333 t334 t335 t341 t342 t343 _ A6.out).mono ?_); rintro e w22 ⟨rfl, hb⟩; refine ⟨_, rfl, ?_⟩; have n0_ := Aside0.mk (blk_below (g := gb336) (o := .cells #[.int .i64 t328, .int .i64 t329, .int .i64 t330, .bool t331] 39 (0, 0)) (by (with_reducible repeat (first | refine blk_drewN ?_ _ | refine blk_drew ?_ | refine blk_alloc ?_ _)); exact BK336.out) hb); have n1_ := Aside0.mk (blk_below (g := gb337) (o := .cells #[.int .i64 t332, .int .i64 t333, .int .i64 t334, .int .i64 t335] 41 (0, 0)) (by (with_reducible repeat (first | refine blk_drewN ?_ _ | refine blk_drew ?_ | refine blk_alloc ?_ _)); exact BK337.out) hb); have n2_ := Aside0.mk (below_step (by repeat (first | (with_reducible first | exact HB.out | apply below_alloc | apply pw_below_drewN | apply below_drew1 | refine below_set ?_ GE336.out | refine below_set ?_ GE337.out) | exact HB.out)) hb); clear BK336; clear BK337; clear HB; have BK336 := n0_; have BK337 := n1_; have HB := n2_; clear n0_ n1_ n2_; (try clear hb); (try clear hb2); (try clear hk); (try clear hi)) | ((with_reducible refine gate_callee (f := 38) rfl ?_); refine goesL_ (some 48) rfl rfl Try.func38 (by kernel_rfl) rfl #[.slice A0 l0.length c0] rfl (by (try simp only [List.map_toArray, List.map_cons, List.map_nil]); first | done | rfl | (simp only [List.length_drop, List.length_take]; rfl)) ?_; (with_reducible refine (spec_DrawCornerOf.calls k _ _ l0 t344 t345 t346 t347 t348 t349 t350 t351 t352 t353 _ ?side1 ?side2 A7.out).mono ?_); (case side1 => repeat (first | exact (Kd.C_below HR0.out HB.out) | (with_reducible refine Kd.C_alloc ?_ _) | (with_reducible refine Kd.C_drewN ?_ _) | (with_reducible refine Kd.C_drew ?_))); (case side2 => exact HC0.out); rintro e w23 ⟨rfl, hb⟩; refine ⟨_, rfl, ?_⟩; have n0_ := Aside0.mk (blk_below (g := gb336) (o := .cells #[.int .i64 t328, .int .i64 t329, .int .i64 t330, .bool t331] 39 (0, 0)) (by (with_reducible repeat (first | refine blk_drewN ?_ _ | refine blk_drew ?_ | refine blk_alloc ?_ _)); exact BK336.out) hb); have n1_ := Aside0.mk (blk_below (g := gb337) (o := .cells #[.int .i64 t332, .int .i64 t333, .int .i64 t334, .int .i64 t335] 41 (0, 0)) (by (with_reducible repeat (first | refine blk_drewN ?_ _ | refine blk_drew ?_ | refine blk_alloc ?_ _)); exact BK337.out) hb); have n2_ := Aside0.mk (below_step (by repeat (first | (with_reducible first | exact HB.out | apply below_alloc | apply pw_below_drewN | apply below_drew1 | refine below_set ?_ GE336.out | refine below_set ?_ GE337.out) | exact HB.out)) hb); clear BK336; clear BK337; clear HB; have BK336 := n0_; have BK337 := n1_; have HB := n2_; clear n0_ n1_ n2_; (try clear hb); (try clear hb2); (try clear hk); (try clear hi)) | ((with_reducible refine gate_dst (N := 11) rfl ?_); refine box_event ?hg (N := 11) ?hd (cs := #[.int .i64 0, .int .i64 0, .int .i64 0, .bool false]) (t := 39) ?hr ?_; (case hd => rfl); (case hg => rfl); (case hr => first | (go_simp; done) | (go_simp; rfl)); intro gb354 hg w24 hbox hb; have n0_ := Aside0.mk (blk_below (g := gb336) (o := .cells #[.int .i64 t328, .int .i64 t329, .int .i64 t330, .bool t331] 39 (0, 0)) (by (with_reducible repeat (first | refine blk_drewN ?_ _ | refine blk_drew ?_ | refine blk_alloc ?_ _)); exact BK336.out) hb); have n1_ := Aside0.mk (blk_below (g := gb337) (o := .cells #[.int .i64 t332, .int .i64 t333, .int .i64 t334, .int .i64 t335] 41 (0, 0)) (by (with_reducible repeat (first | refine blk_drewN ?_ _ | refine blk_drew ?_ | refine blk_alloc ?_ _)); exact BK337.out) hb); have n2_ := Aside0.mk (below_step (by repeat (first | (with_reducible first | exact HB.out | apply below_alloc | apply pw_below_drewN | apply below_drew1 | refine below_set ?_ GE336.out | refine below_set ?_ GE337.out) | exact HB.out)) hb); have n3_ := Aside0.mk (hbox); have n4_ := Aside0.mk ((by rw [hg]; exact (below_size (by repeat (first | (with_reducible first | exact HB.out | apply below_alloc | apply pw_below_drewN | apply below_drew1 | refine below_set ?_ GE336.out | refine below_set ?_ GE337.out) | exact HB.out))) : w.heap.size ≤ gb354)); have n5_ := Aside0.mk ((by rw [hg]; exact (below_size (by repeat (first | (with_reducible first | exact HB.out | apply below_alloc | apply pw_below_drewN | apply below_drew1 | refine below_set ?_ GE336.out | refine below_set ?_ GE337.out) | exact HB.out))) : w.heap.size ≤ gb354)); have n6_ := Aside0.mk ((by rw [hg]; exact Nat.ne_of_lt (blk_lt (g := gb336) (o := .cells #[.int .i64 t328, .int .i64 t329, .int .i64 t330, .bool t331] 39 (0, 0)) (by (with_reducible repeat (first | refine blk_drewN ?_ _ | refine blk_drew ?_ | refine blk_alloc ?_ _)); exact BK336.out)) : gb336 ≠ gb354)); have n7_ := Aside0.mk ((by rw [hg]; exact Nat.ne_of_gt (blk_lt (g := gb336) (o := .cells #[.int .i64 t328, .int .i64 t329, .int .i64 t330, .bool t331] 39 (0, 0)) (by (with_reducible repeat (first | refine blk_drewN ?_ _ | refine blk_drew ?_ | refine blk_alloc ?_ _)); exact BK336.out)) : gb354 ≠ gb336)); have n8_ := Aside0.mk ((by rw [hg]; exact Nat.ne_of_lt (blk_lt (g := gb337) (o := .cells #[.int .i64 t332, .int .i64 t333, .int .i64 t334, .int .i64 t335] 41 (0, 0)) (by (with_reducible repeat (first | refine blk_drewN ?_ _ | refine blk_drew ?_ | refine blk_alloc ?_ _)); exact BK337.out)) : gb337 ≠ gb354)); have n9_ := Aside0.mk ((by rw [hg]; exact Nat.ne_of_gt (blk_lt (g := gb337) (o := .cells #[.int .i64 t332, .int .i64 t333, .int .i64 t334, .int .i64 t335] 41 (0, 0)) (by (with_reducible repeat (first | refine blk_drewN ?_ _ | refine blk_drew ?_ | refine blk_alloc ?_ _)); exact BK337.out)) : gb354 ≠ gb337)); clear BK336; clear BK337; clear HB; have BK336 := n0_; have BK337 := n1_; have HB := n2_; have BK354 := n3_; have GW354 := n4_; have GE354 := n5_; have NB336_354 := n6_; have NB354_336 := n7_; have NB337_354 := n8_; have NB354_337 := n9_; clear n0_ n1_ n2_ n3_ n4_ n5_ n6_ n7_ n8_ n9_; clear hb hbox hg) | ((with_reducible refine gate_dst (N := 12) rfl ?_); refine box_event ?hg (N := 12) ?hd (cs := #[.int .i64 0, .int .i64 0, .int .i64 0, .int .i64 0]) (t := 41) ?hr ?_; (case hd => rfl); (case hg => rfl); (case hr => first | (go_simp; done) | (go_simp; rfl)); intro gb355 hg w25 hbox hb; have n0_ := Aside0.mk (blk_below (g := gb336) (o := .cells #[.int .i64 t328, .int .i64 t329, .int .i64 t330, .bool t331] 39 (0, 0)) (by (with_reducible repeat (first | refine blk_drewN ?_ _ | refine blk_drew ?_ | refine blk_alloc ?_ _)); exact BK336.out) hb); have n1_ := Aside0.mk (blk_below (g := gb337) (o := .cells #[.int .i64 t332, .int .i64 t333, .int .i64 t334, .int .i64 t335] 41 (0, 0)) (by (with_reducible repeat (first | refine blk_drewN ?_ _ | refine blk_drew ?_ | refine blk_alloc ?_ _)); exact BK337.out) hb); have n2_ := Aside0.mk (blk_below (g := gb354) (o := .cells #[.int .i64 0, .int .i64 0, .int .i64 0, .bool false] 39 (0, 0)) (by (with_reducible repeat (first | refine blk_drewN ?_ _ | refine blk_drew ?_ | refine blk_alloc ?_ _)); exact BK354.out) hb); have n3_ := Aside0.mk (below_step (by repeat (first | (with_reducible first | exact HB.out | apply below_alloc | apply pw_below_drewN | apply below_drew1 | refine below_set ?_ GE336.out | refine below_set ?_ GE337.out | refine below_set ?_ GE354.out) | exact HB.out)) hb); have n4_ := Aside0.mk (hbox); have n5_ := Aside0.mk ((by rw [hg]; exact (below_size (by repeat (first | (with_reducible first | exact HB.out | apply below_alloc | apply pw_below_drewN | apply below_drew1 | refine below_set ?_ GE336.out | refine below_set ?_ GE337.out | refine below_set ?_ GE354.out) | exact HB.out))) : w.heap.size ≤ gb355)); have n6_ := Aside0.mk ((by rw [hg]; exact (below_size (by repeat (first | (with_reducible first | exact HB.out | apply below_alloc | apply pw_below_drewN | apply below_drew1 | refine below_set ?_ GE336.out | refine below_set ?_ GE337.out | refine below_set ?_ GE354.out) | exact HB.out))) : w.heap.size ≤ gb355)); have n7_ := Aside0.mk ((by rw [hg]; exact Nat.ne_of_lt (blk_lt (g := gb336) (o := .cells #[.int .i64 t328, .int .i64 t329, .int .i64 t330, .bool t331] 39 (0, 0)) (by (with_reducible repeat (first | refine blk_drewN ?_ _ | refine blk_drew ?_ | refine blk_alloc ?_ _)); exact BK336.out)) : gb336 ≠ gb355)); have n8_ := Aside0.mk ((by rw [hg]; exact Nat.ne_of_gt (blk_lt (g := gb336) (o := .cells #[.int .i64 t328, .int .i64 t329, .int .i64 t330, .bool t331] 39 (0, 0)) (by (with_reducible repeat (first | refine blk_drewN ?_ _ | refine blk_drew ?_ | refine blk_alloc ?_ _)); exact BK336.out)) : gb355 ≠ gb336)); have n9_ := Aside0.mk ((by rw [hg]; exact Nat.ne_of_lt (blk_lt (g := gb337) (o := .cells #[.int .i64 t332, .int .i64 t333, .int .i64 t334, .int .i64 t335] 41 (0, 0)) (by (with_reducible repeat (first | refine blk_drewN ?_ _ | refine blk_drew ?_ | refine blk_alloc ?_ _)); exact BK337.out)) : gb337 ≠ gb355)); have n10_ := Aside0.mk ((by rw [hg]; exact Nat.ne_of_gt (blk_lt (g := gb337) (o := .cells #[.int .i64 t332, .int .i64 t333, .int .i64 t334, .int .i64 t335] 41 (0, 0)) (by (with_reducible repeat (first | refine blk_drewN ?_ _ | refine blk_drew ?_ | refine blk_alloc ?_ _)); exact BK337.out)) : gb355 ≠ gb337)); have n11_ := Aside0.mk ((by rw [hg]; exact Nat.ne_of_lt (blk_lt (g := gb354) (o := .cells #[.int .i64 0, .int .i64 0, .int .i64 0, .bool false] 39 (0, 0)) (by (with_reducible repeat (first | refine blk_drewN ?_ _ | refine blk_drew ?_ | refine blk_alloc ?_ _)); exact BK354.out)) : gb354 ≠ gb355)); have n12_ := Aside0.mk ((by rw [hg]; exact Nat.ne_of_gt (blk_lt (g := gb354) (o := .cells #[.int .i64 0, .int .i64 0, .int .i64 0, .bool false] 39 (0, 0)) (by (with_reducible repeat (first | refine blk_drewN ?_ _ | refine blk_drew ?_ | refine blk_alloc ?_ _)); exact BK354.out)) : gb355 ≠ gb354)); clear BK336; clear BK337; clear BK354; clear HB; have BK336 := n0_; have BK337 := n1_; have BK354 := n2_; have HB := n3_; have BK355 := n4_; have GW355 := n5_; have GE355 := n6_; have NB336_355 := n7_; have NB355_336 := n8_; have NB337_355 := n9_; have NB355_337 := n10_; have NB354_355 := n11_; have NB355_354 := n12_; clear n0_ n1_ n2_ n3_ n4_ n5_ n6_ n7_ n8_ n9_ n10_ n11_ n12_; clear hb hbox hg; have hnb26 := NB354_336.out; have hnc26 := NB336_354.out; have hnb27 := NB354_337.out; have hnc27 := NB337_354.out; have hnb28 := NB354_355.out; have hnc28 := NB355_354.out; have hcz29_0 : w25.cell? ⟨gb354, 0, none⟩ = some (.int .i64 0) := (blk_cell BK354.out 0).trans rfl; have hcz29_1 : w25.cell? ⟨gb354, 1, none⟩ = some (.int .i64 0) := (blk_cell BK354.out 1).trans rfl; have hcz29_2 : w25.cell? ⟨gb354, 2, none⟩ = some (.int .i64 0) := (blk_cell BK354.out 2).trans rfl; have hcz29_3 : w25.cell? ⟨gb354, 3, none⟩ = some (.bool false) := (blk_cell BK354.out 3).trans rfl; have hfz29_0 := blk_frozen BK354.out 0; have hfz29_1 := blk_frozen BK354.out 1; have hfz29_2 := blk_frozen BK354.out 2; have hfz29_3 := blk_frozen BK354.out 3; have hnb30 := NB355_336.out; have hnc30 := NB336_355.out; have hnb31 := NB355_337.out; have hnc31 := NB337_355.out; have hcz32_0 : w25.cell? ⟨gb355, 0, none⟩ = some (.int .i64 0) := (blk_cell BK355.out 0).trans rfl; have hcz32_1 : w25.cell? ⟨gb355, 1, none⟩ = some (.int .i64 0) := (blk_cell BK355.out 1).trans rfl; have hcz32_2 : w25.cell? ⟨gb355, 2, none⟩ = some (.int .i64 0) := (blk_cell BK355.out 2).trans rfl; have hcz32_3 : w25.cell? ⟨gb355, 3, none⟩ = some (.int .i64 0) := (blk_cell BK355.out 3).trans rfl; have hfz32_0 := blk_frozen BK355.out 0; have hfz32_1 := blk_frozen BK355.out 1; have hfz32_2 := blk_frozen BK355.out 2; have hfz32_3 := blk_frozen BK355.out 3) | ((with_reducible refine gate_callee (f := 39) rfl ?_); refine goesL_ (some 58) rfl rfl Try.func39 (by kernel_rfl) rfl #[.agg #[.int .i64 t344, .int .i64 t345, .int .i64 t346, .bool t347], .agg #[.int .i64 t348, .int .i64 t349, .int .i64 t350, .int .i64 t351], .int .i64 t352, .int .i64 t353] rfl (by (try simp only [List.map_toArray, List.map_cons, List.map_nil]); first | done | rfl | (simp only [List.length_drop, List.length_take]; rfl)) ?_; (with_reducible refine (impl_CornerOf.calls k t344 t345 t346 t347 t348 t349 t350 t351 t352 t353 t356 t357 t358 _ A8.out).mono ?_); rintro e w33 ⟨rfl, hb⟩; refine ⟨_, rfl, ?_⟩; have n0_ := Aside0.mk (blk_below (g := gb336) (o := .cells #[.int .i64 t328, .int .i64 t329, .int .i64 t330, .bool t331] 39 (0, 0)) (by (with_reducible repeat (first | refine blk_drewN ?_ _ | refine blk_drew ?_ | refine blk_alloc ?_ _)); refine blk_far ?_ NB336_355.out _; (with_reducible repeat (first | refine blk_drewN ?_ _ | refine blk_drew ?_ | refine blk_alloc ?_ _)); refine blk_far ?_ NB336_355.out _; (with_reducible repeat (first | refine blk_drewN ?_ _ | refine blk_drew ?_ | refine blk_alloc ?_ _)); refine blk_far ?_ NB336_355.out _; (with_reducible repeat (first | refine blk_drewN ?_ _ | refine blk_drew ?_ | refine blk_alloc ?_ _)); refine blk_far ?_ NB336_355.out _; (with_reducible repeat (first | refine blk_drewN ?_ _ | refine blk_drew ?_ | refine blk_alloc ?_ _)); refine blk_far ?_ NB336_354.out _; (with_reducible repeat (first | refine blk_drewN ?_ _ | refine blk_drew ?_ | refine blk_alloc ?_ _)); refine blk_far ?_ NB336_354.out _; (with_reducible repeat (first | refine blk_drewN ?_ _ | refine blk_drew ?_ | refine blk_alloc ?_ _)); refine blk_far ?_ NB336_354.out _; (with_reducible repeat (first | refine blk_drewN ?_ _ | refine blk_drew ?_ | refine blk_alloc ?_ _)); refine blk_far ?_ NB336_354.out _; (with_reducible repeat (first | refine blk_drewN ?_ _ | refine blk_drew ?_ | refine blk_alloc ?_ _)); exact BK336.out) hb); have n1_ := Aside0.mk (blk_below (g := gb337) (o := .cells #[.int .i64 t332, .int .i64 t333, .int .i64 t334, .int .i64 t335] 41 (0, 0)) (by (with_reducible repeat (first | refine blk_drewN ?_ _ | refine blk_drew ?_ | refine blk_alloc ?_ _)); refine blk_far ?_ NB337_355.out _; (with_reducible repeat (first | refine blk_drewN ?_ _ | refine blk_drew ?_ | refine blk_alloc ?_ _)); refine blk_far ?_ NB337_355.out _; (with_reducible repeat (first | refine blk_drewN ?_ _ | refine blk_drew ?_ | refine blk_alloc ?_ _)); refine blk_far ?_ NB337_355.out _; (with_reducible repeat (first | refine blk_drewN ?_ _ | refine blk_drew ?_ | refine blk_alloc ?_ _)); refine blk_far ?_ NB337_355.out _; (with_reducible repeat (first | refine blk_drewN ?_ _ | refine blk_drew ?_ | refine blk_alloc ?_ _)); refine blk_far ?_ NB337_354.out _; (with_reducible repeat (first | refine blk_drewN ?_ _ | refine blk_drew ?_ | refine blk_alloc ?_ _)); refine blk_far ?_ NB337_354.out _; (with_reducible repeat (first | refine blk_drewN ?_ _ | refine blk_drew ?_ | refine blk_alloc ?_ _)); refine blk_far ?_ NB337_354.out _; (with_reducible repeat (first | refine blk_drewN ?_ _ | refine blk_drew ?_ | refine blk_alloc ?_ _)); refine blk_far ?_ NB337_354.out _; (with_reducible repeat (first | refine blk_drewN ?_ _ | refine blk_drew ?_ | refine blk_alloc ?_ _)); exact BK337.out) hb); have n2_ := Aside0.mk (blk_below (g := gb354) (o := .cells #[.int .i64 t344, .int .i64 t345, .int .i64 t346, .bool t347] 39 (0, 0)) (by (with_reducible repeat (first | refine blk_drewN ?_ _ | refine blk_drew ?_ | refine blk_alloc ?_ _)); refine blk_far ?_ NB354_355.out _; (with_reducible repeat (first | refine blk_drewN ?_ _ | refine blk_drew ?_ | refine blk_alloc ?_ _)); refine blk_far ?_ NB354_355.out _; (with_reducible repeat (first | refine blk_drewN ?_ _ | refine blk_drew ?_ | refine blk_alloc ?_ _)); refine blk_far ?_ NB354_355.out _; (with_reducible repeat (first | refine blk_drewN ?_ _ | refine blk_drew ?_ | refine blk_alloc ?_ _)); refine blk_far ?_ NB354_355.out _; (with_reducible repeat (first | refine blk_drewN ?_ _ | refine blk_drew ?_ | refine blk_alloc ?_ _)); refine blk_put (cs := #[.int .i64 t344, .int .i64 t345, .int .i64 t346, .bool false]) ?_ 3 _ rfl; (with_reducible repeat (first | refine blk_drewN ?_ _ | refine blk_drew ?_ | refine blk_alloc ?_ _)); refine blk_put (cs := #[.int .i64 t344, .int .i64 t345, .int .i64 0, .bool false]) ?_ 2 _ rfl; (with_reducible repeat (first | refine blk_drewN ?_ _ | refine blk_drew ?_ | refine blk_alloc ?_ _)); refine blk_put (cs := #[.int .i64 t344, .int .i64 0, .int .i64 0, .bool false]) ?_ 1 _ rfl; (with_reducible repeat (first | refine blk_drewN ?_ _ | refine blk_drew ?_ | refine blk_alloc ?_ _)); refine blk_put (cs := #[.int .i64 0, .int .i64 0, .int .i64 0, .bool false]) ?_ 0 _ rfl; (with_reducible repeat (first | refine blk_drewN ?_ _ | refine blk_drew ?_ | refine blk_alloc ?_ _)); exact BK354.out) hb); have n3_ := Aside0.mk (blk_below (g := gb355) (o := .cells #[.int .i64 t348, .int .i64 t349, .int .i64 t350, .int .i64 t351] 41 (0, 0)) (by (with_reducible repeat (first | refine blk_drewN ?_ _ | refine blk_drew ?_ | refine blk_alloc ?_ _)); refine blk_put (cs := #[.int .i64 t348, .int .i64 t349, .int .i64 t350, .int .i64 0]) ?_ 3 _ rfl; (with_reducible repeat (first | refine blk_drewN ?_ _ | refine blk_drew ?_ | refine blk_alloc ?_ _)); refine blk_put (cs := #[.int .i64 t348, .int .i64 t349, .int .i64 0, .int .i64 0]) ?_ 2 _ rfl; (with_reducible repeat (first | refine blk_drewN ?_ _ | refine blk_drew ?_ | refine blk_alloc ?_ _)); refine blk_put (cs := #[.int .i64 t348, .int .i64 0, .int .i64 0, .int .i64 0]) ?_ 1 _ rfl; (with_reducible repeat (first | refine blk_drewN ?_ _ | refine blk_drew ?_ | refine blk_alloc ?_ _)); refine blk_put (cs := #[.int .i64 0, .int .i64 0, .int .i64 0, .int .i64 0]) ?_ 0 _ rfl; (with_reducible repeat (first | refine blk_drewN ?_ _ | refine blk_drew ?_ | refine blk_alloc ?_ _)); refine blk_far ?_ NB355_354.out _; (with_reducible repeat (first | refine blk_drewN ?_ _ | refine blk_drew ?_ | refine blk_alloc ?_ _)); refine blk_far ?_ NB355_354.out _; (with_reducible repeat (first | refine blk_drewN ?_ _ | refine blk_drew ?_ | refine blk_alloc ?_ _)); refine blk_far ?_ NB355_354.out _; (with_reducible repeat (first | refine blk_drewN ?_ _ | refine blk_drew ?_ | refine blk_alloc ?_ _)); refine blk_far ?_ NB355_354.out _; (with_reducible repeat (first | refine blk_drewN ?_ _ | refine blk_drew ?_ | refine blk_alloc ?_ _)); exact BK355.out) hb); have n4_ := Aside0.mk (below_step (by repeat (first | (with_reducible first | exact HB.out | apply below_alloc | apply pw_below_drewN | apply below_drew1 | refine below_set ?_ GE336.out | refine below_set ?_ GE337.out | refine below_set ?_ GE354.out | refine below_set ?_ GE355.out) | exact HB.out)) hb); clear BK336; clear BK337; clear BK354; clear BK355; clear HB; have BK336 := n0_; have BK337 := n1_; have BK354 := n2_; have BK355 := n3_; have HB := n4_; clear n0_ n1_ n2_ n3_ n4_; (try clear hb); (try clear hb2); (try clear hk); (try clear hi); have hcz34_0 : w33.cell? ⟨gb354, 0, none⟩ = some (.int .i64 t344) := (blk_cell BK354.out 0).trans rfl; have hcz34_1 : w33.cell? ⟨gb354, 1, none⟩ = some (.int .i64 t345) := (blk_cell BK354.out 1).trans rfl; have hcz34_2 : w33.cell? ⟨gb354, 2, none⟩ = some (.int .i64 t346) := (blk_cell BK354.out 2).trans rfl; have hcz34_3 : w33.cell? ⟨gb354, 3, none⟩ = some (.bool t347) := (blk_cell BK354.out 3).trans rfl; have hfz34_0 := blk_frozen BK354.out 0; have hfz34_1 := blk_frozen BK354.out 1; have hfz34_2 := blk_frozen BK354.out 2; have hfz34_3 := blk_frozen BK354.out 3; have hcz35_0 : w33.cell? ⟨gb355, 0, none⟩ = some (.int .i64 t348) := (blk_cell BK355.out 0).trans rfl; have hcz35_1 : w33.cell? ⟨gb355, 1, none⟩ = some (.int .i64 t349) := (blk_cell BK355.out 1).trans rfl; have hcz35_2 : w33.cell? ⟨gb355, 2, none⟩ = some (.int .i64 t350) := (blk_cell BK355.out 2).trans rfl; have hcz35_3 : w33.cell? ⟨gb355, 3, none⟩ = some (.int .i64 t351) := (blk_cell BK355.out 3).trans rfl; have hfz35_0 := blk_frozen BK355.out 0; have hfz35_1 := blk_frozen BK355.out 1; have hfz35_2 := blk_frozen BK355.out 2; have hfz35_3 := blk_frozen BK355.out 3) | ((with_reducible refine gate_callee (f := 40) rfl ?_); refine goesL_ (some 67) rfl rfl Try.func40 (by kernel_rfl) rfl #[.agg #[.int .i64 t344, .int .i64 t345, .int .i64 t346, .bool t347], .agg #[.int .i64 t348, .int .i64 t349, .int .i64 t350, .int .i64 t351], .int .i64 t352, .int .i64 t353] rfl (by (try simp only [List.map_toArray, List.map_cons, List.map_nil]); first | done | rfl | (simp only [List.length_drop, List.length_take]; rfl)) ?_; (with_reducible refine (spec_CornerOf.calls k t344 t345 t346 t347 t348 t349 t350 t351 t352 t353 t359 t360 t361 _ A9.out).mono ?_); rintro e w36 ⟨rfl, hb⟩; refine ⟨_, rfl, ?_⟩; have n0_ := Aside0.mk (blk_below (g := gb336) (o := .cells #[.int .i64 t328, .int .i64 t329, .int .i64 t330, .bool t331] 39 (0, 0)) (by (with_reducible repeat (first | refine blk_drewN ?_ _ | refine blk_drew ?_ | refine blk_alloc ?_ _)); exact BK336.out) hb); have n1_ := Aside0.mk (blk_below (g := gb337) (o := .cells #[.int .i64 t332, .int .i64 t333, .int .i64 t334, .int .i64 t335] 41 (0, 0)) (by (with_reducible repeat (first | refine blk_drewN ?_ _ | refine blk_drew ?_ | refine blk_alloc ?_ _)); exact BK337.out) hb); have n2_ := Aside0.mk (blk_below (g := gb354) (o := .cells #[.int .i64 t344, .int .i64 t345, .int .i64 t346, .bool t347] 39 (0, 0)) (by (with_reducible repeat (first | refine blk_drewN ?_ _ | refine blk_drew ?_ | refine blk_alloc ?_ _)); exact BK354.out) hb); have n3_ := Aside0.mk (blk_below (g := gb355) (o := .cells #[.int .i64 t348, .int .i64 t349, .int .i64 t350, .int .i64 t351] 41 (0, 0)) (by (with_reducible repeat (first | refine blk_drewN ?_ _ | refine blk_drew ?_ | refine blk_alloc ?_ _)); exact BK355.out) hb); have n4_ := Aside0.mk (below_step (by repeat (first | (with_reducible first | exact HB.out | apply below_alloc | apply pw_below_drewN | apply below_drew1 | refine below_set ?_ GE336.out | refine below_set ?_ GE337.out | refine below_set ?_ GE354.out | refine below_set ?_ GE355.out) | exact HB.out)) hb); clear BK336; clear BK337; clear BK354; clear BK355; clear HB; have BK336 := n0_; have BK337 := n1_; have BK354 := n2_; have BK355 := n3_; have HB := n4_; clear n0_ n1_ n2_ n3_ n4_; (try clear hb); (try clear hb2); (try clear hk); (try clear hi); have hcz37_0 : w36.cell? ⟨gb336, 0, none⟩ = some (.int .i64 t328) := (blk_cell BK336.out 0).trans rfl; have hcz37_1 : w36.cell? ⟨gb336, 1, none⟩ = some (.int .i64 t329) := (blk_cell BK336.out 1).trans rfl; have hcz37_2 : w36.cell? ⟨gb336, 2, none⟩ = some (.int .i64 t330) := (blk_cell BK336.out 2).trans rfl; have hcz37_3 : w36.cell? ⟨gb336, 3, none⟩ = some (.bool t331) := (blk_cell BK336.out 3).trans rfl; have hfz37_0 := blk_frozen BK336.out 0; have hfz37_1 := blk_frozen BK336.out 1; have hfz37_2 := blk_frozen BK336.out 2; have hfz37_3 := blk_frozen BK336.out 3; have hcz38_0 : w36.cell? ⟨gb337, 0, none⟩ = some (.int .i64 t332) := (blk_cell BK337.out 0).trans rfl; have hcz38_1 : w36.cell? ⟨gb337, 1, none⟩ = some (.int .i64 t333) := (blk_cell BK337.out 1).trans rfl; have hcz38_2 : w36.cell? ⟨gb337, 2, none⟩ = some (.int .i64 t334) := (blk_cell BK337.out 2).trans rfl; have hcz38_3 : w36.cell? ⟨gb337, 3, none⟩ = some (.int .i64 t335) := (blk_cell BK337.out 3).trans rfl; have hfz38_0 := blk_frozen BK337.out 0; have hfz38_1 := blk_frozen BK337.out 1; have hfz38_2 := blk_frozen BK337.out 2; have hfz38_3 := blk_frozen BK337.out 3) | ((with_reducible refine gate_callee (f := 41) rfl ?_); refine goesL_ (some 74) rfl rfl Try.func41 (by kernel_rfl) rfl #[.agg #[.int .i64 t328, .int .i64 t329, .int .i64 t330, .bool t331], .agg #[.int .i64 t332, .int .i64 t333, .int .i64 t334, .int .i64 t335]] rfl (by (try simp only [List.map_toArray, List.map_cons, List.map_nil]); first | done | rfl | (simp only [List.length_drop, List.length_take]; rfl)) ?_; (with_reducible refine (impl_WasteArea.calls k t328 t329 t330 t331 t332 t333 t334 t335 t362 t363 _ A10.out).mono ?_); rintro e w39 ⟨rfl, hb⟩; refine ⟨_, rfl, ?_⟩; have n0_ := Aside0.mk (blk_below (g := gb336) (o := .cells #[.int .i64 t328, .int .i64 t329, .int .i64 t330, .bool t331] 39 (0, 0)) (by (with_reducible repeat (first | refine blk_drewN ?_ _ | refine blk_drew ?_ | refine blk_alloc ?_ _)); exact BK336.out) hb); have n1_ := Aside0.mk (blk_below (g := gb337) (o := .cells #[.int .i64 t332, .int .i64 t333, .int .i64 t334, .int .i64 t335] 41 (0, 0)) (by (with_reducible repeat (first | refine blk_drewN ?_ _ | refine blk_drew ?_ | refine blk_alloc ?_ _)); exact BK337.out) hb); have n2_ := Aside0.mk (blk_below (g := gb354) (o := .cells #[.int .i64 t344, .int .i64 t345, .int .i64 t346, .bool t347] 39 (0, 0)) (by (with_reducible repeat (first | refine blk_drewN ?_ _ | refine blk_drew ?_ | refine blk_alloc ?_ _)); exact BK354.out) hb); have n3_ := Aside0.mk (blk_below (g := gb355) (o := .cells #[.int .i64 t348, .int .i64 t349, .int .i64 t350, .int .i64 t351] 41 (0, 0)) (by (with_reducible repeat (first | refine blk_drewN ?_ _ | refine blk_drew ?_ | refine blk_alloc ?_ _)); exact BK355.out) hb); have n4_ := Aside0.mk (below_step (by repeat (first | (with_reducible first | exact HB.out | apply below_alloc | apply pw_below_drewN | apply below_drew1 | refine below_set ?_ GE336.out | refine below_set ?_ GE337.out | refine below_set ?_ GE354.out | refine below_set ?_ GE355.out) | exact HB.out)) hb); clear BK336; clear BK337; clear BK354; clear BK355; clear HB; have BK336 := n0_; have BK337 := n1_; have BK354 := n2_; have BK355 := n3_; have HB := n4_; clear n0_ n1_ n2_ n3_ n4_; (try clear hb); (try clear hb2); (try clear hk); (try clear hi); have hcz40_0 : w39.cell? ⟨gb336, 0, none⟩ = some (.int .i64 t328) := (blk_cell BK336.out 0).trans rfl; have hcz40_1 : w39.cell? ⟨gb336, 1, none⟩ = some (.int .i64 t329) := (blk_cell BK336.out 1).trans rfl; have hcz40_2 : w39.cell? ⟨gb336, 2, none⟩ = some (.int .i64 t330) := (blk_cell BK336.out 2).trans rfl; have hcz40_3 : w39.cell? ⟨gb336, 3, none⟩ = some (.bool t331) := (blk_cell BK336.out 3).trans rfl; have hfz40_0 := blk_frozen BK336.out 0; have hfz40_1 := blk_frozen BK336.out 1; have hfz40_2 := blk_frozen BK336.out 2; have hfz40_3 := blk_frozen BK336.out 3; have hcz41_0 : w39.cell? ⟨gb337, 0, none⟩ = some (.int .i64 t332) := (blk_cell BK337.out 0).trans rfl; have hcz41_1 : w39.cell? ⟨gb337, 1, none⟩ = some (.int .i64 t333) := (blk_cell BK337.out 1).trans rfl; have hcz41_2 : w39.cell? ⟨gb337, 2, none⟩ = some (.int .i64 t334) := (blk_cell BK337.out 2).trans rfl; have hcz41_3 : w39.cell? ⟨gb337, 3, none⟩ = some (.int .i64 t335) := (blk_cell BK337.out 3).trans rfl; have hfz41_0 := blk_frozen BK337.out 0; have hfz41_1 := blk_frozen BK337.out 1; have hfz41_2 := blk_frozen BK337.out 2; have hfz41_3 := blk_frozen BK337.out 3) | ((with_reducible refine gate_callee (f := 42) rfl ?_); refine goesL_ (some 80) rfl rfl Try.func42 (by kernel_rfl) rfl #[.agg #[.int .i64 t328, .int .i64 t329, .int .i64 t330, .bool t331], .agg #[.int .i64 t332, .int .i64 t333, .int .i64 t334, .int .i64 t335]] rfl (by (try simp only [List.map_toArray, List.map_cons, List.map_nil]); first | done | rfl | (simp only [List.length_drop, List.length_take]; rfl)) ?_; (with_reducible refine (spec_WasteArea.calls k t328 t329 t330 t331 t332 t333 t334 t335 t364 t365 _ A11.out).mono ?_); rintro e w42 ⟨rfl, hb⟩; refine ⟨_, rfl, ?_⟩; have n0_ := Aside0.mk (blk_below (g := gb336) (o := .cells #[.int .i64 t328, .int .i64 t329, .int .i64 t330, .bool t331] 39 (0, 0)) (by (with_reducible repeat (first | refine blk_drewN ?_ _ | refine blk_drew ?_ | refine blk_alloc ?_ _)); exact BK336.out) hb); have n1_ := Aside0.mk (blk_below (g := gb337) (o := .cells #[.int .i64 t332, .int .i64 t333, .int .i64 t334, .int .i64 t335] 41 (0, 0)) (by (with_reducible repeat (first | refine blk_drewN ?_ _ | refine blk_drew ?_ | refine blk_alloc ?_ _)); exact BK337.out) hb); have n2_ := Aside0.mk (blk_below (g := gb354) (o := .cells #[.int .i64 t344, .int .i64 t345, .int .i64 t346, .bool t347] 39 (0, 0)) (by (with_reducible repeat (first | refine blk_drewN ?_ _ | refine blk_drew ?_ | refine blk_alloc ?_ _)); exact BK354.out) hb); have n3_ := Aside0.mk (blk_below (g := gb355) (o := .cells #[.int .i64 t348, .int .i64 t349, .int .i64 t350, .int .i64 t351] 41 (0, 0)) (by (with_reducible repeat (first | refine blk_drewN ?_ _ | refine blk_drew ?_ | refine blk_alloc ?_ _)); exact BK355.out) hb); have n4_ := Aside0.mk (below_step (by repeat (first | (with_reducible first | exact HB.out | apply below_alloc | apply pw_below_drewN | apply below_drew1 | refine below_set ?_ GE336.out | refine below_set ?_ GE337.out | refine below_set ?_ GE354.out | refine below_set ?_ GE355.out) | exact HB.out)) hb); clear BK336; clear BK337; clear BK354; clear BK355; clear HB; have BK336 := n0_; have BK337 := n1_; have BK354 := n2_; have BK355 := n3_; have HB := n4_; clear n0_ n1_ n2_ n3_ n4_; (try clear hb); (try clear hb2); (try clear hk); (try clear hi)))
    (try simp only [Act.put, List.setIfInBounds_toArray, List.set_cons_zero, List.set_cons_succ])
    go_cut [134] (fun v134 wc => ∃ (kq : Nat) (x134_11 : Bool), v134 = .bool x134_11 ∧ Aside0 (laws_FnGrids.j0 kq t338 t339 t340 t356 t357 t358 t362 t363 x134_11 t328 t329 t330 t331 t332 t333 t334 t335 t344 t345 t346 t347 t348 t349 t350 t351 = some r) ∧ Aside0 (kq ≤ k) ∧ Aside0 (wc.heap[gb336]? = some (.cells #[.int .i64 t328, .int .i64 t329, .int .i64 t330, .bool t331] 39 (0, 0))) ∧ Aside0 (wc.heap[gb337]? = some (.cells #[.int .i64 t332, .int .i64 t333, .int .i64 t334, .int .i64 t335] 41 (0, 0))) ∧ Aside0 (wc.heap[gb354]? = some (.cells #[.int .i64 t344, .int .i64 t345, .int .i64 t346, .bool t347] 39 (0, 0))) ∧ Aside0 (wc.heap[gb355]? = some (.cells #[.int .i64 t348, .int .i64 t349, .int .i64 t350, .int .i64 t351] 41 (0, 0))) ∧ Aside0 (Below w.heap.size w wc))
    case first =>
      as_aux_lemma =>
        have H := HC12.out
        clear HC12
        by_cases c43 : t340 = t343
        · rw [if_pos c43] at H
          have c43b0 : (t340 == t343) = true := beq_iff_eq.mpr c43
          have c43b1 : (t340 != t343) = false := bne_eq_false_iff_eq.mpr c43
          clear c43
          (first | rw [c43b0] | (simp only [i64_w, i32_w]; rw [c43b0]) | skip)
          by_cases c44 : t338 = t341
          · rw [if_pos c44] at H
            have c44b0 : (t338 == t341) = true := beq_iff_eq.mpr c44
            have c44b1 : (t338 != t341) = false := bne_eq_false_iff_eq.mpr c44
            clear c44
            by_cases c45 : t339 = t342
            · rw [if_pos c45] at H
              have c45b0 : (t339 == t342) = true := beq_iff_eq.mpr c45
              have c45b1 : (t339 != t342) = false := bne_eq_false_iff_eq.mpr c45
              clear c45
              by_cases c46 : t358 = t361
              · rw [if_pos c46] at H
                have c46b0 : (t358 == t361) = true := beq_iff_eq.mpr c46
                have c46b1 : (t358 != t361) = false := bne_eq_false_iff_eq.mpr c46
                clear c46
                by_cases c47 : t356 = t359
                · rw [if_pos c47] at H
                  have c47b0 : (t356 == t359) = true := beq_iff_eq.mpr c47
                  have c47b1 : (t356 != t359) = false := bne_eq_false_iff_eq.mpr c47
                  clear c47
                  by_cases c48 : t357 = t360
                  · rw [if_pos c48] at H
                    have c48b0 : (t357 == t360) = true := beq_iff_eq.mpr c48
                    have c48b1 : (t357 != t360) = false := bne_eq_false_iff_eq.mpr c48
                    clear c48
                    by_cases c49 : t363 = t365
                    · rw [if_pos c49] at H
                      have c49b0 : (t363 == t365) = true := beq_iff_eq.mpr c49
                      have c49b1 : (t363 != t365) = false := bne_eq_false_iff_eq.mpr c49
                      clear c49
                      by_cases c50 : t362 = t364
                      · rw [if_pos c50] at H
                        have c50b0 : (t362 == t364) = true := beq_iff_eq.mpr c50
                        have c50b1 : (t362 != t364) = false := bne_eq_false_iff_eq.mpr c50
                        clear c50
                        replace H := Option.bind_eq_some_iff.mp H
                        obtain ⟨t366, A510, H⟩ := H
                        replace H : ((spec_IsPress.f t328 t329 t330 t331).bind fun t367 => (if (t366 != t367) = true then (none) else ((impl_IsTrim.f t332 t333 t334 t335).bind fun t368 => ((spec_IsTrim.f t332 t333 t334 t335).bind fun t369 => (laws_FnGrids.j0 k t338 t339 t340 t356 t357 t358 t362 t363 (t368 != t369) t328 t329 t330 t331 t332 t333 t334 t335 t344 t345 t346 t347 t348 t349 t350 t351))))) = some r := H
                        have A51 := Aside0.mk A510
                        clear A510
                        replace H := Option.bind_eq_some_iff.mp H
                        obtain ⟨t367, A520, H⟩ := H
                        replace H : (if (t366 != t367) = true then (none) else ((impl_IsTrim.f t332 t333 t334 t335).bind fun t368 => ((spec_IsTrim.f t332 t333 t334 t335).bind fun t369 => (laws_FnGrids.j0 k t338 t339 t340 t356 t357 t358 t362 t363 (t368 != t369) t328 t329 t330 t331 t332 t333 t334 t335 t344 t345 t346 t347 t348 t349 t350 t351)))) = some r := H
                        have A52 := Aside0.mk A520
                        clear A520
                        by_cases c53 : (t366 != t367) = true
                        · rw [if_pos c53] at H
                          exact absurd H (by simp)
                        · rw [if_neg c53] at H
                          have c53b0 : (t366 != t367) = false := by simpa using c53
                          (try (have c53b1 : decide (t366 = t367) = true := by simpa using c53))
                          (try (have c53b2 : (t366 == t367) = true := by simpa using c53))
                          clear c53
                          replace H := Option.bind_eq_some_iff.mp H
                          obtain ⟨t368, A570, H⟩ := H
                          replace H : ((spec_IsTrim.f t332 t333 t334 t335).bind fun t369 => (laws_FnGrids.j0 k t338 t339 t340 t356 t357 t358 t362 t363 (t368 != t369) t328 t329 t330 t331 t332 t333 t334 t335 t344 t345 t346 t347 t348 t349 t350 t351)) = some r := H
                          have A57 := Aside0.mk A570
                          clear A570
                          replace H := Option.bind_eq_some_iff.mp H
                          obtain ⟨t369, A580, H⟩ := H
                          replace H : (laws_FnGrids.j0 k t338 t339 t340 t356 t357 t358 t362 t363 (t368 != t369) t328 t329 t330 t331 t332 t333 t334 t335 t344 t345 t346 t347 t348 t349 t350 t351) = some r := H
                          have A58 := Aside0.mk A580
                          clear A580
                          have H' := Aside0.mk H
                          clear H
                          try go_wp2
                          have n0_ := Aside0.mk (blk_drew BK336.out)
                          have n1_ := Aside0.mk (blk_drew BK337.out)
                          have n2_ := Aside0.mk (blk_drew BK354.out)
                          have n3_ := Aside0.mk (blk_drew BK355.out)
                          have n4_ := Aside0.mk (below_drew1 HB.out)
                          clear BK336
                          clear BK337
                          clear BK354
                          clear BK355
                          clear HB
                          have BK336 := n0_
                          have BK337 := n1_
                          have BK354 := n2_
                          have BK355 := n3_
                          have HB := n4_
                          clear n0_ n1_ n2_ n3_ n4_
                          refine start_ (n := 52) (S := fun w' => w'.cell? ⟨gb336, 0, none⟩ = some (.int .i64 t328) ∧ w'.cell? ⟨gb336, 1, none⟩ = some (.int .i64 t329) ∧ w'.cell? ⟨gb336, 2, none⟩ = some (.int .i64 t330) ∧ w'.cell? ⟨gb336, 3, none⟩ = some (.bool t331) ∧ w'.cell? ⟨gb337, 0, none⟩ = some (.int .i64 t332) ∧ w'.cell? ⟨gb337, 1, none⟩ = some (.int .i64 t333) ∧ w'.cell? ⟨gb337, 2, none⟩ = some (.int .i64 t334) ∧ w'.cell? ⟨gb337, 3, none⟩ = some (.int .i64 t335)) (ds := []) #[false, false, false, false, false, false, false, false, false, false, false, false, false, false, false, false, false, false, false, false, false, false, false, false, false, false, false, false, false, false, false, false, false, false, false, false, false, false, false, false, false, false, false, false, false, false, false, false, false, false, false, false] (by kernel_rfl) rfl rfl ⟨(blk_cell BK336.out 0).trans rfl, (blk_cell BK336.out 1).trans rfl, (blk_cell BK336.out 2).trans rfl, (blk_cell BK336.out 3).trans rfl, (blk_cell BK337.out 0).trans rfl, (blk_cell BK337.out 1).trans rfl, (blk_cell BK337.out 2).trans rfl, (blk_cell BK337.out 3).trans rfl⟩ (fun hHeld => ?_); refine with_tabW laws_FnGrids.tab11 laws_FnGrids.bits11 (fun HT_ HW_ => ?_)
                          generalize w42.drew = w59 at BK336 BK337 BK354 BK355 HB hHeld ⊢
                          refine pure_ (i := 0) (N := some 83) (v := ?_) (a' := ?_) #[true, false, false, false, false, false, false, false, false, false, false, false, false, false, false, false, false, false, false, false, false, false, false, false, false, false, false, false, false, false, false, false, false, false, false, false, false, false, false, false, false, false, false, false, false, false, false, false, false, false, false, false] rfl rfl (any_of HT_.out (by kernel_rfl)) (fun _ _ _ h => h) (Or.inl ⟨by rfl, ?_⟩) ?_ ?_
                          rotate_left
                          · intro w'
                            go_simp
                            with_reducible rfl
                          rotate_left
                          · simp only [Act.put, List.setIfInBounds_toArray, List.set_cons_zero, List.set_cons_succ, i64_w, i32_w]
                            rfl
                          refine pure_ (i := 1) (N := some 84) (v := ?_) (a' := ?_) #[true, true, false, false, false, false, false, false, false, false, false, false, false, false, false, false, false, false, false, false, false, false, false, false, false, false, false, false, false, false, false, false, false, false, false, false, false, false, false, false, false, false, false, false, false, false, false, false, false, false, false, false] rfl rfl (any_of HT_.out (by kernel_rfl)) (fun _ _ _ h => h) (Or.inl ⟨by rfl, ?_⟩) ?_ ?_
                          rotate_left
                          · intro w'
                            go_simp
                            with_reducible rfl
                          rotate_left
                          · simp only [Act.put, List.setIfInBounds_toArray, List.set_cons_zero, List.set_cons_succ, i64_w, i32_w]
                            rfl
                          refine pure_ (i := 2) (N := some 85) (v := ?_) (a' := ?_) #[true, true, true, false, false, false, false, false, false, false, false, false, false, false, false, false, false, false, false, false, false, false, false, false, false, false, false, false, false, false, false, false, false, false, false, false, false, false, false, false, false, false, false, false, false, false, false, false, false, false, false, false] rfl rfl (any_of HT_.out (by kernel_rfl)) (fun _ _ _ h => h) (Or.inl ⟨by rfl, ?_⟩) ?_ ?_
                          rotate_left
                          · intro w'
                            go_simp
                            with_reducible rfl
                          rotate_left
                          · simp only [Act.put, List.setIfInBounds_toArray, List.set_cons_zero, List.set_cons_succ, i64_w, i32_w]
                            rfl
                          refine pure_ (i := 3) (N := some 86) (v := ?_) (a' := ?_) #[true, true, true, true, false, false, false, false, false, false, false, false, false, false, false, false, false, false, false, false, false, false, false, false, false, false, false, false, false, false, false, false, false, false, false, false, false, false, false, false, false, false, false, false, false, false, false, false, false, false, false, false] rfl rfl (any_of HT_.out (by kernel_rfl)) (fun _ _ _ h => h) (Or.inl ⟨by rfl, ?_⟩) ?_ ?_
                          rotate_left
                          · intro w'
                            go_simp
                            with_reducible rfl
                          rotate_left
                          · simp only [Act.put, List.setIfInBounds_toArray, List.set_cons_zero, List.set_cons_succ, i64_w, i32_w]
                            rfl
                          refine pure_ (i := 4) (N := some 87) (v := ?_) (a' := ?_) #[true, true, true, true, true, false, false, false, false, false, false, false, false, false, false, false, false, false, false, false, false, false, false, false, false, false, false, false, false, false, false, false, false, false, false, false, false, false, false, false, false, false, false, false, false, false, false, false, false, false, false, false] rfl rfl (any_of HT_.out (by kernel_rfl)) (fun _ _ _ h => h) (Or.inl ⟨by rfl, ?_⟩) ?_ ?_
                          rotate_left
                          · intro w'
                            go_simp
                            with_reducible rfl
                          rotate_left
                          · simp only [Act.put, List.setIfInBounds_toArray, List.set_cons_zero, List.set_cons_succ, i64_w, i32_w]
                            rfl
                          refine pure_ (i := 5) (N := some 88) (v := ?_) (a' := ?_) #[true, true, true, true, true, true, false, false, false, false, false, false, false, false, false, false, false, false, false, false, false, false, false, false, false, false, false, false, false, false, false, false, false, false, false, false, false, false, false, false, false, false, false, false, false, false, false, false, false, false, false, false] rfl rfl (any_of HT_.out (by kernel_rfl)) (fun _ _ _ h => h) (Or.inl ⟨by rfl, ?_⟩) ?_ ?_
                          rotate_left
                          · intro w'
                            go_simp
                            with_reducible rfl
                          rotate_left
                          · simp only [Act.put, List.setIfInBounds_toArray, List.set_cons_zero, List.set_cons_succ, i64_w, i32_w]
                            rfl
                          refine pure_ (i := 6) (N := some 89) (v := ?_) (a' := ?_) #[true, true, true, true, true, true, true, false, false, false, false, false, false, false, false, false, false, false, false, false, false, false, false, false, false, false, false, false, false, false, false, false, false, false, false, false, false, false, false, false, false, false, false, false, false, false, false, false, false, false, false, false] rfl rfl (any_of HT_.out (by kernel_rfl)) (fun _ _ _ h => h) (Or.inl ⟨by rfl, ?_⟩) ?_ ?_
                          rotate_left
                          · intro w'
                            go_simp
                            with_reducible rfl
                          rotate_left
                          · simp only [Act.put, List.setIfInBounds_toArray, List.set_cons_zero, List.set_cons_succ, i64_w, i32_w]
                            rfl
                          refine pure_ (i := 7) (N := some 90) (v := ?_) (a' := ?_) #[true, true, true, true, true, true, true, true, false, false, false, false, false, false, false, false, false, false, false, false, false, false, false, false, false, false, false, false, false, false, false, false, false, false, false, false, false, false, false, false, false, false, false, false, false, false, false, false, false, false, false, false] rfl rfl (any_of HT_.out (by kernel_rfl)) (fun _ _ _ h => h) (Or.inl ⟨by rfl, ?_⟩) ?_ ?_
                          rotate_left
                          · intro w'
                            go_simp
                            with_reducible rfl
                          rotate_left
                          · simp only [Act.put, List.setIfInBounds_toArray, List.set_cons_zero, List.set_cons_succ, i64_w, i32_w]
                            rfl
                          refine pure_ (i := 8) (N := some 91) (v := ?_) (a' := ?_) #[true, true, true, true, true, true, true, true, true, false, false, false, false, false, false, false, false, false, false, false, false, false, false, false, false, false, false, false, false, false, false, false, false, false, false, false, false, false, false, false, false, false, false, false, false, false, false, false, false, false, false, false] rfl rfl (any_of HT_.out (by kernel_rfl)) (fun _ _ _ h => h) (Or.inl ⟨by rfl, ?_⟩) ?_ ?_
                          rotate_left
                          · intro w'
                            go_simp
                            with_reducible rfl
                          rotate_left
                          · simp only [Act.put, List.setIfInBounds_toArray, List.set_cons_zero, List.set_cons_succ, i64_w, i32_w]
                            rfl
                          refine pure_ (i := 9) (N := some 92) (v := ?_) (a' := ?_) #[true, true, true, true, true, true, true, true, true, true, false, false, false, false, false, false, false, false, false, false, false, false, false, false, false, false, false, false, false, false, false, false, false, false, false, false, false, false, false, false, false, false, false, false, false, false, false, false, false, false, false, false] rfl rfl (any_of HT_.out (by kernel_rfl)) (fun _ _ _ h => h) (Or.inl ⟨by rfl, ?_⟩) ?_ ?_
                          rotate_left
                          · intro w'
                            go_simp
                            with_reducible rfl
                          rotate_left
                          · simp only [Act.put, List.setIfInBounds_toArray, List.set_cons_zero, List.set_cons_succ, i64_w, i32_w]
                            rfl
                          refine pure_ (i := 10) (N := some 93) (v := ?_) (a' := ?_) #[true, true, true, true, true, true, true, true, true, true, true, false, false, false, false, false, false, false, false, false, false, false, false, false, false, false, false, false, false, false, false, false, false, false, false, false, false, false, false, false, false, false, false, false, false, false, false, false, false, false, false, false] rfl rfl (any_of HT_.out (by kernel_rfl)) (fun _ _ _ h => h) (Or.inl ⟨by rfl, ?_⟩) ?_ ?_
                          rotate_left
                          · intro w'
                            go_simp
                            with_reducible rfl
                          rotate_left
                          · simp only [Act.put, List.setIfInBounds_toArray, List.set_cons_zero, List.set_cons_succ, i64_w, i32_w]
                            rfl
                          refine pure_ (i := 11) (N := some 94) (v := ?_) (a' := ?_) #[true, true, true, true, true, true, true, true, true, true, true, true, false, false, false, false, false, false, false, false, false, false, false, false, false, false, false, false, false, false, false, false, false, false, false, false, false, false, false, false, false, false, false, false, false, false, false, false, false, false, false, false] rfl rfl (any_of HT_.out (by kernel_rfl)) (fun _ _ _ h => h) (Or.inl ⟨by rfl, ?_⟩) ?_ ?_
                          rotate_left
                          · intro w'
                            go_simp
                            with_reducible rfl
                          rotate_left
                          · simp only [Act.put, List.setIfInBounds_toArray, List.set_cons_zero, List.set_cons_succ, i64_w, i32_w]
                            rfl
                          refine pure_ (i := 12) (N := some 95) (v := ?_) (a' := ?_) #[true, true, true, true, true, true, true, true, true, true, true, true, true, false, false, false, false, false, false, false, false, false, false, false, false, false, false, false, false, false, false, false, false, false, false, false, false, false, false, false, false, false, false, false, false, false, false, false, false, false, false, false] rfl rfl (any_of HT_.out (by kernel_rfl)) (fun _ _ _ h => h) (Or.inl ⟨by rfl, ?_⟩) ?_ ?_
                          rotate_left
                          · intro w'
                            go_simp
                            with_reducible rfl
                          rotate_left
                          · simp only [Act.put, List.setIfInBounds_toArray, List.set_cons_zero, List.set_cons_succ, i64_w, i32_w]
                            rfl
                          refine pure_ (i := 13) (N := some 96) (v := ?_) (a' := ?_) #[true, true, true, true, true, true, true, true, true, true, true, true, true, true, false, false, false, false, false, false, false, false, false, false, false, false, false, false, false, false, false, false, false, false, false, false, false, false, false, false, false, false, false, false, false, false, false, false, false, false, false, false] rfl rfl (any_of HT_.out (by kernel_rfl)) (fun _ _ _ h => h) (Or.inl ⟨by rfl, ?_⟩) ?_ ?_
                          rotate_left
                          · intro w'
                            go_simp
                            with_reducible rfl
                          rotate_left
                          · simp only [Act.put, List.setIfInBounds_toArray, List.set_cons_zero, List.set_cons_succ, i64_w, i32_w]
                            rfl
                          refine pure_ (i := 14) (N := some 97) (v := ?_) (a' := ?_) #[true, true, true, true, true, true, true, true, true, true, true, true, true, true, true, false, false, false, false, false, false, false, false, false, false, false, false, false, false, false, false, false, false, false, false, false, false, false, false, false, false, false, false, false, false, false, false, false, false, false, false, false] rfl rfl (any_of HT_.out (by kernel_rfl)) (fun _ _ _ h => h) (Or.inl ⟨by rfl, ?_⟩) ?_ ?_
                          rotate_left
                          · intro w'
                            go_simp
                            with_reducible rfl
                          rotate_left
                          · simp only [Act.put, List.setIfInBounds_toArray, List.set_cons_zero, List.set_cons_succ, i64_w, i32_w]
                            rfl
                          refine pure_ (i := 15) (N := some 98) (v := ?_) (a' := ?_) #[true, true, true, true, true, true, true, true, true, true, true, true, true, true, true, true, false, false, false, false, false, false, false, false, false, false, false, false, false, false, false, false, false, false, false, false, false, false, false, false, false, false, false, false, false, false, false, false, false, false, false, false] rfl rfl (any_of HT_.out (by kernel_rfl)) (fun _ _ _ h => h) (Or.inl ⟨by rfl, ?_⟩) ?_ ?_
                          rotate_left
                          · intro w'
                            go_simp
                            with_reducible rfl
                          rotate_left
                          · simp only [Act.put, List.setIfInBounds_toArray, List.set_cons_zero, List.set_cons_succ, i64_w, i32_w]
                            rfl
                          refine pure_ (i := 16) (N := some 99) (v := ?_) (a' := ?_) #[true, true, true, true, true, true, true, true, true, true, true, true, true, true, true, true, true, false, false, false, false, false, false, false, false, false, false, false, false, false, false, false, false, false, false, false, false, false, false, false, false, false, false, false, false, false, false, false, false, false, false, false] rfl rfl (any_of HT_.out (by kernel_rfl)) (fun _ _ _ h => h) (Or.inl ⟨by rfl, ?_⟩) ?_ ?_
                          rotate_left
                          · intro w'
                            go_simp
                            with_reducible rfl
                          rotate_left
                          · simp only [Act.put, List.setIfInBounds_toArray, List.set_cons_zero, List.set_cons_succ, i64_w, i32_w]
                            rfl
                          refine pure_ (i := 17) (N := some 100) (v := ?_) (a' := ?_) #[true, true, true, true, true, true, true, true, true, true, true, true, true, true, true, true, true, true, false, false, false, false, false, false, false, false, false, false, false, false, false, false, false, false, false, false, false, false, false, false, false, false, false, false, false, false, false, false, false, false, false, false] rfl rfl (any_of HT_.out (by kernel_rfl)) (fun _ _ _ h => h) (Or.inl ⟨by rfl, ?_⟩) ?_ ?_
                          rotate_left
                          · intro w'
                            go_simp
                            with_reducible rfl
                          rotate_left
                          · simp only [Act.put, List.setIfInBounds_toArray, List.set_cons_zero, List.set_cons_succ, i64_w, i32_w]
                            rfl
                          refine pure_ (i := 18) (N := some 101) (v := ?_) (a' := ?_) #[true, true, true, true, true, true, true, true, true, true, true, true, true, true, true, true, true, true, true, false, false, false, false, false, false, false, false, false, false, false, false, false, false, false, false, false, false, false, false, false, false, false, false, false, false, false, false, false, false, false, false, false] rfl rfl (any_of HT_.out (by kernel_rfl)) (fun _ _ _ h => h) (Or.inl ⟨by rfl, ?_⟩) ?_ ?_
                          rotate_left
                          · intro w'
                            go_simp
                            with_reducible rfl
                          rotate_left
                          · simp only [Act.put, List.setIfInBounds_toArray, List.set_cons_zero, List.set_cons_succ, i64_w, i32_w]
                            rfl
                          refine pure_ (i := 19) (N := some 102) (v := ?_) (a' := ?_) #[true, true, true, true, true, true, true, true, true, true, true, true, true, true, true, true, true, true, true, true, false, false, false, false, false, false, false, false, false, false, false, false, false, false, false, false, false, false, false, false, false, false, false, false, false, false, false, false, false, false, false, false] rfl rfl (any_of HT_.out (by kernel_rfl)) (fun _ _ _ h => h) (Or.inl ⟨by rfl, ?_⟩) ?_ ?_
                          rotate_left
                          · intro w'
                            go_simp
                            with_reducible rfl
                          rotate_left
                          · simp only [Act.put, List.setIfInBounds_toArray, List.set_cons_zero, List.set_cons_succ, i64_w, i32_w]
                            rfl
                          refine pure_ (i := 20) (N := some 103) (v := ?_) (a' := ?_) #[true, true, true, true, true, true, true, true, true, true, true, true, true, true, true, true, true, true, true, true, true, false, false, false, false, false, false, false, false, false, false, false, false, false, false, false, false, false, false, false, false, false, false, false, false, false, false, false, false, false, false, false] rfl rfl (any_of HT_.out (by kernel_rfl)) (fun _ _ _ h => h) (Or.inl ⟨by rfl, ?_⟩) ?_ ?_
                          rotate_left
                          · intro w'
                            go_simp
                            with_reducible rfl
                          rotate_left
                          · simp only [Act.put, List.setIfInBounds_toArray, List.set_cons_zero, List.set_cons_succ, i64_w, i32_w]
                            rfl
                          refine pure_ (i := 21) (N := some 104) (v := ?_) (a' := ?_) #[true, true, true, true, true, true, true, true, true, true, true, true, true, true, true, true, true, true, true, true, true, true, false, false, false, false, false, false, false, false, false, false, false, false, false, false, false, false, false, false, false, false, false, false, false, false, false, false, false, false, false, false] rfl rfl (any_of HT_.out (by kernel_rfl)) (fun _ _ _ h => h) (Or.inl ⟨by rfl, ?_⟩) ?_ ?_
                          rotate_left
                          · intro w'
                            go_simp
                            with_reducible rfl
                          rotate_left
                          · simp only [Act.put, List.setIfInBounds_toArray, List.set_cons_zero, List.set_cons_succ, i64_w, i32_w]
                            rfl
                          refine pure_ (i := 22) (N := some 105) (v := ?_) (a' := ?_) #[true, true, true, true, true, true, true, true, true, true, true, true, true, true, true, true, true, true, true, true, true, true, true, false, false, false, false, false, false, false, false, false, false, false, false, false, false, false, false, false, false, false, false, false, false, false, false, false, false, false, false, false] rfl rfl (any_of HT_.out (by kernel_rfl)) (fun _ _ _ h => h) (Or.inl ⟨by rfl, ?_⟩) ?_ ?_
                          rotate_left
                          · intro w'
                            go_simp
                            with_reducible rfl
                          rotate_left
                          · simp only [Act.put, List.setIfInBounds_toArray, List.set_cons_zero, List.set_cons_succ, i64_w, i32_w]
                            rfl
                          refine pure_ (i := 23) (N := some 106) (v := ?_) (a' := ?_) #[true, true, true, true, true, true, true, true, true, true, true, true, true, true, true, true, true, true, true, true, true, true, true, true, false, false, false, false, false, false, false, false, false, false, false, false, false, false, false, false, false, false, false, false, false, false, false, false, false, false, false, false] rfl rfl (any_of HT_.out (by kernel_rfl)) (fun _ _ _ h => h) (Or.inl ⟨by rfl, ?_⟩) ?_ ?_
                          rotate_left
                          · intro w'
                            go_simp
                            with_reducible rfl
                          rotate_left
                          · simp only [Act.put, List.setIfInBounds_toArray, List.set_cons_zero, List.set_cons_succ, i64_w, i32_w]
                            rfl
                          refine pure_ (i := 24) (N := some 107) (v := ?_) (a' := ?_) #[true, true, true, true, true, true, true, true, true, true, true, true, true, true, true, true, true, true, true, true, true, true, true, true, true, false, false, false, false, false, false, false, false, false, false, false, false, false, false, false, false, false, false, false, false, false, false, false, false, false, false, false] rfl rfl (any_of HT_.out (by kernel_rfl)) (fun _ _ _ h => h) (Or.inl ⟨by rfl, ?_⟩) ?_ ?_
                          rotate_left
                          · intro w'
                            go_simp
                            with_reducible rfl
                          rotate_left
                          · simp only [Act.put, List.setIfInBounds_toArray, List.set_cons_zero, List.set_cons_succ, i64_w, i32_w]
                            rfl
                          refine pure_ (i := 25) (N := some 108) (v := ?_) (a' := ?_) #[true, true, true, true, true, true, true, true, true, true, true, true, true, true, true, true, true, true, true, true, true, true, true, true, true, true, false, false, false, false, false, false, false, false, false, false, false, false, false, false, false, false, false, false, false, false, false, false, false, false, false, false] rfl rfl (any_of HT_.out (by kernel_rfl)) (fun _ _ _ h => h) (Or.inl ⟨by rfl, ?_⟩) ?_ ?_
                          rotate_left
                          · intro w'
                            go_simp
                            with_reducible rfl
                          rotate_left
                          · simp only [Act.put, List.setIfInBounds_toArray, List.set_cons_zero, List.set_cons_succ, i64_w, i32_w]
                            rfl
                          refine pure_ (i := 26) (N := some 109) (v := ?_) (a' := ?_) #[true, true, true, true, true, true, true, true, true, true, true, true, true, true, true, true, true, true, true, true, true, true, true, true, true, true, true, false, false, false, false, false, false, false, false, false, false, false, false, false, false, false, false, false, false, false, false, false, false, false, false, false] rfl rfl (any_of HT_.out (by kernel_rfl)) (fun _ _ _ h => h) (Or.inl ⟨by rfl, ?_⟩) ?_ ?_
                          rotate_left
                          · intro w'
                            go_simp
                            with_reducible rfl
                          rotate_left
                          · simp only [Act.put, List.setIfInBounds_toArray, List.set_cons_zero, List.set_cons_succ, i64_w, i32_w]
                            rfl
                          refine pure_ (i := 27) (N := some 110) (v := ?_) (a' := ?_) #[true, true, true, true, true, true, true, true, true, true, true, true, true, true, true, true, true, true, true, true, true, true, true, true, true, true, true, true, false, false, false, false, false, false, false, false, false, false, false, false, false, false, false, false, false, false, false, false, false, false, false, false] rfl rfl (any_of HT_.out (by kernel_rfl)) (fun _ _ _ h => h) (Or.inl ⟨by rfl, ?_⟩) ?_ ?_
                          rotate_left
                          · intro w'
                            go_simp
                            with_reducible rfl
                          rotate_left
                          · simp only [Act.put, List.setIfInBounds_toArray, List.set_cons_zero, List.set_cons_succ, i64_w, i32_w]
                            rfl
                          refine pure_ (i := 28) (N := some 111) (v := ?_) (a' := ?_) #[true, true, true, true, true, true, true, true, true, true, true, true, true, true, true, true, true, true, true, true, true, true, true, true, true, true, true, true, true, false, false, false, false, false, false, false, false, false, false, false, false, false, false, false, false, false, false, false, false, false, false, false] rfl rfl (any_of HT_.out (by kernel_rfl)) (fun _ _ _ h => h) (Or.inl ⟨by rfl, ?_⟩) ?_ ?_
                          rotate_left
                          · intro w'
                            go_simp
                            with_reducible rfl
                          rotate_left
                          · simp only [Act.put, List.setIfInBounds_toArray, List.set_cons_zero, List.set_cons_succ, i64_w, i32_w]
                            rfl
                          refine pure_ (i := 29) (N := some 112) (v := ?_) (a' := ?_) #[true, true, true, true, true, true, true, true, true, true, true, true, true, true, true, true, true, true, true, true, true, true, true, true, true, true, true, true, true, true, false, false, false, false, false, false, false, false, false, false, false, false, false, false, false, false, false, false, false, false, false, false] rfl rfl (any_of HT_.out (by kernel_rfl)) (fun _ _ _ h => h) (Or.inl ⟨by rfl, ?_⟩) ?_ ?_
                          rotate_left
                          · intro w'
                            go_simp
                            with_reducible rfl
                          rotate_left
                          · simp only [Act.put, List.setIfInBounds_toArray, List.set_cons_zero, List.set_cons_succ, i64_w, i32_w]
                            rfl
                          refine pure_ (i := 30) (N := some 113) (v := ?_) (a' := ?_) #[true, true, true, true, true, true, true, true, true, true, true, true, true, true, true, true, true, true, true, true, true, true, true, true, true, true, true, true, true, true, true, false, false, false, false, false, false, false, false, false, false, false, false, false, false, false, false, false, false, false, false, false] rfl rfl (any_of HT_.out (by kernel_rfl)) (fun _ _ _ h => h) (Or.inl ⟨by rfl, ?_⟩) ?_ ?_
                          rotate_left
                          · intro w'
                            go_simp
                            with_reducible rfl
                          rotate_left
                          · simp only [Act.put, List.setIfInBounds_toArray, List.set_cons_zero, List.set_cons_succ, i64_w, i32_w]
                            rfl
                          refine pure_ (i := 31) (N := some 114) (v := ?_) (a' := ?_) #[true, true, true, true, true, true, true, true, true, true, true, true, true, true, true, true, true, true, true, true, true, true, true, true, true, true, true, true, true, true, true, true, false, false, false, false, false, false, false, false, false, false, false, false, false, false, false, false, false, false, false, false] rfl rfl (any_of HT_.out (by kernel_rfl)) (fun _ _ _ h => h) (Or.inl ⟨by rfl, ?_⟩) ?_ ?_
                          rotate_left
                          · intro w'
                            go_simp
                            with_reducible rfl
                          rotate_left
                          · simp only [Act.put, List.setIfInBounds_toArray, List.set_cons_zero, List.set_cons_succ, i64_w, i32_w]
                            rfl
                          refine pure_ (i := 32) (N := some 115) (v := ?_) (a' := ?_) #[true, true, true, true, true, true, true, true, true, true, true, true, true, true, true, true, true, true, true, true, true, true, true, true, true, true, true, true, true, true, true, true, true, false, false, false, false, false, false, false, false, false, false, false, false, false, false, false, false, false, false, false] rfl rfl (any_of HT_.out (by kernel_rfl)) (fun _ _ _ h => h) (Or.inl ⟨by rfl, ?_⟩) ?_ ?_
                          rotate_left
                          · intro w'
                            go_simp
                            with_reducible rfl
                          rotate_left
                          · simp only [Act.put, List.setIfInBounds_toArray, List.set_cons_zero, List.set_cons_succ, i64_w, i32_w]
                            rfl
                          refine pure_ (i := 33) (N := some 116) (v := ?_) (a' := ?_) #[true, true, true, true, true, true, true, true, true, true, true, true, true, true, true, true, true, true, true, true, true, true, true, true, true, true, true, true, true, true, true, true, true, true, false, false, false, false, false, false, false, false, false, false, false, false, false, false, false, false, false, false] rfl rfl (any_of HT_.out (by kernel_rfl)) (fun _ _ _ h => h) (Or.inl ⟨by rfl, ?_⟩) ?_ ?_
                          rotate_left
                          · intro w'
                            go_simp
                            with_reducible rfl
                          rotate_left
                          · simp only [Act.put, List.setIfInBounds_toArray, List.set_cons_zero, List.set_cons_succ, i64_w, i32_w]
                            rfl
                          refine pure_ (i := 34) (N := some 117) (v := ?_) (a' := ?_) #[true, true, true, true, true, true, true, true, true, true, true, true, true, true, true, true, true, true, true, true, true, true, true, true, true, true, true, true, true, true, true, true, true, true, true, false, false, false, false, false, false, false, false, false, false, false, false, false, false, false, false, false] rfl rfl (any_of HT_.out (by kernel_rfl)) (fun _ _ _ h => h) (Or.inl ⟨by rfl, ?_⟩) ?_ ?_
                          rotate_left
                          · intro w'
                            go_simp
                            with_reducible rfl
                          rotate_left
                          · simp only [Act.put, List.setIfInBounds_toArray, List.set_cons_zero, List.set_cons_succ, i64_w, i32_w]
                            rfl
                          refine pure_ (i := 35) (N := some 118) (v := ?_) (a' := ?_) #[true, true, true, true, true, true, true, true, true, true, true, true, true, true, true, true, true, true, true, true, true, true, true, true, true, true, true, true, true, true, true, true, true, true, true, true, false, false, false, false, false, false, false, false, false, false, false, false, false, false, false, false] rfl rfl (any_of HT_.out (by kernel_rfl)) (fun _ _ _ h => h) (Or.inl ⟨by rfl, ?_⟩) ?_ ?_
                          rotate_left
                          · intro w'
                            go_simp
                            with_reducible rfl
                          rotate_left
                          · simp only [Act.put, List.setIfInBounds_toArray, List.set_cons_zero, List.set_cons_succ, i64_w, i32_w]
                            rfl
                          refine pure_ (i := 36) (N := some 119) (v := ?_) (a' := ?_) #[true, true, true, true, true, true, true, true, true, true, true, true, true, true, true, true, true, true, true, true, true, true, true, true, true, true, true, true, true, true, true, true, true, true, true, true, true, false, false, false, false, false, false, false, false, false, false, false, false, false, false, false] rfl rfl (any_of HT_.out (by kernel_rfl)) (fun _ _ _ h => h) (Or.inl ⟨by rfl, ?_⟩) ?_ ?_
                          rotate_left
                          · intro w'
                            go_simp
                            with_reducible rfl
                          rotate_left
                          · simp only [Act.put, List.setIfInBounds_toArray, List.set_cons_zero, List.set_cons_succ, i64_w, i32_w]
                            rfl
                          refine pure_ (i := 37) (N := some 120) (v := ?_) (a' := ?_) #[true, true, true, true, true, true, true, true, true, true, true, true, true, true, true, true, true, true, true, true, true, true, true, true, true, true, true, true, true, true, true, true, true, true, true, true, true, true, false, false, false, false, false, false, false, false, false, false, false, false, false, false] rfl rfl (any_of HT_.out (by kernel_rfl)) (fun _ _ _ h => h) (Or.inl ⟨by rfl, ?_⟩) ?_ ?_
                          rotate_left
                          · intro w'
                            go_simp
                            with_reducible rfl
                          rotate_left
                          · simp only [Act.put, List.setIfInBounds_toArray, List.set_cons_zero, List.set_cons_succ, i64_w, i32_w]
                            rfl
                          refine pure_ (i := 38) (N := some 121) (v := ?_) (a' := ?_) #[true, true, true, true, true, true, true, true, true, true, true, true, true, true, true, true, true, true, true, true, true, true, true, true, true, true, true, true, true, true, true, true, true, true, true, true, true, true, true, false, false, false, false, false, false, false, false, false, false, false, false, false] rfl rfl (any_of HT_.out (by kernel_rfl)) (fun _ _ _ h => h) (Or.inl ⟨by rfl, ?_⟩) ?_ ?_
                          rotate_left
                          · intro w'
                            go_simp
                            with_reducible rfl
                          rotate_left
                          · simp only [Act.put, List.setIfInBounds_toArray, List.set_cons_zero, List.set_cons_succ, i64_w, i32_w]
                            rfl
                          refine take_ (i := 39) (N := some 122) (v := ?_) (a' := ?_) #[true, true, true, true, true, true, true, true, true, true, true, true, true, true, true, true, true, true, true, true, true, true, true, true, true, true, true, true, true, true, true, true, true, true, true, true, true, true, true, true, false, false, false, false, false, false, false, false, false, false, false, false] rfl rfl (take_ofW HT_.out HW_.out (by kernel_rfl)) (fun _ _ _ h => h) (Or.inl ⟨by rfl, ?_⟩) hHeld ?_ ?_
                          rotate_left
                          · rintro w' ⟨s0, s1, s2, s3, s4, s5, s6, s7⟩
                            go_simp
                            with_reducible rfl
                          rotate_left
                          · simp only [Act.put, List.setIfInBounds_toArray, List.set_cons_zero, List.set_cons_succ, i64_w, i32_w]
                            rfl
                          refine take_ (i := 41) (N := some 124) (v := ?_) (a' := ?_) #[true, true, true, true, true, true, true, true, true, true, true, true, true, true, true, true, true, true, true, true, true, true, true, true, true, true, true, true, true, true, true, true, true, true, true, true, true, true, true, true, false, true, false, false, false, false, false, false, false, false, false, false] rfl rfl (take_ofW HT_.out HW_.out (by kernel_rfl)) (fun _ _ _ h => h) (Or.inl ⟨by rfl, ?_⟩) hHeld ?_ ?_
                          rotate_left
                          · rintro w' ⟨s0, s1, s2, s3, s4, s5, s6, s7⟩
                            go_simp
                            with_reducible rfl
                          rotate_left
                          · simp only [Act.put, List.setIfInBounds_toArray, List.set_cons_zero, List.set_cons_succ, i64_w, i32_w]
                            rfl
                          refine one_ (i := 40) (N := some 123) #[true, true, true, true, true, true, true, true, true, true, true, true, true, true, true, true, true, true, true, true, true, true, true, true, true, true, true, true, true, true, true, true, true, true, true, true, true, true, true, true, true, true, false, false, false, false, false, false, false, false, false, false] rfl rfl (one_of HT_.out (by kernel_rfl)) (by decide) (fun K hK => ?_)
                          refine goes_ Try.func43 (by kernel_rfl) rfl #[.agg #[.int .i64 t328, .int .i64 t329, .int .i64 t330, .bool t331]] (by rfl) rfl rfl (by (try simp only [List.map_toArray, List.map_cons, List.map_nil]); first | done | rfl | (simp only [List.length_drop, List.length_take]; rfl)) ?_
                          with_reducible refine (impl_IsPress.calls t328 t329 t330 t331 t366 _ A51.out).mono ?_
                          rintro e w60 ⟨rfl, hb⟩
                          refine ⟨_, rfl, ?_⟩
                          have n0_ := Aside0.mk (blk_below (g := gb336) (o := .cells #[.int .i64 t328, .int .i64 t329, .int .i64 t330, .bool t331] 39 (0, 0)) (by (with_reducible repeat (first | refine blk_drewN ?_ _ | refine blk_drew ?_ | refine blk_alloc ?_ _)); exact BK336.out) hb)
                          have n1_ := Aside0.mk (blk_below (g := gb337) (o := .cells #[.int .i64 t332, .int .i64 t333, .int .i64 t334, .int .i64 t335] 41 (0, 0)) (by (with_reducible repeat (first | refine blk_drewN ?_ _ | refine blk_drew ?_ | refine blk_alloc ?_ _)); exact BK337.out) hb)
                          have n2_ := Aside0.mk (blk_below (g := gb354) (o := .cells #[.int .i64 t344, .int .i64 t345, .int .i64 t346, .bool t347] 39 (0, 0)) (by (with_reducible repeat (first | refine blk_drewN ?_ _ | refine blk_drew ?_ | refine blk_alloc ?_ _)); exact BK354.out) hb)
                          have n3_ := Aside0.mk (blk_below (g := gb355) (o := .cells #[.int .i64 t348, .int .i64 t349, .int .i64 t350, .int .i64 t351] 41 (0, 0)) (by (with_reducible repeat (first | refine blk_drewN ?_ _ | refine blk_drew ?_ | refine blk_alloc ?_ _)); exact BK355.out) hb)
                          have n4_ := Aside0.mk (below_step (by repeat (first | (with_reducible first | exact HB.out | apply below_alloc | apply pw_below_drewN | apply below_drew1 | refine below_set ?_ GE336.out | refine below_set ?_ GE337.out | refine below_set ?_ GE354.out | refine below_set ?_ GE355.out) | exact HB.out)) hb)
                          clear BK336
                          clear BK337
                          clear BK354
                          clear BK355
                          clear HB
                          have BK336 := n0_
                          have BK337 := n1_
                          have BK354 := n2_
                          have BK355 := n3_
                          have HB := n4_
                          clear n0_ n1_ n2_ n3_ n4_
                          (try clear hb)
                          (try clear hb2)
                          (try clear hk)
                          (try clear hi)
                          refine hK.out _ _ ⟨(blk_cell BK336.out 0).trans rfl, (blk_cell BK336.out 1).trans rfl, (blk_cell BK336.out 2).trans rfl, (blk_cell BK336.out 3).trans rfl, (blk_cell BK337.out 0).trans rfl, (blk_cell BK337.out 1).trans rfl, (blk_cell BK337.out 2).trans rfl, (blk_cell BK337.out 3).trans rfl⟩ (fun hHeld => ?_)
                          clear hK K
                          refine norm_ (a' := ?_) ?_ ?_
                          rotate_left
                          · show Act.put _ (some 123) _ = _
                            simp only [Act.put, List.setIfInBounds_toArray, List.set_cons_zero, List.set_cons_succ, i64_w, i32_w]
                            rfl
                          refine one_ (i := 42) (N := some 125) #[true, true, true, true, true, true, true, true, true, true, true, true, true, true, true, true, true, true, true, true, true, true, true, true, true, true, true, true, true, true, true, true, true, true, true, true, true, true, true, true, true, true, true, false, false, false, false, false, false, false, false, false] rfl rfl (one_of HT_.out (by kernel_rfl)) (by decide) (fun K hK => ?_)
                          refine goes_ Try.func44 (by kernel_rfl) rfl #[.agg #[.int .i64 t328, .int .i64 t329, .int .i64 t330, .bool t331]] (by rfl) rfl rfl (by (try simp only [List.map_toArray, List.map_cons, List.map_nil]); first | done | rfl | (simp only [List.length_drop, List.length_take]; rfl)) ?_
                          with_reducible refine (spec_IsPress.calls t328 t329 t330 t331 t367 _ A52.out).mono ?_
                          rintro e w61 ⟨rfl, hb⟩
                          refine ⟨_, rfl, ?_⟩
                          have n0_ := Aside0.mk (blk_below (g := gb336) (o := .cells #[.int .i64 t328, .int .i64 t329, .int .i64 t330, .bool t331] 39 (0, 0)) (by (with_reducible repeat (first | refine blk_drewN ?_ _ | refine blk_drew ?_ | refine blk_alloc ?_ _)); exact BK336.out) hb)
                          have n1_ := Aside0.mk (blk_below (g := gb337) (o := .cells #[.int .i64 t332, .int .i64 t333, .int .i64 t334, .int .i64 t335] 41 (0, 0)) (by (with_reducible repeat (first | refine blk_drewN ?_ _ | refine blk_drew ?_ | refine blk_alloc ?_ _)); exact BK337.out) hb)
                          have n2_ := Aside0.mk (blk_below (g := gb354) (o := .cells #[.int .i64 t344, .int .i64 t345, .int .i64 t346, .bool t347] 39 (0, 0)) (by (with_reducible repeat (first | refine blk_drewN ?_ _ | refine blk_drew ?_ | refine blk_alloc ?_ _)); exact BK354.out) hb)
                          have n3_ := Aside0.mk (blk_below (g := gb355) (o := .cells #[.int .i64 t348, .int .i64 t349, .int .i64 t350, .int .i64 t351] 41 (0, 0)) (by (with_reducible repeat (first | refine blk_drewN ?_ _ | refine blk_drew ?_ | refine blk_alloc ?_ _)); exact BK355.out) hb)
                          have n4_ := Aside0.mk (below_step (by repeat (first | (with_reducible first | exact HB.out | apply below_alloc | apply pw_below_drewN | apply below_drew1 | refine below_set ?_ GE336.out | refine below_set ?_ GE337.out | refine below_set ?_ GE354.out | refine below_set ?_ GE355.out) | exact HB.out)) hb)
                          clear BK336
                          clear BK337
                          clear BK354
                          clear BK355
                          clear HB
                          have BK336 := n0_
                          have BK337 := n1_
                          have BK354 := n2_
                          have BK355 := n3_
                          have HB := n4_
                          clear n0_ n1_ n2_ n3_ n4_
                          (try clear hb)
                          (try clear hb2)
                          (try clear hk)
                          (try clear hi)
                          refine hK.out _ _ ⟨(blk_cell BK336.out 0).trans rfl, (blk_cell BK336.out 1).trans rfl, (blk_cell BK336.out 2).trans rfl, (blk_cell BK336.out 3).trans rfl, (blk_cell BK337.out 0).trans rfl, (blk_cell BK337.out 1).trans rfl, (blk_cell BK337.out 2).trans rfl, (blk_cell BK337.out 3).trans rfl⟩ (fun hHeld => ?_)
                          clear hK K
                          refine norm_ (a' := ?_) ?_ ?_
                          rotate_left
                          · show Act.put _ (some 125) _ = _
                            simp only [Act.put, List.setIfInBounds_toArray, List.set_cons_zero, List.set_cons_succ, i64_w, i32_w]
                            rfl
                          refine pure_ (i := 43) (N := some 126) (v := ?_) (a' := ?_) #[true, true, true, true, true, true, true, true, true, true, true, true, true, true, true, true, true, true, true, true, true, true, true, true, true, true, true, true, true, true, true, true, true, true, true, true, true, true, true, true, true, true, true, true, false, false, false, false, false, false, false, false] rfl rfl (any_of HT_.out (by kernel_rfl)) (fun _ _ _ h => h) (Or.inl ⟨by rfl, ?_⟩) ?_ ?_
                          rotate_left
                          · intro w'
                            go_simp
                            with_reducible rfl
                          rotate_left
                          · simp only [Act.put, List.setIfInBounds_toArray, List.set_cons_zero, List.set_cons_succ, i64_w, i32_w]
                            rfl
                          refine pure_ (i := 44) (N := some 127) (v := ?_) (a' := ?_) #[true, true, true, true, true, true, true, true, true, true, true, true, true, true, true, true, true, true, true, true, true, true, true, true, true, true, true, true, true, true, true, true, true, true, true, true, true, true, true, true, true, true, true, true, true, false, false, false, false, false, false, false] rfl rfl (any_of HT_.out (by kernel_rfl)) (fun _ _ _ h => h) (Or.inl ⟨by rfl, ?_⟩) ?_ ?_
                          rotate_left
                          · intro w'
                            go_simp
                            with_reducible rfl
                          rotate_left
                          · simp only [Act.put, List.setIfInBounds_toArray, List.set_cons_zero, List.set_cons_succ, i64_w, i32_w]
                            rfl
                          refine pure_ (i := 45) (N := some 128) (v := ?_) (a' := ?_) #[true, true, true, true, true, true, true, true, true, true, true, true, true, true, true, true, true, true, true, true, true, true, true, true, true, true, true, true, true, true, true, true, true, true, true, true, true, true, true, true, true, true, true, true, true, true, false, false, false, false, false, false] rfl rfl (any_of HT_.out (by kernel_rfl)) (fun _ _ _ h => h) (Or.inl ⟨by rfl, ?_⟩) ?_ ?_
                          rotate_left
                          · intro w'
                            go_simp
                            with_reducible rfl
                          rotate_left
                          · simp only [Act.put, List.setIfInBounds_toArray, List.set_cons_zero, List.set_cons_succ, i64_w, i32_w]
                            rfl
                          refine take_ (i := 46) (N := some 129) (v := ?_) (a' := ?_) #[true, true, true, true, true, true, true, true, true, true, true, true, true, true, true, true, true, true, true, true, true, true, true, true, true, true, true, true, true, true, true, true, true, true, true, true, true, true, true, true, true, true, true, true, true, true, true, false, false, false, false, false] rfl rfl (take_ofW HT_.out HW_.out (by kernel_rfl)) (fun _ _ _ h => h) (Or.inl ⟨by rfl, ?_⟩) hHeld ?_ ?_
                          rotate_left
                          · rintro w' ⟨s0, s1, s2, s3, s4, s5, s6, s7⟩
                            go_simp
                            with_reducible rfl
                          rotate_left
                          · simp only [Act.put, List.setIfInBounds_toArray, List.set_cons_zero, List.set_cons_succ, i64_w, i32_w]
                            rfl
                          refine take_ (i := 48) (N := some 131) (v := ?_) (a' := ?_) #[true, true, true, true, true, true, true, true, true, true, true, true, true, true, true, true, true, true, true, true, true, true, true, true, true, true, true, true, true, true, true, true, true, true, true, true, true, true, true, true, true, true, true, true, true, true, true, false, true, false, false, false] rfl rfl (take_ofW HT_.out HW_.out (by kernel_rfl)) (fun _ _ _ h => h) (Or.inl ⟨by rfl, ?_⟩) hHeld ?_ ?_
                          rotate_left
                          · rintro w' ⟨s0, s1, s2, s3, s4, s5, s6, s7⟩
                            go_simp
                            with_reducible rfl
                          rotate_left
                          · simp only [Act.put, List.setIfInBounds_toArray, List.set_cons_zero, List.set_cons_succ, i64_w, i32_w]
                            rfl
                          refine one_ (i := 47) (N := some 130) #[true, true, true, true, true, true, true, true, true, true, true, true, true, true, true, true, true, true, true, true, true, true, true, true, true, true, true, true, true, true, true, true, true, true, true, true, true, true, true, true, true, true, true, true, true, true, true, true, true, false, false, false] rfl rfl (one_of HT_.out (by kernel_rfl)) (by decide) (fun K hK => ?_)
                          refine goes_ Try.func45 (by kernel_rfl) rfl #[.agg #[.int .i64 t332, .int .i64 t333, .int .i64 t334, .int .i64 t335]] (by rfl) rfl rfl (by (try simp only [List.map_toArray, List.map_cons, List.map_nil]); first | done | rfl | (simp only [List.length_drop, List.length_take]; rfl)) ?_
                          with_reducible refine (impl_IsTrim.calls t332 t333 t334 t335 t368 _ A57.out).mono ?_
                          rintro e w62 ⟨rfl, hb⟩
                          refine ⟨_, rfl, ?_⟩
                          have n0_ := Aside0.mk (blk_below (g := gb336) (o := .cells #[.int .i64 t328, .int .i64 t329, .int .i64 t330, .bool t331] 39 (0, 0)) (by (with_reducible repeat (first | refine blk_drewN ?_ _ | refine blk_drew ?_ | refine blk_alloc ?_ _)); exact BK336.out) hb)
                          have n1_ := Aside0.mk (blk_below (g := gb337) (o := .cells #[.int .i64 t332, .int .i64 t333, .int .i64 t334, .int .i64 t335] 41 (0, 0)) (by (with_reducible repeat (first | refine blk_drewN ?_ _ | refine blk_drew ?_ | refine blk_alloc ?_ _)); exact BK337.out) hb)
                          have n2_ := Aside0.mk (blk_below (g := gb354) (o := .cells #[.int .i64 t344, .int .i64 t345, .int .i64 t346, .bool t347] 39 (0, 0)) (by (with_reducible repeat (first | refine blk_drewN ?_ _ | refine blk_drew ?_ | refine blk_alloc ?_ _)); exact BK354.out) hb)
                          have n3_ := Aside0.mk (blk_below (g := gb355) (o := .cells #[.int .i64 t348, .int .i64 t349, .int .i64 t350, .int .i64 t351] 41 (0, 0)) (by (with_reducible repeat (first | refine blk_drewN ?_ _ | refine blk_drew ?_ | refine blk_alloc ?_ _)); exact BK355.out) hb)
                          have n4_ := Aside0.mk (below_step (by repeat (first | (with_reducible first | exact HB.out | apply below_alloc | apply pw_below_drewN | apply below_drew1 | refine below_set ?_ GE336.out | refine below_set ?_ GE337.out | refine below_set ?_ GE354.out | refine below_set ?_ GE355.out) | exact HB.out)) hb)
                          clear BK336
                          clear BK337
                          clear BK354
                          clear BK355
                          clear HB
                          have BK336 := n0_
                          have BK337 := n1_
                          have BK354 := n2_
                          have BK355 := n3_
                          have HB := n4_
                          clear n0_ n1_ n2_ n3_ n4_
                          (try clear hb)
                          (try clear hb2)
                          (try clear hk)
                          (try clear hi)
                          refine hK.out _ _ ⟨(blk_cell BK336.out 0).trans rfl, (blk_cell BK336.out 1).trans rfl, (blk_cell BK336.out 2).trans rfl, (blk_cell BK336.out 3).trans rfl, (blk_cell BK337.out 0).trans rfl, (blk_cell BK337.out 1).trans rfl, (blk_cell BK337.out 2).trans rfl, (blk_cell BK337.out 3).trans rfl⟩ (fun hHeld => ?_)
                          clear hK K
                          refine norm_ (a' := ?_) ?_ ?_
                          rotate_left
                          · show Act.put _ (some 130) _ = _
                            simp only [Act.put, List.setIfInBounds_toArray, List.set_cons_zero, List.set_cons_succ, i64_w, i32_w]
                            rfl
                          refine one_ (i := 49) (N := some 132) #[true, true, true, true, true, true, true, true, true, true, true, true, true, true, true, true, true, true, true, true, true, true, true, true, true, true, true, true, true, true, true, true, true, true, true, true, true, true, true, true, true, true, true, true, true, true, true, true, true, true, false, false] rfl rfl (one_of HT_.out (by kernel_rfl)) (by decide) (fun K hK => ?_)
                          refine goes_ Try.func46 (by kernel_rfl) rfl #[.agg #[.int .i64 t332, .int .i64 t333, .int .i64 t334, .int .i64 t335]] (by rfl) rfl rfl (by (try simp only [List.map_toArray, List.map_cons, List.map_nil]); first | done | rfl | (simp only [List.length_drop, List.length_take]; rfl)) ?_
                          with_reducible refine (spec_IsTrim.calls t332 t333 t334 t335 t369 _ A58.out).mono ?_
                          rintro e w63 ⟨rfl, hb⟩
                          refine ⟨_, rfl, ?_⟩
                          have n0_ := Aside0.mk (blk_below (g := gb336) (o := .cells #[.int .i64 t328, .int .i64 t329, .int .i64 t330, .bool t331] 39 (0, 0)) (by (with_reducible repeat (first | refine blk_drewN ?_ _ | refine blk_drew ?_ | refine blk_alloc ?_ _)); exact BK336.out) hb)
                          have n1_ := Aside0.mk (blk_below (g := gb337) (o := .cells #[.int .i64 t332, .int .i64 t333, .int .i64 t334, .int .i64 t335] 41 (0, 0)) (by (with_reducible repeat (first | refine blk_drewN ?_ _ | refine blk_drew ?_ | refine blk_alloc ?_ _)); exact BK337.out) hb)
                          have n2_ := Aside0.mk (blk_below (g := gb354) (o := .cells #[.int .i64 t344, .int .i64 t345, .int .i64 t346, .bool t347] 39 (0, 0)) (by (with_reducible repeat (first | refine blk_drewN ?_ _ | refine blk_drew ?_ | refine blk_alloc ?_ _)); exact BK354.out) hb)
                          have n3_ := Aside0.mk (blk_below (g := gb355) (o := .cells #[.int .i64 t348, .int .i64 t349, .int .i64 t350, .int .i64 t351] 41 (0, 0)) (by (with_reducible repeat (first | refine blk_drewN ?_ _ | refine blk_drew ?_ | refine blk_alloc ?_ _)); exact BK355.out) hb)
                          have n4_ := Aside0.mk (below_step (by repeat (first | (with_reducible first | exact HB.out | apply below_alloc | apply pw_below_drewN | apply below_drew1 | refine below_set ?_ GE336.out | refine below_set ?_ GE337.out | refine below_set ?_ GE354.out | refine below_set ?_ GE355.out) | exact HB.out)) hb)
                          clear BK336
                          clear BK337
                          clear BK354
                          clear BK355
                          clear HB
                          have BK336 := n0_
                          have BK337 := n1_
                          have BK354 := n2_
                          have BK355 := n3_
                          have HB := n4_
                          clear n0_ n1_ n2_ n3_ n4_
                          (try clear hb)
                          (try clear hb2)
                          (try clear hk)
                          (try clear hi)
                          refine hK.out _ _ ⟨(blk_cell BK336.out 0).trans rfl, (blk_cell BK336.out 1).trans rfl, (blk_cell BK336.out 2).trans rfl, (blk_cell BK336.out 3).trans rfl, (blk_cell BK337.out 0).trans rfl, (blk_cell BK337.out 1).trans rfl, (blk_cell BK337.out 2).trans rfl, (blk_cell BK337.out 3).trans rfl⟩ (fun hHeld => ?_)
                          clear hK K
                          refine norm_ (a' := ?_) ?_ ?_
                          rotate_left
                          · show Act.put _ (some 132) _ = _
                            simp only [Act.put, List.setIfInBounds_toArray, List.set_cons_zero, List.set_cons_succ, i64_w, i32_w]
                            rfl
                          refine pure_ (i := 50) (N := some 133) (v := ?_) (a' := ?_) #[true, true, true, true, true, true, true, true, true, true, true, true, true, true, true, true, true, true, true, true, true, true, true, true, true, true, true, true, true, true, true, true, true, true, true, true, true, true, true, true, true, true, true, true, true, true, true, true, true, true, true, false] rfl rfl (any_of HT_.out (by kernel_rfl)) (fun _ _ _ h => h) (Or.inl ⟨by rfl, ?_⟩) ?_ ?_
                          rotate_left
                          · intro w'
                            go_simp
                            with_reducible rfl
                          rotate_left
                          · simp only [Act.put, List.setIfInBounds_toArray, List.set_cons_zero, List.set_cons_succ, i64_w, i32_w]
                            rfl
                          refine pure_ (i := 51) (N := some 134) (v := ?_) (a' := ?_) #[true, true, true, true, true, true, true, true, true, true, true, true, true, true, true, true, true, true, true, true, true, true, true, true, true, true, true, true, true, true, true, true, true, true, true, true, true, true, true, true, true, true, true, true, true, true, true, true, true, true, true, true] rfl rfl (any_of HT_.out (by kernel_rfl)) (fun _ _ _ h => h) (Or.inl ⟨by rfl, ?_⟩) ?_ ?_
                          rotate_left
                          · intro w'
                            go_simp
                            with_reducible rfl
                          rotate_left
                          · simp only [Act.put, List.setIfInBounds_toArray, List.set_cons_zero, List.set_cons_succ, i64_w, i32_w]
                            rfl
                          refine done_ (done_of HT_.out (by kernel_rfl)) ?_
                          try go_wp2
                          go_meet
                          case rel => exact ⟨_, ((t368 != t369)), (by first | rfl | (simp; done) | (simp [*]; done)), H', ⟨by first | omega | exact Nat.le_refl _⟩, ⟨by (with_reducible repeat (first | refine blk_drewN ?_ _ | refine blk_drew ?_ | refine blk_alloc ?_ _)); exact BK336.out⟩, ⟨by (with_reducible repeat (first | refine blk_drewN ?_ _ | refine blk_drew ?_ | refine blk_alloc ?_ _)); exact BK337.out⟩, ⟨by (with_reducible repeat (first | refine blk_drewN ?_ _ | refine blk_drew ?_ | refine blk_alloc ?_ _)); exact BK354.out⟩, ⟨by (with_reducible repeat (first | refine blk_drewN ?_ _ | refine blk_drew ?_ | refine blk_alloc ?_ _)); exact BK355.out⟩, ⟨by repeat (first | (with_reducible first | exact HB.out | apply below_alloc | apply pw_below_drewN | apply below_drew1 | refine below_set ?_ GE336.out | refine below_set ?_ GE337.out | refine below_set ?_ GE354.out | refine below_set ?_ GE355.out) | exact HB.out)⟩⟩
                      · rw [if_neg c50] at H
                        exact absurd H (by simp)
                    · rw [if_neg c49] at H
                      exact absurd H (by simp)
                  · rw [if_neg c48] at H
                    exact absurd H (by simp)
                · rw [if_neg c47] at H
                  exact absurd H (by simp)
              · rw [if_neg c46] at H
                exact absurd H (by simp)
            · rw [if_neg c45] at H
              exact absurd H (by simp)
          · rw [if_neg c44] at H
            exact absurd H (by simp)
        · rw [if_neg c43] at H
          exact absurd H (by simp)
    case rest =>
      as_aux_lemma =>
        clear HC12
        try clear p2
        try clear c4
        try clear c43
        try clear c43b0
        try clear c43b1
        obtain ⟨kq, x134_11, rfl, HA, HJ11, BK336, BK337, BK354, BK355, HB⟩ := hcut
        cases kq with
        | zero => exact absurd HA.out (by simp [laws_FnGrids.j0])
        | succ kj11 =>
          have H := HA.out
          clear HA
          simp only [laws_FnGrids.j0] at H
          by_cases c72 : x134_11 = true
          · subst c72
            have H1 : (some false) = some r := by rw [if_pos rfl] at H; exact H
            clear H
            have H := H1
            clear H1
            obtain rfl := Option.some.inj H
            go_wp2
            go_ret
            exact ⟨by first | rfl | (simp [errW_none, errW_some] <;> rfl) | (simp [*, errW_none, errW_some] <;> rfl), by repeat (first | (with_reducible first | exact HB.out | apply below_alloc | apply pw_below_drewN | apply below_drew1 | refine below_set ?_ GE336.out | refine below_set ?_ GE337.out | refine below_set ?_ GE354.out | refine below_set ?_ GE355.out) | exact HB.out)⟩
          · replace c72 := Bool.eq_false_iff.mpr c72
            subst c72
            have H1 : (if t358 = 0 then (if (wrap64 ((wrap64 (t356 + t348)) + t350)) > t344 then (none) else (if (wrap64 ((wrap64 (t357 + t349)) + t350)) > (wrap64 (t345 - t346)) then (none) else (if t356 < t350 then (none) else (laws_FnGrids.j1 kj11 t338 t339 t340 t362 t363 (decide (t357 < t350)) t328 t329 t330 t331 t332 t333 t334 t335)))) else (laws_FnGrids.j1 kj11 t338 t339 t340 t362 t363 false t328 t329 t330 t331 t332 t333 t334 t335)) = some r := by rw [if_neg (show ¬ (false = true) by decide)] at H; exact H
            clear H
            have H := H1
            clear H1
            have HC73 := Aside0.mk H
            clear H
            go_upto_region 13 with (fail)
            go_cut [175] (fun v175 wc => ∃ (kq : Nat) (x175_72 : Bool), v175 = .bool x175_72 ∧ Aside0 (laws_FnGrids.j1 kq t338 t339 t340 t362 t363 x175_72 t328 t329 t330 t331 t332 t333 t334 t335 = some r) ∧ Aside0 (kq ≤ kj11) ∧ Aside0 (wc.heap[gb336]? = some (.cells #[.int .i64 t328, .int .i64 t329, .int .i64 t330, .bool t331] 39 (0, 0))) ∧ Aside0 (wc.heap[gb337]? = some (.cells #[.int .i64 t332, .int .i64 t333, .int .i64 t334, .int .i64 t335] 41 (0, 0))) ∧ Aside0 (wc.heap[gb354]? = some (.cells #[.int .i64 t344, .int .i64 t345, .int .i64 t346, .bool t347] 39 (0, 0))) ∧ Aside0 (wc.heap[gb355]? = some (.cells #[.int .i64 t348, .int .i64 t349, .int .i64 t350, .int .i64 t351] 41 (0, 0))) ∧ Aside0 (Below w.heap.size w wc))
            case first =>
              as_aux_lemma =>
                have H := HC73.out
                clear HC73
                by_cases c74 : t358 = 0
                · rw [if_pos c74] at H
                  have c74b0 : (t358 == 0) = true := beq_iff_eq.mpr c74
                  have c74b1 : (t358 != 0) = false := bne_eq_false_iff_eq.mpr c74
                  clear c74
                  (first | rw [c74b0] | (simp only [i64_w, i32_w]; rw [c74b0]) | skip)
                  by_cases c75 : (wrap64 ((wrap64 (t356 + t348)) + t350)) > t344
                  · rw [if_pos c75] at H
                    exact absurd H (by simp)
                  · rw [if_neg c75] at H
                    have c75b0 : decide (t344 < (wrap64 ((wrap64 (t356 + t348)) + t350))) = false := decide_eq_false c75
                    clear c75
                    by_cases c83 : (wrap64 ((wrap64 (t357 + t349)) + t350)) > (wrap64 (t345 - t346))
                    · rw [if_pos c83] at H
                      exact absurd H (by simp)
                    · rw [if_neg c83] at H
                      have c83b0 : decide ((wrap64 (t345 - t346)) < (wrap64 ((wrap64 (t357 + t349)) + t350))) = false := decide_eq_false c83
                      clear c83
                      by_cases c91 : t356 < t350
                      · rw [if_pos c91] at H
                        exact absurd H (by simp)
                      · rw [if_neg c91] at H
                        have c91b0 : decide (t356 < t350) = false := decide_eq_false c91
                        clear c91
                        have H' := Aside0.mk H
                        clear H
                        have hnb99 := NB355_336.out
                        have hnc99 := NB336_355.out
                        have hnb100 := NB355_337.out
                        have hnc100 := NB337_355.out
                        have hnb101 := NB355_354.out
                        have hnc101 := NB354_355.out
                        have hcz102_0 : wc.cell? ⟨gb355, 0, none⟩ = some (.int .i64 t348) := (blk_cell BK355.out 0).trans rfl
                        have hcz102_1 : wc.cell? ⟨gb355, 1, none⟩ = some (.int .i64 t349) := (blk_cell BK355.out 1).trans rfl
                        have hcz102_2 : wc.cell? ⟨gb355, 2, none⟩ = some (.int .i64 t350) := (blk_cell BK355.out 2).trans rfl
                        have hcz102_3 : wc.cell? ⟨gb355, 3, none⟩ = some (.int .i64 t351) := (blk_cell BK355.out 3).trans rfl
                        have hfz102_0 := blk_frozen BK355.out 0
                        have hfz102_1 := blk_frozen BK355.out 1
                        have hfz102_2 := blk_frozen BK355.out 2
                        have hfz102_3 := blk_frozen BK355.out 3
                        have hnb103 := NB354_336.out
                        have hnc103 := NB336_354.out
                        have hnb104 := NB354_337.out
                        have hnc104 := NB337_354.out
                        have hcz105_0 : wc.cell? ⟨gb354, 0, none⟩ = some (.int .i64 t344) := (blk_cell BK354.out 0).trans rfl
                        have hcz105_1 : wc.cell? ⟨gb354, 1, none⟩ = some (.int .i64 t345) := (blk_cell BK354.out 1).trans rfl
                        have hcz105_2 : wc.cell? ⟨gb354, 2, none⟩ = some (.int .i64 t346) := (blk_cell BK354.out 2).trans rfl
                        have hcz105_3 : wc.cell? ⟨gb354, 3, none⟩ = some (.bool t347) := (blk_cell BK354.out 3).trans rfl
                        have hfz105_0 := blk_frozen BK354.out 0
                        have hfz105_1 := blk_frozen BK354.out 1
                        have hfz105_2 := blk_frozen BK354.out 2
                        have hfz105_3 := blk_frozen BK354.out 3
                        go_wp2
                        go_meet
                        case rel => exact ⟨_, (decide (t357 < t350)), (by first | rfl | (simp; done) | (simp [*]; done)), H', ⟨by have := HJ11.out; first | omega | exact Nat.le_refl _⟩, ⟨by (with_reducible repeat (first | refine blk_drewN ?_ _ | refine blk_drew ?_ | refine blk_alloc ?_ _)); exact BK336.out⟩, ⟨by (with_reducible repeat (first | refine blk_drewN ?_ _ | refine blk_drew ?_ | refine blk_alloc ?_ _)); exact BK337.out⟩, ⟨by (with_reducible repeat (first | refine blk_drewN ?_ _ | refine blk_drew ?_ | refine blk_alloc ?_ _)); exact BK354.out⟩, ⟨by (with_reducible repeat (first | refine blk_drewN ?_ _ | refine blk_drew ?_ | refine blk_alloc ?_ _)); exact BK355.out⟩, ⟨by repeat (first | (with_reducible first | exact HB.out | apply below_alloc | apply pw_below_drewN | apply below_drew1 | refine below_set ?_ GE336.out | refine below_set ?_ GE337.out | refine below_set ?_ GE354.out | refine below_set ?_ GE355.out) | exact HB.out)⟩⟩
                · rw [if_neg c74] at H
                  have c74b0 : (t358 == 0) = false := beq_eq_false_iff_ne.mpr c74
                  have c74b1 : (t358 != 0) = true := bne_iff_ne.mpr c74
                  (first | rw [c74b0] | (simp only [i64_w, i32_w]; rw [c74b0]) | skip)
                  have H' := Aside0.mk H
                  clear H
                  go_wp2
                  go_meet
                  case rel => exact ⟨_, (false), (by first | rfl | (simp; done) | (simp [*]; done)), H', ⟨by have := HJ11.out; first | omega | exact Nat.le_refl _⟩, ⟨by (with_reducible repeat (first | refine blk_drewN ?_ _ | refine blk_drew ?_ | refine blk_alloc ?_ _)); exact BK336.out⟩, ⟨by (with_reducible repeat (first | refine blk_drewN ?_ _ | refine blk_drew ?_ | refine blk_alloc ?_ _)); exact BK337.out⟩, ⟨by (with_reducible repeat (first | refine blk_drewN ?_ _ | refine blk_drew ?_ | refine blk_alloc ?_ _)); exact BK354.out⟩, ⟨by (with_reducible repeat (first | refine blk_drewN ?_ _ | refine blk_drew ?_ | refine blk_alloc ?_ _)); exact BK355.out⟩, ⟨by repeat (first | (with_reducible first | exact HB.out | apply below_alloc | apply pw_below_drewN | apply below_drew1 | refine below_set ?_ GE336.out | refine below_set ?_ GE337.out | refine below_set ?_ GE354.out | refine below_set ?_ GE355.out) | exact HB.out)⟩⟩
            case rest =>
              as_aux_lemma =>
                clear HC73
                try clear c1
                try clear p2
                try clear c4
                try clear p6
                try clear c7
                try clear c8
                try clear c9
                try clear c10
                try clear c43
                try clear c43b0
                try clear c43b1
                try clear p64
                try clear c72
                try clear c74
                try clear c74b0
                try clear c74b1
                try clear c75
                try clear c75b0
                try clear c76
                try clear c77
                try clear c78
                try clear c80
                try clear c81
                try clear c83
                try clear c83b0
                try clear c84
                try clear c85
                try clear c86
                try clear c88
                try clear c89
                try clear c91
                try clear c91b0
                try clear c92
                try clear c93
                try clear c94
                try clear c96
                try clear c97
                try clear c99
                try clear c100
                try clear c101
                try clear c103
                try clear c104
                try clear hcz102_0
                try clear hcz102_1
                try clear hcz102_2
                try clear hcz102_3
                try clear hcz105_0
                try clear hcz105_1
                try clear hcz105_2
                try clear hcz105_3
                try clear hcz79_0
                try clear hcz79_1
                try clear hcz79_2
                try clear hcz79_3
                try clear hcz82_0
                try clear hcz82_1
                try clear hcz82_2
                try clear hcz82_3
                try clear hcz87_0
                try clear hcz87_1
                try clear hcz87_2
                try clear hcz87_3
                try clear hcz90_0
                try clear hcz90_1
                try clear hcz90_2
                try clear hcz90_3
                try clear hcz95_0
                try clear hcz95_1
                try clear hcz95_2
                try clear hcz95_3
                try clear hcz98_0
                try clear hcz98_1
                try clear hcz98_2
                try clear hcz98_3
                try clear hfz102_0
                try clear hfz102_1
                try clear hfz102_2
                try clear hfz102_3
                try clear hfz105_0
                try clear hfz105_1
                try clear hfz105_2
                try clear hfz105_3
                try clear hfz79_0
                try clear hfz79_1
                try clear hfz79_2
                try clear hfz79_3
                try clear hfz82_0
                try clear hfz82_1
                try clear hfz82_2
                try clear hfz82_3
                try clear hfz87_0
                try clear hfz87_1
                try clear hfz87_2
                try clear hfz87_3
                try clear hfz90_0
                try clear hfz90_1
                try clear hfz90_2
                try clear hfz90_3
                try clear hfz95_0
                try clear hfz95_1
                try clear hfz95_2
                try clear hfz95_3
                try clear hfz98_0
                try clear hfz98_1
                try clear hfz98_2
                try clear hfz98_3
                try clear p2
                obtain ⟨kq, x175_72, rfl, HA, HJ72, BK336, BK337, BK354, BK355, HB⟩ := hcut
                cases kq with
                | zero => exact absurd HA.out (by simp [laws_FnGrids.j1])
                | succ kj72 =>
                  have H := HA.out
                  clear HA
                  simp only [laws_FnGrids.j1] at H
                  by_cases c106 : x175_72 = true
                  · subst c106
                    have H1 : (some false) = some r := by rw [if_pos rfl] at H; exact H
                    clear H
                    have H := H1
                    clear H1
                    obtain rfl := Option.some.inj H
                    go_wp2
                    go_ret
                    exact ⟨by first | rfl | (simp [errW_none, errW_some] <;> rfl) | (simp [*, errW_none, errW_some] <;> rfl), by repeat (first | (with_reducible first | exact HB.out | apply below_alloc | apply pw_below_drewN | apply below_drew1 | refine below_set ?_ GE336.out | refine below_set ?_ GE337.out | refine below_set ?_ GE354.out | refine below_set ?_ GE355.out) | exact HB.out)⟩
                  · replace c106 := Bool.eq_false_iff.mpr c106
                    subst c106
                    have H1 : (if t340 = 0 then (if (wrap64 ((wrap64 ((wrap64 (t338 * t332)) + (wrap64 ((wrap64 (t338 - 1)) * t335)))) + (wrap64 (2 * t334)))) > t328 then (none) else (laws_FnGrids.j2 kj72 t338 t339 t362 t363 (decide ((wrap64 ((wrap64 ((wrap64 ((wrap64 (t338 + 1)) * t332)) + (wrap64 (t338 * t335)))) + (wrap64 (2 * t334)))) ≤ t328)) t328 t329 t330 t331 t332 t333 t334 t335)) else (some (t363 == t340))) = some r := by rw [if_neg (show ¬ (false = true) by decide)] at H; exact H
                    clear H
                    have H := H1
                    clear H1
                    by_cases c107 : t340 = 0
                    · rw [if_pos c107] at H
                      have c107b0 : (t340 == 0) = true := beq_iff_eq.mpr c107
                      have c107b1 : (t340 != 0) = false := bne_eq_false_iff_eq.mpr c107
                      clear c107
                      have HC108 := Aside0.mk H
                      clear H
                      go_upto_region 17 with (fail)
                      go_cut [216] (fun v216 wc => ∃ (kq : Nat) (x216_107 : Bool), v216 = .bool x216_107 ∧ Aside0 (laws_FnGrids.j2 kq t338 t339 t362 t363 x216_107 t328 t329 t330 t331 t332 t333 t334 t335 = some r) ∧ Aside0 (kq ≤ kj72) ∧ Aside0 (wc.heap[gb336]? = some (.cells #[.int .i64 t328, .int .i64 t329, .int .i64 t330, .bool t331] 39 (0, 0))) ∧ Aside0 (wc.heap[gb337]? = some (.cells #[.int .i64 t332, .int .i64 t333, .int .i64 t334, .int .i64 t335] 41 (0, 0))) ∧ Aside0 (wc.heap[gb354]? = some (.cells #[.int .i64 t344, .int .i64 t345, .int .i64 t346, .bool t347] 39 (0, 0))) ∧ Aside0 (wc.heap[gb355]? = some (.cells #[.int .i64 t348, .int .i64 t349, .int .i64 t350, .int .i64 t351] 41 (0, 0))) ∧ Aside0 (Below w.heap.size w wc))
                      case first =>
                        as_aux_lemma =>
                          have H := HC108.out
                          clear HC108
                          by_cases c109 : (wrap64 ((wrap64 ((wrap64 (t338 * t332)) + (wrap64 ((wrap64 (t338 - 1)) * t335)))) + (wrap64 (2 * t334)))) > t328
                          · rw [if_pos c109] at H
                            exact absurd H (by simp)
                          · rw [if_neg c109] at H
                            have c109b0 : decide (t328 < (wrap64 ((wrap64 ((wrap64 (t338 * t332)) + (wrap64 ((wrap64 (t338 - 1)) * t335)))) + (wrap64 (2 * t334))))) = false := decide_eq_false c109
                            clear c109
                            (first | rw [c109b0] | (simp only [i64_w, i32_w]; rw [c109b0]) | skip)
                            have H' := Aside0.mk H
                            clear H
                            have hnb117 := NB337_336.out
                            have hnc117 := NB336_337.out
                            have hnb118 := NB337_354.out
                            have hnc118 := NB354_337.out
                            have hnb119 := NB337_355.out
                            have hnc119 := NB355_337.out
                            have hcz120_0 : wc.cell? ⟨gb337, 0, none⟩ = some (.int .i64 t332) := (blk_cell BK337.out 0).trans rfl
                            have hcz120_1 : wc.cell? ⟨gb337, 1, none⟩ = some (.int .i64 t333) := (blk_cell BK337.out 1).trans rfl
                            have hcz120_2 : wc.cell? ⟨gb337, 2, none⟩ = some (.int .i64 t334) := (blk_cell BK337.out 2).trans rfl
                            have hcz120_3 : wc.cell? ⟨gb337, 3, none⟩ = some (.int .i64 t335) := (blk_cell BK337.out 3).trans rfl
                            have hfz120_0 := blk_frozen BK337.out 0
                            have hfz120_1 := blk_frozen BK337.out 1
                            have hfz120_2 := blk_frozen BK337.out 2
                            have hfz120_3 := blk_frozen BK337.out 3
                            have hnb121 := NB336_354.out
                            have hnc121 := NB354_336.out
                            have hnb122 := NB336_355.out
                            have hnc122 := NB355_336.out
                            have hcz123_0 : wc.cell? ⟨gb336, 0, none⟩ = some (.int .i64 t328) := (blk_cell BK336.out 0).trans rfl
                            have hcz123_1 : wc.cell? ⟨gb336, 1, none⟩ = some (.int .i64 t329) := (blk_cell BK336.out 1).trans rfl
                            have hcz123_2 : wc.cell? ⟨gb336, 2, none⟩ = some (.int .i64 t330) := (blk_cell BK336.out 2).trans rfl
                            have hcz123_3 : wc.cell? ⟨gb336, 3, none⟩ = some (.bool t331) := (blk_cell BK336.out 3).trans rfl
                            have hfz123_0 := blk_frozen BK336.out 0
                            have hfz123_1 := blk_frozen BK336.out 1
                            have hfz123_2 := blk_frozen BK336.out 2
                            have hfz123_3 := blk_frozen BK336.out 3
                            go_wp2
                            go_meet
                            case rel => exact ⟨_, (decide ((wrap64 ((wrap64 ((wrap64 ((wrap64 (t338 + 1)) * t332)) + (wrap64 (t338 * t335)))) + (wrap64 (2 * t334)))) ≤ t328)), (by first | rfl | (simp; done) | (simp [*]; done)), H', ⟨by have := HJ11.out; have := HJ72.out; first | omega | exact Nat.le_refl _⟩, ⟨by (with_reducible repeat (first | refine blk_drewN ?_ _ | refine blk_drew ?_ | refine blk_alloc ?_ _)); exact BK336.out⟩, ⟨by (with_reducible repeat (first | refine blk_drewN ?_ _ | refine blk_drew ?_ | refine blk_alloc ?_ _)); exact BK337.out⟩, ⟨by (with_reducible repeat (first | refine blk_drewN ?_ _ | refine blk_drew ?_ | refine blk_alloc ?_ _)); exact BK354.out⟩, ⟨by (with_reducible repeat (first | refine blk_drewN ?_ _ | refine blk_drew ?_ | refine blk_alloc ?_ _)); exact BK355.out⟩, ⟨by repeat (first | (with_reducible first | exact HB.out | apply below_alloc | apply pw_below_drewN | apply below_drew1 | refine below_set ?_ GE336.out | refine below_set ?_ GE337.out | refine below_set ?_ GE354.out | refine below_set ?_ GE355.out) | exact HB.out)⟩⟩
                      case rest =>
                        as_aux_lemma =>
                          clear HC108
                          try clear c1
                          try clear p2
                          try clear c4
                          try clear p6
                          try clear c7
                          try clear c8
                          try clear c9
                          try clear c10
                          try clear c11
                          try clear c12
                          try clear c43
                          try clear c43b0
                          try clear c43b1
                          try clear p64
                          try clear c72
                          try clear c74
                          try clear c74b0
                          try clear c74b1
                          try clear c75
                          try clear c75b0
                          try clear c76
                          try clear c77
                          try clear c78
                          try clear c80
                          try clear c81
                          try clear c83
                          try clear c83b0
                          try clear c84
                          try clear c85
                          try clear c86
                          try clear c88
                          try clear c89
                          try clear c91
                          try clear c91b0
                          try clear c92
                          try clear c93
                          try clear c94
                          try clear c96
                          try clear c97
                          try clear c99
                          try clear c100
                          try clear c101
                          try clear c103
                          try clear c104
                          try clear c106
                          try clear c107
                          try clear c107b0
                          try clear c107b1
                          try clear c109
                          try clear c109b0
                          try clear c110
                          try clear c111
                          try clear c112
                          try clear c114
                          try clear c115
                          try clear c117
                          try clear c118
                          try clear c119
                          try clear c121
                          try clear c122
                          try clear hcz102_0
                          try clear hcz102_1
                          try clear hcz102_2
                          try clear hcz102_3
                          try clear hcz105_0
                          try clear hcz105_1
                          try clear hcz105_2
                          try clear hcz105_3
                          try clear hcz113_0
                          try clear hcz113_1
                          try clear hcz113_2
                          try clear hcz113_3
                          try clear hcz116_0
                          try clear hcz116_1
                          try clear hcz116_2
                          try clear hcz116_3
                          try clear hcz120_0
                          try clear hcz120_1
                          try clear hcz120_2
                          try clear hcz120_3
                          try clear hcz123_0
                          try clear hcz123_1
                          try clear hcz123_2
                          try clear hcz123_3
                          try clear hcz79_0
                          try clear hcz79_1
                          try clear hcz79_2
                          try clear hcz79_3
                          try clear hcz82_0
                          try clear hcz82_1
                          try clear hcz82_2
                          try clear hcz82_3
                          try clear hcz87_0
                          try clear hcz87_1
                          try clear hcz87_2
                          try clear hcz87_3
                          try clear hcz90_0
                          try clear hcz90_1
                          try clear hcz90_2
                          try clear hcz90_3
                          try clear hcz95_0
                          try clear hcz95_1
                          try clear hcz95_2
                          try clear hcz95_3
                          try clear hcz98_0
                          try clear hcz98_1
                          try clear hcz98_2
                          try clear hcz98_3
                          try clear hfz102_0
                          try clear hfz102_1
                          try clear hfz102_2
                          try clear hfz102_3
                          try clear hfz105_0
                          try clear hfz105_1
                          try clear hfz105_2
                          try clear hfz105_3
                          try clear hfz113_0
                          try clear hfz113_1
                          try clear hfz113_2
                          try clear hfz113_3
                          try clear hfz116_0
                          try clear hfz116_1
                          try clear hfz116_2
                          try clear hfz116_3
                          try clear hfz120_0
                          try clear hfz120_1
                          try clear hfz120_2
                          try clear hfz120_3
                          try clear hfz123_0
                          try clear hfz123_1
                          try clear hfz123_2
                          try clear hfz123_3
                          try clear hfz79_0
                          try clear hfz79_1
                          try clear hfz79_2
                          try clear hfz79_3
                          try clear hfz82_0
                          try clear hfz82_1
                          try clear hfz82_2
                          try clear hfz82_3
                          try clear hfz87_0
                          try clear hfz87_1
                          try clear hfz87_2
                          try clear hfz87_3
                          try clear hfz90_0
                          try clear hfz90_1
                          try clear hfz90_2
                          try clear hfz90_3
                          try clear hfz95_0
                          try clear hfz95_1
                          try clear hfz95_2
                          try clear hfz95_3
                          try clear hfz98_0
                          try clear hfz98_1
                          try clear hfz98_2
                          try clear hfz98_3
                          try clear p2
                          try clear p6
                          try clear p64
                          obtain ⟨kq, x216_107, rfl, HA, HJ107, BK336, BK337, BK354, BK355, HB⟩ := hcut
                          cases kq with
                          | zero => exact absurd HA.out (by simp [laws_FnGrids.j2])
                          | succ kj107 =>
                            have H := HA.out
                            clear HA
                            simp only [laws_FnGrids.j2] at H
                            by_cases c124 : x216_107 = true
                            · subst c124
                              have H1 : (some false) = some r := by rw [if_pos rfl] at H; exact H
                              clear H
                              have H := H1
                              clear H1
                              obtain rfl := Option.some.inj H
                              go_wp2
                              go_ret
                              exact ⟨by first | rfl | (simp [errW_none, errW_some] <;> rfl) | (simp [*, errW_none, errW_some] <;> rfl), by repeat (first | (with_reducible first | exact HB.out | apply below_alloc | apply pw_below_drewN | apply below_drew1 | refine below_set ?_ GE336.out | refine below_set ?_ GE337.out | refine below_set ?_ GE354.out | refine below_set ?_ GE355.out) | exact HB.out)⟩
                            · replace c124 := Bool.eq_false_iff.mpr c124
                              subst c124
                              have H1 : (if (wrap64 ((wrap64 ((wrap64 (t339 * t333)) + (wrap64 ((wrap64 (t339 - 1)) * t335)))) + (wrap64 (2 * t334)))) > (wrap64 (t329 - t330)) then (some false) else (if (wrap64 ((wrap64 ((wrap64 ((wrap64 (t339 + 1)) * t333)) + (wrap64 (t339 * t335)))) + (wrap64 (2 * t334)))) ≤ (wrap64 (t329 - t330)) then (some false) else (if t363 = 0 then (if t362 = (wrap64 ((wrap64 (t328 * t329)) - (wrap64 ((wrap64 ((wrap64 (t338 * t339)) * t332)) * t333)))) then (some (decide (t362 ≥ 0))) else (some false)) else (some false)))) = some r := by rw [if_neg (show ¬ (false = true) by decide)] at H; exact H
                              clear H
                              have H := H1
                              clear H1
                              by_cases c125 : (wrap64 ((wrap64 ((wrap64 (t339 * t333)) + (wrap64 ((wrap64 (t339 - 1)) * t335)))) + (wrap64 (2 * t334)))) > (wrap64 (t329 - t330))
                              · rw [if_pos c125] at H
                                have c125b0 : decide ((wrap64 (t329 - t330)) < (wrap64 ((wrap64 ((wrap64 (t339 * t333)) + (wrap64 ((wrap64 (t339 - 1)) * t335)))) + (wrap64 (2 * t334))))) = true := decide_eq_true c125
                                clear c125
                                obtain rfl := Option.some.inj H
                                have hnb126 := NB337_336.out
                                have hnc126 := NB336_337.out
                                have hnb127 := NB337_354.out
                                have hnc127 := NB354_337.out
                                have hnb128 := NB337_355.out
                                have hnc128 := NB355_337.out
                                have hcz129_0 : wc.cell? ⟨gb337, 0, none⟩ = some (.int .i64 t332) := (blk_cell BK337.out 0).trans rfl
                                have hcz129_1 : wc.cell? ⟨gb337, 1, none⟩ = some (.int .i64 t333) := (blk_cell BK337.out 1).trans rfl
                                have hcz129_2 : wc.cell? ⟨gb337, 2, none⟩ = some (.int .i64 t334) := (blk_cell BK337.out 2).trans rfl
                                have hcz129_3 : wc.cell? ⟨gb337, 3, none⟩ = some (.int .i64 t335) := (blk_cell BK337.out 3).trans rfl
                                have hfz129_0 := blk_frozen BK337.out 0
                                have hfz129_1 := blk_frozen BK337.out 1
                                have hfz129_2 := blk_frozen BK337.out 2
                                have hfz129_3 := blk_frozen BK337.out 3
                                have hnb130 := NB336_354.out
                                have hnc130 := NB354_336.out
                                have hnb131 := NB336_355.out
                                have hnc131 := NB355_336.out
                                have hcz132_0 : wc.cell? ⟨gb336, 0, none⟩ = some (.int .i64 t328) := (blk_cell BK336.out 0).trans rfl
                                have hcz132_1 : wc.cell? ⟨gb336, 1, none⟩ = some (.int .i64 t329) := (blk_cell BK336.out 1).trans rfl
                                have hcz132_2 : wc.cell? ⟨gb336, 2, none⟩ = some (.int .i64 t330) := (blk_cell BK336.out 2).trans rfl
                                have hcz132_3 : wc.cell? ⟨gb336, 3, none⟩ = some (.bool t331) := (blk_cell BK336.out 3).trans rfl
                                have hfz132_0 := blk_frozen BK336.out 0
                                have hfz132_1 := blk_frozen BK336.out 1
                                have hfz132_2 := blk_frozen BK336.out 2
                                have hfz132_3 := blk_frozen BK336.out 3
                                go_wp2
                                go_ret
                                exact ⟨by first | rfl | (simp [errW_none, errW_some] <;> rfl) | (simp [*, errW_none, errW_some] <;> rfl), by repeat (first | (with_reducible first | exact HB.out | apply below_alloc | apply pw_below_drewN | apply below_drew1 | refine below_set ?_ GE336.out | refine below_set ?_ GE337.out | refine below_set ?_ GE354.out | refine below_set ?_ GE355.out) | exact HB.out)⟩
                              · rw [if_neg c125] at H
                                have c125b0 : decide ((wrap64 (t329 - t330)) < (wrap64 ((wrap64 ((wrap64 (t339 * t333)) + (wrap64 ((wrap64 (t339 - 1)) * t335)))) + (wrap64 (2 * t334))))) = false := decide_eq_false c125
                                clear c125
                                by_cases c133 : (wrap64 ((wrap64 ((wrap64 ((wrap64 (t339 + 1)) * t333)) + (wrap64 (t339 * t335)))) + (wrap64 (2 * t334)))) ≤ (wrap64 (t329 - t330))
                                · rw [if_pos c133] at H
                                  have c133b0 : decide ((wrap64 ((wrap64 ((wrap64 ((wrap64 (t339 + 1)) * t333)) + (wrap64 (t339 * t335)))) + (wrap64 (2 * t334)))) ≤ (wrap64 (t329 - t330))) = true := decide_eq_true c133
                                  clear c133
                                  obtain rfl := Option.some.inj H
                                  have hnb134 := NB337_336.out
                                  have hnc134 := NB336_337.out
                                  have hnb135 := NB337_354.out
                                  have hnc135 := NB354_337.out
                                  have hnb136 := NB337_355.out
                                  have hnc136 := NB355_337.out
                                  have hcz137_0 : wc.cell? ⟨gb337, 0, none⟩ = some (.int .i64 t332) := (blk_cell BK337.out 0).trans rfl
                                  have hcz137_1 : wc.cell? ⟨gb337, 1, none⟩ = some (.int .i64 t333) := (blk_cell BK337.out 1).trans rfl
                                  have hcz137_2 : wc.cell? ⟨gb337, 2, none⟩ = some (.int .i64 t334) := (blk_cell BK337.out 2).trans rfl
                                  have hcz137_3 : wc.cell? ⟨gb337, 3, none⟩ = some (.int .i64 t335) := (blk_cell BK337.out 3).trans rfl
                                  have hfz137_0 := blk_frozen BK337.out 0
                                  have hfz137_1 := blk_frozen BK337.out 1
                                  have hfz137_2 := blk_frozen BK337.out 2
                                  have hfz137_3 := blk_frozen BK337.out 3
                                  have hnb138 := NB336_354.out
                                  have hnc138 := NB354_336.out
                                  have hnb139 := NB336_355.out
                                  have hnc139 := NB355_336.out
                                  have hcz140_0 : wc.cell? ⟨gb336, 0, none⟩ = some (.int .i64 t328) := (blk_cell BK336.out 0).trans rfl
                                  have hcz140_1 : wc.cell? ⟨gb336, 1, none⟩ = some (.int .i64 t329) := (blk_cell BK336.out 1).trans rfl
                                  have hcz140_2 : wc.cell? ⟨gb336, 2, none⟩ = some (.int .i64 t330) := (blk_cell BK336.out 2).trans rfl
                                  have hcz140_3 : wc.cell? ⟨gb336, 3, none⟩ = some (.bool t331) := (blk_cell BK336.out 3).trans rfl
                                  have hfz140_0 := blk_frozen BK336.out 0
                                  have hfz140_1 := blk_frozen BK336.out 1
                                  have hfz140_2 := blk_frozen BK336.out 2
                                  have hfz140_3 := blk_frozen BK336.out 3
                                  go_wp2
                                  go_ret
                                  exact ⟨by first | rfl | (simp [errW_none, errW_some] <;> rfl) | (simp [*, errW_none, errW_some] <;> rfl), by repeat (first | (with_reducible first | exact HB.out | apply below_alloc | apply pw_below_drewN | apply below_drew1 | refine below_set ?_ GE336.out | refine below_set ?_ GE337.out | refine below_set ?_ GE354.out | refine below_set ?_ GE355.out) | exact HB.out)⟩
                                · rw [if_neg c133] at H
                                  have c133b0 : decide ((wrap64 ((wrap64 ((wrap64 ((wrap64 (t339 + 1)) * t333)) + (wrap64 (t339 * t335)))) + (wrap64 (2 * t334)))) ≤ (wrap64 (t329 - t330))) = false := decide_eq_false c133
                                  clear c133
                                  by_cases c141 : t363 = 0
                                  · rw [if_pos c141] at H
                                    have c141b0 : (t363 == 0) = true := beq_iff_eq.mpr c141
                                    have c141b1 : (t363 != 0) = false := bne_eq_false_iff_eq.mpr c141
                                    clear c141
                                    by_cases c142 : t362 = (wrap64 ((wrap64 (t328 * t329)) - (wrap64 ((wrap64 ((wrap64 (t338 * t339)) * t332)) * t333))))
                                    · rw [if_pos c142] at H
                                      have c142b0 : (t362 == (wrap64 ((wrap64 (t328 * t329)) - (wrap64 ((wrap64 ((wrap64 (t338 * t339)) * t332)) * t333))))) = true := beq_iff_eq.mpr c142
                                      have c142b1 : (t362 != (wrap64 ((wrap64 (t328 * t329)) - (wrap64 ((wrap64 ((wrap64 (t338 * t339)) * t332)) * t333))))) = false := bne_eq_false_iff_eq.mpr c142
                                      clear c142
                                      obtain rfl := Option.some.inj H
                                      have hnb143 := NB337_336.out
                                      have hnc143 := NB336_337.out
                                      have hnb144 := NB337_354.out
                                      have hnc144 := NB354_337.out
                                      have hnb145 := NB337_355.out
                                      have hnc145 := NB355_337.out
                                      have hcz146_0 : wc.cell? ⟨gb337, 0, none⟩ = some (.int .i64 t332) := (blk_cell BK337.out 0).trans rfl
                                      have hcz146_1 : wc.cell? ⟨gb337, 1, none⟩ = some (.int .i64 t333) := (blk_cell BK337.out 1).trans rfl
                                      have hcz146_2 : wc.cell? ⟨gb337, 2, none⟩ = some (.int .i64 t334) := (blk_cell BK337.out 2).trans rfl
                                      have hcz146_3 : wc.cell? ⟨gb337, 3, none⟩ = some (.int .i64 t335) := (blk_cell BK337.out 3).trans rfl
                                      have hfz146_0 := blk_frozen BK337.out 0
                                      have hfz146_1 := blk_frozen BK337.out 1
                                      have hfz146_2 := blk_frozen BK337.out 2
                                      have hfz146_3 := blk_frozen BK337.out 3
                                      have hnb147 := NB336_354.out
                                      have hnc147 := NB354_336.out
                                      have hnb148 := NB336_355.out
                                      have hnc148 := NB355_336.out
                                      have hcz149_0 : wc.cell? ⟨gb336, 0, none⟩ = some (.int .i64 t328) := (blk_cell BK336.out 0).trans rfl
                                      have hcz149_1 : wc.cell? ⟨gb336, 1, none⟩ = some (.int .i64 t329) := (blk_cell BK336.out 1).trans rfl
                                      have hcz149_2 : wc.cell? ⟨gb336, 2, none⟩ = some (.int .i64 t330) := (blk_cell BK336.out 2).trans rfl
                                      have hcz149_3 : wc.cell? ⟨gb336, 3, none⟩ = some (.bool t331) := (blk_cell BK336.out 3).trans rfl
                                      have hfz149_0 := blk_frozen BK336.out 0
                                      have hfz149_1 := blk_frozen BK336.out 1
                                      have hfz149_2 := blk_frozen BK336.out 2
                                      have hfz149_3 := blk_frozen BK336.out 3
                                      go_wp2
                                      go_ret
                                      exact ⟨by first | rfl | (simp [errW_none, errW_some] <;> rfl) | (simp [*, errW_none, errW_some] <;> rfl), by repeat (first | (with_reducible first | exact HB.out | apply below_alloc | apply pw_below_drewN | apply below_drew1 | refine below_set ?_ GE336.out | refine below_set ?_ GE337.out | refine below_set ?_ GE354.out | refine below_set ?_ GE355.out) | exact HB.out)⟩
                                    · rw [if_neg c142] at H
                                      have c142b0 : (t362 == (wrap64 ((wrap64 (t328 * t329)) - (wrap64 ((wrap64 ((wrap64 (t338 * t339)) * t332)) * t333))))) = false := beq_eq_false_iff_ne.mpr c142
                                      have c142b1 : (t362 != (wrap64 ((wrap64 (t328 * t329)) - (wrap64 ((wrap64 ((wrap64 (t338 * t339)) * t332)) * t333))))) = true := bne_iff_ne.mpr c142
                                      obtain rfl := Option.some.inj H
                                      have hnb150 := NB337_336.out
                                      have hnc150 := NB336_337.out
                                      have hnb151 := NB337_354.out
                                      have hnc151 := NB354_337.out
                                      have hnb152 := NB337_355.out
                                      have hnc152 := NB355_337.out
                                      have hcz153_0 : wc.cell? ⟨gb337, 0, none⟩ = some (.int .i64 t332) := (blk_cell BK337.out 0).trans rfl
                                      have hcz153_1 : wc.cell? ⟨gb337, 1, none⟩ = some (.int .i64 t333) := (blk_cell BK337.out 1).trans rfl
                                      have hcz153_2 : wc.cell? ⟨gb337, 2, none⟩ = some (.int .i64 t334) := (blk_cell BK337.out 2).trans rfl
                                      have hcz153_3 : wc.cell? ⟨gb337, 3, none⟩ = some (.int .i64 t335) := (blk_cell BK337.out 3).trans rfl
                                      have hfz153_0 := blk_frozen BK337.out 0
                                      have hfz153_1 := blk_frozen BK337.out 1
                                      have hfz153_2 := blk_frozen BK337.out 2
                                      have hfz153_3 := blk_frozen BK337.out 3
                                      have hnb154 := NB336_354.out
                                      have hnc154 := NB354_336.out
                                      have hnb155 := NB336_355.out
                                      have hnc155 := NB355_336.out
                                      have hcz156_0 : wc.cell? ⟨gb336, 0, none⟩ = some (.int .i64 t328) := (blk_cell BK336.out 0).trans rfl
                                      have hcz156_1 : wc.cell? ⟨gb336, 1, none⟩ = some (.int .i64 t329) := (blk_cell BK336.out 1).trans rfl
                                      have hcz156_2 : wc.cell? ⟨gb336, 2, none⟩ = some (.int .i64 t330) := (blk_cell BK336.out 2).trans rfl
                                      have hcz156_3 : wc.cell? ⟨gb336, 3, none⟩ = some (.bool t331) := (blk_cell BK336.out 3).trans rfl
                                      have hfz156_0 := blk_frozen BK336.out 0
                                      have hfz156_1 := blk_frozen BK336.out 1
                                      have hfz156_2 := blk_frozen BK336.out 2
                                      have hfz156_3 := blk_frozen BK336.out 3
                                      go_wp2
                                      go_ret
                                      exact ⟨by first | rfl | (simp [errW_none, errW_some] <;> rfl) | (simp [*, errW_none, errW_some] <;> rfl), by repeat (first | (with_reducible first | exact HB.out | apply below_alloc | apply pw_below_drewN | apply below_drew1 | refine below_set ?_ GE336.out | refine below_set ?_ GE337.out | refine below_set ?_ GE354.out | refine below_set ?_ GE355.out) | exact HB.out)⟩
                                  · rw [if_neg c141] at H
                                    have c141b0 : (t363 == 0) = false := beq_eq_false_iff_ne.mpr c141
                                    have c141b1 : (t363 != 0) = true := bne_iff_ne.mpr c141
                                    obtain rfl := Option.some.inj H
                                    have hnb157 := NB337_336.out
                                    have hnc157 := NB336_337.out
                                    have hnb158 := NB337_354.out
                                    have hnc158 := NB354_337.out
                                    have hnb159 := NB337_355.out
                                    have hnc159 := NB355_337.out
                                    have hcz160_0 : wc.cell? ⟨gb337, 0, none⟩ = some (.int .i64 t332) := (blk_cell BK337.out 0).trans rfl
                                    have hcz160_1 : wc.cell? ⟨gb337, 1, none⟩ = some (.int .i64 t333) := (blk_cell BK337.out 1).trans rfl
                                    have hcz160_2 : wc.cell? ⟨gb337, 2, none⟩ = some (.int .i64 t334) := (blk_cell BK337.out 2).trans rfl
                                    have hcz160_3 : wc.cell? ⟨gb337, 3, none⟩ = some (.int .i64 t335) := (blk_cell BK337.out 3).trans rfl
                                    have hfz160_0 := blk_frozen BK337.out 0
                                    have hfz160_1 := blk_frozen BK337.out 1
                                    have hfz160_2 := blk_frozen BK337.out 2
                                    have hfz160_3 := blk_frozen BK337.out 3
                                    have hnb161 := NB336_354.out
                                    have hnc161 := NB354_336.out
                                    have hnb162 := NB336_355.out
                                    have hnc162 := NB355_336.out
                                    have hcz163_0 : wc.cell? ⟨gb336, 0, none⟩ = some (.int .i64 t328) := (blk_cell BK336.out 0).trans rfl
                                    have hcz163_1 : wc.cell? ⟨gb336, 1, none⟩ = some (.int .i64 t329) := (blk_cell BK336.out 1).trans rfl
                                    have hcz163_2 : wc.cell? ⟨gb336, 2, none⟩ = some (.int .i64 t330) := (blk_cell BK336.out 2).trans rfl
                                    have hcz163_3 : wc.cell? ⟨gb336, 3, none⟩ = some (.bool t331) := (blk_cell BK336.out 3).trans rfl
                                    have hfz163_0 := blk_frozen BK336.out 0
                                    have hfz163_1 := blk_frozen BK336.out 1
                                    have hfz163_2 := blk_frozen BK336.out 2
                                    have hfz163_3 := blk_frozen BK336.out 3
                                    go_wp2
                                    go_ret
                                    exact ⟨by first | rfl | (simp [errW_none, errW_some] <;> rfl) | (simp [*, errW_none, errW_some] <;> rfl), by repeat (first | (with_reducible first | exact HB.out | apply below_alloc | apply pw_below_drewN | apply below_drew1 | refine below_set ?_ GE336.out | refine below_set ?_ GE337.out | refine below_set ?_ GE354.out | refine below_set ?_ GE355.out) | exact HB.out)⟩
                    · rw [if_neg c107] at H
                      have c107b0 : (t340 == 0) = false := beq_eq_false_iff_ne.mpr c107
                      have c107b1 : (t340 != 0) = true := bne_iff_ne.mpr c107
                      obtain rfl := Option.some.inj H
                      go_wp2
                      go_ret
                      exact ⟨by first | rfl | (simp [errW_none, errW_some] <;> rfl) | (simp [*, errW_none, errW_some] <;> rfl), by repeat (first | (with_reducible first | exact HB.out | apply below_alloc | apply pw_below_drewN | apply below_drew1 | refine below_set ?_ GE336.out | refine below_set ?_ GE337.out | refine below_set ?_ GE354.out | refine below_set ?_ GE355.out) | exact HB.out)⟩

/-- THE ONE PURE STATEMENT of laws_FnGrids: yours. -/
def laws_FnGrids.Pure : Prop := ∀ (l0 : List Int), l0.length ≤ maxLen → l0.length * 1 ≤ 140737488351232 → (∀ x ∈ l0, (Lit.int .u8 x).wf = true) → ∃ k, laws_FnGrids.f k l0 = some true
theorem laws_FnGrids.walk (P : laws_FnGrids.Pure) (a0 : Option Addr) (len0 cap0 : Nat) (z0 : List Int) (w : World) (w0 : (a0 = none ∧ len0 = 0 ∧ cap0 = 0 ∧ z0 = []) ∨ ∃ x, a0 = some x ∧ len0 ≤ cap0 ∧ cap0 ≤ maxLen ∧ z0.length = cap0 ∧ (∀ i, i < z0.length → w.cell? (x.add i) = some (.int .u8 (z0.getD i 0))) ∧ ∀ n ∈ z0, (Lit.int .u8 n).wf = true) (y0 : len0 * 1 ≤ 140737488351232) :
    Calls Try.prog 6 #[.slice a0 len0 cap0] w fun e w' => e = .returned (.bool true) ∧ Below w.heap.size w w' := by
  obtain ⟨l0, rfl, hr0, hm0, hw0, hc0⟩ := ReadsInt.ofRowC w0
  obtain ⟨k, h⟩ := P l0 hm0 y0 hw0
  refine (laws_FnGrids.calls k _ _ l0 true w (Kd.C_of_reads (d := (0 : Int)) (h1 := fun _ => rfl) hr0) hc0 h).mono ?_
  rintro e w' ⟨rfl, hd⟩
  exact ⟨rfl, hd⟩

end Go.Proofs.Ythapadejldlmfaa.PFnGrids
