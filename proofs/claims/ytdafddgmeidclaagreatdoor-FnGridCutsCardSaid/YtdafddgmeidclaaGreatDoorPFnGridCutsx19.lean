-- Written by wip/inject.py: a contract of each function that the law reaches; those of the stand-ins are proved in this seat's Hand texts
import Derived.Test.YtdafddgmeidclaaGreatDoorPFnGridCutsx0
import Derived.Test.YtdafddgmeidclaaGreatDoorPFnGridCutsx3
import Derived.Test.YtdafddgmeidclaaGreatDoorPFnGridCutsx4
import Derived.Test.YtdafddgmeidclaaGreatDoorPFnGridCutsx5
import Derived.Test.YtdafddgmeidclaaGreatDoorPFnGridCutsx6
import Derived.Test.YtdafddgmeidclaaGreatDoorPFnGridCutsx9
import Derived.Test.YtdafddgmeidclaaGreatDoorPFnGridCutsx10
import Derived.Test.YtdafddgmeidclaaGreatDoorPFnGridCutsx11
import Derived.Test.YtdafddgmeidclaaGreatDoorPFnGridCutsx12
import Derived.Test.YtdafddgmeidclaaGreatDoorPFnGridCutsx13
import Derived.Test.YtdafddgmeidclaaGreatDoorPFnGridCutsx15
import Derived.Test.YtdafddgmeidclaaGreatDoorPFnGridCutsx18
namespace Go.Proofs.YtdafddgmeidclaaGreatDoor.PFnGridCuts
open Go.RowKit Go.Proofs.YtdafddgmeidclaaGreatDoorW.PrintWords Go.Proofs.YtdafddgmeidclaaGreatDoorW.PrintLast Go.Proofs.YtdafddgmeidclaaGreatDoorW.PrintMore
attribute [local go_sem] max2_int min2_int max_two min_two max_three min_three max_four min_four   -- for this text's walks alone
set_option linter.unusedVariables false
set_option linter.unusedSimpArgs false

/-! ### laws_FnGridCuts: function 3 -/
mutual
def laws_FnGridCuts.j0 : Nat → Int → Int → List (S50) → Int → List (S50) → ByteArray → Bool → Int → Int → Int → Int → Option (Bool)
 | 0, _, _, _, _, _, _, _, _, _, _, _ => none
 | k + 1, x4, x5, x7, x8, x11, x12, x99, x556000, x556001, x557000, x557001 => if x99 = true then (none) else (if x12.toList = ([] : List UInt8) then (laws_FnGridCuts.j1 k x4 x5 x7 x8 x556000 x556001 x557000 x557001) else ((impl_ReadProgram.f k x12).bind fun bt582 => (if bt582.2 = true then ((laws_likeCuts9.f k bt582.1 x11).bind fun t586 => (if t586 = true then (laws_FnGridCuts.j1 k x4 x5 x7 x8 x556000 x556001 x557000 x557001) else (none))) else (none))))
def laws_FnGridCuts.j1 : Nat → Int → Int → List (S50) → Int → Int → Int → Int → Int → Option (Bool)
 | 0, _, _, _, _, _, _, _, _ => none
 | k + 1, x4, x5, x7, x8, x556000, x556001, x557000, x557001 => if x8 = 0 then ((impl_RunCuts.f k x556000 x556001 x7).bind fun bt587 => ((impl_CountPieces.f k bt587.1 x557000 x557001).bind fun bt591 => (if bt587.2 = 0 then (if bt591.2 = 0 then (some (decide (bt591.1 ≥ (wrap64 (x4 * x5))))) else (none)) else (none)))) else (some true)
end
def laws_FnGridCuts.f (k : Nat) (l0 : List Int) : Option (Bool) := (laws_big.f l0).bind fun t548 => (if t548 = true then (some true) else ((spec_DrawGridCuts.f k l0).bind fun bt549 => ((impl_GridCuts.f k bt549.1 bt549.2.1 bt549.2.2.1 bt549.2.2.2.1 bt549.2.2.2.2.1 bt549.2.2.2.2.2).bind fun bt557 => ((spec_GridCuts.f k bt549.1 bt549.2.1 bt549.2.2.1 bt549.2.2.2.1 bt549.2.2.2.2.1 bt549.2.2.2.2.2).bind fun bt561 => ((spec_DrawProgramText.f k l0).bind fun t565 => ((impl_ProgramText.f k t565).bind fun t568 => ((spec_DrawReadProgram.f k l0).bind fun t569 => ((impl_ReadProgram.f k t569).bind fun bt570 => ((spec_ReadProgram.f k t569).bind fun bt574 => (if bt557.2 = bt561.2 then ((laws_likeCuts9.f k bt557.1 bt561.1).bind fun t578 => (if t578 = true then ((spec_ProgramText.f k t565).bind fun t579 => (if t568.toList = t579.toList then (if (bt570.2 != bt574.2) = true then (none) else ((laws_likeCuts9.f k bt570.1 bt574.1).bind fun t580 => (if t580 = true then (if bt570.2 = true then ((impl_ProgramText.f k bt570.1).bind fun t581 => (laws_FnGridCuts.j0 k bt549.2.2.1 bt549.2.2.2.1 bt557.1 bt557.2 t565 t568 (t581.toList != t569.toList) bt549.1 bt549.2.1 bt549.2.2.2.2.1 bt549.2.2.2.2.2)) else (laws_FnGridCuts.j0 k bt549.2.2.1 bt549.2.2.2.1 bt557.1 bt557.2 t565 t568 false bt549.1 bt549.2.1 bt549.2.2.2.2.1 bt549.2.2.2.2.2)) else (none)))) else (none))) else (none))) else (none)))))))))))
theorem laws_FnGridCuts.mono_l : ∀ k, (∀ y0 y1 y2 y3 y4 y5 y6 y7 y8 y9 y10, LeO (laws_FnGridCuts.j0 k y0 y1 y2 y3 y4 y5 y6 y7 y8 y9 y10) (laws_FnGridCuts.j0 (k + 1) y0 y1 y2 y3 y4 y5 y6 y7 y8 y9 y10)) ∧ (∀ y0 y1 y2 y3 y4 y5 y6 y7, LeO (laws_FnGridCuts.j1 k y0 y1 y2 y3 y4 y5 y6 y7) (laws_FnGridCuts.j1 (k + 1) y0 y1 y2 y3 y4 y5 y6 y7))
 | 0 => ⟨fun _ _ _ _ _ _ _ _ _ _ _ r h => by simp [laws_FnGridCuts.j0] at h, fun _ _ _ _ _ _ _ _ r h => by simp [laws_FnGridCuts.j1] at h⟩
 | k + 1 => by
  obtain ⟨ih0, ih1⟩ := laws_FnGridCuts.mono_l k
  refine ⟨?_, ?_⟩
  ·intro y0 y1 y2 y3 y4 y5 y6 y7 y8 y9 y10
   unfold laws_FnGridCuts.j0
   repeat' first
   | (with_reducible exact ih0 _ _ _ _ _ _ _ _ _ _ _)
   | (with_reducible exact ih1 _ _ _ _ _ _ _ _)
   | (with_reducible exact impl_CountPieces.mono _ _ _ _)
   | (with_reducible exact impl_GridCuts.mono _ _ _ _ _ _ _)
   | (with_reducible exact impl_ProgramText.mono _ _)
   | (with_reducible exact impl_ReadProgram.mono _ _)
   | (with_reducible exact impl_RunCuts.mono _ _ _ _)
   | (with_reducible exact laws_likeCuts9.mono _ _ _)
   | (with_reducible exact spec_DrawGridCuts.mono _ _)
   | (with_reducible exact spec_DrawProgramText.mono _ _)
   | (with_reducible exact spec_DrawReadProgram.mono _ _)
   | (with_reducible exact spec_GridCuts.mono _ _ _ _ _ _ _)
   | (with_reducible exact spec_ProgramText.mono _ _)
   | (with_reducible exact spec_ReadProgram.mono _ _)
   | (with_reducible exact LeO.refl _)
   | (with_reducible exact LeO.none _)
   | (with_reducible refine LeO.ite ?_ ?_)
   | (with_reducible refine LeO.bind ?_ (fun _ => ?_))
   | exact ih0 _ _ _ _ _ _ _ _ _ _ _
   | exact ih1 _ _ _ _ _ _ _ _
   | exact impl_CountPieces.mono _ _ _ _
   | exact impl_GridCuts.mono _ _ _ _ _ _ _
   | exact impl_ProgramText.mono _ _
   | exact impl_ReadProgram.mono _ _
   | exact impl_RunCuts.mono _ _ _ _
   | exact laws_likeCuts9.mono _ _ _
   | exact spec_DrawGridCuts.mono _ _
   | exact spec_DrawProgramText.mono _ _
   | exact spec_DrawReadProgram.mono _ _
   | exact spec_GridCuts.mono _ _ _ _ _ _ _
   | exact spec_ProgramText.mono _ _
   | exact spec_ReadProgram.mono _ _
   | exact LeO.none _
   | refine LeO.ite ?_ ?_
   | refine LeO.bind ?_ (fun _ => ?_)
  ·intro y0 y1 y2 y3 y4 y5 y6 y7
   unfold laws_FnGridCuts.j1
   repeat' first
   | (with_reducible exact ih0 _ _ _ _ _ _ _ _ _ _ _)
   | (with_reducible exact ih1 _ _ _ _ _ _ _ _)
   | (with_reducible exact impl_CountPieces.mono _ _ _ _)
   | (with_reducible exact impl_GridCuts.mono _ _ _ _ _ _ _)
   | (with_reducible exact impl_ProgramText.mono _ _)
   | (with_reducible exact impl_ReadProgram.mono _ _)
   | (with_reducible exact impl_RunCuts.mono _ _ _ _)
   | (with_reducible exact laws_likeCuts9.mono _ _ _)
   | (with_reducible exact spec_DrawGridCuts.mono _ _)
   | (with_reducible exact spec_DrawProgramText.mono _ _)
   | (with_reducible exact spec_DrawReadProgram.mono _ _)
   | (with_reducible exact spec_GridCuts.mono _ _ _ _ _ _ _)
   | (with_reducible exact spec_ProgramText.mono _ _)
   | (with_reducible exact spec_ReadProgram.mono _ _)
   | (with_reducible exact LeO.refl _)
   | (with_reducible exact LeO.none _)
   | (with_reducible refine LeO.ite ?_ ?_)
   | (with_reducible refine LeO.bind ?_ (fun _ => ?_))
   | exact ih0 _ _ _ _ _ _ _ _ _ _ _
   | exact ih1 _ _ _ _ _ _ _ _
   | exact impl_CountPieces.mono _ _ _ _
   | exact impl_GridCuts.mono _ _ _ _ _ _ _
   | exact impl_ProgramText.mono _ _
   | exact impl_ReadProgram.mono _ _
   | exact impl_RunCuts.mono _ _ _ _
   | exact laws_likeCuts9.mono _ _ _
   | exact spec_DrawGridCuts.mono _ _
   | exact spec_DrawProgramText.mono _ _
   | exact spec_DrawReadProgram.mono _ _
   | exact spec_GridCuts.mono _ _ _ _ _ _ _
   | exact spec_ProgramText.mono _ _
   | exact spec_ReadProgram.mono _ _
   | exact LeO.none _
   | refine LeO.ite ?_ ?_
   | refine LeO.bind ?_ (fun _ => ?_)
theorem laws_FnGridCuts.mono : ∀ a0 k, LeO (laws_FnGridCuts.f k a0) (laws_FnGridCuts.f (k + 1) a0) := by
 intro a0 k
 obtain ⟨ih0, ih1⟩ := laws_FnGridCuts.mono_l k
 unfold laws_FnGridCuts.f
 repeat' first
   | (with_reducible exact ih0 _ _ _ _ _ _ _ _ _ _ _)
   | (with_reducible exact ih1 _ _ _ _ _ _ _ _)
   | (with_reducible exact impl_CountPieces.mono _ _ _ _)
   | (with_reducible exact impl_GridCuts.mono _ _ _ _ _ _ _)
   | (with_reducible exact impl_ProgramText.mono _ _)
   | (with_reducible exact impl_ReadProgram.mono _ _)
   | (with_reducible exact impl_RunCuts.mono _ _ _ _)
   | (with_reducible exact laws_likeCuts9.mono _ _ _)
   | (with_reducible exact spec_DrawGridCuts.mono _ _)
   | (with_reducible exact spec_DrawProgramText.mono _ _)
   | (with_reducible exact spec_DrawReadProgram.mono _ _)
   | (with_reducible exact spec_GridCuts.mono _ _ _ _ _ _ _)
   | (with_reducible exact spec_ProgramText.mono _ _)
   | (with_reducible exact spec_ReadProgram.mono _ _)
   | (with_reducible exact LeO.refl _)
   | (with_reducible exact LeO.none _)
   | (with_reducible refine LeO.ite ?_ ?_)
   | (with_reducible refine LeO.bind ?_ (fun _ => ?_))
   | exact ih0 _ _ _ _ _ _ _ _ _ _ _
   | exact ih1 _ _ _ _ _ _ _ _
   | exact impl_CountPieces.mono _ _ _ _
   | exact impl_GridCuts.mono _ _ _ _ _ _ _
   | exact impl_ProgramText.mono _ _
   | exact impl_ReadProgram.mono _ _
   | exact impl_RunCuts.mono _ _ _ _
   | exact laws_likeCuts9.mono _ _ _
   | exact spec_DrawGridCuts.mono _ _
   | exact spec_DrawProgramText.mono _ _
   | exact spec_DrawReadProgram.mono _ _
   | exact spec_GridCuts.mono _ _ _ _ _ _ _
   | exact spec_ProgramText.mono _ _
   | exact spec_ReadProgram.mono _ _
   | exact LeO.none _
   | refine LeO.ite ?_ ?_
   | refine LeO.bind ?_ (fun _ => ?_)
set_option maxHeartbeats 8000000 in
set_option maxRecDepth 100000 in
theorem laws_FnGridCuts.calls (k : Nat) (A0 : Option Addr) (c0 : Nat) (l0 : List Int) (r : Bool) (w : World) (hr0 : Kd.C (Kd.int .u8) w A0 l0.length l0) (hc0 : l0.length ≤ c0) (h : laws_FnGridCuts.f k l0 = some r) (henv : HandR.Env w) :
  Calls Tryz.prog 3 #[.slice A0 l0.length c0] w fun e w' => e = .returned (.bool r) ∧ Below w.heap.size w w' := by
 have HE := Aside0.mk henv
 clear henv
 have hu25 := Tryz.underlying25
 have HR0 := Aside0.mk hr0
 have HC0 := Aside0.mk hc0
 clear hr0 hc0
 have HB := Aside0.mk (Below.refl w.heap.size w)
 have H : ((laws_big.f l0).bind fun t548 => (if t548 = true then (some true) else ((spec_DrawGridCuts.f k l0).bind fun bt549 => ((impl_GridCuts.f k bt549.1 bt549.2.1 bt549.2.2.1 bt549.2.2.2.1 bt549.2.2.2.2.1 bt549.2.2.2.2.2).bind fun bt557 => ((spec_GridCuts.f k bt549.1 bt549.2.1 bt549.2.2.1 bt549.2.2.2.1 bt549.2.2.2.2.1 bt549.2.2.2.2.2).bind fun bt561 => ((spec_DrawProgramText.f k l0).bind fun t565 => ((impl_ProgramText.f k t565).bind fun t568 => ((spec_DrawReadProgram.f k l0).bind fun t569 => ((impl_ReadProgram.f k t569).bind fun bt570 => ((spec_ReadProgram.f k t569).bind fun bt574 => (if bt557.2 = bt561.2 then ((laws_likeCuts9.f k bt557.1 bt561.1).bind fun t578 => (if t578 = true then ((spec_ProgramText.f k t565).bind fun t579 => (if t568.toList = t579.toList then (if (bt570.2 != bt574.2) = true then (none) else ((laws_likeCuts9.f k bt570.1 bt574.1).bind fun t580 => (if t580 = true then (if bt570.2 = true then ((impl_ProgramText.f k bt570.1).bind fun t581 => (laws_FnGridCuts.j0 k bt549.2.2.1 bt549.2.2.2.1 bt557.1 bt557.2 t565 t568 (t581.toList != t569.toList) bt549.1 bt549.2.1 bt549.2.2.2.2.1 bt549.2.2.2.2.2)) else (laws_FnGridCuts.j0 k bt549.2.2.1 bt549.2.2.2.1 bt557.1 bt557.2 t565 t568 false bt549.1 bt549.2.1 bt549.2.2.2.2.1 bt549.2.2.2.2.2)) else (none)))) else (none))) else (none))) else (none)))))))))))) = some r := h
 clear h
 replace H := Option.bind_eq_some_iff.mp H
 obtain ⟨t548, A20, H⟩ := H
 try dsimp only at H
 have A2 := Aside0.mk A20
 clear A20
 by_cases c3 : t548 = true
 ·subst c3
  have H1 : (some true) = some r := by rw [if_pos rfl] at H; exact H
  clear H
  have H := H1
  clear H1
  obtain rfl := Option.some.inj H
  go_enter Tryz.func3, Tryz.ntmps3
  go_wp2_with (first | ((with_reducible refine gc_ 4 rfl ?_); refine gl_ (some 25) rfl rfl Tryz.func4 rfl #[.slice A0 l0.length c0] rfl ?_; (with_reducible refine (laws_big.calls _ _ l0 true _ ?side1 ?side2 A2.out).mono ?_); (case side1 => repeat (first | exact HR0.out | (with_reducible refine Kd.C_alloc ?_ _) | (with_reducible refine Kd.C_drewN ?_ _) | (with_reducible refine Kd.C_drew ?_))); (case side2 => exact HC0.out); rintro e w' ⟨rfl, ⟨nd, rfl⟩⟩; refine ⟨_, rfl, ?_⟩))
  go_ret
  exact er_ (hx_ HB.out)
 ·replace c3 := Bool.eq_false_iff.mpr c3
  subst c3
  have H1 : ((spec_DrawGridCuts.f k l0).bind fun bt549 => ((impl_GridCuts.f k bt549.1 bt549.2.1 bt549.2.2.1 bt549.2.2.2.1 bt549.2.2.2.2.1 bt549.2.2.2.2.2).bind fun bt557 => ((spec_GridCuts.f k bt549.1 bt549.2.1 bt549.2.2.1 bt549.2.2.2.1 bt549.2.2.2.2.1 bt549.2.2.2.2.2).bind fun bt561 => ((spec_DrawProgramText.f k l0).bind fun t565 => ((impl_ProgramText.f k t565).bind fun t568 => ((spec_DrawReadProgram.f k l0).bind fun t569 => ((impl_ReadProgram.f k t569).bind fun bt570 => ((spec_ReadProgram.f k t569).bind fun bt574 => (if bt557.2 = bt561.2 then ((laws_likeCuts9.f k bt557.1 bt561.1).bind fun t578 => (if t578 = true then ((spec_ProgramText.f k t565).bind fun t579 => (if t568.toList = t579.toList then (if (bt570.2 != bt574.2) = true then (none) else ((laws_likeCuts9.f k bt570.1 bt574.1).bind fun t580 => (if t580 = true then (if bt570.2 = true then ((impl_ProgramText.f k bt570.1).bind fun t581 => (laws_FnGridCuts.j0 k bt549.2.2.1 bt549.2.2.2.1 bt557.1 bt557.2 t565 t568 (t581.toList != t569.toList) bt549.1 bt549.2.1 bt549.2.2.2.2.1 bt549.2.2.2.2.2)) else (laws_FnGridCuts.j0 k bt549.2.2.1 bt549.2.2.2.1 bt557.1 bt557.2 t565 t568 false bt549.1 bt549.2.1 bt549.2.2.2.2.1 bt549.2.2.2.2.2)) else (none)))) else (none))) else (none))) else (none)))))))))) = some r := by rw [if_neg (show ¬ (false = true) by decide)] at H; exact H
  clear H
  have H := H1
  clear H1
  replace H := Option.bind_eq_some_iff.mp H
  obtain ⟨⟨t549, t550, t551, t552, t553, t554⟩, A40, H⟩ := H
  try dsimp only at H
  have A4 := Aside0.mk A40
  clear A40
  replace H := Option.bind_eq_some_iff.mp H
  obtain ⟨⟨t557, t560⟩, A50, H⟩ := H
  try dsimp only at H
  have A5 := Aside0.mk A50
  clear A50
  replace H := Option.bind_eq_some_iff.mp H
  obtain ⟨⟨t561, t564⟩, A60, H⟩ := H
  try dsimp only at H
  have A6 := Aside0.mk A60
  clear A60
  replace H := Option.bind_eq_some_iff.mp H
  obtain ⟨t565, A70, H⟩ := H
  try dsimp only at H
  have A7 := Aside0.mk A70
  clear A70
  replace H := Option.bind_eq_some_iff.mp H
  obtain ⟨t568, A80, H⟩ := H
  try dsimp only at H
  have A8 := Aside0.mk A80
  clear A80
  replace H := Option.bind_eq_some_iff.mp H
  obtain ⟨t569, A90, H⟩ := H
  try dsimp only at H
  have A9 := Aside0.mk A90
  clear A90
  replace H := Option.bind_eq_some_iff.mp H
  obtain ⟨⟨t570, t571⟩, A100, H⟩ := H
  try dsimp only at H
  have A10 := Aside0.mk A100
  clear A100
  replace H := Option.bind_eq_some_iff.mp H
  obtain ⟨⟨t574, t575⟩, A110, H⟩ := H
  try dsimp only at H
  have A11 := Aside0.mk A110
  clear A110
  have HC12 := Aside0.mk H
  clear H
  go_enter Tryz.func3, Tryz.ntmps3
  go_upto_region 11 with (first | ((with_reducible refine gc_ 4 rfl ?_); refine gl_ (some 25) rfl rfl Tryz.func4 rfl #[.slice A0 l0.length c0] rfl ?_; (with_reducible refine (laws_big.calls _ _ l0 false _ ?side1 ?side2 A2.out).mono ?_); (case side1 => repeat (first | exact HR0.out | (with_reducible refine Kd.C_alloc ?_ _) | (with_reducible refine Kd.C_drewN ?_ _) | (with_reducible refine Kd.C_drew ?_))); (case side2 => exact HC0.out); rintro e w' ⟨rfl, ⟨nd, rfl⟩⟩; refine ⟨_, rfl, ?_⟩) | ((with_reducible refine gc_ 5 rfl ?_); refine gl_ (some 28) rfl rfl Tryz.func5 rfl #[.slice A0 l0.length c0] rfl ?_; (with_reducible refine (spec_DrawGridCuts.calls k _ _ l0 t549 t550 t551 t552 t553 t554 _ ?side1 ?side2 A4.out).mono ?_); (case side1 => repeat (first | exact HR0.out | (with_reducible refine Kd.C_alloc ?_ _) | (with_reducible refine Kd.C_drewN ?_ _) | (with_reducible refine Kd.C_drew ?_))); (case side2 => exact HC0.out); rintro e w13 ⟨rfl, hb⟩; refine ⟨_, rfl, ?_⟩; replace HB := hs_ HB hb; (try clear hb); (try clear hb2); (try clear hk); (try clear hi)) | ((with_reducible refine gd_ 3 rfl ?_); refine be_ 3 #[.int .i64 0, .int .i64 0] 25 rfl rfl ?_; intro gb555 hg w14 hbox hb; have BK555 := am_ hbox; have GW555 := gw_ hg HB; have GE555 := gw_ hg HB; replace HB := hs_ HB hb; clear hb hbox hg) | ((with_reducible refine gd_ 6 rfl ?_); refine be_ 6 #[.int .i64 0, .int .i64 0] 25 rfl rfl ?_; intro gb556 hg w15 hbox hb; have BK556 := am_ hbox; have GW556 := gw_ hg HB; have GE556 := gw_ hg HB; replace HB := hs_ HB hb; have NB555_556 := nl_ hg BK555; have NB556_555 := ng_ hg BK555; replace BK555 := bb_ BK555 hb; clear hb hbox hg; have hnb16 := NB555_556.out; have hnc16 := NB556_555.out; have hcz17_0 : w15.cell? ⟨gb555, 0, none⟩ = some (.int .i64 0) := (blk_cell BK555.out 0).trans rfl; have hcz17_1 : w15.cell? ⟨gb555, 1, none⟩ = some (.int .i64 0) := (blk_cell BK555.out 1).trans rfl; have hfz17_0 := blk_frozen BK555.out 0; have hfz17_1 := blk_frozen BK555.out 1; have hcz18_0 : w15.cell? ⟨gb556, 0, none⟩ = some (.int .i64 0) := (blk_cell BK556.out 0).trans rfl; have hcz18_1 : w15.cell? ⟨gb556, 1, none⟩ = some (.int .i64 0) := (blk_cell BK556.out 1).trans rfl; have hfz18_0 := blk_frozen BK556.out 0; have hfz18_1 := blk_frozen BK556.out 1) | ((with_reducible refine gc_ 6 rfl ?_); refine gl_ (some 38) rfl rfl Tryz.func6 rfl #[.agg #[.int .i64 t549, .int .i64 t550], .int .i64 t551, .int .i64 t552, .agg #[.int .i64 t553, .int .i64 t554]] rfl ?_; (with_reducible refine (impl_GridCuts.calls k t549 t550 t551 t552 t553 t554 t557 t560 _ A5.out).mono ?_); rintro e w19 ⟨v558, rfl, ho0, hb⟩; refine ⟨_, rfl, ?_⟩; have HO559 := am_ (Kd.R_lower ho0 (below_size (hx_ HB.out))); replace BK555 := am_ (blk_below (g := gb555) (o := .cells #[.int .i64 t549, .int .i64 t550] 25 (0, 0)) (by (with_reducible repeat (first | refine blk_drewN ?_ _ | refine blk_drew ?_ | refine blk_alloc ?_ _)); refine blk_far ?_ NB555_556.out _; (with_reducible repeat (first | refine blk_drewN ?_ _ | refine blk_drew ?_ | refine blk_alloc ?_ _)); refine blk_far ?_ NB555_556.out _; (with_reducible repeat (first | refine blk_drewN ?_ _ | refine blk_drew ?_ | refine blk_alloc ?_ _)); refine blk_put (cs := #[.int .i64 t549, .int .i64 0]) ?_ 1 _ rfl; (with_reducible repeat (first | refine blk_drewN ?_ _ | refine blk_drew ?_ | refine blk_alloc ?_ _)); refine blk_put (cs := #[.int .i64 0, .int .i64 0]) ?_ 0 _ rfl; (with_reducible repeat (first | refine blk_drewN ?_ _ | refine blk_drew ?_ | refine blk_alloc ?_ _)); exact BK555.out) hb); replace BK556 := am_ (blk_below (g := gb556) (o := .cells #[.int .i64 t553, .int .i64 t554] 25 (0, 0)) (by (with_reducible repeat (first | refine blk_drewN ?_ _ | refine blk_drew ?_ | refine blk_alloc ?_ _)); refine blk_put (cs := #[.int .i64 t553, .int .i64 0]) ?_ 1 _ rfl; (with_reducible repeat (first | refine blk_drewN ?_ _ | refine blk_drew ?_ | refine blk_alloc ?_ _)); refine blk_put (cs := #[.int .i64 0, .int .i64 0]) ?_ 0 _ rfl; (with_reducible repeat (first | refine blk_drewN ?_ _ | refine blk_drew ?_ | refine blk_alloc ?_ _)); refine blk_far ?_ NB556_555.out _; (with_reducible repeat (first | refine blk_drewN ?_ _ | refine blk_drew ?_ | refine blk_alloc ?_ _)); refine blk_far ?_ NB556_555.out _; (with_reducible repeat (first | refine blk_drewN ?_ _ | refine blk_drew ?_ | refine blk_alloc ?_ _)); exact BK556.out) hb); replace HB := hs_ HB hb; (try clear hb); (try clear hb2); (try clear hk); (try clear hi); (try clear ho0); have hcz20_0 : w19.cell? ⟨gb555, 0, none⟩ = some (.int .i64 t549) := (blk_cell BK555.out 0).trans rfl; have hcz20_1 : w19.cell? ⟨gb555, 1, none⟩ = some (.int .i64 t550) := (blk_cell BK555.out 1).trans rfl; have hfz20_0 := blk_frozen BK555.out 0; have hfz20_1 := blk_frozen BK555.out 1; have hcz21_0 : w19.cell? ⟨gb556, 0, none⟩ = some (.int .i64 t553) := (blk_cell BK556.out 0).trans rfl; have hcz21_1 : w19.cell? ⟨gb556, 1, none⟩ = some (.int .i64 t554) := (blk_cell BK556.out 1).trans rfl; have hfz21_0 := blk_frozen BK556.out 0; have hfz21_1 := blk_frozen BK556.out 1) | ((with_reducible refine gc_ 7 rfl ?_); refine gl_ (some 46) rfl rfl Tryz.func7 rfl #[.agg #[.int .i64 t549, .int .i64 t550], .int .i64 t551, .int .i64 t552, .agg #[.int .i64 t553, .int .i64 t554]] rfl ?_; (with_reducible refine (spec_GridCuts.calls k t549 t550 t551 t552 t553 t554 t561 t564 _ A6.out).mono ?_); rintro e w22 ⟨v562, rfl, ho0, hb⟩; refine ⟨_, rfl, ?_⟩; have HO563 := am_ (Kd.R_lower (Kd.R_new' ho0 (Kd.R_lt (rx_ HO559.out))) (below_size (hx_ HB.out))); replace HO559 := am_ (Kd.R_elder' (rx_ HO559.out) (Kd.R_base ho0) hb); replace BK555 := bb_ BK555 hb; replace BK556 := bb_ BK556 hb; replace HB := hs_ HB hb; (try clear hb); (try clear hb2); (try clear hk); (try clear hi); (try clear ho0)) | ((with_reducible refine gc_ 8 rfl ?_); refine gl_ (some 50) rfl rfl Tryz.func8 rfl #[.slice A0 l0.length c0] rfl ?_; (with_reducible refine (spec_DrawProgramText.calls k _ _ l0 t565 _ ?side1 ?side2 A7.out).mono ?_); (case side1 => repeat (first | exact (Kd.C_below HR0.out HB.out) | (with_reducible refine Kd.C_alloc ?_ _) | (with_reducible refine Kd.C_drewN ?_ _) | (with_reducible refine Kd.C_drew ?_))); (case side2 => exact HC0.out); rintro e w23 ⟨v566, rfl, ho0, hb⟩; refine ⟨_, rfl, ?_⟩; have HO567 := am_ (Kd.R_lower (Kd.R_new' (Kd.R_new' ho0 (Kd.R_lt (rx_ HO559.out))) (Kd.R_lt (rx_ HO563.out))) (below_size (hx_ HB.out))); replace HO559 := am_ (Kd.R_elder' (rx_ HO559.out) (Kd.R_base ho0) hb); replace HO563 := am_ (Kd.R_elder' (rx_ HO563.out) (Kd.R_base ho0) hb); replace BK555 := bb_ BK555 hb; replace BK556 := bb_ BK556 hb; replace HB := hs_ HB hb; (try clear hb); (try clear hb2); (try clear hk); (try clear hi); (try clear ho0); obtain ⟨Ao24, co24, eo24⟩ := Kd.R_slice HO567.out; subst eo24) | ((with_reducible refine gc_ 9 rfl ?_); refine gl_ (some 52) rfl rfl Tryz.func9 rfl #[.slice Ao24 t565.length co24] rfl ?_; (with_reducible refine (impl_ProgramText.calls k _ _ t565 t568 _ ?side1 ?side2 A8.out (HandD.Env.below HE.out.pow (hx_ HB.out))).mono ?_); (case side1 => repeat (first | exact (Kd.R_reads' HO567.out).2.2 | (with_reducible refine Kd.C_alloc ?_ _) | (with_reducible refine Kd.C_drewN ?_ _) | (with_reducible refine Kd.C_drew ?_))); (case side2 => exact (Kd.R_reads' HO567.out).2.1); rintro e w25 ⟨rfl, hb⟩; refine ⟨_, rfl, ?_⟩; replace HO559 := am_ (Kd.R_below (rx_ HO559.out) hb); replace HO563 := am_ (Kd.R_below (rx_ HO563.out) hb); replace HO567 := am_ (Kd.R_below (rx_ HO567.out) hb); replace BK555 := bb_ BK555 hb; replace BK556 := bb_ BK556 hb; replace HB := hs_ HB hb; (try clear hb); (try clear hb2); (try clear hk); (try clear hi)) | ((with_reducible refine gc_ 10 rfl ?_); refine gl_ (some 54) rfl rfl Tryz.func10 rfl #[.slice A0 l0.length c0] rfl ?_; (with_reducible refine (spec_DrawReadProgram.calls k _ _ l0 t569 _ ?side1 ?side2 A9.out).mono ?_); (case side1 => repeat (first | exact (Kd.C_below HR0.out HB.out) | (with_reducible refine Kd.C_alloc ?_ _) | (with_reducible refine Kd.C_drewN ?_ _) | (with_reducible refine Kd.C_drew ?_))); (case side2 => exact HC0.out); rintro e w26 ⟨rfl, hb⟩; refine ⟨_, rfl, ?_⟩; replace HO559 := am_ (Kd.R_below (rx_ HO559.out) hb); replace HO563 := am_ (Kd.R_below (rx_ HO563.out) hb); replace HO567 := am_ (Kd.R_below (rx_ HO567.out) hb); replace BK555 := bb_ BK555 hb; replace BK556 := bb_ BK556 hb; replace HB := hs_ HB hb; (try clear hb); (try clear hb2); (try clear hk); (try clear hi)) | ((with_reducible refine gc_ 11 rfl ?_); refine gl_ (some 57) rfl rfl Tryz.func11 rfl #[.string t569] rfl ?_; (with_reducible refine (impl_ReadProgram.calls k t569 t570 t571 _ A10.out (HandR.Env.below HE.out (hx_ HB.out))).mono ?_); rintro e w27 ⟨v572, rfl, ho0, hb⟩; refine ⟨_, rfl, ?_⟩; have HO573 := am_ (Kd.R_lower (Kd.R_new' (Kd.R_new' (Kd.R_new' ho0 (Kd.R_lt (rx_ HO559.out))) (Kd.R_lt (rx_ HO563.out))) (Kd.R_lt (rx_ HO567.out))) (below_size (hx_ HB.out))); replace HO559 := am_ (Kd.R_elder' (rx_ HO559.out) (Kd.R_base ho0) hb); replace HO563 := am_ (Kd.R_elder' (rx_ HO563.out) (Kd.R_base ho0) hb); replace HO567 := am_ (Kd.R_elder' (rx_ HO567.out) (Kd.R_base ho0) hb); replace BK555 := bb_ BK555 hb; replace BK556 := bb_ BK556 hb; replace HB := hs_ HB hb; (try clear hb); (try clear hb2); (try clear hk); (try clear hi); (try clear ho0)) | ((with_reducible refine gc_ 12 rfl ?_); refine gl_ (some 62) rfl rfl Tryz.func12 rfl #[.string t569] rfl ?_; (with_reducible refine (spec_ReadProgram.calls k t569 t574 t575 _ A11.out).mono ?_); rintro e w28 ⟨v576, rfl, ho0, hb⟩; refine ⟨_, rfl, ?_⟩; have HO577 := am_ (Kd.R_lower (Kd.R_new' (Kd.R_new' (Kd.R_new' (Kd.R_new' ho0 (Kd.R_lt (rx_ HO559.out))) (Kd.R_lt (rx_ HO563.out))) (Kd.R_lt (rx_ HO567.out))) (Kd.R_lt (rx_ HO573.out))) (below_size (hx_ HB.out))); replace HO559 := am_ (Kd.R_elder' (rx_ HO559.out) (Kd.R_base ho0) hb); replace HO563 := am_ (Kd.R_elder' (rx_ HO563.out) (Kd.R_base ho0) hb); replace HO567 := am_ (Kd.R_elder' (rx_ HO567.out) (Kd.R_base ho0) hb); replace HO573 := am_ (Kd.R_elder' (rx_ HO573.out) (Kd.R_base ho0) hb); replace BK555 := bb_ BK555 hb; replace BK556 := bb_ BK556 hb; replace HB := hs_ HB hb; (try clear hb); (try clear hb2); (try clear hk); (try clear hi); (try clear ho0)))
  (try simp only [Act.put, List.setIfInBounds_toArray, List.set_cons_zero, List.set_cons_succ])
  go_cut [99] (fun v99 wc => ∃ (kq : Nat) (x99_11 : Bool), v99 = .bool x99_11 ∧ Aside0 (laws_FnGridCuts.j0 kq t551 t552 t557 t560 t565 t568 x99_11 t549 t550 t553 t554 = some r) ∧ Aside0 (kq ≤ k) ∧ Aside0 (Kd.R k50 50 wc w.heap.size (fun k_ => some k_ ≠ ((.slice Ao24 t565.length co24) : Value).ownBlock) v558 t557) ∧ Aside0 (Kd.R k50 50 wc w.heap.size (fun k_ => some k_ ≠ (v558 : Value).ownBlock) (.slice Ao24 t565.length co24) t565) ∧ Aside0 (wc.heap[gb555]? = some (.cells #[.int .i64 t549, .int .i64 t550] 25 (0, 0))) ∧ Aside0 (wc.heap[gb556]? = some (.cells #[.int .i64 t553, .int .i64 t554] 25 (0, 0))) ∧ Aside0 (Below w.heap.size w wc))
  case first =>
   as_aux_lemma =>
    have H := HC12.out
    clear HC12
    by_cases c29 : t560 = t564
    ·rw [if_pos c29] at H
     have c29b0 : (t560 == t564) = true := beq_iff_eq.mpr c29
     have c29b1 : (t560 != t564) = false := bne_eq_false_iff_eq.mpr c29
     clear c29
     (first | rw [c29b0] | (simp only [i64_w, i32_w]; rw [c29b0]) | skip)
     replace H := Option.bind_eq_some_iff.mp H
     obtain ⟨t578, A300, H⟩ := H
     try dsimp only at H
     have A30 := Aside0.mk A300
     clear A300
     by_cases c31 : t578 = true
     ·subst c31
      have H1 : ((spec_ProgramText.f k t565).bind fun t579 => (if t568.toList = t579.toList then (if (t571 != t575) = true then (none) else ((laws_likeCuts9.f k t570 t574).bind fun t580 => (if t580 = true then (if t571 = true then ((impl_ProgramText.f k t570).bind fun t581 => (laws_FnGridCuts.j0 k t551 t552 t557 t560 t565 t568 (t581.toList != t569.toList) t549 t550 t553 t554)) else (laws_FnGridCuts.j0 k t551 t552 t557 t560 t565 t568 false t549 t550 t553 t554)) else (none)))) else (none))) = some r := by rw [if_pos rfl] at H; exact H
      clear H
      have H := H1
      clear H1
      replace H := Option.bind_eq_some_iff.mp H
      obtain ⟨t579, A320, H⟩ := H
      try dsimp only at H
      have A32 := Aside0.mk A320
      clear A320
      by_cases c33 : t568.toList = t579.toList
      ·rw [if_pos c33] at H
       have c33b0 : (t568.toList == t579.toList) = true := beq_iff_eq.mpr c33
       have c33b1 : (t568.toList != t579.toList) = false := bne_eq_false_iff_eq.mpr c33
       clear c33
       by_cases c34 : (t571 != t575) = true
       ·rw [if_pos c34] at H
        exact absurd H (by simp)
       ·rw [if_neg c34] at H
        have c34b0 : (t571 != t575) = false := by simpa using c34
        (try (have c34b1 : decide (t571 = t575) = true := by simpa using c34))
        (try (have c34b2 : (t571 == t575) = true := by simpa using c34))
        clear c34
        replace H := Option.bind_eq_some_iff.mp H
        obtain ⟨t580, A380, H⟩ := H
        try dsimp only at H
        have A38 := Aside0.mk A380
        clear A380
        by_cases c39 : t580 = true
        ·subst c39
         have H1 : (if t571 = true then ((impl_ProgramText.f k t570).bind fun t581 => (laws_FnGridCuts.j0 k t551 t552 t557 t560 t565 t568 (t581.toList != t569.toList) t549 t550 t553 t554)) else (laws_FnGridCuts.j0 k t551 t552 t557 t560 t565 t568 false t549 t550 t553 t554)) = some r := by rw [if_pos rfl] at H; exact H
         clear H
         have H := H1
         clear H1
         by_cases c40 : t571 = true
         ·subst c40
          have H1 : ((impl_ProgramText.f k t570).bind fun t581 => (laws_FnGridCuts.j0 k t551 t552 t557 t560 t565 t568 (t581.toList != t569.toList) t549 t550 t553 t554)) = some r := by rw [if_pos rfl] at H; exact H
          clear H
          have H := H1
          clear H1
          replace H := Option.bind_eq_some_iff.mp H
          obtain ⟨t581, A410, H⟩ := H
          try dsimp only at H
          have A41 := Aside0.mk A410
          clear A410
          have H' := Aside0.mk H
          clear H
          obtain ⟨Ao42, co42, eo42⟩ := Kd.R_slice HO559.out
          subst eo42
          obtain ⟨Ao43, co43, eo43⟩ := Kd.R_slice HO563.out
          subst eo43
          go_wp2_with (first | (go_at_call 13; (with_reducible refine (laws_likeCuts9.calls k _ _ t557 _ _ t561 true _ ?side1 ?side2 ?side3 ?side4 A30.out).mono ?_); (case side1 => repeat (first | exact (Kd.R_reads' HO559.out).2.2 | (with_reducible refine Kd.C_alloc ?_ _) | (with_reducible refine Kd.C_drewN ?_ _) | (with_reducible refine Kd.C_drew ?_))); (case side2 => exact (Kd.R_reads' HO559.out).2.1); (case side3 => repeat (first | exact (Kd.R_reads' HO563.out).2.2 | (with_reducible refine Kd.C_alloc ?_ _) | (with_reducible refine Kd.C_drewN ?_ _) | (with_reducible refine Kd.C_drew ?_))); (case side4 => exact (Kd.R_reads' HO563.out).2.1); rintro e w' ⟨rfl, ⟨nd, rfl⟩⟩) | (go_at_call 14; (with_reducible refine (spec_ProgramText.calls k _ _ t565 t579 _ ?side1 ?side2 A32.out).mono ?_); (case side1 => repeat (first | exact (Kd.R_reads' HO567.out).2.2 | (with_reducible refine Kd.C_alloc ?_ _) | (with_reducible refine Kd.C_drewN ?_ _) | (with_reducible refine Kd.C_drew ?_))); (case side2 => exact (Kd.R_reads' HO567.out).2.1); rintro e w44 ⟨rfl, hb⟩; replace HO559 := am_ (Kd.R_below (rx_ HO559.out) hb); replace HO563 := am_ (Kd.R_below (rx_ HO563.out) hb); replace HO567 := am_ (Kd.R_below (rx_ HO567.out) hb); replace HO573 := am_ (Kd.R_below (rx_ HO573.out) hb); replace HO577 := am_ (Kd.R_below (rx_ HO577.out) hb); replace BK555 := bb_ BK555 hb; replace BK556 := bb_ BK556 hb; replace HB := hs_ HB hb; (try clear hb); (try clear hb2); (try clear hk); (try clear hi); obtain ⟨Ao45, co45, eo45⟩ := Kd.R_slice HO573.out; subst eo45; obtain ⟨Ao46, co46, eo46⟩ := Kd.R_slice HO577.out; subst eo46) | (go_at_call 13; (with_reducible refine (laws_likeCuts9.calls k _ _ t570 _ _ t574 true _ ?side1 ?side2 ?side3 ?side4 A38.out).mono ?_); (case side1 => repeat (first | exact (Kd.R_reads' HO573.out).2.2 | (with_reducible refine Kd.C_alloc ?_ _) | (with_reducible refine Kd.C_drewN ?_ _) | (with_reducible refine Kd.C_drew ?_))); (case side2 => exact (Kd.R_reads' HO573.out).2.1); (case side3 => repeat (first | exact (Kd.R_reads' HO577.out).2.2 | (with_reducible refine Kd.C_alloc ?_ _) | (with_reducible refine Kd.C_drewN ?_ _) | (with_reducible refine Kd.C_drew ?_))); (case side4 => exact (Kd.R_reads' HO577.out).2.1); rintro e w' ⟨rfl, ⟨nd, rfl⟩⟩) | (go_at_call 9; (with_reducible refine (impl_ProgramText.calls k _ _ t570 t581 _ ?side1 ?side2 A41.out (HandD.Env.below HE.out.pow (hx_ HB.out))).mono ?_); (case side1 => repeat (first | exact (Kd.R_reads' HO573.out).2.2 | (with_reducible refine Kd.C_alloc ?_ _) | (with_reducible refine Kd.C_drewN ?_ _) | (with_reducible refine Kd.C_drew ?_))); (case side2 => exact (Kd.R_reads' HO573.out).2.1); rintro e w47 ⟨rfl, hb⟩; replace HO559 := am_ (Kd.R_below (rx_ HO559.out) hb); replace HO563 := am_ (Kd.R_below (rx_ HO563.out) hb); replace HO567 := am_ (Kd.R_below (rx_ HO567.out) hb); replace HO573 := am_ (Kd.R_below (rx_ HO573.out) hb); replace HO577 := am_ (Kd.R_below (rx_ HO577.out) hb); replace BK555 := bb_ BK555 hb; replace BK556 := bb_ BK556 hb; replace HB := hs_ HB hb; (try clear hb); (try clear hb2); (try clear hk); (try clear hi)))
          go_meet
          case rel => exact ⟨_, ((t581.toList != t569.toList)), (by first | rfl | (simp; done) | (simp [*]; done)), H', ⟨by first | omega | exact Nat.le_refl _⟩, ⟨by (with_reducible repeat (first | apply Kd.R_alloc | apply Kd.R_drewN | apply Kd.R_drew)); exact Kd.R_mono HO559.out (fun _ hk => hk.1.1.2)⟩, ⟨by (with_reducible repeat (first | apply Kd.R_alloc | apply Kd.R_drewN | apply Kd.R_drew)); exact Kd.R_mono HO567.out (fun _ hk => hk.1.1.1.2)⟩, ⟨bx_ BK555.out⟩, ⟨bx_ BK556.out⟩, ⟨hx_ HB.out⟩⟩
         ·replace c40 := Bool.eq_false_iff.mpr c40
          subst c40
          have H1 : (laws_FnGridCuts.j0 k t551 t552 t557 t560 t565 t568 false t549 t550 t553 t554) = some r := by rw [if_neg (show ¬ (false = true) by decide)] at H; exact H
          clear H
          have H := H1
          clear H1
          have H' := Aside0.mk H
          clear H
          obtain ⟨Ao48, co48, eo48⟩ := Kd.R_slice HO559.out
          subst eo48
          obtain ⟨Ao49, co49, eo49⟩ := Kd.R_slice HO563.out
          subst eo49
          go_wp2_with (first | (go_at_call 13; (with_reducible refine (laws_likeCuts9.calls k _ _ t557 _ _ t561 true _ ?side1 ?side2 ?side3 ?side4 A30.out).mono ?_); (case side1 => repeat (first | exact (Kd.R_reads' HO559.out).2.2 | (with_reducible refine Kd.C_alloc ?_ _) | (with_reducible refine Kd.C_drewN ?_ _) | (with_reducible refine Kd.C_drew ?_))); (case side2 => exact (Kd.R_reads' HO559.out).2.1); (case side3 => repeat (first | exact (Kd.R_reads' HO563.out).2.2 | (with_reducible refine Kd.C_alloc ?_ _) | (with_reducible refine Kd.C_drewN ?_ _) | (with_reducible refine Kd.C_drew ?_))); (case side4 => exact (Kd.R_reads' HO563.out).2.1); rintro e w' ⟨rfl, ⟨nd, rfl⟩⟩) | (go_at_call 14; (with_reducible refine (spec_ProgramText.calls k _ _ t565 t579 _ ?side1 ?side2 A32.out).mono ?_); (case side1 => repeat (first | exact (Kd.R_reads' HO567.out).2.2 | (with_reducible refine Kd.C_alloc ?_ _) | (with_reducible refine Kd.C_drewN ?_ _) | (with_reducible refine Kd.C_drew ?_))); (case side2 => exact (Kd.R_reads' HO567.out).2.1); rintro e w50 ⟨rfl, hb⟩; replace HO559 := am_ (Kd.R_below (rx_ HO559.out) hb); replace HO563 := am_ (Kd.R_below (rx_ HO563.out) hb); replace HO567 := am_ (Kd.R_below (rx_ HO567.out) hb); replace HO573 := am_ (Kd.R_below (rx_ HO573.out) hb); replace HO577 := am_ (Kd.R_below (rx_ HO577.out) hb); replace BK555 := bb_ BK555 hb; replace BK556 := bb_ BK556 hb; replace HB := hs_ HB hb; (try clear hb); (try clear hb2); (try clear hk); (try clear hi); obtain ⟨Ao51, co51, eo51⟩ := Kd.R_slice HO573.out; subst eo51; obtain ⟨Ao52, co52, eo52⟩ := Kd.R_slice HO577.out; subst eo52) | (go_at_call 13; (with_reducible refine (laws_likeCuts9.calls k _ _ t570 _ _ t574 true _ ?side1 ?side2 ?side3 ?side4 A38.out).mono ?_); (case side1 => repeat (first | exact (Kd.R_reads' HO573.out).2.2 | (with_reducible refine Kd.C_alloc ?_ _) | (with_reducible refine Kd.C_drewN ?_ _) | (with_reducible refine Kd.C_drew ?_))); (case side2 => exact (Kd.R_reads' HO573.out).2.1); (case side3 => repeat (first | exact (Kd.R_reads' HO577.out).2.2 | (with_reducible refine Kd.C_alloc ?_ _) | (with_reducible refine Kd.C_drewN ?_ _) | (with_reducible refine Kd.C_drew ?_))); (case side4 => exact (Kd.R_reads' HO577.out).2.1); rintro e w' ⟨rfl, ⟨nd, rfl⟩⟩))
          go_meet
          case rel => exact ⟨_, (false), (by first | rfl | (simp; done) | (simp [*]; done)), H', ⟨by first | omega | exact Nat.le_refl _⟩, ⟨by (with_reducible repeat (first | apply Kd.R_alloc | apply Kd.R_drewN | apply Kd.R_drew)); exact Kd.R_mono HO559.out (fun _ hk => hk.1.1.2)⟩, ⟨by (with_reducible repeat (first | apply Kd.R_alloc | apply Kd.R_drewN | apply Kd.R_drew)); exact Kd.R_mono HO567.out (fun _ hk => hk.1.1.1.2)⟩, ⟨bx_ BK555.out⟩, ⟨bx_ BK556.out⟩, ⟨hx_ HB.out⟩⟩
        ·replace c39 := Bool.eq_false_iff.mpr c39
         subst c39
         have H1 : (none) = some r := by rw [if_neg (show ¬ (false = true) by decide)] at H; exact H
         clear H
         have H := H1
         clear H1
         exact absurd H (by simp)
      ·rw [if_neg c33] at H
       exact absurd H (by simp)
     ·replace c31 := Bool.eq_false_iff.mpr c31
      subst c31
      have H1 : (none) = some r := by rw [if_neg (show ¬ (false = true) by decide)] at H; exact H
      clear H
      have H := H1
      clear H1
      exact absurd H (by simp)
    ·rw [if_neg c29] at H
     exact absurd H (by simp)
  case rest =>
   as_aux_lemma =>
    clear HC12
    (try clear c1); (try clear c2); (try clear p2); (try clear c3); (try clear c4); (try clear c5); (try clear c6); (try clear c7); (try clear c8); (try clear c9); (try clear c10); (try clear c11); (try clear c12); (try clear c16); (try clear c29); (try clear c29b0); (try clear c29b1); (try clear c31); (try clear c33); (try clear c33b0); (try clear c33b1); (try clear c34); (try clear c34b0); (try clear c34b1); (try clear c34b2); (try clear c39); (try clear c40); (try clear hcz17_0); (try clear hcz17_1); (try clear hcz18_0); (try clear hcz18_1); (try clear hcz20_0); (try clear hcz20_1); (try clear hcz21_0); (try clear hcz21_1); (try clear hfz17_0); (try clear hfz17_1); (try clear hfz18_0); (try clear hfz18_1); (try clear hfz20_0); (try clear hfz20_1); (try clear hfz21_0); (try clear hfz21_1)
    obtain ⟨kq, x99_11, rfl, HA, HJ11, HO_7, HO_11, BK555, BK556, HB⟩ := hcut
    cases kq with
    | zero => exact absurd HA.out (by simp [laws_FnGridCuts.j0])
    | succ kj11 =>
     have H := HA.out
     clear HA
     simp only [laws_FnGridCuts.j0] at H
     by_cases c63 : x99_11 = true
     ·subst c63
      have H1 : (none) = some r := by rw [if_pos rfl] at H; exact H
      clear H
      have H := H1
      clear H1
      exact absurd H (by simp)
     ·replace c63 := Bool.eq_false_iff.mpr c63
      subst c63
      have H1 : (if t568.toList = ([] : List UInt8) then (laws_FnGridCuts.j1 kj11 t551 t552 t557 t560 t549 t550 t553 t554) else ((impl_ReadProgram.f kj11 t568).bind fun bt582 => (if bt582.2 = true then ((laws_likeCuts9.f kj11 bt582.1 t565).bind fun t586 => (if t586 = true then (laws_FnGridCuts.j1 kj11 t551 t552 t557 t560 t549 t550 t553 t554) else (none))) else (none)))) = some r := by rw [if_neg (show ¬ (false = true) by decide)] at H; exact H
      clear H
      have H := H1
      clear H1
      have HC64 := Aside0.mk H
      clear H
      go_upto_if 101 with (fail)
      go_cut [] (fun wc => ∃ (kq : Nat), Aside0 (laws_FnGridCuts.j1 kq t551 t552 t557 t560 t549 t550 t553 t554 = some r) ∧ Aside0 (kq ≤ kj11) ∧ Aside0 (Kd.R k50 50 wc w.heap.size (fun _ => True) v558 t557) ∧ Aside0 (wc.heap[gb555]? = some (.cells #[.int .i64 t549, .int .i64 t550] 25 (0, 0))) ∧ Aside0 (wc.heap[gb556]? = some (.cells #[.int .i64 t553, .int .i64 t554] 25 (0, 0))) ∧ Aside0 (Below w.heap.size w wc))
      case first =>
       as_aux_lemma =>
        have H := HC64.out
        clear HC64
        by_cases c65 : t568.toList = ([] : List UInt8)
        ·rw [if_pos c65] at H
         have c65b0 : (t568.toList == ([] : List UInt8)) = true := beq_iff_eq.mpr c65
         have c65b9 : t568.toList.isEmpty = true := List.isEmpty_iff.mpr c65
         have c65b1 : (t568.toList != ([] : List UInt8)) = false := bne_eq_false_iff_eq.mpr c65
         clear c65
         (first | rw [c65b0] | (simp only [i64_w, i32_w]; rw [c65b0]) | (rw [c65b9]; simp only [Bool.not_true, Bool.not_false]) | skip)
         have H' := Aside0.mk H
         clear H
         go_wp2
         go_meet
         case rel => exact ⟨_, H', ⟨by have := HJ11.out; first | omega | exact Nat.le_refl _⟩, ⟨by (with_reducible repeat (first | apply Kd.R_alloc | apply Kd.R_drewN | apply Kd.R_drew)); exact Kd.R_mono HO_7.out (fun _ hk => trivial)⟩, ⟨bx_ BK555.out⟩, ⟨bx_ BK556.out⟩, ⟨hx_ HB.out⟩⟩
        ·rw [if_neg c65] at H
         have c65b0 : (t568.toList == ([] : List UInt8)) = false := beq_eq_false_iff_ne.mpr c65
         have c65b9 : t568.toList.isEmpty = false := Bool.eq_false_iff.mpr (fun h_ => c65 (List.isEmpty_iff.mp h_))
         have c65b1 : (t568.toList != ([] : List UInt8)) = true := bne_iff_ne.mpr c65
         (first | rw [c65b0] | (simp only [i64_w, i32_w]; rw [c65b0]) | (rw [c65b9]; simp only [Bool.not_true, Bool.not_false]) | skip)
         replace H := Option.bind_eq_some_iff.mp H
         obtain ⟨⟨t582, t583⟩, A660, H⟩ := H
         try dsimp only at H
         have A66 := Aside0.mk A660
         clear A660
         by_cases c67 : t583 = true
         ·subst c67
          have H1 : ((laws_likeCuts9.f kj11 t582 t565).bind fun t586 => (if t586 = true then (laws_FnGridCuts.j1 kj11 t551 t552 t557 t560 t549 t550 t553 t554) else (none))) = some r := by rw [if_pos rfl] at H; exact H
          clear H
          have H := H1
          clear H1
          replace H := Option.bind_eq_some_iff.mp H
          obtain ⟨t586, A680, H⟩ := H
          try dsimp only at H
          have A68 := Aside0.mk A680
          clear A680
          by_cases c69 : t586 = true
          ·subst c69
           have H1 : (laws_FnGridCuts.j1 kj11 t551 t552 t557 t560 t549 t550 t553 t554) = some r := by rw [if_pos rfl] at H; exact H
           clear H
           have H := H1
           clear H1
           have H' := Aside0.mk H
           clear H
           go_wp2_with (first | ((with_reducible refine gc_ 11 rfl ?_); refine gl_ (some 104) rfl rfl Tryz.func11 rfl #[.string t568] rfl ?_; (with_reducible refine (impl_ReadProgram.calls kj11 t568 t582 true _ A66.out (HandR.Env.below HE.out (hx_ HB.out))).mono ?_); rintro e w70 ⟨v584, rfl, ho0, hb⟩; refine ⟨_, rfl, ?_⟩; have HO585 := am_ (Kd.R_lower (Kd.R_new' (Kd.R_new' ho0 (Kd.R_lt (rx_ HO_7.out))) (Kd.R_lt (rx_ HO_11.out))) (below_size (hx_ HB.out))); replace HO_7 := am_ (Kd.R_elder' (rx_ HO_7.out) (Kd.R_base ho0) hb); replace HO_11 := am_ (Kd.R_elder' (rx_ HO_11.out) (Kd.R_base ho0) hb); replace BK555 := bb_ BK555 hb; replace BK556 := bb_ BK556 hb; replace HB := hs_ HB hb; (try clear hb); (try clear hb2); (try clear hk); (try clear hi); (try clear ho0); obtain ⟨Ao71, co71, eo71⟩ := Kd.R_slice HO585.out; subst eo71) | (go_at_call 13; (with_reducible refine (laws_likeCuts9.calls kj11 _ _ t582 _ _ t565 true _ ?side1 ?side2 ?side3 ?side4 A68.out).mono ?_); (case side1 => repeat (first | exact (Kd.R_reads' HO585.out).2.2 | (with_reducible refine Kd.C_alloc ?_ _) | (with_reducible refine Kd.C_drewN ?_ _) | (with_reducible refine Kd.C_drew ?_))); (case side2 => exact (Kd.R_reads' HO585.out).2.1); (case side3 => repeat (first | exact (Kd.R_reads' HO_11.out).2.2 | (with_reducible refine Kd.C_alloc ?_ _) | (with_reducible refine Kd.C_drewN ?_ _) | (with_reducible refine Kd.C_drew ?_))); (case side4 => exact (Kd.R_reads' HO_11.out).2.1); rintro e w' ⟨rfl, ⟨nd, rfl⟩⟩))
           go_meet
           case rel => exact ⟨_, H', ⟨by have := HJ11.out; first | omega | exact Nat.le_refl _⟩, ⟨by (with_reducible repeat (first | apply Kd.R_alloc | apply Kd.R_drewN | apply Kd.R_drew)); exact Kd.R_mono HO_7.out (fun _ hk => trivial)⟩, ⟨bx_ BK555.out⟩, ⟨bx_ BK556.out⟩, ⟨hx_ HB.out⟩⟩
          ·replace c69 := Bool.eq_false_iff.mpr c69
           subst c69
           have H1 : (none) = some r := by rw [if_neg (show ¬ (false = true) by decide)] at H; exact H
           clear H
           have H := H1
           clear H1
           exact absurd H (by simp)
         ·replace c67 := Bool.eq_false_iff.mpr c67
          subst c67
          have H1 : (none) = some r := by rw [if_neg (show ¬ (false = true) by decide)] at H; exact H
          clear H
          have H := H1
          clear H1
          exact absurd H (by simp)
      case rest =>
       as_aux_lemma =>
        clear HC64
        (try clear c1); (try clear c2); (try clear p2); (try clear c3); (try clear c4); (try clear c5); (try clear c6); (try clear c7); (try clear c8); (try clear c9); (try clear c10); (try clear c11); (try clear c12); (try clear c16); (try clear c29); (try clear c29b0); (try clear c29b1); (try clear c31); (try clear c33); (try clear c33b0); (try clear c33b1); (try clear c34); (try clear c34b0); (try clear c34b1); (try clear c34b2); (try clear c39); (try clear c40); (try clear c63); (try clear c65); (try clear c65b0); (try clear c65b1); (try clear c67); (try clear c69); (try clear hcz17_0); (try clear hcz17_1); (try clear hcz18_0); (try clear hcz18_1); (try clear hcz20_0); (try clear hcz20_1); (try clear hcz21_0); (try clear hcz21_1); (try clear hfz17_0); (try clear hfz17_1); (try clear hfz18_0); (try clear hfz18_1); (try clear hfz20_0); (try clear hfz20_1); (try clear hfz21_0); (try clear hfz21_1); (try clear p2)
        obtain ⟨kq, HA, HJ63, HO_7, BK555, BK556, HB⟩ := hcut
        cases kq with
        | zero => exact absurd HA.out (by simp [laws_FnGridCuts.j1])
        | succ kj63 =>
         have H := HA.out
         clear HA
         simp only [laws_FnGridCuts.j1] at H
         by_cases c75 : t560 = 0
         ·rw [if_pos c75] at H
          have c75b0 : (t560 == 0) = true := beq_iff_eq.mpr c75
          have c75b1 : (t560 != 0) = false := bne_eq_false_iff_eq.mpr c75
          clear c75
          replace H := Option.bind_eq_some_iff.mp H
          obtain ⟨⟨t587, t590⟩, A760, H⟩ := H
          try dsimp only at H
          have A76 := Aside0.mk A760
          clear A760
          replace H := Option.bind_eq_some_iff.mp H
          obtain ⟨⟨t591, t592⟩, A770, H⟩ := H
          try dsimp only at H
          have A77 := Aside0.mk A770
          clear A770
          by_cases c78 : t590 = 0
          ·rw [if_pos c78] at H
           have c78b0 : (t590 == 0) = true := beq_iff_eq.mpr c78
           have c78b1 : (t590 != 0) = false := bne_eq_false_iff_eq.mpr c78
           clear c78
           by_cases c79 : t592 = 0
           ·rw [if_pos c79] at H
            have c79b0 : (t592 == 0) = true := beq_iff_eq.mpr c79
            have c79b1 : (t592 != 0) = false := bne_eq_false_iff_eq.mpr c79
            clear c79
            obtain rfl := Option.some.inj H
            have hnb80 := NB555_556.out
            have hnc80 := NB556_555.out
            have hcz81_0 : wc.cell? ⟨gb555, 0, none⟩ = some (.int .i64 t549) := (blk_cell BK555.out 0).trans rfl
            have hcz81_1 : wc.cell? ⟨gb555, 1, none⟩ = some (.int .i64 t550) := (blk_cell BK555.out 1).trans rfl
            have hfz81_0 := blk_frozen BK555.out 0
            have hfz81_1 := blk_frozen BK555.out 1
            obtain ⟨Ao82, co82, eo82⟩ := Kd.R_slice HO_7.out
            subst eo82
            go_wp2_with (first | ((with_reducible refine gc_ 15 rfl ?_); refine gl_ (some 120) rfl rfl Tryz.func15 rfl #[.agg #[.int .i64 t549, .int .i64 t550], .slice Ao82 t557.length co82] rfl ?_; (with_reducible refine (impl_RunCuts.calls kj63 t549 t550 _ _ t557 t587 t590 _ ?side1 ?side2 A76.out).mono ?_); (case side1 => repeat (first | exact (Kd.R_reads' HO_7.out).2.2 | (with_reducible refine Kd.C_alloc ?_ _) | (with_reducible refine Kd.C_drewN ?_ _) | (with_reducible refine Kd.C_drew ?_))); (case side2 => exact (Kd.R_reads' HO_7.out).2.1); rintro e w83 ⟨v588, rfl, ho0, hb⟩; refine ⟨_, rfl, ?_⟩; replace HO_7 := am_ (Kd.R_below (rx_ HO_7.out) hb); have HO589 := am_ (Kd.R_lower (Kd.R_newB (Kd.R_newB ho0 (g := gb555) (o := .cells #[.int .i64 t549, .int .i64 t550] 25 (0, 0)) (bx_ BK555.out)) (g := gb556) (o := .cells #[.int .i64 t553, .int .i64 t554] 25 (0, 0)) (bx_ BK556.out)) (below_size (hx_ HB.out))); replace BK555 := bb_ BK555 hb; replace BK556 := bb_ BK556 hb; replace HB := hs_ HB hb; (try clear hb); (try clear hb2); (try clear hk); (try clear hi); (try clear ho0); have hcz84_0 : w83.cell? ⟨gb556, 0, none⟩ = some (.int .i64 t553) := (blk_cell BK556.out 0).trans rfl; have hcz84_1 : w83.cell? ⟨gb556, 1, none⟩ = some (.int .i64 t554) := (blk_cell BK556.out 1).trans rfl; have hfz84_0 := blk_frozen BK556.out 0; have hfz84_1 := blk_frozen BK556.out 1; obtain ⟨Ao85, co85, eo85⟩ := Kd.R_slice HO589.out; subst eo85) | ((with_reducible refine gc_ 16 rfl ?_); refine gl_ (some 126) rfl rfl Tryz.func16 rfl #[.slice Ao85 t587.length co85, .agg #[.int .i64 t553, .int .i64 t554]] rfl ?_; (with_reducible refine (impl_CountPieces.calls kj63 _ _ t587 t553 t554 t591 t592 _ ?side1 ?side2 A77.out).mono ?_); (case side1 => repeat (first | exact (Kd.R_reads' HO589.out).2.2 | (with_reducible refine Kd.C_alloc ?_ _) | (with_reducible refine Kd.C_drewN ?_ _) | (with_reducible refine Kd.C_drew ?_))); (case side2 => exact (Kd.R_reads' HO589.out).2.1); rintro e w86 ⟨rfl, hb⟩; refine ⟨_, rfl, ?_⟩; replace HO_7 := am_ (Kd.R_below (rx_ HO_7.out) hb); replace HO589 := am_ (Kd.R_below (rx_ HO589.out) hb); replace BK555 := bb_ BK555 hb; replace BK556 := bb_ BK556 hb; replace HB := hs_ HB hb; (try clear hb); (try clear hb2); (try clear hk); (try clear hi)))
            go_ret
            exact er_ (hx_ HB.out)
           ·rw [if_neg c79] at H
            exact absurd H (by simp)
          ·rw [if_neg c78] at H
           exact absurd H (by simp)
         ·rw [if_neg c75] at H
          have c75b0 : (t560 == 0) = false := beq_eq_false_iff_ne.mpr c75
          have c75b1 : (t560 != 0) = true := bne_iff_ne.mpr c75
          obtain rfl := Option.some.inj H
          go_wp2
          go_ret
          exact er_ (hx_ HB.out)

/-- THE ONE PURE STATEMENT of laws_FnGridCuts: yours. -/
def laws_FnGridCuts.Pure : Prop := ∀ (l0 : List Int), l0.length ≤ maxLen → l0.length * 1 ≤ 140737488351232 → (∀ x ∈ l0, (Lit.int .u8 x).wf = true) → ∃ k, laws_FnGridCuts.f k l0 = some true
theorem laws_FnGridCuts.walk (P : laws_FnGridCuts.Pure) (a0 : Option Addr) (len0 cap0 : Nat) (z0 : List Int) (w : World) (w0 : (a0 = none ∧ len0 = 0 ∧ cap0 = 0 ∧ z0 = []) ∨ ∃ x, a0 = some x ∧ len0 ≤ cap0 ∧ cap0 ≤ maxLen ∧ z0.length = cap0 ∧ (∀ i, i < z0.length → w.cell? (x.add i) = some (.int .u8 (z0.getD i 0))) ∧ ∀ n ∈ z0, (Lit.int .u8 n).wf = true) (y0 : len0 * 1 ≤ 140737488351232) (henv : HandR.Env w) :
  Calls Tryz.prog 3 #[.slice a0 len0 cap0] w fun e w' => e = .returned (.bool true) ∧ Below w.heap.size w w' := by
 obtain ⟨l0, rfl, hr0, hm0, hw0, hc0⟩ := ReadsInt.ofRowC w0
 obtain ⟨k, h⟩ := P l0 hm0 y0 hw0
 refine (laws_FnGridCuts.calls k _ _ l0 true w (Kd.C_of_reads (d := (0 : Int)) (h1 := fun _ => rfl) hr0) hc0 h henv).mono ?_
 rintro e w' ⟨rfl, hd⟩
 exact ⟨rfl, hd⟩

end Go.Proofs.YtdafddgmeidclaaGreatDoor.PFnGridCuts
