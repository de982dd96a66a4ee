-- Written by wip/inject.py: a contract of each function that the law reaches; those of the stand-ins are proved in this seat's Hand texts
import Derived.Test.YtdafddgmeidclaaGreatDoorPFnGridCutsx0
import Derived.Test.YtdafddgmeidclaaGreatDoorPFnGridCutsx3
namespace Go.Proofs.YtdafddgmeidclaaGreatDoor.PFnGridCuts
open Go.RowKit Go.Proofs.YtdafddgmeidclaaGreatDoorW.PrintWords Go.Proofs.YtdafddgmeidclaaGreatDoorW.PrintLast Go.Proofs.YtdafddgmeidclaaGreatDoorW.PrintMore
attribute [local go_sem] max2_int min2_int max_two min_two max_three min_three max_four min_four   -- for this text's walks alone
set_option linter.unusedVariables false
set_option linter.unusedSimpArgs false

/-! ### spec_DrawGridCuts: function 5 -/
def spec_DrawGridCuts.j0 : Nat → Int → Int → Int → Int → Int → Int → Option (Int × Int × Int × Int × Int × Int)
 | 0, _, _, _, _, _, _ => none
 | k + 1, x8, x9, x122000, x122001, x147000, x147001 => some (x147000, x147001, x8, x9, x122000, x122001)
def spec_DrawGridCuts.f (k : Nat) (l0 : List Int) : Option (Int × Int × Int × Int × Int × Int) := (spec_l01From.f k l0).bind fun bt111 => ((spec_l01Next.f bt111.1 bt111.2.1 bt111.2.2 20).bind fun bt115 => ((spec_l01Next.f bt111.1 bt115.2.1 bt115.2.2 20).bind fun bt118 => ((spec_l01Next.f bt111.1 bt118.2.1 bt118.2.2 5).bind fun bt122 => ((spec_l01Next.f bt111.1 bt122.2.1 bt122.2.2 5).bind fun bt125 => ((spec_l01Next.f bt111.1 bt125.2.1 bt125.2.2 10).bind fun bt128 => ((spec_l01Pick.f bt111.1 bt128.2.1 bt128.2.2 (([0, 0, bt128.1] : List Int))).bind fun bt134 => ((spec_l01Next.f bt111.1 bt134.2.1 bt134.2.2 10).bind fun bt137 => ((spec_l01Pick.f bt111.1 bt137.2.1 bt137.2.2 (([0, 0, bt137.1] : List Int))).bind fun bt143 => ((spec_l01Next.f bt111.1 bt143.2.1 bt143.2.2 24).bind fun bt147 => (if bt147.1 = 0 then (spec_DrawGridCuts.j0 k (wrap64 (1 + bt122.1)) (wrap64 (1 + bt125.1)) (wrap64 (1 + bt115.1)) (wrap64 (1 + bt118.1)) (wrap64 ((wrap64 ((wrap64 ((wrap64 (1 + bt122.1)) * (wrap64 (1 + bt115.1)))) + bt134.1)) - 1)) (wrap64 ((wrap64 ((wrap64 (1 + bt125.1)) * (wrap64 (1 + bt118.1)))) + bt143.1))) else (if bt147.1 = 1 then ((spec_l01Pick.f bt111.1 bt147.2.1 bt147.2.2 (([0, 80, 81] : List Int))).bind fun bt153 => (spec_DrawGridCuts.j0 k bt153.1 (wrap64 (1 + bt125.1)) (wrap64 (1 + bt115.1)) (wrap64 (1 + bt118.1)) (wrap64 ((wrap64 ((wrap64 (1 + bt122.1)) * (wrap64 (1 + bt115.1)))) + bt134.1)) (wrap64 ((wrap64 ((wrap64 (1 + bt125.1)) * (wrap64 (1 + bt118.1)))) + bt143.1)))) else (if bt147.1 = 2 then ((spec_l01Pick.f bt111.1 bt147.2.1 bt147.2.2 (([8, 9, 16] : List Int))).bind fun bt159 => ((spec_l01Pick.f bt111.1 bt159.2.1 bt159.2.2 (([9, 10, 5] : List Int))).bind fun bt165 => (some (100, 100, bt159.1, bt165.1, 1, 1)))) else (spec_DrawGridCuts.j0 k (wrap64 (1 + bt122.1)) (wrap64 (1 + bt125.1)) (wrap64 (1 + bt115.1)) (wrap64 (1 + bt118.1)) (wrap64 ((wrap64 ((wrap64 (1 + bt122.1)) * (wrap64 (1 + bt115.1)))) + bt134.1)) (wrap64 ((wrap64 ((wrap64 (1 + bt125.1)) * (wrap64 (1 + bt118.1)))) + bt143.1)))))))))))))))
theorem spec_DrawGridCuts.mono_l : ∀ k, (∀ y0 y1 y2 y3 y4 y5, LeO (spec_DrawGridCuts.j0 k y0 y1 y2 y3 y4 y5) (spec_DrawGridCuts.j0 (k + 1) y0 y1 y2 y3 y4 y5))
 | 0 => fun _ _ _ _ _ _ r h => by simp [spec_DrawGridCuts.j0] at h
 | k + 1 => by
  have ih0 := spec_DrawGridCuts.mono_l k
  ·intro y0 y1 y2 y3 y4 y5
   unfold spec_DrawGridCuts.j0
   repeat' first
   | (with_reducible exact ih0 _ _ _ _ _ _)
   | (with_reducible exact spec_l01From.mono _ _)
   | (with_reducible exact LeO.refl _)
   | (with_reducible exact LeO.none _)
   | (with_reducible refine LeO.ite ?_ ?_)
   | (with_reducible refine LeO.bind ?_ (fun _ => ?_))
   | exact ih0 _ _ _ _ _ _
   | exact spec_l01From.mono _ _
   | exact LeO.none _
   | refine LeO.ite ?_ ?_
   | refine LeO.bind ?_ (fun _ => ?_)
theorem spec_DrawGridCuts.mono : ∀ a0 k, LeO (spec_DrawGridCuts.f k a0) (spec_DrawGridCuts.f (k + 1) a0) := by
 intro a0 k
 have ih0 := spec_DrawGridCuts.mono_l k
 unfold spec_DrawGridCuts.f
 repeat' first
   | (with_reducible exact ih0 _ _ _ _ _ _)
   | (with_reducible exact spec_l01From.mono _ _)
   | (with_reducible exact LeO.refl _)
   | (with_reducible exact LeO.none _)
   | (with_reducible refine LeO.ite ?_ ?_)
   | (with_reducible refine LeO.bind ?_ (fun _ => ?_))
   | exact ih0 _ _ _ _ _ _
   | exact spec_l01From.mono _ _
   | exact LeO.none _
   | refine LeO.ite ?_ ?_
   | refine LeO.bind ?_ (fun _ => ?_)
def spec_DrawGridCuts.T4 : Bool × List (List Nat × List Nat) := (true, [([], []), ([], []), ([1], [1]), ([0, 2], [0, 2]), ([], []), ([], []), ([5], [5]), ([6], [6]), ([4, 7, 6], [4, 7]), ([3, 8], [3, 8]), ([], []), ([], []), ([11], [11]), ([10, 12], [10, 12]), ([], []), ([], []), ([15, 8], [15]), ([16], [16]), ([14, 17, 16], [14, 17]), ([13, 18], [13, 18]), ([9, 19], [9, 19]), ([], []), ([21, 20, 18, 0, 1, 2, 3, 4, 5, 6, 7, 8, 9, 10, 11, 12, 13, 14, 15, 16, 17, 18, 19, 20, 21], [20, 21])])
def spec_DrawGridCuts.B4 : List Nat := [0, 0, 2, 7, 0, 0, 32, 96, 240, 511, 0, 0, 2048, 7168, 0, 0, 33264, 98800, 246256, 523760, 1048575, 0, 4194303]
theorem spec_DrawGridCuts.tab4 : rtab .any (opsOf Tryz.f5 4) = spec_DrawGridCuts.T4 := by kernel_rfl
theorem spec_DrawGridCuts.bits4 : waitsOk spec_DrawGridCuts.T4.2 spec_DrawGridCuts.B4 = true := by kernel_rfl
def spec_DrawGridCuts.T12 : Bool × List (List Nat × List Nat) := (true, [([], []), ([], []), ([], []), ([], []), ([0, 0], [0]), ([1, 4, 0, 1, 4], [1]), ([2, 5, 0, 1, 2, 4, 5], [2]), ([3, 6, 0, 1, 2, 3, 4, 5, 6], [3])])
def spec_DrawGridCuts.B12 : List Nat := [0, 0, 0, 0, 1, 19, 55, 127]
theorem spec_DrawGridCuts.tab12 : rtab .any (opsOf Tryz.f5 12) = spec_DrawGridCuts.T12 := by kernel_rfl
theorem spec_DrawGridCuts.bits12 : waitsOk spec_DrawGridCuts.T12.2 spec_DrawGridCuts.B12 = true := by kernel_rfl
set_option maxHeartbeats 8000000 in
set_option maxRecDepth 100000 in
theorem spec_DrawGridCuts.calls (k : Nat) (A0 : Option Addr) (c0 : Nat) (l0 : List Int) (r1 : Int) (r2 : Int) (r3 : Int) (r4 : Int) (r5 : Int) (r6 : Int) (w : World) (hr0 : Kd.C (Kd.int .u8) w A0 l0.length l0) (hc0 : l0.length ≤ c0) (h : spec_DrawGridCuts.f k l0 = some (r1, r2, r3, r4, r5, r6)) :
  Calls Tryz.prog 5 #[.slice A0 l0.length c0] w fun e w' => e = .returned (.tuple #[.agg #[.int .i64 r1, .int .i64 r2], .int .i64 r3, .int .i64 r4, .agg #[.int .i64 r5, .int .i64 r6]]) ∧ Below w.heap.size w w' := by
 have hu25 := Tryz.underlying25
 have HR0 := Aside0.mk hr0
 have HC0 := Aside0.mk hc0
 clear hr0 hc0
 have HB := Aside0.mk (Below.refl w.heap.size w)
 have H : ((spec_l01From.f k l0).bind fun bt111 => ((spec_l01Next.f bt111.1 bt111.2.1 bt111.2.2 20).bind fun bt115 => ((spec_l01Next.f bt111.1 bt115.2.1 bt115.2.2 20).bind fun bt118 => ((spec_l01Next.f bt111.1 bt118.2.1 bt118.2.2 5).bind fun bt122 => ((spec_l01Next.f bt111.1 bt122.2.1 bt122.2.2 5).bind fun bt125 => ((spec_l01Next.f bt111.1 bt125.2.1 bt125.2.2 10).bind fun bt128 => ((spec_l01Pick.f bt111.1 bt128.2.1 bt128.2.2 (([0, 0, bt128.1] : List Int))).bind fun bt134 => ((spec_l01Next.f bt111.1 bt134.2.1 bt134.2.2 10).bind fun bt137 => ((spec_l01Pick.f bt111.1 bt137.2.1 bt137.2.2 (([0, 0, bt137.1] : List Int))).bind fun bt143 => ((spec_l01Next.f bt111.1 bt143.2.1 bt143.2.2 24).bind fun bt147 => (if bt147.1 = 0 then (spec_DrawGridCuts.j0 k (wrap64 (1 + bt122.1)) (wrap64 (1 + bt125.1)) (wrap64 (1 + bt115.1)) (wrap64 (1 + bt118.1)) (wrap64 ((wrap64 ((wrap64 ((wrap64 (1 + bt122.1)) * (wrap64 (1 + bt115.1)))) + bt134.1)) - 1)) (wrap64 ((wrap64 ((wrap64 (1 + bt125.1)) * (wrap64 (1 + bt118.1)))) + bt143.1))) else (if bt147.1 = 1 then ((spec_l01Pick.f bt111.1 bt147.2.1 bt147.2.2 (([0, 80, 81] : List Int))).bind fun bt153 => (spec_DrawGridCuts.j0 k bt153.1 (wrap64 (1 + bt125.1)) (wrap64 (1 + bt115.1)) (wrap64 (1 + bt118.1)) (wrap64 ((wrap64 ((wrap64 (1 + bt122.1)) * (wrap64 (1 + bt115.1)))) + bt134.1)) (wrap64 ((wrap64 ((wrap64 (1 + bt125.1)) * (wrap64 (1 + bt118.1)))) + bt143.1)))) else (if bt147.1 = 2 then ((spec_l01Pick.f bt111.1 bt147.2.1 bt147.2.2 (([8, 9, 16] : List Int))).bind fun bt159 => ((spec_l01Pick.f bt111.1 bt159.2.1 bt159.2.2 (([9, 10, 5] : List Int))).bind fun bt165 => (some (100, 100, bt159.1, bt165.1, 1, 1)))) else (spec_DrawGridCuts.j0 k (wrap64 (1 + bt122.1)) (wrap64 (1 + bt125.1)) (wrap64 (1 + bt115.1)) (wrap64 (1 + bt118.1)) (wrap64 ((wrap64 ((wrap64 (1 + bt122.1)) * (wrap64 (1 + bt115.1)))) + bt134.1)) (wrap64 ((wrap64 ((wrap64 (1 + bt125.1)) * (wrap64 (1 + bt118.1)))) + bt143.1)))))))))))))))) = some (r1, r2, r3, r4, r5, r6) := h
 clear h
 replace H := Option.bind_eq_some_iff.mp H
 obtain ⟨⟨t111, t112, t113⟩, A20, H⟩ := H
 try dsimp only at H
 have A2 := Aside0.mk A20
 clear A20
 replace H := Option.bind_eq_some_iff.mp H
 obtain ⟨⟨t115, t116, t117⟩, A30, H⟩ := H
 try dsimp only at H
 have A3 := Aside0.mk A30
 clear A30
 replace H := Option.bind_eq_some_iff.mp H
 obtain ⟨⟨t118, t119, t120⟩, A40, H⟩ := H
 try dsimp only at H
 have A4 := Aside0.mk A40
 clear A40
 replace H := Option.bind_eq_some_iff.mp H
 obtain ⟨⟨t122, t123, t124⟩, A50, H⟩ := H
 try dsimp only at H
 have A5 := Aside0.mk A50
 clear A50
 replace H := Option.bind_eq_some_iff.mp H
 obtain ⟨⟨t125, t126, t127⟩, A60, H⟩ := H
 try dsimp only at H
 have A6 := Aside0.mk A60
 clear A60
 replace H := Option.bind_eq_some_iff.mp H
 obtain ⟨⟨t128, t129, t130⟩, A70, H⟩ := H
 try dsimp only at H
 have A7 := Aside0.mk A70
 clear A70
 obtain ⟨y131, hy131⟩ : ∃ y_ : List Int, y_ = (([0, 0, t128] : List Int)) := ⟨_, rfl⟩
 replace H : ((spec_l01Pick.f t111 t129 t130 y131).bind fun bt134 => ((spec_l01Next.f t111 bt134.2.1 bt134.2.2 10).bind fun bt137 => ((spec_l01Pick.f t111 bt137.2.1 bt137.2.2 (([0, 0, bt137.1] : List Int))).bind fun bt143 => ((spec_l01Next.f t111 bt143.2.1 bt143.2.2 24).bind fun bt147 => (if bt147.1 = 0 then (spec_DrawGridCuts.j0 k (wrap64 (1 + t122)) (wrap64 (1 + t125)) (wrap64 (1 + t115)) (wrap64 (1 + t118)) (wrap64 ((wrap64 ((wrap64 ((wrap64 (1 + t122)) * (wrap64 (1 + t115)))) + bt134.1)) - 1)) (wrap64 ((wrap64 ((wrap64 (1 + t125)) * (wrap64 (1 + t118)))) + bt143.1))) else (if bt147.1 = 1 then ((spec_l01Pick.f t111 bt147.2.1 bt147.2.2 (([0, 80, 81] : List Int))).bind fun bt153 => (spec_DrawGridCuts.j0 k bt153.1 (wrap64 (1 + t125)) (wrap64 (1 + t115)) (wrap64 (1 + t118)) (wrap64 ((wrap64 ((wrap64 (1 + t122)) * (wrap64 (1 + t115)))) + bt134.1)) (wrap64 ((wrap64 ((wrap64 (1 + t125)) * (wrap64 (1 + t118)))) + bt143.1)))) else (if bt147.1 = 2 then ((spec_l01Pick.f t111 bt147.2.1 bt147.2.2 (([8, 9, 16] : List Int))).bind fun bt159 => ((spec_l01Pick.f t111 bt159.2.1 bt159.2.2 (([9, 10, 5] : List Int))).bind fun bt165 => (some (100, 100, bt159.1, bt165.1, 1, 1)))) else (spec_DrawGridCuts.j0 k (wrap64 (1 + t122)) (wrap64 (1 + t125)) (wrap64 (1 + t115)) (wrap64 (1 + t118)) (wrap64 ((wrap64 ((wrap64 (1 + t122)) * (wrap64 (1 + t115)))) + bt134.1)) (wrap64 ((wrap64 ((wrap64 (1 + t125)) * (wrap64 (1 + t118)))) + bt143.1)))))))))) = some (r1, r2, r3, r4, r5, r6) := by first | (rw [hy131]; with_reducible exact H) | (have H2_ := (Option.bind_some _ _).symm.trans H; rw [hy131]; with_reducible exact H2_) | (have H2_ := (Option.bind_some _ _).symm.trans H; with_reducible exact H2_) | with_reducible exact H | (rw [hy131]; exact H) | exact H
 have Ny131 := Aside0.mk hy131
 clear hy131
 replace H := Option.bind_eq_some_iff.mp H
 obtain ⟨⟨t134, t135, t136⟩, A80, H⟩ := H
 try dsimp only at H
 have A8 := Aside0.mk A80
 clear A80
 replace H := Option.bind_eq_some_iff.mp H
 obtain ⟨⟨t137, t138, t139⟩, A90, H⟩ := H
 try dsimp only at H
 have A9 := Aside0.mk A90
 clear A90
 obtain ⟨y140, hy140⟩ : ∃ y_ : List Int, y_ = (([0, 0, t137] : List Int)) := ⟨_, rfl⟩
 replace H : ((spec_l01Pick.f t111 t138 t139 y140).bind fun bt143 => ((spec_l01Next.f t111 bt143.2.1 bt143.2.2 24).bind fun bt147 => (if bt147.1 = 0 then (spec_DrawGridCuts.j0 k (wrap64 (1 + t122)) (wrap64 (1 + t125)) (wrap64 (1 + t115)) (wrap64 (1 + t118)) (wrap64 ((wrap64 ((wrap64 ((wrap64 (1 + t122)) * (wrap64 (1 + t115)))) + t134)) - 1)) (wrap64 ((wrap64 ((wrap64 (1 + t125)) * (wrap64 (1 + t118)))) + bt143.1))) else (if bt147.1 = 1 then ((spec_l01Pick.f t111 bt147.2.1 bt147.2.2 (([0, 80, 81] : List Int))).bind fun bt153 => (spec_DrawGridCuts.j0 k bt153.1 (wrap64 (1 + t125)) (wrap64 (1 + t115)) (wrap64 (1 + t118)) (wrap64 ((wrap64 ((wrap64 (1 + t122)) * (wrap64 (1 + t115)))) + t134)) (wrap64 ((wrap64 ((wrap64 (1 + t125)) * (wrap64 (1 + t118)))) + bt143.1)))) else (if bt147.1 = 2 then ((spec_l01Pick.f t111 bt147.2.1 bt147.2.2 (([8, 9, 16] : List Int))).bind fun bt159 => ((spec_l01Pick.f t111 bt159.2.1 bt159.2.2 (([9, 10, 5] : List Int))).bind fun bt165 => (some (100, 100, bt159.1, bt165.1, 1, 1)))) else (spec_DrawGridCuts.j0 k (wrap64 (1 + t122)) (wrap64 (1 + t125)) (wrap64 (1 + t115)) (wrap64 (1 + t118)) (wrap64 ((wrap64 ((wrap64 (1 + t122)) * (wrap64 (1 + t115)))) + t134)) (wrap64 ((wrap64 ((wrap64 (1 + t125)) * (wrap64 (1 + t118)))) + bt143.1)))))))) = some (r1, r2, r3, r4, r5, r6) := by first | (rw [hy140]; with_reducible exact H) | (have H2_ := (Option.bind_some _ _).symm.trans H; rw [hy140]; with_reducible exact H2_) | (have H2_ := (Option.bind_some _ _).symm.trans H; with_reducible exact H2_) | with_reducible exact H | (rw [hy140]; exact H) | exact H
 have Ny140 := Aside0.mk hy140
 clear hy140
 replace H := Option.bind_eq_some_iff.mp H
 obtain ⟨⟨t143, t144, t145⟩, A100, H⟩ := H
 try dsimp only at H
 have A10 := Aside0.mk A100
 clear A100
 replace H := Option.bind_eq_some_iff.mp H
 obtain ⟨⟨t147, t148, t149⟩, A110, H⟩ := H
 try dsimp only at H
 have A11 := Aside0.mk A110
 clear A110
 have HC12 := Aside0.mk H
 clear H
 go_enter Tryz.func5, Tryz.ntmps5
 try go_wp2_with (first | ((with_reducible refine gd_ 2 rfl ?_); refine be_ 2 #[.int .i64 0, .int .i64 0] 25 rfl rfl ?_; intro gb109 hg w13 hbox hb; have BK109 := am_ hbox; have GW109 := gw_ hg HB; have GE109 := gw_ hg HB; replace HB := hs_ HB hb; clear hb hbox hg) | ((with_reducible refine gd_ 5 rfl ?_); refine be_ 5 #[.int .i64 0, .int .i64 0] 25 rfl rfl ?_; intro gb110 hg w14 hbox hb; have BK110 := am_ hbox; have GW110 := gw_ hg HB; have GE110 := gw_ hg HB; replace HB := hs_ HB hb; have NB109_110 := nl_ hg BK109; have NB110_109 := ng_ hg BK109; replace BK109 := bb_ BK109 hb; clear hb hbox hg) | ((with_reducible refine gc_ 17 rfl ?_); refine gl_ (some 12) rfl rfl Tryz.func17 rfl #[.slice A0 l0.length c0] rfl ?_; (with_reducible refine (spec_l01From.calls k _ _ l0 t111 t112 t113 w _ ?side1 ?side2 ?side3 A2.out).mono ?_); (case side1 => exact hx_ HB.out); (case side2 => exact HR0.out); (case side3 => exact HC0.out); rintro e w15 ⟨g114, rfl, hi, hb, hb2⟩; refine ⟨_, rfl, ?_⟩; replace HB := am_ hb; have HI114 := am_ hi; have NB114_109 := am_ (IsS70.ne_blk hi (blk_below (g := gb109) (o := .cells #[.int .i64 0, .int .i64 0] 25 (0, 0)) (bx_ BK109.out) hb2) (by decide)); have NB109_114 := am_ (Ne.symm (IsS70.ne_blk hi (blk_below (g := gb109) (o := .cells #[.int .i64 0, .int .i64 0] 25 (0, 0)) (bx_ BK109.out) hb2) (by decide))); replace BK109 := bb_ BK109 hb2; have NB114_110 := am_ (IsS70.ne_blk hi (blk_below (g := gb110) (o := .cells #[.int .i64 0, .int .i64 0] 25 (0, 0)) (bx_ BK110.out) hb2) (by decide)); have NB110_114 := am_ (Ne.symm (IsS70.ne_blk hi (blk_below (g := gb110) (o := .cells #[.int .i64 0, .int .i64 0] 25 (0, 0)) (bx_ BK110.out) hb2) (by decide))); replace BK110 := bb_ BK110 hb2; (try clear hb); (try clear hb2); (try clear hk); (try clear hi)) | ((with_reducible refine gc_ 18 rfl ?_); refine gl_ (some 14) rfl rfl Tryz.func18 rfl #[.pointer (some ⟨g114, 0, none⟩), .int .i64 20] rfl ?_; (with_reducible refine (spec_l01Next.calls g114 t111 t112 t113 20 t115 t116 t117 w _ ?side1 ?side2 A3.out).mono ?_); (case side1 => exact ix_ HI114.out); (case side2 => exact hx_ HB.out); rintro e w16 ⟨rfl, hi, hb, hk⟩; refine ⟨_, rfl, ?_⟩; replace BK109 := kb_ hk BK109 NB109_114.out; replace BK110 := kb_ hk BK110 NB110_114.out; replace HB := am_ hb; replace HI114 := am_ hi; (try clear hb); (try clear hb2); (try clear hk); (try clear hi)) | ((with_reducible refine gc_ 18 rfl ?_); refine gl_ (some 17) rfl rfl Tryz.func18 rfl #[.pointer (some ⟨g114, 0, none⟩), .int .i64 20] rfl ?_; (with_reducible refine (spec_l01Next.calls g114 t111 t116 t117 20 t118 t119 t120 w _ ?side1 ?side2 A4.out).mono ?_); (case side1 => exact ix_ HI114.out); (case side2 => exact hx_ HB.out); rintro e w17 ⟨rfl, hi, hb, hk⟩; refine ⟨_, rfl, ?_⟩; replace BK109 := kb_ hk BK109 NB109_114.out; replace BK110 := kb_ hk BK110 NB110_114.out; replace HB := am_ hb; replace HI114 := am_ hi; (try clear hb); (try clear hb2); (try clear hk); (try clear hi)) | ((with_reducible refine gd_ 7 rfl ?_); refine be_ 7 #[.int .i64 0, .int .i64 0] 25 rfl rfl ?_; intro gb121 hg w18 hbox hb; have BK121 := am_ hbox; have GW121 := gw_ hg HB; have GE121 := gw_ hg HB; replace HB := hs_ HB hb; have NB109_121 := nl_ hg BK109; have NB121_109 := ng_ hg BK109; replace BK109 := bb_ BK109 hb; have NB110_121 := nl_ hg BK110; have NB121_110 := ng_ hg BK110; replace BK110 := bb_ BK110 hb; have NB114_121 := am_ (by rw [hg]; exact Nat.ne_of_lt (IsS70.lt (show IsS70 w _ g114 t111 t119 t120 from ix_ HI114.out)) : g114 ≠ gb121); have NB121_114 := am_ (by rw [hg]; exact Nat.ne_of_gt (IsS70.lt (show IsS70 w _ g114 t111 t119 t120 from ix_ HI114.out)) : gb121 ≠ g114); replace HI114 := am_ (IsS70.below (ix_ HI114.out) hb); clear hb hbox hg; have hnb19 := NB121_109.out; have hnc19 := NB109_121.out; have hnb20 := NB121_110.out; have hnc20 := NB110_121.out; have hnb21 := NB121_114.out; have hnc21 := NB114_121.out; have hcz22_0 : w18.cell? ⟨gb121, 0, none⟩ = some (.int .i64 0) := (blk_cell BK121.out 0).trans rfl; have hcz22_1 : w18.cell? ⟨gb121, 1, none⟩ = some (.int .i64 0) := (blk_cell BK121.out 1).trans rfl; have hfz22_0 := blk_frozen BK121.out 0; have hfz22_1 := blk_frozen BK121.out 1) | ((with_reducible refine gc_ 18 rfl ?_); refine gl_ (some 21) rfl rfl Tryz.func18 rfl #[.pointer (some ⟨g114, 0, none⟩), .int .i64 5] rfl ?_; (with_reducible refine (spec_l01Next.calls g114 t111 t119 t120 5 t122 t123 t124 w _ ?side1 ?side2 A5.out).mono ?_); (case side1 => exact ix_ HI114.out); (case side2 => exact hx_ HB.out); rintro e w23 ⟨rfl, hi, hb, hk⟩; refine ⟨_, rfl, ?_⟩; replace BK109 := kb_ hk BK109 NB109_114.out; replace BK110 := kb_ hk BK110 NB110_114.out; replace BK121 := am_ (KeepBut.blk hk (g' := gb121) (o := .cells #[.int .i64 (wrap64 (1 + t115)), .int .i64 (wrap64 (1 + t118))] 25 (0, 0)) (by (with_reducible repeat (first | refine blk_drewN ?_ _ | refine blk_drew ?_ | refine blk_alloc ?_ _)); refine blk_put (cs := #[.int .i64 (wrap64 (1 + t115)), .int .i64 0]) ?_ 1 _ rfl; (with_reducible repeat (first | refine blk_drewN ?_ _ | refine blk_drew ?_ | refine blk_alloc ?_ _)); refine blk_put (cs := #[.int .i64 0, .int .i64 0]) ?_ 0 _ rfl; (with_reducible repeat (first | refine blk_drewN ?_ _ | refine blk_drew ?_ | refine blk_alloc ?_ _)); exact BK121.out) NB121_114.out (by simp)); replace HB := am_ hb; replace HI114 := am_ hi; (try clear hb); (try clear hb2); (try clear hk); (try clear hi)) | ((with_reducible refine gc_ 18 rfl ?_); refine gl_ (some 24) rfl rfl Tryz.func18 rfl #[.pointer (some ⟨g114, 0, none⟩), .int .i64 5] rfl ?_; (with_reducible refine (spec_l01Next.calls g114 t111 t123 t124 5 t125 t126 t127 w _ ?side1 ?side2 A6.out).mono ?_); (case side1 => exact ix_ HI114.out); (case side2 => exact hx_ HB.out); rintro e w24 ⟨rfl, hi, hb, hk⟩; refine ⟨_, rfl, ?_⟩; replace BK109 := kb_ hk BK109 NB109_114.out; replace BK110 := kb_ hk BK110 NB110_114.out; replace BK121 := kb_ hk BK121 NB121_114.out; replace HB := am_ hb; replace HI114 := am_ hi; (try clear hb); (try clear hb2); (try clear hk); (try clear hi)))
 replace BK109 := am_ (blk_drew BK109.out); replace BK110 := am_ (blk_drew BK110.out); replace BK121 := am_ (blk_drew BK121.out); replace HI114 := am_ (IsS70.drew HI114.out); replace HB := am_ (below_drew1 HB.out)
 refine start_ (n := 23) (S := fun w' => w'.cell? ⟨gb121, 0, none⟩ = some (.int .i64 (wrap64 (1 + t115))) ∧ w'.cell? ⟨gb121, 1, none⟩ = some (.int .i64 (wrap64 (1 + t118)))) (ds := []) #[false, false, false, false, false, false, false, false, false, false, false, false, false, false, false, false, false, false, false, false, false, false, false] (by kernel_rfl) rfl rfl ⟨(blk_cell BK121.out 0).trans rfl, (blk_cell BK121.out 1).trans rfl⟩ (fun hHeld => ?_); refine with_tabW spec_DrawGridCuts.tab4 spec_DrawGridCuts.bits4 (fun HT_ HW_ => ?_)
 generalize w24.drew = w25 at BK109 BK110 BK121 HI114 HB hHeld ⊢
 refine pu_ 0 (some 26) #[true, false, false, false, false, false, false, false, false, false, false, false, false, false, false, false, false, false, false, false, false, false, false] HT_ ?_
 refine pu_ 1 (some 27) #[true, true, false, false, false, false, false, false, false, false, false, false, false, false, false, false, false, false, false, false, false, false, false] HT_ ?_
 refine pu_ 4 (some 30) #[true, true, false, false, true, false, false, false, false, false, false, false, false, false, false, false, false, false, false, false, false, false, false] HT_ ?_
 refine pu_ 5 (some 31) #[true, true, false, false, true, true, false, false, false, false, false, false, false, false, false, false, false, false, false, false, false, false, false] HT_ ?_
 refine pu_ 10 (some 36) #[true, true, false, false, true, true, false, false, false, false, true, false, false, false, false, false, false, false, false, false, false, false, false] HT_ ?_
 refine pu_ 11 (some 37) #[true, true, false, false, true, true, false, false, false, false, true, true, false, false, false, false, false, false, false, false, false, false, false] HT_ ?_
 refine pu_ 14 (some 40) #[true, true, false, false, true, true, false, false, false, false, true, true, false, false, true, false, false, false, false, false, false, false, false] HT_ ?_
 refine pu_ 15 (some 41) #[true, true, false, false, true, true, false, false, false, false, true, true, false, false, true, true, false, false, false, false, false, false, false] HT_ ?_
 refine ta2_ 2 (some 28) #[true, true, true, false, true, true, false, false, false, false, true, true, false, false, true, true, false, false, false, false, false, false, false] HT_ HW_ hHeld ?_
 refine pu_ 3 (some 29) #[true, true, true, true, true, true, false, false, false, false, true, true, false, false, true, true, false, false, false, false, false, false, false] HT_ ?_
 refine ta2_ 12 (some 38) #[true, true, true, true, true, true, false, false, false, false, true, true, true, false, true, true, false, false, false, false, false, false, false] HT_ HW_ hHeld ?_
 refine pu_ 13 (some 39) #[true, true, true, true, true, true, false, false, false, false, true, true, true, true, true, true, false, false, false, false, false, false, false] HT_ ?_
 refine join_ (σ := Value × Value × Nat) 1 #[true, true, true, true, true, true, true, true, true, true, true, true, true, true, true, true, true, true, true, true, true, true, false] (fun s_ => [(32, .int .i64 t128), (33, s_.1), (34, .int .i64 t134), (42, .int .i64 t137), (43, s_.2.1), (44, .int .i64 t143), (10, .pointer (some ⟨s_.2.2, 0, none⟩)), (35, .int .i64 (wrap64 ((wrap64 ((wrap64 (1 + t122)) * (wrap64 (1 + t115)))) + t134))), (45, .int .i64 (wrap64 ((wrap64 ((wrap64 (1 + t125)) * (wrap64 (1 + t118)))) + t143))), (46, .agg #[.int .i64 (wrap64 ((wrap64 ((wrap64 (1 + t122)) * (wrap64 (1 + t115)))) + t134)), .int .i64 (wrap64 ((wrap64 ((wrap64 (1 + t125)) * (wrap64 (1 + t118)))) + t143))])]) (fun s_ w' => (w'.cell? ⟨gb121, 0, none⟩ = some (.int .i64 (wrap64 (1 + t115))) ∧ w'.cell? ⟨gb121, 1, none⟩ = some (.int .i64 (wrap64 (1 + t118)))) ∧ (Kd.R (Kd.int .i64) 2 w' w.heap.size (fun k_ => some k_ ≠ (s_.2.1 : Value).ownBlock) s_.1 y131) ∧ (Kd.R (Kd.int .i64) 2 w' w.heap.size (fun k_ => some k_ ≠ (s_.1 : Value).ownBlock) s_.2.1 y140) ∧ (w'.heap[gb109]? = some (.cells #[.int .i64 0, .int .i64 0] 25 (0, 0))) ∧ (w'.heap[gb110]? = some (.cells #[.int .i64 0, .int .i64 0] 25 (0, 0))) ∧ (w'.heap[gb121]? = some (.cells #[.int .i64 (wrap64 (1 + t115)), .int .i64 (wrap64 (1 + t118))] 25 (0, 0))) ∧ (w'.heap[s_.2.2]? = some (.cells #[.int .i64 0, .int .i64 0] 25 (0, 0))) ∧ (w.heap.size ≤ s_.2.2) ∧ (w.heap.size ≤ s_.2.2) ∧ (g114 ≠ s_.2.2) ∧ (s_.2.2 ≠ g114) ∧ (gb109 ≠ s_.2.2) ∧ (s_.2.2 ≠ gb109) ∧ (gb110 ≠ s_.2.2) ∧ (s_.2.2 ≠ gb110) ∧ (gb121 ≠ s_.2.2) ∧ (s_.2.2 ≠ gb121) ∧ (IsS70 w w' g114 t111 t144 t145) ∧ (Below w.heap.size w w')) ?_ ?_
 rotate_left
 ·intro hJ6_7_8_16_17_18_21
  refine join_ (σ := Value × Value) 2 #[true, true, true, true, true, true, true, true, true, true, true, true, true, true, true, true, true, true, true, true, true, false, false] (fun s_ => [(32, .int .i64 t128), (33, s_.1), (34, .int .i64 t134), (42, .int .i64 t137), (43, s_.2), (44, .int .i64 t143), (35, .int .i64 (wrap64 ((wrap64 ((wrap64 (1 + t122)) * (wrap64 (1 + t115)))) + t134))), (45, .int .i64 (wrap64 ((wrap64 ((wrap64 (1 + t125)) * (wrap64 (1 + t118)))) + t143))), (46, .agg #[.int .i64 (wrap64 ((wrap64 ((wrap64 (1 + t122)) * (wrap64 (1 + t115)))) + t134)), .int .i64 (wrap64 ((wrap64 ((wrap64 (1 + t125)) * (wrap64 (1 + t118)))) + t143))])]) (fun s_ w' => (w'.cell? ⟨gb121, 0, none⟩ = some (.int .i64 (wrap64 (1 + t115))) ∧ w'.cell? ⟨gb121, 1, none⟩ = some (.int .i64 (wrap64 (1 + t118)))) ∧ (Kd.R (Kd.int .i64) 2 w' w.heap.size (fun k_ => some k_ ≠ (s_.2 : Value).ownBlock) s_.1 y131) ∧ (Kd.R (Kd.int .i64) 2 w' w.heap.size (fun k_ => some k_ ≠ (s_.1 : Value).ownBlock) s_.2 y140) ∧ (w'.heap[gb109]? = some (.cells #[.int .i64 0, .int .i64 0] 25 (0, 0))) ∧ (w'.heap[gb110]? = some (.cells #[.int .i64 0, .int .i64 0] 25 (0, 0))) ∧ (w'.heap[gb121]? = some (.cells #[.int .i64 (wrap64 (1 + t115)), .int .i64 (wrap64 (1 + t118))] 25 (0, 0))) ∧ (IsS70 w w' g114 t111 t144 t145) ∧ (Below w.heap.size w w')) ?_ ?_
  rotate_left
  ·intro hJ6_7_8_16_17_18
   refine join_ (σ := Value × Value × Nat) 4 #[true, true, true, true, true, true, true, true, true, true, true, true, true, true, true, true, true, true, false, false, false, true, false] (fun s_ => [(32, .int .i64 t128), (33, s_.1), (34, .int .i64 t134), (42, .int .i64 t137), (43, s_.2.1), (10, .pointer (some ⟨s_.2.2, 0, none⟩)), (35, .int .i64 (wrap64 ((wrap64 ((wrap64 (1 + t122)) * (wrap64 (1 + t115)))) + t134)))]) (fun s_ w' => (w'.cell? ⟨gb121, 0, none⟩ = some (.int .i64 (wrap64 (1 + t115))) ∧ w'.cell? ⟨gb121, 1, none⟩ = some (.int .i64 (wrap64 (1 + t118)))) ∧ (Kd.R (Kd.int .i64) 2 w' w.heap.size (fun k_ => some k_ ≠ (s_.2.1 : Value).ownBlock) s_.1 y131) ∧ (Kd.R (Kd.int .i64) 2 w' w.heap.size (fun k_ => some k_ ≠ (s_.1 : Value).ownBlock) s_.2.1 y140) ∧ (w'.heap[gb109]? = some (.cells #[.int .i64 0, .int .i64 0] 25 (0, 0))) ∧ (w'.heap[gb110]? = some (.cells #[.int .i64 0, .int .i64 0] 25 (0, 0))) ∧ (w'.heap[gb121]? = some (.cells #[.int .i64 (wrap64 (1 + t115)), .int .i64 (wrap64 (1 + t118))] 25 (0, 0))) ∧ (w'.heap[s_.2.2]? = some (.cells #[.int .i64 0, .int .i64 0] 25 (0, 0))) ∧ (w.heap.size ≤ s_.2.2) ∧ (w.heap.size ≤ s_.2.2) ∧ (g114 ≠ s_.2.2) ∧ (s_.2.2 ≠ g114) ∧ (gb109 ≠ s_.2.2) ∧ (s_.2.2 ≠ gb109) ∧ (gb110 ≠ s_.2.2) ∧ (s_.2.2 ≠ gb110) ∧ (gb121 ≠ s_.2.2) ∧ (s_.2.2 ≠ gb121) ∧ (IsS70 w w' g114 t111 t138 t139) ∧ (Below w.heap.size w w')) ?_ ?_
   rotate_left
   ·intro hJ6_7_8_16_17_21
    refine join_ (σ := Value × Value) 5 #[true, true, true, true, true, true, true, true, true, true, true, true, true, true, true, true, true, true, false, false, false, false, false] (fun s_ => [(32, .int .i64 t128), (33, s_.1), (34, .int .i64 t134), (42, .int .i64 t137), (43, s_.2), (35, .int .i64 (wrap64 ((wrap64 ((wrap64 (1 + t122)) * (wrap64 (1 + t115)))) + t134)))]) (fun s_ w' => (w'.cell? ⟨gb121, 0, none⟩ = some (.int .i64 (wrap64 (1 + t115))) ∧ w'.cell? ⟨gb121, 1, none⟩ = some (.int .i64 (wrap64 (1 + t118)))) ∧ (Kd.R (Kd.int .i64) 2 w' w.heap.size (fun k_ => some k_ ≠ (s_.2 : Value).ownBlock) s_.1 y131) ∧ (Kd.R (Kd.int .i64) 2 w' w.heap.size (fun k_ => some k_ ≠ (s_.1 : Value).ownBlock) s_.2 y140) ∧ (w'.heap[gb109]? = some (.cells #[.int .i64 0, .int .i64 0] 25 (0, 0))) ∧ (w'.heap[gb110]? = some (.cells #[.int .i64 0, .int .i64 0] 25 (0, 0))) ∧ (w'.heap[gb121]? = some (.cells #[.int .i64 (wrap64 (1 + t115)), .int .i64 (wrap64 (1 + t118))] 25 (0, 0))) ∧ (IsS70 w w' g114 t111 t138 t139) ∧ (Below w.heap.size w w')) ?_ ?_
    rotate_left
    ·intro hJ6_7_8_16_17
     refine join_ (σ := Value × Nat) 5 #[true, true, true, true, true, true, true, true, true, true, true, true, true, true, true, true, true, false, false, false, false, true, false] (fun s_ => [(32, .int .i64 t128), (33, s_.1), (34, .int .i64 t134), (42, .int .i64 t137), (10, .pointer (some ⟨s_.2, 0, none⟩)), (35, .int .i64 (wrap64 ((wrap64 ((wrap64 (1 + t122)) * (wrap64 (1 + t115)))) + t134)))]) (fun s_ w' => (w'.cell? ⟨gb121, 0, none⟩ = some (.int .i64 (wrap64 (1 + t115))) ∧ w'.cell? ⟨gb121, 1, none⟩ = some (.int .i64 (wrap64 (1 + t118)))) ∧ (Kd.R (Kd.int .i64) 2 w' w.heap.size (fun _ => True) s_.1 y131) ∧ (w'.heap[gb109]? = some (.cells #[.int .i64 0, .int .i64 0] 25 (0, 0))) ∧ (w'.heap[gb110]? = some (.cells #[.int .i64 0, .int .i64 0] 25 (0, 0))) ∧ (w'.heap[gb121]? = some (.cells #[.int .i64 (wrap64 (1 + t115)), .int .i64 (wrap64 (1 + t118))] 25 (0, 0))) ∧ (w'.heap[s_.2]? = some (.cells #[.int .i64 0, .int .i64 0] 25 (0, 0))) ∧ (w.heap.size ≤ s_.2) ∧ (w.heap.size ≤ s_.2) ∧ (g114 ≠ s_.2) ∧ (s_.2 ≠ g114) ∧ (gb109 ≠ s_.2) ∧ (s_.2 ≠ gb109) ∧ (gb110 ≠ s_.2) ∧ (s_.2 ≠ gb110) ∧ (gb121 ≠ s_.2) ∧ (s_.2 ≠ gb121) ∧ (IsS70 w w' g114 t111 t138 t139) ∧ (Below w.heap.size w w')) ?_ ?_
     rotate_left
     ·intro hJ6_7_8_16_21
      refine join_ (σ := Value) 6 #[true, true, true, true, true, true, true, true, true, true, true, true, true, true, true, true, true, false, false, false, false, false, false] (fun s_ => [(32, .int .i64 t128), (33, s_), (34, .int .i64 t134), (42, .int .i64 t137), (35, .int .i64 (wrap64 ((wrap64 ((wrap64 (1 + t122)) * (wrap64 (1 + t115)))) + t134)))]) (fun s_ w' => (w'.cell? ⟨gb121, 0, none⟩ = some (.int .i64 (wrap64 (1 + t115))) ∧ w'.cell? ⟨gb121, 1, none⟩ = some (.int .i64 (wrap64 (1 + t118)))) ∧ (Kd.R (Kd.int .i64) 2 w' w.heap.size (fun _ => True) s_ y131) ∧ (w'.heap[gb109]? = some (.cells #[.int .i64 0, .int .i64 0] 25 (0, 0))) ∧ (w'.heap[gb110]? = some (.cells #[.int .i64 0, .int .i64 0] 25 (0, 0))) ∧ (w'.heap[gb121]? = some (.cells #[.int .i64 (wrap64 (1 + t115)), .int .i64 (wrap64 (1 + t118))] 25 (0, 0))) ∧ (IsS70 w w' g114 t111 t138 t139) ∧ (Below w.heap.size w w')) ?_ ?_
      rotate_left
      ·intro hJ6_7_8_16
       refine join_ (σ := Value × Nat) 6 #[true, true, true, true, true, true, true, true, true, true, true, true, true, true, true, true, false, false, false, false, false, true, false] (fun s_ => [(32, .int .i64 t128), (33, s_.1), (34, .int .i64 t134), (10, .pointer (some ⟨s_.2, 0, none⟩)), (35, .int .i64 (wrap64 ((wrap64 ((wrap64 (1 + t122)) * (wrap64 (1 + t115)))) + t134)))]) (fun s_ w' => (w'.cell? ⟨gb121, 0, none⟩ = some (.int .i64 (wrap64 (1 + t115))) ∧ w'.cell? ⟨gb121, 1, none⟩ = some (.int .i64 (wrap64 (1 + t118)))) ∧ (Kd.R (Kd.int .i64) 2 w' w.heap.size (fun _ => True) s_.1 y131) ∧ (w'.heap[gb109]? = some (.cells #[.int .i64 0, .int .i64 0] 25 (0, 0))) ∧ (w'.heap[gb110]? = some (.cells #[.int .i64 0, .int .i64 0] 25 (0, 0))) ∧ (w'.heap[gb121]? = some (.cells #[.int .i64 (wrap64 (1 + t115)), .int .i64 (wrap64 (1 + t118))] 25 (0, 0))) ∧ (w'.heap[s_.2]? = some (.cells #[.int .i64 0, .int .i64 0] 25 (0, 0))) ∧ (w.heap.size ≤ s_.2) ∧ (w.heap.size ≤ s_.2) ∧ (g114 ≠ s_.2) ∧ (s_.2 ≠ g114) ∧ (gb109 ≠ s_.2) ∧ (s_.2 ≠ gb109) ∧ (gb110 ≠ s_.2) ∧ (s_.2 ≠ gb110) ∧ (gb121 ≠ s_.2) ∧ (s_.2 ≠ gb121) ∧ (IsS70 w w' g114 t111 t135 t136) ∧ (Below w.heap.size w w')) ?_ ?_
       rotate_left
       ·intro hJ6_7_8_21
        refine join_ (σ := Value) 7 #[true, true, true, true, true, true, true, true, true, true, true, true, true, true, true, true, false, false, false, false, false, false, false] (fun s_ => [(32, .int .i64 t128), (33, s_), (34, .int .i64 t134), (35, .int .i64 (wrap64 ((wrap64 ((wrap64 (1 + t122)) * (wrap64 (1 + t115)))) + t134)))]) (fun s_ w' => (w'.cell? ⟨gb121, 0, none⟩ = some (.int .i64 (wrap64 (1 + t115))) ∧ w'.cell? ⟨gb121, 1, none⟩ = some (.int .i64 (wrap64 (1 + t118)))) ∧ (Kd.R (Kd.int .i64) 2 w' w.heap.size (fun _ => True) s_ y131) ∧ (w'.heap[gb109]? = some (.cells #[.int .i64 0, .int .i64 0] 25 (0, 0))) ∧ (w'.heap[gb110]? = some (.cells #[.int .i64 0, .int .i64 0] 25 (0, 0))) ∧ (w'.heap[gb121]? = some (.cells #[.int .i64 (wrap64 (1 + t115)), .int .i64 (wrap64 (1 + t118))] 25 (0, 0))) ∧ (IsS70 w w' g114 t111 t135 t136) ∧ (Below w.heap.size w w')) ?_ ?_
        rotate_left
        ·intro hJ6_7_8
         refine join_ (σ := Value × Nat) 8 #[true, true, true, true, true, true, true, true, false, false, true, true, true, true, true, true, false, false, false, false, false, true, false] (fun s_ => [(32, .int .i64 t128), (33, s_.1), (10, .pointer (some ⟨s_.2, 0, none⟩))]) (fun s_ w' => (w'.cell? ⟨gb121, 0, none⟩ = some (.int .i64 (wrap64 (1 + t115))) ∧ w'.cell? ⟨gb121, 1, none⟩ = some (.int .i64 (wrap64 (1 + t118)))) ∧ (Kd.R (Kd.int .i64) 2 w' w.heap.size (fun _ => True) s_.1 y131) ∧ (w'.heap[gb109]? = some (.cells #[.int .i64 0, .int .i64 0] 25 (0, 0))) ∧ (w'.heap[gb110]? = some (.cells #[.int .i64 0, .int .i64 0] 25 (0, 0))) ∧ (w'.heap[gb121]? = some (.cells #[.int .i64 (wrap64 (1 + t115)), .int .i64 (wrap64 (1 + t118))] 25 (0, 0))) ∧ (w'.heap[s_.2]? = some (.cells #[.int .i64 0, .int .i64 0] 25 (0, 0))) ∧ (w.heap.size ≤ s_.2) ∧ (w.heap.size ≤ s_.2) ∧ (g114 ≠ s_.2) ∧ (s_.2 ≠ g114) ∧ (gb109 ≠ s_.2) ∧ (s_.2 ≠ gb109) ∧ (gb110 ≠ s_.2) ∧ (s_.2 ≠ gb110) ∧ (gb121 ≠ s_.2) ∧ (s_.2 ≠ gb121) ∧ (IsS70 w w' g114 t111 t129 t130) ∧ (Below w.heap.size w w')) ?_ ?_
         rotate_left
         ·intro hJ6_7_21
          refine join_ (σ := Value) 9 #[true, true, true, true, true, true, true, true, false, false, true, true, true, true, true, true, false, false, false, false, false, false, false] (fun s_ => [(32, .int .i64 t128), (33, s_)]) (fun s_ w' => (w'.cell? ⟨gb121, 0, none⟩ = some (.int .i64 (wrap64 (1 + t115))) ∧ w'.cell? ⟨gb121, 1, none⟩ = some (.int .i64 (wrap64 (1 + t118)))) ∧ (Kd.R (Kd.int .i64) 2 w' w.heap.size (fun _ => True) s_ y131) ∧ (w'.heap[gb109]? = some (.cells #[.int .i64 0, .int .i64 0] 25 (0, 0))) ∧ (w'.heap[gb110]? = some (.cells #[.int .i64 0, .int .i64 0] 25 (0, 0))) ∧ (w'.heap[gb121]? = some (.cells #[.int .i64 (wrap64 (1 + t115)), .int .i64 (wrap64 (1 + t118))] 25 (0, 0))) ∧ (IsS70 w w' g114 t111 t129 t130) ∧ (Below w.heap.size w w')) ?_ ?_
          rotate_left
          ·intro hJ6_7
           refine join_ (σ := Nat) 9 #[true, true, true, true, true, true, true, false, false, false, true, true, true, true, true, true, false, false, false, false, false, true, false] (fun s_ => [(32, .int .i64 t128), (10, .pointer (some ⟨s_, 0, none⟩))]) (fun s_ w' => (w'.cell? ⟨gb121, 0, none⟩ = some (.int .i64 (wrap64 (1 + t115))) ∧ w'.cell? ⟨gb121, 1, none⟩ = some (.int .i64 (wrap64 (1 + t118)))) ∧ (w'.heap[gb109]? = some (.cells #[.int .i64 0, .int .i64 0] 25 (0, 0))) ∧ (w'.heap[gb110]? = some (.cells #[.int .i64 0, .int .i64 0] 25 (0, 0))) ∧ (w'.heap[gb121]? = some (.cells #[.int .i64 (wrap64 (1 + t115)), .int .i64 (wrap64 (1 + t118))] 25 (0, 0))) ∧ (w'.heap[s_]? = some (.cells #[.int .i64 0, .int .i64 0] 25 (0, 0))) ∧ (w.heap.size ≤ s_) ∧ (w.heap.size ≤ s_) ∧ (g114 ≠ s_) ∧ (s_ ≠ g114) ∧ (gb109 ≠ s_) ∧ (s_ ≠ gb109) ∧ (gb110 ≠ s_) ∧ (s_ ≠ gb110) ∧ (gb121 ≠ s_) ∧ (s_ ≠ gb121) ∧ (IsS70 w w' g114 t111 t129 t130) ∧ (Below w.heap.size w w')) ?_ ?_
           rotate_left
           ·intro hJ6_21
            refine join_ (σ := Unit) 10 #[true, true, true, true, true, true, true, false, false, false, true, true, true, true, true, true, false, false, false, false, false, false, false] (fun s_ => [(32, .int .i64 t128)]) (fun s_ w' => (w'.cell? ⟨gb121, 0, none⟩ = some (.int .i64 (wrap64 (1 + t115))) ∧ w'.cell? ⟨gb121, 1, none⟩ = some (.int .i64 (wrap64 (1 + t118)))) ∧ (w'.heap[gb109]? = some (.cells #[.int .i64 0, .int .i64 0] 25 (0, 0))) ∧ (w'.heap[gb110]? = some (.cells #[.int .i64 0, .int .i64 0] 25 (0, 0))) ∧ (w'.heap[gb121]? = some (.cells #[.int .i64 (wrap64 (1 + t115)), .int .i64 (wrap64 (1 + t118))] 25 (0, 0))) ∧ (IsS70 w w' g114 t111 t129 t130) ∧ (Below w.heap.size w w')) ?_ ?_
            rotate_left
            ·intro hJ6
             refine join_ (σ := Nat) 10 #[true, true, true, true, true, true, false, false, false, false, true, true, true, true, true, true, false, false, false, false, false, true, false] (fun s_ => [(10, .pointer (some ⟨s_, 0, none⟩))]) (fun s_ w' => (w'.cell? ⟨gb121, 0, none⟩ = some (.int .i64 (wrap64 (1 + t115))) ∧ w'.cell? ⟨gb121, 1, none⟩ = some (.int .i64 (wrap64 (1 + t118)))) ∧ (w'.heap[gb109]? = some (.cells #[.int .i64 0, .int .i64 0] 25 (0, 0))) ∧ (w'.heap[gb110]? = some (.cells #[.int .i64 0, .int .i64 0] 25 (0, 0))) ∧ (w'.heap[gb121]? = some (.cells #[.int .i64 (wrap64 (1 + t115)), .int .i64 (wrap64 (1 + t118))] 25 (0, 0))) ∧ (w'.heap[s_]? = some (.cells #[.int .i64 0, .int .i64 0] 25 (0, 0))) ∧ (w.heap.size ≤ s_) ∧ (w.heap.size ≤ s_) ∧ (g114 ≠ s_) ∧ (s_ ≠ g114) ∧ (gb109 ≠ s_) ∧ (s_ ≠ gb109) ∧ (gb110 ≠ s_) ∧ (s_ ≠ gb110) ∧ (gb121 ≠ s_) ∧ (s_ ≠ gb121) ∧ (IsS70 w w' g114 t111 t126 t127) ∧ (Below w.heap.size w w')) ?_ ?_
             rotate_left
             ·intro hJ21
              refine two_ (i := 6) (j := 21) (Ni := some 32) (Nj := some 10) #[true, true, true, true, true, true, true, false, false, false, true, true, true, true, true, true, false, false, false, false, false, false, false] #[true, true, true, true, true, true, false, false, false, false, true, true, true, true, true, true, false, false, false, false, false, true, false] rfl rfl rfl rfl (two_of HT_.out (by kernel_rfl)) (by decide) (by decide) (fun K hK => ?_) (fun K hK => ?_)
              ·skip
               refine goes_ Tryz.func18 (by kernel_rfl) rfl #[.pointer (some ⟨g114, 0, none⟩), .int .i64 10] (by rfl) rfl rfl (by (try simp only [List.map_toArray, List.map_cons, List.map_nil]); first | done | rfl | (simp only [List.length_drop, List.length_take]; rfl)) ?_
               with_reducible refine (spec_l01Next.calls g114 t111 t126 t127 10 t128 t129 t130 w _ ?side1 ?side2 A7.out).mono ?_
               (case side1 => exact ix_ HI114.out)
               (case side2 => exact hx_ HB.out)
               rintro e w26 ⟨rfl, hi, hb, hk⟩
               refine ⟨_, rfl, ?_⟩
               replace BK109 := kb_ hk BK109 NB109_114.out; replace BK110 := kb_ hk BK110 NB110_114.out; replace BK121 := kb_ hk BK121 NB121_114.out; replace HB := am_ hb; replace HI114 := am_ hi
               (try clear hb)
               (try clear hb2)
               (try clear hk)
               (try clear hi)
               refine hK.out _ _ ⟨(blk_cell BK121.out 0).trans rfl, (blk_cell BK121.out 1).trans rfl⟩ (fun hHeld => ?_)
               clear hK K
               refine no_ (some 32) ?_
               exact nm_ (hJ6 () _ ⟨hHeld, (bx_ BK109.out), (bx_ BK110.out), (bx_ BK121.out), (ix_ HI114.out), (hx_ HB.out)⟩)
              ·skip
               refine box_step ?hg (N := 10) ?hd (cs := #[.int .i64 0, .int .i64 0]) (t := 25) ?hr ?_; (case hd => rfl); (case hg => rfl); (case hr => first | (go_simp; done) | (go_simp; rfl))
               intro gb146 hg w26 hbox hb
               have BK146 := am_ hbox; have GW146 := gw_ hg HB; have GE146 := gw_ hg HB; replace HB := hs_ HB hb; have NB109_146 := nl_ hg BK109; have NB146_109 := ng_ hg BK109; replace BK109 := bb_ BK109 hb; have NB110_146 := nl_ hg BK110; have NB146_110 := ng_ hg BK110; replace BK110 := bb_ BK110 hb; have NB121_146 := nl_ hg BK121; have NB146_121 := ng_ hg BK121; replace BK121 := bb_ BK121 hb; have NB114_146 := am_ (by rw [hg]; exact Nat.ne_of_lt (IsS70.lt (show IsS70 w _ g114 t111 t126 t127 from ix_ HI114.out)) : g114 ≠ gb146); have NB146_114 := am_ (by rw [hg]; exact Nat.ne_of_gt (IsS70.lt (show IsS70 w _ g114 t111 t126 t127 from ix_ HI114.out)) : gb146 ≠ g114); replace HI114 := am_ (IsS70.below (ix_ HI114.out) hb)
               clear hb hbox hg
               refine hK.out _ _ ⟨(blk_cell BK121.out 0).trans rfl, (blk_cell BK121.out 1).trans rfl⟩ (fun hHeld => ?_)
               clear hK K
               refine no_ (some 10) ?_
               exact nm_ (hJ21 (gb146) _ ⟨hHeld, (bx_ BK109.out), (bx_ BK110.out), (bx_ BK121.out), (bx_ BK146.out), GW146.out, GE146.out, NB114_146.out, NB146_114.out, NB109_146.out, NB146_109.out, NB110_146.out, NB146_110.out, NB121_146.out, NB146_121.out, (ix_ HI114.out), (hx_ HB.out)⟩)
             ·skip
              rintro gb146 w27 ⟨hS_, h0_, h1_, h2_, h3_, h4_, h5_, h6_, h7_, h8_, h9_, h10_, h11_, h12_, h13_, h14_, h15_⟩
              replace BK109 : Aside0 (w27.heap[gb109]? = some (.cells #[.int .i64 0, .int .i64 0] 25 (0, 0))) := ⟨h0_⟩; replace BK110 : Aside0 (w27.heap[gb110]? = some (.cells #[.int .i64 0, .int .i64 0] 25 (0, 0))) := ⟨h1_⟩; replace BK121 : Aside0 (w27.heap[gb121]? = some (.cells #[.int .i64 (wrap64 (1 + t115)), .int .i64 (wrap64 (1 + t118))] 25 (0, 0))) := ⟨h2_⟩; have BK146 : Aside0 (w27.heap[gb146]? = some (.cells #[.int .i64 0, .int .i64 0] 25 (0, 0))) := ⟨h3_⟩; have GW146 : Aside0 (w.heap.size ≤ gb146) := ⟨h4_⟩; have GE146 : Aside0 (w.heap.size ≤ gb146) := ⟨h5_⟩; have NB114_146 : Aside0 (g114 ≠ gb146) := ⟨h6_⟩; have NB146_114 : Aside0 (gb146 ≠ g114) := ⟨h7_⟩; have NB109_146 : Aside0 (gb109 ≠ gb146) := ⟨h8_⟩; have NB146_109 : Aside0 (gb146 ≠ gb109) := ⟨h9_⟩; have NB110_146 : Aside0 (gb110 ≠ gb146) := ⟨h10_⟩; have NB146_110 : Aside0 (gb146 ≠ gb110) := ⟨h11_⟩; have NB121_146 : Aside0 (gb121 ≠ gb146) := ⟨h12_⟩; have NB146_121 : Aside0 (gb146 ≠ gb121) := ⟨h13_⟩; replace HI114 : Aside0 (IsS70 w w27 g114 t111 t126 t127) := ⟨h14_⟩; replace HB : Aside0 (Below w.heap.size w w27) := ⟨h15_⟩; clear h0_ h1_ h2_ h3_ h4_ h5_ h6_ h7_ h8_ h9_ h10_ h11_ h12_ h13_ h14_ h15_
              have hHeld : w27.cell? ⟨gb121, 0, none⟩ = some (.int .i64 (wrap64 (1 + t115))) ∧ w27.cell? ⟨gb121, 1, none⟩ = some (.int .i64 (wrap64 (1 + t118))) := hS_
              refine np_ ?_
              refine one_ (i := 6) (N := some 32) #[true, true, true, true, true, true, true, false, false, false, true, true, true, true, true, true, false, false, false, false, false, true, false] rfl rfl (one_of HT_.out (by kernel_rfl)) (by decide) (fun K hK => ?_)
              refine goes_ Tryz.func18 (by kernel_rfl) rfl #[.pointer (some ⟨g114, 0, none⟩), .int .i64 10] (by rfl) rfl rfl (by (try simp only [List.map_toArray, List.map_cons, List.map_nil]); first | done | rfl | (simp only [List.length_drop, List.length_take]; rfl)) ?_
              with_reducible refine (spec_l01Next.calls g114 t111 t126 t127 10 t128 t129 t130 w _ ?side1 ?side2 A7.out).mono ?_
              (case side1 => exact ix_ HI114.out)
              (case side2 => exact hx_ HB.out)
              rintro e w28 ⟨rfl, hi, hb, hk⟩
              refine ⟨_, rfl, ?_⟩
              replace BK109 := kb_ hk BK109 NB109_114.out; replace BK110 := kb_ hk BK110 NB110_114.out; replace BK121 := kb_ hk BK121 NB121_114.out; replace BK146 := kb_ hk BK146 NB146_114.out; replace HB := am_ hb; replace HI114 := am_ hi
              (try clear hb)
              (try clear hb2)
              (try clear hk)
              (try clear hi)
              refine hK.out _ _ ⟨(blk_cell BK121.out 0).trans rfl, (blk_cell BK121.out 1).trans rfl⟩ (fun hHeld => ?_)
              clear hK K
              refine no_ (some 32) ?_
              exact nm_ (hJ6_21 (gb146) _ ⟨hHeld, (bx_ BK109.out), (bx_ BK110.out), (bx_ BK121.out), (bx_ BK146.out), GW146.out, GE146.out, NB114_146.out, NB146_114.out, NB109_146.out, NB146_109.out, NB110_146.out, NB146_110.out, NB121_146.out, NB146_121.out, (ix_ HI114.out), (hx_ HB.out)⟩)
            ·skip
             rintro _ w27 ⟨hS_, h0_, h1_, h2_, h3_, h4_⟩
             replace BK109 : Aside0 (w27.heap[gb109]? = some (.cells #[.int .i64 0, .int .i64 0] 25 (0, 0))) := ⟨h0_⟩; replace BK110 : Aside0 (w27.heap[gb110]? = some (.cells #[.int .i64 0, .int .i64 0] 25 (0, 0))) := ⟨h1_⟩; replace BK121 : Aside0 (w27.heap[gb121]? = some (.cells #[.int .i64 (wrap64 (1 + t115)), .int .i64 (wrap64 (1 + t118))] 25 (0, 0))) := ⟨h2_⟩; replace HI114 : Aside0 (IsS70 w w27 g114 t111 t129 t130) := ⟨h3_⟩; replace HB : Aside0 (Below w.heap.size w w27) := ⟨h4_⟩; clear h0_ h1_ h2_ h3_ h4_
             have hHeld : w27.cell? ⟨gb121, 0, none⟩ = some (.int .i64 (wrap64 (1 + t115))) ∧ w27.cell? ⟨gb121, 1, none⟩ = some (.int .i64 (wrap64 (1 + t118))) := hS_
             refine np_ ?_
             refine two_ (i := 7) (j := 21) (Ni := some 33) (Nj := some 10) #[true, true, true, true, true, true, true, true, false, false, true, true, true, true, true, true, false, false, false, false, false, false, false] #[true, true, true, true, true, true, true, false, false, false, true, true, true, true, true, true, false, false, false, false, false, true, false] rfl rfl rfl rfl (two_of HT_.out (by kernel_rfl)) (by decide) (by decide) (fun K hK => ?_) (fun K hK => ?_)
             ·skip
              refine Kd.R_lit_step (Kd.int .i64) _ 2 ?hg (N := 33) ?hd (xs := ([0, 0, t128] : List Int)) (inner := [.int .i64 0, .int .i64 0, .int .i64 t128]) (ok := fun _ => True) (okp := fun _ => True) ?hr ?hp (fun _ hk => hk) trivial (Below.refl _ _) (Nat.le_refl _) (by simp) ?_; (case hd => rfl); (case hg => rfl); (case hr => first | (go_simp; done) | (go_simp; rfl)); (case hp => exact (Reps.one (show Kd.M (Kd.int .i64) _ _ _ 0 [.int .i64 0] from rfl) (Reps.one (show Kd.M (Kd.int .i64) _ _ _ 0 [.int .i64 0] from rfl) (Reps.one (show Kd.M (Kd.int .i64) _ _ _ t128 [.int .i64 t128] from rfl) (Reps.none _ _)))))
              intro v132 w28 ho29 hb hg_ hnew_
              clear hg_ hnew_
              (first | rw [← Ny131.out] at ho29 | (simp only [Int.reduceToNat] at ho29; rw [← Ny131.out] at ho29))
              have HO133 := am_ (Kd.R_lower ho29 (below_size (hx_ HB.out))); replace BK109 := bb_ BK109 hb; replace BK110 := bb_ BK110 hb; replace HI114 := am_ (IsS70.below (ix_ HI114.out) hb); replace BK121 := bb_ BK121 hb; replace HB := hs_ HB hb
              clear hb ho29
              refine hK.out _ _ ⟨(blk_cell BK121.out 0).trans rfl, (blk_cell BK121.out 1).trans rfl⟩ (fun hHeld => ?_)
              clear hK K
              refine no_ (some 33) ?_
              exact nm_ (hJ6_7 (v132) _ ⟨hHeld, (rx_ HO133.out), (bx_ BK109.out), (bx_ BK110.out), (bx_ BK121.out), (ix_ HI114.out), (hx_ HB.out)⟩)
             ·skip
              refine box_step ?hg (N := 10) ?hd (cs := #[.int .i64 0, .int .i64 0]) (t := 25) ?hr ?_; (case hd => rfl); (case hg => rfl); (case hr => first | (go_simp; done) | (go_simp; rfl))
              intro gb146 hg w28 hbox hb
              have BK146 := am_ hbox; have GW146 := gw_ hg HB; have GE146 := gw_ hg HB; replace HB := hs_ HB hb; have NB109_146 := nl_ hg BK109; have NB146_109 := ng_ hg BK109; replace BK109 := bb_ BK109 hb; have NB110_146 := nl_ hg BK110; have NB146_110 := ng_ hg BK110; replace BK110 := bb_ BK110 hb; have NB121_146 := nl_ hg BK121; have NB146_121 := ng_ hg BK121; replace BK121 := bb_ BK121 hb; have NB114_146 := am_ (by rw [hg]; exact Nat.ne_of_lt (IsS70.lt (show IsS70 w _ g114 t111 t129 t130 from ix_ HI114.out)) : g114 ≠ gb146); have NB146_114 := am_ (by rw [hg]; exact Nat.ne_of_gt (IsS70.lt (show IsS70 w _ g114 t111 t129 t130 from ix_ HI114.out)) : gb146 ≠ g114); replace HI114 := am_ (IsS70.below (ix_ HI114.out) hb)
              clear hb hbox hg
              refine hK.out _ _ ⟨(blk_cell BK121.out 0).trans rfl, (blk_cell BK121.out 1).trans rfl⟩ (fun hHeld => ?_)
              clear hK K
              refine no_ (some 10) ?_
              exact nm_ (hJ6_21 (gb146) _ ⟨hHeld, (bx_ BK109.out), (bx_ BK110.out), (bx_ BK121.out), (bx_ BK146.out), GW146.out, GE146.out, NB114_146.out, NB146_114.out, NB109_146.out, NB146_109.out, NB110_146.out, NB146_110.out, NB121_146.out, NB146_121.out, (ix_ HI114.out), (hx_ HB.out)⟩)
           ·skip
            rintro gb146 w28 ⟨hS_, h0_, h1_, h2_, h3_, h4_, h5_, h6_, h7_, h8_, h9_, h10_, h11_, h12_, h13_, h14_, h15_⟩
            replace BK109 : Aside0 (w28.heap[gb109]? = some (.cells #[.int .i64 0, .int .i64 0] 25 (0, 0))) := ⟨h0_⟩; replace BK110 : Aside0 (w28.heap[gb110]? = some (.cells #[.int .i64 0, .int .i64 0] 25 (0, 0))) := ⟨h1_⟩; replace BK121 : Aside0 (w28.heap[gb121]? = some (.cells #[.int .i64 (wrap64 (1 + t115)), .int .i64 (wrap64 (1 + t118))] 25 (0, 0))) := ⟨h2_⟩; have BK146 : Aside0 (w28.heap[gb146]? = some (.cells #[.int .i64 0, .int .i64 0] 25 (0, 0))) := ⟨h3_⟩; have GW146 : Aside0 (w.heap.size ≤ gb146) := ⟨h4_⟩; have GE146 : Aside0 (w.heap.size ≤ gb146) := ⟨h5_⟩; have NB114_146 : Aside0 (g114 ≠ gb146) := ⟨h6_⟩; have NB146_114 : Aside0 (gb146 ≠ g114) := ⟨h7_⟩; have NB109_146 : Aside0 (gb109 ≠ gb146) := ⟨h8_⟩; have NB146_109 : Aside0 (gb146 ≠ gb109) := ⟨h9_⟩; have NB110_146 : Aside0 (gb110 ≠ gb146) := ⟨h10_⟩; have NB146_110 : Aside0 (gb146 ≠ gb110) := ⟨h11_⟩; have NB121_146 : Aside0 (gb121 ≠ gb146) := ⟨h12_⟩; have NB146_121 : Aside0 (gb146 ≠ gb121) := ⟨h13_⟩; replace HI114 : Aside0 (IsS70 w w28 g114 t111 t129 t130) := ⟨h14_⟩; replace HB : Aside0 (Below w.heap.size w w28) := ⟨h15_⟩; clear h0_ h1_ h2_ h3_ h4_ h5_ h6_ h7_ h8_ h9_ h10_ h11_ h12_ h13_ h14_ h15_
            have hHeld : w28.cell? ⟨gb121, 0, none⟩ = some (.int .i64 (wrap64 (1 + t115))) ∧ w28.cell? ⟨gb121, 1, none⟩ = some (.int .i64 (wrap64 (1 + t118))) := hS_
            refine np_ ?_
            refine one_ (i := 7) (N := some 33) #[true, true, true, true, true, true, true, true, false, false, true, true, true, true, true, true, false, false, false, false, false, true, false] rfl rfl (one_of HT_.out (by kernel_rfl)) (by decide) (fun K hK => ?_)
            refine Kd.R_lit_step (Kd.int .i64) _ 2 ?hg (N := 33) ?hd (xs := ([0, 0, t128] : List Int)) (inner := [.int .i64 0, .int .i64 0, .int .i64 t128]) (ok := fun _ => True) (okp := fun _ => True) ?hr ?hp (fun _ hk => hk) trivial (Below.refl _ _) (Nat.le_refl _) (by simp) ?_; (case hd => rfl); (case hg => rfl); (case hr => first | (go_simp; done) | (go_simp; rfl)); (case hp => exact (Reps.one (show Kd.M (Kd.int .i64) _ _ _ 0 [.int .i64 0] from rfl) (Reps.one (show Kd.M (Kd.int .i64) _ _ _ 0 [.int .i64 0] from rfl) (Reps.one (show Kd.M (Kd.int .i64) _ _ _ t128 [.int .i64 t128] from rfl) (Reps.none _ _)))))
            intro v132 w29 ho30 hb hg_ hnew_
            clear hg_ hnew_
            (first | rw [← Ny131.out] at ho30 | (simp only [Int.reduceToNat] at ho30; rw [← Ny131.out] at ho30))
            have HO133 := am_ (Kd.R_lower ho30 (below_size (hx_ HB.out))); replace BK109 := bb_ BK109 hb; replace BK110 := bb_ BK110 hb; replace HI114 := am_ (IsS70.below (ix_ HI114.out) hb); replace BK121 := bb_ BK121 hb; replace BK146 := bb_ BK146 hb; replace HB := hs_ HB hb
            clear hb ho30
            refine hK.out _ _ ⟨(blk_cell BK121.out 0).trans rfl, (blk_cell BK121.out 1).trans rfl⟩ (fun hHeld => ?_)
            clear hK K
            refine no_ (some 33) ?_
            exact nm_ (hJ6_7_21 (v132, gb146) _ ⟨hHeld, (rx_ HO133.out), (bx_ BK109.out), (bx_ BK110.out), (bx_ BK121.out), (bx_ BK146.out), GW146.out, GE146.out, NB114_146.out, NB146_114.out, NB109_146.out, NB146_109.out, NB110_146.out, NB146_110.out, NB121_146.out, NB146_121.out, (ix_ HI114.out), (hx_ HB.out)⟩)
          ·skip
           rintro v132 w29 ⟨hS_, h0_, h1_, h2_, h3_, h4_, h5_⟩
           have HO133 : Aside0 (Kd.R (Kd.int .i64) 2 w29 w.heap.size (fun _ => True) v132 y131) := ⟨h0_⟩; replace BK109 : Aside0 (w29.heap[gb109]? = some (.cells #[.int .i64 0, .int .i64 0] 25 (0, 0))) := ⟨h1_⟩; replace BK110 : Aside0 (w29.heap[gb110]? = some (.cells #[.int .i64 0, .int .i64 0] 25 (0, 0))) := ⟨h2_⟩; replace BK121 : Aside0 (w29.heap[gb121]? = some (.cells #[.int .i64 (wrap64 (1 + t115)), .int .i64 (wrap64 (1 + t118))] 25 (0, 0))) := ⟨h3_⟩; replace HI114 : Aside0 (IsS70 w w29 g114 t111 t129 t130) := ⟨h4_⟩; replace HB : Aside0 (Below w.heap.size w w29) := ⟨h5_⟩; clear h0_ h1_ h2_ h3_ h4_ h5_
           have hHeld : w29.cell? ⟨gb121, 0, none⟩ = some (.int .i64 (wrap64 (1 + t115))) ∧ w29.cell? ⟨gb121, 1, none⟩ = some (.int .i64 (wrap64 (1 + t118))) := hS_
           obtain ⟨Ao30, co30, eo30⟩ := Kd.R_slice HO133.out
           (first | subst eo30 | (injection eo30 with f1_ f2_ f3_; have f4_ := f1_.symm; have f5_ := f3_.symm; clear f1_ f2_ f3_; subst f4_; subst f5_))
           refine np_ ?_
           refine two_ (i := 8) (j := 21) (Ni := some 34) (Nj := some 10) #[true, true, true, true, true, true, true, true, true, false, true, true, true, true, true, true, false, false, false, false, false, false, false] #[true, true, true, true, true, true, true, true, false, false, true, true, true, true, true, true, false, false, false, false, false, true, false] rfl rfl rfl rfl (two_of HT_.out (by kernel_rfl)) (by decide) (by decide) (fun K hK => ?_) (fun K hK => ?_)
           ·skip
            refine goes_ Tryz.func19 (by kernel_rfl) rfl #[.pointer (some ⟨g114, 0, none⟩), .slice Ao30 y131.length co30] (by rfl) rfl rfl (by (try simp only [List.map_toArray, List.map_cons, List.map_nil]); first | done | rfl | (simp only [List.length_drop, List.length_take]; rfl)) ?_
            with_reducible refine (spec_l01Pick.calls g114 t111 t129 t130 _ _ y131 t134 t135 t136 w _ ?side1 ?side2 ?side3 ?side4 ?side5 A8.out).mono ?_
            (case side1 => exact ix_ HI114.out)
            (case side2 => exact hx_ HB.out)
            (case side3 => repeat (first | exact (Kd.R_reads' HO133.out).2.2 | (with_reducible refine Kd.C_alloc ?_ _) | (with_reducible refine Kd.C_drewN ?_ _) | (with_reducible refine Kd.C_drew ?_)))
            (case side4 => exact (Kd.R_reads' HO133.out).2.1)
            (case side5 => exact far_slice (IsS70.own_ne HI114.out HO133.out (by decide)))
            rintro e w31 ⟨rfl, hi, hb, hk⟩
            refine ⟨_, rfl, ?_⟩
            replace BK109 := kb_ hk BK109 NB109_114.out; replace BK110 := kb_ hk BK110 NB110_114.out; replace BK121 := kb_ hk BK121 NB121_114.out; replace HO133 := am_ (Kd.R_mono (Kd.R_keep (IsS70.apart (show IsS70 w _ g114 t111 t129 t130 from ix_ HI114.out) (rx_ HO133.out) (by decide)) hk (fun _ h => h.2)) (fun _ h => h.1)); replace HB := am_ hb; replace HI114 := am_ hi
            (try clear hb)
            (try clear hb2)
            (try clear hk)
            (try clear hi)
            refine hK.out _ _ ⟨(blk_cell BK121.out 0).trans rfl, (blk_cell BK121.out 1).trans rfl⟩ (fun hHeld => ?_)
            clear hK K
            refine no_ (some 34) ?_
            refine pu_ 9 (some 35) #[true, true, true, true, true, true, true, true, true, true, true, true, true, true, true, true, false, false, false, false, false, false, false] HT_ ?_
            exact nm_ (hJ6_7_8 (.slice Ao30 y131.length co30) _ ⟨hHeld, (rx_ HO133.out), (bx_ BK109.out), (bx_ BK110.out), (bx_ BK121.out), (ix_ HI114.out), (hx_ HB.out)⟩)
           ·skip
            refine box_step ?hg (N := 10) ?hd (cs := #[.int .i64 0, .int .i64 0]) (t := 25) ?hr ?_; (case hd => rfl); (case hg => rfl); (case hr => first | (go_simp; done) | (go_simp; rfl))
            intro gb146 hg w30 hbox hb
            replace HO133 := am_ (Kd.R_below (rx_ HO133.out) hb); have BK146 := am_ hbox; have GW146 := gw_ hg HB; have GE146 := gw_ hg HB; replace HB := hs_ HB hb; have NB109_146 := nl_ hg BK109; have NB146_109 := ng_ hg BK109; replace BK109 := bb_ BK109 hb; have NB110_146 := nl_ hg BK110; have NB146_110 := ng_ hg BK110; replace BK110 := bb_ BK110 hb; have NB121_146 := nl_ hg BK121; have NB146_121 := ng_ hg BK121; replace BK121 := bb_ BK121 hb; have NB114_146 := am_ (by rw [hg]; exact Nat.ne_of_lt (IsS70.lt (show IsS70 w _ g114 t111 t129 t130 from ix_ HI114.out)) : g114 ≠ gb146); have NB146_114 := am_ (by rw [hg]; exact Nat.ne_of_gt (IsS70.lt (show IsS70 w _ g114 t111 t129 t130 from ix_ HI114.out)) : gb146 ≠ g114); replace HI114 := am_ (IsS70.below (ix_ HI114.out) hb)
            clear hb hbox hg
            refine hK.out _ _ ⟨(blk_cell BK121.out 0).trans rfl, (blk_cell BK121.out 1).trans rfl⟩ (fun hHeld => ?_)
            clear hK K
            refine no_ (some 10) ?_
            exact nm_ (hJ6_7_21 (.slice Ao30 y131.length co30, gb146) _ ⟨hHeld, (rx_ HO133.out), (bx_ BK109.out), (bx_ BK110.out), (bx_ BK121.out), (bx_ BK146.out), GW146.out, GE146.out, NB114_146.out, NB146_114.out, NB109_146.out, NB146_109.out, NB110_146.out, NB146_110.out, NB121_146.out, NB146_121.out, (ix_ HI114.out), (hx_ HB.out)⟩)
         ·skip
          rintro ⟨v132, gb146⟩ w30 ⟨hS_, h0_, h1_, h2_, h3_, h4_, h5_, h6_, h7_, h8_, h9_, h10_, h11_, h12_, h13_, h14_, h15_, h16_⟩
          have HO133 : Aside0 (Kd.R (Kd.int .i64) 2 w30 w.heap.size (fun _ => True) v132 y131) := ⟨h0_⟩; replace BK109 : Aside0 (w30.heap[gb109]? = some (.cells #[.int .i64 0, .int .i64 0] 25 (0, 0))) := ⟨h1_⟩; replace BK110 : Aside0 (w30.heap[gb110]? = some (.cells #[.int .i64 0, .int .i64 0] 25 (0, 0))) := ⟨h2_⟩; replace BK121 : Aside0 (w30.heap[gb121]? = some (.cells #[.int .i64 (wrap64 (1 + t115)), .int .i64 (wrap64 (1 + t118))] 25 (0, 0))) := ⟨h3_⟩; have BK146 : Aside0 (w30.heap[gb146]? = some (.cells #[.int .i64 0, .int .i64 0] 25 (0, 0))) := ⟨h4_⟩; have GW146 : Aside0 (w.heap.size ≤ gb146) := ⟨h5_⟩; have GE146 : Aside0 (w.heap.size ≤ gb146) := ⟨h6_⟩; have NB114_146 : Aside0 (g114 ≠ gb146) := ⟨h7_⟩; have NB146_114 : Aside0 (gb146 ≠ g114) := ⟨h8_⟩; have NB109_146 : Aside0 (gb109 ≠ gb146) := ⟨h9_⟩; have NB146_109 : Aside0 (gb146 ≠ gb109) := ⟨h10_⟩; have NB110_146 : Aside0 (gb110 ≠ gb146) := ⟨h11_⟩; have NB146_110 : Aside0 (gb146 ≠ gb110) := ⟨h12_⟩; have NB121_146 : Aside0 (gb121 ≠ gb146) := ⟨h13_⟩; have NB146_121 : Aside0 (gb146 ≠ gb121) := ⟨h14_⟩; replace HI114 : Aside0 (IsS70 w w30 g114 t111 t129 t130) := ⟨h15_⟩; replace HB : Aside0 (Below w.heap.size w w30) := ⟨h16_⟩; clear h0_ h1_ h2_ h3_ h4_ h5_ h6_ h7_ h8_ h9_ h10_ h11_ h12_ h13_ h14_ h15_ h16_
          have hHeld : w30.cell? ⟨gb121, 0, none⟩ = some (.int .i64 (wrap64 (1 + t115))) ∧ w30.cell? ⟨gb121, 1, none⟩ = some (.int .i64 (wrap64 (1 + t118))) := hS_
          obtain ⟨Ao31, co31, eo31⟩ := Kd.R_slice HO133.out
          (first | subst eo31 | (injection eo31 with f1_ f2_ f3_; have f4_ := f1_.symm; have f5_ := f3_.symm; clear f1_ f2_ f3_; subst f4_; subst f5_))
          refine np_ ?_
          refine one_ (i := 8) (N := some 34) #[true, true, true, true, true, true, true, true, true, false, true, true, true, true, true, true, false, false, false, false, false, true, false] rfl rfl (one_of HT_.out (by kernel_rfl)) (by decide) (fun K hK => ?_)
          refine goes_ Tryz.func19 (by kernel_rfl) rfl #[.pointer (some ⟨g114, 0, none⟩), .slice Ao31 y131.length co31] (by rfl) rfl rfl (by (try simp only [List.map_toArray, List.map_cons, List.map_nil]); first | done | rfl | (simp only [List.length_drop, List.length_take]; rfl)) ?_
          with_reducible refine (spec_l01Pick.calls g114 t111 t129 t130 _ _ y131 t134 t135 t136 w _ ?side1 ?side2 ?side3 ?side4 ?side5 A8.out).mono ?_
          (case side1 => exact ix_ HI114.out)
          (case side2 => exact hx_ HB.out)
          (case side3 => repeat (first | exact (Kd.R_reads' HO133.out).2.2 | (with_reducible refine Kd.C_alloc ?_ _) | (with_reducible refine Kd.C_drewN ?_ _) | (with_reducible refine Kd.C_drew ?_)))
          (case side4 => exact (Kd.R_reads' HO133.out).2.1)
          (case side5 => exact far_slice (IsS70.own_ne HI114.out HO133.out (by decide)))
          rintro e w32 ⟨rfl, hi, hb, hk⟩
          refine ⟨_, rfl, ?_⟩
          replace BK109 := kb_ hk BK109 NB109_114.out; replace BK110 := kb_ hk BK110 NB110_114.out; replace BK121 := kb_ hk BK121 NB121_114.out; replace HO133 := am_ (Kd.R_mono (Kd.R_keep (IsS70.apart (show IsS70 w _ g114 t111 t129 t130 from ix_ HI114.out) (rx_ HO133.out) (by decide)) hk (fun _ h => h.2)) (fun _ h => h.1)); replace BK146 := kb_ hk BK146 NB146_114.out; replace HB := am_ hb; replace HI114 := am_ hi
          (try clear hb)
          (try clear hb2)
          (try clear hk)
          (try clear hi)
          refine hK.out _ _ ⟨(blk_cell BK121.out 0).trans rfl, (blk_cell BK121.out 1).trans rfl⟩ (fun hHeld => ?_)
          clear hK K
          refine no_ (some 34) ?_
          refine pu_ 9 (some 35) #[true, true, true, true, true, true, true, true, true, true, true, true, true, true, true, true, false, false, false, false, false, true, false] HT_ ?_
          exact nm_ (hJ6_7_8_21 (.slice Ao31 y131.length co31, gb146) _ ⟨hHeld, (rx_ HO133.out), (bx_ BK109.out), (bx_ BK110.out), (bx_ BK121.out), (bx_ BK146.out), GW146.out, GE146.out, NB114_146.out, NB146_114.out, NB109_146.out, NB146_109.out, NB110_146.out, NB146_110.out, NB121_146.out, NB146_121.out, (ix_ HI114.out), (hx_ HB.out)⟩)
        ·skip
         rintro v132 w31 ⟨hS_, h0_, h1_, h2_, h3_, h4_, h5_⟩
         have HO133 : Aside0 (Kd.R (Kd.int .i64) 2 w31 w.heap.size (fun _ => True) v132 y131) := ⟨h0_⟩; replace BK109 : Aside0 (w31.heap[gb109]? = some (.cells #[.int .i64 0, .int .i64 0] 25 (0, 0))) := ⟨h1_⟩; replace BK110 : Aside0 (w31.heap[gb110]? = some (.cells #[.int .i64 0, .int .i64 0] 25 (0, 0))) := ⟨h2_⟩; replace BK121 : Aside0 (w31.heap[gb121]? = some (.cells #[.int .i64 (wrap64 (1 + t115)), .int .i64 (wrap64 (1 + t118))] 25 (0, 0))) := ⟨h3_⟩; replace HI114 : Aside0 (IsS70 w w31 g114 t111 t135 t136) := ⟨h4_⟩; replace HB : Aside0 (Below w.heap.size w w31) := ⟨h5_⟩; clear h0_ h1_ h2_ h3_ h4_ h5_
         have hHeld : w31.cell? ⟨gb121, 0, none⟩ = some (.int .i64 (wrap64 (1 + t115))) ∧ w31.cell? ⟨gb121, 1, none⟩ = some (.int .i64 (wrap64 (1 + t118))) := hS_
         refine np_ ?_
         refine two_ (i := 16) (j := 21) (Ni := some 42) (Nj := some 10) #[true, true, true, true, true, true, true, true, true, true, true, true, true, true, true, true, true, false, false, false, false, false, false] #[true, true, true, true, true, true, true, true, true, true, true, true, true, true, true, true, false, false, false, false, false, true, false] rfl rfl rfl rfl (two_of HT_.out (by kernel_rfl)) (by decide) (by decide) (fun K hK => ?_) (fun K hK => ?_)
         ·skip
          refine goes_ Tryz.func18 (by kernel_rfl) rfl #[.pointer (some ⟨g114, 0, none⟩), .int .i64 10] (by rfl) rfl rfl (by (try simp only [List.map_toArray, List.map_cons, List.map_nil]); first | done | rfl | (simp only [List.length_drop, List.length_take]; rfl)) ?_
          with_reducible refine (spec_l01Next.calls g114 t111 t135 t136 10 t137 t138 t139 w _ ?side1 ?side2 A9.out).mono ?_
          (case side1 => exact ix_ HI114.out)
          (case side2 => exact hx_ HB.out)
          rintro e w32 ⟨rfl, hi, hb, hk⟩
          refine ⟨_, rfl, ?_⟩
          replace BK109 := kb_ hk BK109 NB109_114.out; replace BK110 := kb_ hk BK110 NB110_114.out; replace BK121 := kb_ hk BK121 NB121_114.out; replace HO133 := am_ (Kd.R_mono (Kd.R_keep (IsS70.apart (show IsS70 w _ g114 t111 t135 t136 from ix_ HI114.out) (rx_ HO133.out) (by decide)) hk (fun _ h => h.2)) (fun _ h => h.1)); replace HB := am_ hb; replace HI114 := am_ hi
          (try clear hb)
          (try clear hb2)
          (try clear hk)
          (try clear hi)
          refine hK.out _ _ ⟨(blk_cell BK121.out 0).trans rfl, (blk_cell BK121.out 1).trans rfl⟩ (fun hHeld => ?_)
          clear hK K
          refine no_ (some 42) ?_
          exact nm_ (hJ6_7_8_16 (v132) _ ⟨hHeld, (rx_ HO133.out), (bx_ BK109.out), (bx_ BK110.out), (bx_ BK121.out), (ix_ HI114.out), (hx_ HB.out)⟩)
         ·skip
          refine box_step ?hg (N := 10) ?hd (cs := #[.int .i64 0, .int .i64 0]) (t := 25) ?hr ?_; (case hd => rfl); (case hg => rfl); (case hr => first | (go_simp; done) | (go_simp; rfl))
          intro gb146 hg w32 hbox hb
          replace HO133 := am_ (Kd.R_below (rx_ HO133.out) hb); have BK146 := am_ hbox; have GW146 := gw_ hg HB; have GE146 := gw_ hg HB; replace HB := hs_ HB hb; have NB109_146 := nl_ hg BK109; have NB146_109 := ng_ hg BK109; replace BK109 := bb_ BK109 hb; have NB110_146 := nl_ hg BK110; have NB146_110 := ng_ hg BK110; replace BK110 := bb_ BK110 hb; have NB121_146 := nl_ hg BK121; have NB146_121 := ng_ hg BK121; replace BK121 := bb_ BK121 hb; have NB114_146 := am_ (by rw [hg]; exact Nat.ne_of_lt (IsS70.lt (show IsS70 w _ g114 t111 t135 t136 from ix_ HI114.out)) : g114 ≠ gb146); have NB146_114 := am_ (by rw [hg]; exact Nat.ne_of_gt (IsS70.lt (show IsS70 w _ g114 t111 t135 t136 from ix_ HI114.out)) : gb146 ≠ g114); replace HI114 := am_ (IsS70.below (ix_ HI114.out) hb)
          clear hb hbox hg
          refine hK.out _ _ ⟨(blk_cell BK121.out 0).trans rfl, (blk_cell BK121.out 1).trans rfl⟩ (fun hHeld => ?_)
          clear hK K
          refine no_ (some 10) ?_
          exact nm_ (hJ6_7_8_21 (v132, gb146) _ ⟨hHeld, (rx_ HO133.out), (bx_ BK109.out), (bx_ BK110.out), (bx_ BK121.out), (bx_ BK146.out), GW146.out, GE146.out, NB114_146.out, NB146_114.out, NB109_146.out, NB146_109.out, NB110_146.out, NB146_110.out, NB121_146.out, NB146_121.out, (ix_ HI114.out), (hx_ HB.out)⟩)
       ·skip
        rintro ⟨v132, gb146⟩ w32 ⟨hS_, h0_, h1_, h2_, h3_, h4_, h5_, h6_, h7_, h8_, h9_, h10_, h11_, h12_, h13_, h14_, h15_, h16_⟩
        have HO133 : Aside0 (Kd.R (Kd.int .i64) 2 w32 w.heap.size (fun _ => True) v132 y131) := ⟨h0_⟩; replace BK109 : Aside0 (w32.heap[gb109]? = some (.cells #[.int .i64 0, .int .i64 0] 25 (0, 0))) := ⟨h1_⟩; replace BK110 : Aside0 (w32.heap[gb110]? = some (.cells #[.int .i64 0, .int .i64 0] 25 (0, 0))) := ⟨h2_⟩; replace BK121 : Aside0 (w32.heap[gb121]? = some (.cells #[.int .i64 (wrap64 (1 + t115)), .int .i64 (wrap64 (1 + t118))] 25 (0, 0))) := ⟨h3_⟩; have BK146 : Aside0 (w32.heap[gb146]? = some (.cells #[.int .i64 0, .int .i64 0] 25 (0, 0))) := ⟨h4_⟩; have GW146 : Aside0 (w.heap.size ≤ gb146) := ⟨h5_⟩; have GE146 : Aside0 (w.heap.size ≤ gb146) := ⟨h6_⟩; have NB114_146 : Aside0 (g114 ≠ gb146) := ⟨h7_⟩; have NB146_114 : Aside0 (gb146 ≠ g114) := ⟨h8_⟩; have NB109_146 : Aside0 (gb109 ≠ gb146) := ⟨h9_⟩; have NB146_109 : Aside0 (gb146 ≠ gb109) := ⟨h10_⟩; have NB110_146 : Aside0 (gb110 ≠ gb146) := ⟨h11_⟩; have NB146_110 : Aside0 (gb146 ≠ gb110) := ⟨h12_⟩; have NB121_146 : Aside0 (gb121 ≠ gb146) := ⟨h13_⟩; have NB146_121 : Aside0 (gb146 ≠ gb121) := ⟨h14_⟩; replace HI114 : Aside0 (IsS70 w w32 g114 t111 t135 t136) := ⟨h15_⟩; replace HB : Aside0 (Below w.heap.size w w32) := ⟨h16_⟩; clear h0_ h1_ h2_ h3_ h4_ h5_ h6_ h7_ h8_ h9_ h10_ h11_ h12_ h13_ h14_ h15_ h16_
        have hHeld : w32.cell? ⟨gb121, 0, none⟩ = some (.int .i64 (wrap64 (1 + t115))) ∧ w32.cell? ⟨gb121, 1, none⟩ = some (.int .i64 (wrap64 (1 + t118))) := hS_
        refine np_ ?_
        refine one_ (i := 16) (N := some 42) #[true, true, true, true, true, true, true, true, true, true, true, true, true, true, true, true, true, false, false, false, false, true, false] rfl rfl (one_of HT_.out (by kernel_rfl)) (by decide) (fun K hK => ?_)
        refine goes_ Tryz.func18 (by kernel_rfl) rfl #[.pointer (some ⟨g114, 0, none⟩), .int .i64 10] (by rfl) rfl rfl (by (try simp only [List.map_toArray, List.map_cons, List.map_nil]); first | done | rfl | (simp only [List.length_drop, List.length_take]; rfl)) ?_
        with_reducible refine (spec_l01Next.calls g114 t111 t135 t136 10 t137 t138 t139 w _ ?side1 ?side2 A9.out).mono ?_
        (case side1 => exact ix_ HI114.out)
        (case side2 => exact hx_ HB.out)
        rintro e w33 ⟨rfl, hi, hb, hk⟩
        refine ⟨_, rfl, ?_⟩
        replace BK109 := kb_ hk BK109 NB109_114.out; replace BK110 := kb_ hk BK110 NB110_114.out; replace BK121 := kb_ hk BK121 NB121_114.out; replace HO133 := am_ (Kd.R_mono (Kd.R_keep (IsS70.apart (show IsS70 w _ g114 t111 t135 t136 from ix_ HI114.out) (rx_ HO133.out) (by decide)) hk (fun _ h => h.2)) (fun _ h => h.1)); replace BK146 := kb_ hk BK146 NB146_114.out; replace HB := am_ hb; replace HI114 := am_ hi
        (try clear hb)
        (try clear hb2)
        (try clear hk)
        (try clear hi)
        refine hK.out _ _ ⟨(blk_cell BK121.out 0).trans rfl, (blk_cell BK121.out 1).trans rfl⟩ (fun hHeld => ?_)
        clear hK K
        refine no_ (some 42) ?_
        exact nm_ (hJ6_7_8_16_21 (v132, gb146) _ ⟨hHeld, (rx_ HO133.out), (bx_ BK109.out), (bx_ BK110.out), (bx_ BK121.out), (bx_ BK146.out), GW146.out, GE146.out, NB114_146.out, NB146_114.out, NB109_146.out, NB146_109.out, NB110_146.out, NB146_110.out, NB121_146.out, NB146_121.out, (ix_ HI114.out), (hx_ HB.out)⟩)
      ·skip
       rintro v132 w32 ⟨hS_, h0_, h1_, h2_, h3_, h4_, h5_⟩
       have HO133 : Aside0 (Kd.R (Kd.int .i64) 2 w32 w.heap.size (fun _ => True) v132 y131) := ⟨h0_⟩; replace BK109 : Aside0 (w32.heap[gb109]? = some (.cells #[.int .i64 0, .int .i64 0] 25 (0, 0))) := ⟨h1_⟩; replace BK110 : Aside0 (w32.heap[gb110]? = some (.cells #[.int .i64 0, .int .i64 0] 25 (0, 0))) := ⟨h2_⟩; replace BK121 : Aside0 (w32.heap[gb121]? = some (.cells #[.int .i64 (wrap64 (1 + t115)), .int .i64 (wrap64 (1 + t118))] 25 (0, 0))) := ⟨h3_⟩; replace HI114 : Aside0 (IsS70 w w32 g114 t111 t138 t139) := ⟨h4_⟩; replace HB : Aside0 (Below w.heap.size w w32) := ⟨h5_⟩; clear h0_ h1_ h2_ h3_ h4_ h5_
       have hHeld : w32.cell? ⟨gb121, 0, none⟩ = some (.int .i64 (wrap64 (1 + t115))) ∧ w32.cell? ⟨gb121, 1, none⟩ = some (.int .i64 (wrap64 (1 + t118))) := hS_
       refine np_ ?_
       refine two_ (i := 17) (j := 21) (Ni := some 43) (Nj := some 10) #[true, true, true, true, true, true, true, true, true, true, true, true, true, true, true, true, true, true, false, false, false, false, false] #[true, true, true, true, true, true, true, true, true, true, true, true, true, true, true, true, true, false, false, false, false, true, false] rfl rfl rfl rfl (two_of HT_.out (by kernel_rfl)) (by decide) (by decide) (fun K hK => ?_) (fun K hK => ?_)
       ·skip
        refine Kd.R_lit_step (Kd.int .i64) _ 2 ?hg (N := 43) ?hd (xs := ([0, 0, t137] : List Int)) (inner := [.int .i64 0, .int .i64 0, .int .i64 t137]) (ok := fun _ => True) (okp := fun _ => True) ?hr ?hp (fun _ hk => hk) trivial (Below.refl _ _) (Nat.le_refl _) (by simp) ?_; (case hd => rfl); (case hg => rfl); (case hr => first | (go_simp; done) | (go_simp; rfl)); (case hp => exact (Reps.one (show Kd.M (Kd.int .i64) _ _ _ 0 [.int .i64 0] from rfl) (Reps.one (show Kd.M (Kd.int .i64) _ _ _ 0 [.int .i64 0] from rfl) (Reps.one (show Kd.M (Kd.int .i64) _ _ _ t137 [.int .i64 t137] from rfl) (Reps.none _ _)))))
        intro v141 w33 ho34 hb hg_ hnew_
        clear hg_ hnew_
        (first | rw [← Ny140.out] at ho34 | (simp only [Int.reduceToNat] at ho34; rw [← Ny140.out] at ho34))
        have HO142 := am_ (Kd.R_lower (Kd.R_new' ho34 (Kd.R_lt (rx_ HO133.out))) (below_size (hx_ HB.out))); replace HO133 := am_ (Kd.R_elder' (rx_ HO133.out) (Kd.R_base ho34) hb); replace BK109 := bb_ BK109 hb; replace BK110 := bb_ BK110 hb; replace HI114 := am_ (IsS70.below (ix_ HI114.out) hb); replace BK121 := bb_ BK121 hb; replace HB := hs_ HB hb
        clear hb ho34
        refine hK.out _ _ ⟨(blk_cell BK121.out 0).trans rfl, (blk_cell BK121.out 1).trans rfl⟩ (fun hHeld => ?_)
        clear hK K
        refine no_ (some 43) ?_
        exact nm_ (hJ6_7_8_16_17 (v132, v141) _ ⟨hHeld, (by (with_reducible repeat (first | apply Kd.R_alloc | apply Kd.R_drewN | apply Kd.R_drew)); exact Kd.R_mono HO133.out (fun _ hk => hk.2)), (by (with_reducible repeat (first | apply Kd.R_alloc | apply Kd.R_drewN | apply Kd.R_drew)); exact Kd.R_mono HO142.out (fun _ hk => hk.2)), (bx_ BK109.out), (bx_ BK110.out), (bx_ BK121.out), (ix_ HI114.out), (hx_ HB.out)⟩)
       ·skip
        refine box_step ?hg (N := 10) ?hd (cs := #[.int .i64 0, .int .i64 0]) (t := 25) ?hr ?_; (case hd => rfl); (case hg => rfl); (case hr => first | (go_simp; done) | (go_simp; rfl))
        intro gb146 hg w33 hbox hb
        replace HO133 := am_ (Kd.R_below (rx_ HO133.out) hb); have BK146 := am_ hbox; have GW146 := gw_ hg HB; have GE146 := gw_ hg HB; replace HB := hs_ HB hb; have NB109_146 := nl_ hg BK109; have NB146_109 := ng_ hg BK109; replace BK109 := bb_ BK109 hb; have NB110_146 := nl_ hg BK110; have NB146_110 := ng_ hg BK110; replace BK110 := bb_ BK110 hb; have NB121_146 := nl_ hg BK121; have NB146_121 := ng_ hg BK121; replace BK121 := bb_ BK121 hb; have NB114_146 := am_ (by rw [hg]; exact Nat.ne_of_lt (IsS70.lt (show IsS70 w _ g114 t111 t138 t139 from ix_ HI114.out)) : g114 ≠ gb146); have NB146_114 := am_ (by rw [hg]; exact Nat.ne_of_gt (IsS70.lt (show IsS70 w _ g114 t111 t138 t139 from ix_ HI114.out)) : gb146 ≠ g114); replace HI114 := am_ (IsS70.below (ix_ HI114.out) hb)
        clear hb hbox hg
        refine hK.out _ _ ⟨(blk_cell BK121.out 0).trans rfl, (blk_cell BK121.out 1).trans rfl⟩ (fun hHeld => ?_)
        clear hK K
        refine no_ (some 10) ?_
        exact nm_ (hJ6_7_8_16_21 (v132, gb146) _ ⟨hHeld, (rx_ HO133.out), (bx_ BK109.out), (bx_ BK110.out), (bx_ BK121.out), (bx_ BK146.out), GW146.out, GE146.out, NB114_146.out, NB146_114.out, NB109_146.out, NB146_109.out, NB110_146.out, NB146_110.out, NB121_146.out, NB146_121.out, (ix_ HI114.out), (hx_ HB.out)⟩)
     ·skip
      rintro ⟨v132, gb146⟩ w33 ⟨hS_, h0_, h1_, h2_, h3_, h4_, h5_, h6_, h7_, h8_, h9_, h10_, h11_, h12_, h13_, h14_, h15_, h16_⟩
      have HO133 : Aside0 (Kd.R (Kd.int .i64) 2 w33 w.heap.size (fun _ => True) v132 y131) := ⟨h0_⟩; replace BK109 : Aside0 (w33.heap[gb109]? = some (.cells #[.int .i64 0, .int .i64 0] 25 (0, 0))) := ⟨h1_⟩; replace BK110 : Aside0 (w33.heap[gb110]? = some (.cells #[.int .i64 0, .int .i64 0] 25 (0, 0))) := ⟨h2_⟩; replace BK121 : Aside0 (w33.heap[gb121]? = some (.cells #[.int .i64 (wrap64 (1 + t115)), .int .i64 (wrap64 (1 + t118))] 25 (0, 0))) := ⟨h3_⟩; have BK146 : Aside0 (w33.heap[gb146]? = some (.cells #[.int .i64 0, .int .i64 0] 25 (0, 0))) := ⟨h4_⟩; have GW146 : Aside0 (w.heap.size ≤ gb146) := ⟨h5_⟩; have GE146 : Aside0 (w.heap.size ≤ gb146) := ⟨h6_⟩; have NB114_146 : Aside0 (g114 ≠ gb146) := ⟨h7_⟩; have NB146_114 : Aside0 (gb146 ≠ g114) := ⟨h8_⟩; have NB109_146 : Aside0 (gb109 ≠ gb146) := ⟨h9_⟩; have NB146_109 : Aside0 (gb146 ≠ gb109) := ⟨h10_⟩; have NB110_146 : Aside0 (gb110 ≠ gb146) := ⟨h11_⟩; have NB146_110 : Aside0 (gb146 ≠ gb110) := ⟨h12_⟩; have NB121_146 : Aside0 (gb121 ≠ gb146) := ⟨h13_⟩; have NB146_121 : Aside0 (gb146 ≠ gb121) := ⟨h14_⟩; replace HI114 : Aside0 (IsS70 w w33 g114 t111 t138 t139) := ⟨h15_⟩; replace HB : Aside0 (Below w.heap.size w w33) := ⟨h16_⟩; clear h0_ h1_ h2_ h3_ h4_ h5_ h6_ h7_ h8_ h9_ h10_ h11_ h12_ h13_ h14_ h15_ h16_
      have hHeld : w33.cell? ⟨gb121, 0, none⟩ = some (.int .i64 (wrap64 (1 + t115))) ∧ w33.cell? ⟨gb121, 1, none⟩ = some (.int .i64 (wrap64 (1 + t118))) := hS_
      refine np_ ?_
      refine one_ (i := 17) (N := some 43) #[true, true, true, true, true, true, true, true, true, true, true, true, true, true, true, true, true, true, false, false, false, true, false] rfl rfl (one_of HT_.out (by kernel_rfl)) (by decide) (fun K hK => ?_)
      refine Kd.R_lit_step (Kd.int .i64) _ 2 ?hg (N := 43) ?hd (xs := ([0, 0, t137] : List Int)) (inner := [.int .i64 0, .int .i64 0, .int .i64 t137]) (ok := fun _ => True) (okp := fun _ => True) ?hr ?hp (fun _ hk => hk) trivial (Below.refl _ _) (Nat.le_refl _) (by simp) ?_; (case hd => rfl); (case hg => rfl); (case hr => first | (go_simp; done) | (go_simp; rfl)); (case hp => exact (Reps.one (show Kd.M (Kd.int .i64) _ _ _ 0 [.int .i64 0] from rfl) (Reps.one (show Kd.M (Kd.int .i64) _ _ _ 0 [.int .i64 0] from rfl) (Reps.one (show Kd.M (Kd.int .i64) _ _ _ t137 [.int .i64 t137] from rfl) (Reps.none _ _)))))
      intro v141 w34 ho35 hb hg_ hnew_
      clear hg_ hnew_
      (first | rw [← Ny140.out] at ho35 | (simp only [Int.reduceToNat] at ho35; rw [← Ny140.out] at ho35))
      have HO142 := am_ (Kd.R_lower (Kd.R_new' ho35 (Kd.R_lt (rx_ HO133.out))) (below_size (hx_ HB.out))); replace HO133 := am_ (Kd.R_elder' (rx_ HO133.out) (Kd.R_base ho35) hb); replace BK109 := bb_ BK109 hb; replace BK110 := bb_ BK110 hb; replace HI114 := am_ (IsS70.below (ix_ HI114.out) hb); replace BK121 := bb_ BK121 hb; replace BK146 := bb_ BK146 hb; replace HB := hs_ HB hb
      clear hb ho35
      refine hK.out _ _ ⟨(blk_cell BK121.out 0).trans rfl, (blk_cell BK121.out 1).trans rfl⟩ (fun hHeld => ?_)
      clear hK K
      refine no_ (some 43) ?_
      exact nm_ (hJ6_7_8_16_17_21 (v132, v141, gb146) _ ⟨hHeld, (by (with_reducible repeat (first | apply Kd.R_alloc | apply Kd.R_drewN | apply Kd.R_drew)); exact Kd.R_mono HO133.out (fun _ hk => hk.2)), (by (with_reducible repeat (first | apply Kd.R_alloc | apply Kd.R_drewN | apply Kd.R_drew)); exact Kd.R_mono HO142.out (fun _ hk => hk.2)), (bx_ BK109.out), (bx_ BK110.out), (bx_ BK121.out), (bx_ BK146.out), GW146.out, GE146.out, NB114_146.out, NB146_114.out, NB109_146.out, NB146_109.out, NB110_146.out, NB146_110.out, NB121_146.out, NB146_121.out, (ix_ HI114.out), (hx_ HB.out)⟩)
    ·skip
     rintro ⟨v132, v141⟩ w34 ⟨hS_, h0_, h1_, h2_, h3_, h4_, h5_, h6_⟩
     have HO133 : Aside0 (Kd.R (Kd.int .i64) 2 w34 w.heap.size (fun k_ => some k_ ≠ (v141 : Value).ownBlock) v132 y131) := ⟨h0_⟩; have HO142 : Aside0 (Kd.R (Kd.int .i64) 2 w34 w.heap.size (fun k_ => some k_ ≠ (v132 : Value).ownBlock) v141 y140) := ⟨h1_⟩; replace BK109 : Aside0 (w34.heap[gb109]? = some (.cells #[.int .i64 0, .int .i64 0] 25 (0, 0))) := ⟨h2_⟩; replace BK110 : Aside0 (w34.heap[gb110]? = some (.cells #[.int .i64 0, .int .i64 0] 25 (0, 0))) := ⟨h3_⟩; replace BK121 : Aside0 (w34.heap[gb121]? = some (.cells #[.int .i64 (wrap64 (1 + t115)), .int .i64 (wrap64 (1 + t118))] 25 (0, 0))) := ⟨h4_⟩; replace HI114 : Aside0 (IsS70 w w34 g114 t111 t138 t139) := ⟨h5_⟩; replace HB : Aside0 (Below w.heap.size w w34) := ⟨h6_⟩; clear h0_ h1_ h2_ h3_ h4_ h5_ h6_
     have hHeld : w34.cell? ⟨gb121, 0, none⟩ = some (.int .i64 (wrap64 (1 + t115))) ∧ w34.cell? ⟨gb121, 1, none⟩ = some (.int .i64 (wrap64 (1 + t118))) := hS_
     obtain ⟨Ao35, co35, eo35⟩ := Kd.R_slice HO142.out
     (first | subst eo35 | (injection eo35 with f1_ f2_ f3_; have f4_ := f1_.symm; have f5_ := f3_.symm; clear f1_ f2_ f3_; subst f4_; subst f5_))
     refine np_ ?_
     refine two_ (i := 18) (j := 21) (Ni := some 44) (Nj := some 10) #[true, true, true, true, true, true, true, true, true, true, true, true, true, true, true, true, true, true, true, false, false, false, false] #[true, true, true, true, true, true, true, true, true, true, true, true, true, true, true, true, true, true, false, false, false, true, false] rfl rfl rfl rfl (two_of HT_.out (by kernel_rfl)) (by decide) (by decide) (fun K hK => ?_) (fun K hK => ?_)
     ·skip
      refine goes_ Tryz.func19 (by kernel_rfl) rfl #[.pointer (some ⟨g114, 0, none⟩), .slice Ao35 y140.length co35] (by rfl) rfl rfl (by (try simp only [List.map_toArray, List.map_cons, List.map_nil]); first | done | rfl | (simp only [List.length_drop, List.length_take]; rfl)) ?_
      with_reducible refine (spec_l01Pick.calls g114 t111 t138 t139 _ _ y140 t143 t144 t145 w _ ?side1 ?side2 ?side3 ?side4 ?side5 A10.out).mono ?_
      (case side1 => exact ix_ HI114.out)
      (case side2 => exact hx_ HB.out)
      (case side3 => repeat (first | exact (Kd.R_reads' HO142.out).2.2 | (with_reducible refine Kd.C_alloc ?_ _) | (with_reducible refine Kd.C_drewN ?_ _) | (with_reducible refine Kd.C_drew ?_)))
      (case side4 => exact (Kd.R_reads' HO142.out).2.1)
      (case side5 => exact far_slice (IsS70.own_ne HI114.out HO142.out (by decide)))
      rintro e w36 ⟨rfl, hi, hb, hk⟩
      refine ⟨_, rfl, ?_⟩
      replace BK109 := kb_ hk BK109 NB109_114.out; replace BK110 := kb_ hk BK110 NB110_114.out; replace BK121 := kb_ hk BK121 NB121_114.out; replace HO133 := am_ (Kd.R_mono (Kd.R_keep (IsS70.apart (show IsS70 w _ g114 t111 t138 t139 from ix_ HI114.out) (rx_ HO133.out) (by decide)) hk (fun _ h => h.2)) (fun _ h => h.1)); replace HO142 := am_ (Kd.R_mono (Kd.R_keep (IsS70.apart (show IsS70 w _ g114 t111 t138 t139 from ix_ HI114.out) (rx_ HO142.out) (by decide)) hk (fun _ h => h.2)) (fun _ h => h.1)); replace HB := am_ hb; replace HI114 := am_ hi
      (try clear hb)
      (try clear hb2)
      (try clear hk)
      (try clear hi)
      refine hK.out _ _ ⟨(blk_cell BK121.out 0).trans rfl, (blk_cell BK121.out 1).trans rfl⟩ (fun hHeld => ?_)
      clear hK K
      refine no_ (some 44) ?_
      refine pu_ 19 (some 45) #[true, true, true, true, true, true, true, true, true, true, true, true, true, true, true, true, true, true, true, true, false, false, false] HT_ ?_
      refine pu_ 20 (some 46) #[true, true, true, true, true, true, true, true, true, true, true, true, true, true, true, true, true, true, true, true, true, false, false] HT_ ?_
      exact nm_ (hJ6_7_8_16_17_18 (v132, .slice Ao35 y140.length co35) _ ⟨hHeld, (rx_ HO133.out), (rx_ HO142.out), (bx_ BK109.out), (bx_ BK110.out), (bx_ BK121.out), (ix_ HI114.out), (hx_ HB.out)⟩)
     ·skip
      refine box_step ?hg (N := 10) ?hd (cs := #[.int .i64 0, .int .i64 0]) (t := 25) ?hr ?_; (case hd => rfl); (case hg => rfl); (case hr => first | (go_simp; done) | (go_simp; rfl))
      intro gb146 hg w35 hbox hb
      replace HO133 := am_ (Kd.R_below (rx_ HO133.out) hb); replace HO142 := am_ (Kd.R_below (rx_ HO142.out) hb); have BK146 := am_ hbox; have GW146 := gw_ hg HB; have GE146 := gw_ hg HB; replace HB := hs_ HB hb; have NB109_146 := nl_ hg BK109; have NB146_109 := ng_ hg BK109; replace BK109 := bb_ BK109 hb; have NB110_146 := nl_ hg BK110; have NB146_110 := ng_ hg BK110; replace BK110 := bb_ BK110 hb; have NB121_146 := nl_ hg BK121; have NB146_121 := ng_ hg BK121; replace BK121 := bb_ BK121 hb; have NB114_146 := am_ (by rw [hg]; exact Nat.ne_of_lt (IsS70.lt (show IsS70 w _ g114 t111 t138 t139 from ix_ HI114.out)) : g114 ≠ gb146); have NB146_114 := am_ (by rw [hg]; exact Nat.ne_of_gt (IsS70.lt (show IsS70 w _ g114 t111 t138 t139 from ix_ HI114.out)) : gb146 ≠ g114); replace HI114 := am_ (IsS70.below (ix_ HI114.out) hb)
      clear hb hbox hg
      refine hK.out _ _ ⟨(blk_cell BK121.out 0).trans rfl, (blk_cell BK121.out 1).trans rfl⟩ (fun hHeld => ?_)
      clear hK K
      refine no_ (some 10) ?_
      exact nm_ (hJ6_7_8_16_17_21 (v132, .slice Ao35 y140.length co35, gb146) _ ⟨hHeld, (rx_ HO133.out), (rx_ HO142.out), (bx_ BK109.out), (bx_ BK110.out), (bx_ BK121.out), (bx_ BK146.out), GW146.out, GE146.out, NB114_146.out, NB146_114.out, NB109_146.out, NB146_109.out, NB110_146.out, NB146_110.out, NB121_146.out, NB146_121.out, (ix_ HI114.out), (hx_ HB.out)⟩)
   ·skip
    rintro ⟨v132, v141, gb146⟩ w35 ⟨hS_, h0_, h1_, h2_, h3_, h4_, h5_, h6_, h7_, h8_, h9_, h10_, h11_, h12_, h13_, h14_, h15_, h16_, h17_⟩
    have HO133 : Aside0 (Kd.R (Kd.int .i64) 2 w35 w.heap.size (fun k_ => some k_ ≠ (v141 : Value).ownBlock) v132 y131) := ⟨h0_⟩; have HO142 : Aside0 (Kd.R (Kd.int .i64) 2 w35 w.heap.size (fun k_ => some k_ ≠ (v132 : Value).ownBlock) v141 y140) := ⟨h1_⟩; replace BK109 : Aside0 (w35.heap[gb109]? = some (.cells #[.int .i64 0, .int .i64 0] 25 (0, 0))) := ⟨h2_⟩; replace BK110 : Aside0 (w35.heap[gb110]? = some (.cells #[.int .i64 0, .int .i64 0] 25 (0, 0))) := ⟨h3_⟩; replace BK121 : Aside0 (w35.heap[gb121]? = some (.cells #[.int .i64 (wrap64 (1 + t115)), .int .i64 (wrap64 (1 + t118))] 25 (0, 0))) := ⟨h4_⟩; have BK146 : Aside0 (w35.heap[gb146]? = some (.cells #[.int .i64 0, .int .i64 0] 25 (0, 0))) := ⟨h5_⟩; have GW146 : Aside0 (w.heap.size ≤ gb146) := ⟨h6_⟩; have GE146 : Aside0 (w.heap.size ≤ gb146) := ⟨h7_⟩; have NB114_146 : Aside0 (g114 ≠ gb146) := ⟨h8_⟩; have NB146_114 : Aside0 (gb146 ≠ g114) := ⟨h9_⟩; have NB109_146 : Aside0 (gb109 ≠ gb146) := ⟨h10_⟩; have NB146_109 : Aside0 (gb146 ≠ gb109) := ⟨h11_⟩; have NB110_146 : Aside0 (gb110 ≠ gb146) := ⟨h12_⟩; have NB146_110 : Aside0 (gb146 ≠ gb110) := ⟨h13_⟩; have NB121_146 : Aside0 (gb121 ≠ gb146) := ⟨h14_⟩; have NB146_121 : Aside0 (gb146 ≠ gb121) := ⟨h15_⟩; replace HI114 : Aside0 (IsS70 w w35 g114 t111 t138 t139) := ⟨h16_⟩; replace HB : Aside0 (Below w.heap.size w w35) := ⟨h17_⟩; clear h0_ h1_ h2_ h3_ h4_ h5_ h6_ h7_ h8_ h9_ h10_ h11_ h12_ h13_ h14_ h15_ h16_ h17_
    have hHeld : w35.cell? ⟨gb121, 0, none⟩ = some (.int .i64 (wrap64 (1 + t115))) ∧ w35.cell? ⟨gb121, 1, none⟩ = some (.int .i64 (wrap64 (1 + t118))) := hS_
    obtain ⟨Ao36, co36, eo36⟩ := Kd.R_slice HO142.out
    (first | subst eo36 | (injection eo36 with f1_ f2_ f3_; have f4_ := f1_.symm; have f5_ := f3_.symm; clear f1_ f2_ f3_; subst f4_; subst f5_))
    refine np_ ?_
    refine one_ (i := 18) (N := some 44) #[true, true, true, true, true, true, true, true, true, true, true, true, true, true, true, true, true, true, true, false, false, true, false] rfl rfl (one_of HT_.out (by kernel_rfl)) (by decide) (fun K hK => ?_)
    refine goes_ Tryz.func19 (by kernel_rfl) rfl #[.pointer (some ⟨g114, 0, none⟩), .slice Ao36 y140.length co36] (by rfl) rfl rfl (by (try simp only [List.map_toArray, List.map_cons, List.map_nil]); first | done | rfl | (simp only [List.length_drop, List.length_take]; rfl)) ?_
    with_reducible refine (spec_l01Pick.calls g114 t111 t138 t139 _ _ y140 t143 t144 t145 w _ ?side1 ?side2 ?side3 ?side4 ?side5 A10.out).mono ?_
    (case side1 => exact ix_ HI114.out)
    (case side2 => exact hx_ HB.out)
    (case side3 => repeat (first | exact (Kd.R_reads' HO142.out).2.2 | (with_reducible refine Kd.C_alloc ?_ _) | (with_reducible refine Kd.C_drewN ?_ _) | (with_reducible refine Kd.C_drew ?_)))
    (case side4 => exact (Kd.R_reads' HO142.out).2.1)
    (case side5 => exact far_slice (IsS70.own_ne HI114.out HO142.out (by decide)))
    rintro e w37 ⟨rfl, hi, hb, hk⟩
    refine ⟨_, rfl, ?_⟩
    replace BK109 := kb_ hk BK109 NB109_114.out; replace BK110 := kb_ hk BK110 NB110_114.out; replace BK121 := kb_ hk BK121 NB121_114.out; replace HO133 := am_ (Kd.R_mono (Kd.R_keep (IsS70.apart (show IsS70 w _ g114 t111 t138 t139 from ix_ HI114.out) (rx_ HO133.out) (by decide)) hk (fun _ h => h.2)) (fun _ h => h.1)); replace HO142 := am_ (Kd.R_mono (Kd.R_keep (IsS70.apart (show IsS70 w _ g114 t111 t138 t139 from ix_ HI114.out) (rx_ HO142.out) (by decide)) hk (fun _ h => h.2)) (fun _ h => h.1)); replace BK146 := kb_ hk BK146 NB146_114.out; replace HB := am_ hb; replace HI114 := am_ hi
    (try clear hb)
    (try clear hb2)
    (try clear hk)
    (try clear hi)
    refine hK.out _ _ ⟨(blk_cell BK121.out 0).trans rfl, (blk_cell BK121.out 1).trans rfl⟩ (fun hHeld => ?_)
    clear hK K
    refine no_ (some 44) ?_
    refine pu_ 19 (some 45) #[true, true, true, true, true, true, true, true, true, true, true, true, true, true, true, true, true, true, true, true, false, true, false] HT_ ?_
    refine pu_ 20 (some 46) #[true, true, true, true, true, true, true, true, true, true, true, true, true, true, true, true, true, true, true, true, true, true, false] HT_ ?_
    exact nm_ (hJ6_7_8_16_17_18_21 (v132, .slice Ao36 y140.length co36, gb146) _ ⟨hHeld, (rx_ HO133.out), (rx_ HO142.out), (bx_ BK109.out), (bx_ BK110.out), (bx_ BK121.out), (bx_ BK146.out), GW146.out, GE146.out, NB114_146.out, NB146_114.out, NB109_146.out, NB146_109.out, NB110_146.out, NB146_110.out, NB121_146.out, NB146_121.out, (ix_ HI114.out), (hx_ HB.out)⟩)
  ·skip
   rintro ⟨v132, v141⟩ w36 ⟨hS_, h0_, h1_, h2_, h3_, h4_, h5_, h6_⟩
   have HO133 : Aside0 (Kd.R (Kd.int .i64) 2 w36 w.heap.size (fun k_ => some k_ ≠ (v141 : Value).ownBlock) v132 y131) := ⟨h0_⟩; have HO142 : Aside0 (Kd.R (Kd.int .i64) 2 w36 w.heap.size (fun k_ => some k_ ≠ (v132 : Value).ownBlock) v141 y140) := ⟨h1_⟩; replace BK109 : Aside0 (w36.heap[gb109]? = some (.cells #[.int .i64 0, .int .i64 0] 25 (0, 0))) := ⟨h2_⟩; replace BK110 : Aside0 (w36.heap[gb110]? = some (.cells #[.int .i64 0, .int .i64 0] 25 (0, 0))) := ⟨h3_⟩; replace BK121 : Aside0 (w36.heap[gb121]? = some (.cells #[.int .i64 (wrap64 (1 + t115)), .int .i64 (wrap64 (1 + t118))] 25 (0, 0))) := ⟨h4_⟩; replace HI114 : Aside0 (IsS70 w w36 g114 t111 t144 t145) := ⟨h5_⟩; replace HB : Aside0 (Below w.heap.size w w36) := ⟨h6_⟩; clear h0_ h1_ h2_ h3_ h4_ h5_ h6_
   have hHeld : w36.cell? ⟨gb121, 0, none⟩ = some (.int .i64 (wrap64 (1 + t115))) ∧ w36.cell? ⟨gb121, 1, none⟩ = some (.int .i64 (wrap64 (1 + t118))) := hS_
   refine np_ ?_
   refine one_ (i := 21) (N := some 10) #[true, true, true, true, true, true, true, true, true, true, true, true, true, true, true, true, true, true, true, true, true, true, false] rfl rfl (one_of HT_.out (by kernel_rfl)) (by decide) (fun K hK => ?_)
   refine box_step ?hg (N := 10) ?hd (cs := #[.int .i64 0, .int .i64 0]) (t := 25) ?hr ?_; (case hd => rfl); (case hg => rfl); (case hr => first | (go_simp; done) | (go_simp; rfl))
   intro gb146 hg w37 hbox hb
   replace HO133 := am_ (Kd.R_below (rx_ HO133.out) hb); replace HO142 := am_ (Kd.R_below (rx_ HO142.out) hb); have BK146 := am_ hbox; have GW146 := gw_ hg HB; have GE146 := gw_ hg HB; replace HB := hs_ HB hb; have NB109_146 := nl_ hg BK109; have NB146_109 := ng_ hg BK109; replace BK109 := bb_ BK109 hb; have NB110_146 := nl_ hg BK110; have NB146_110 := ng_ hg BK110; replace BK110 := bb_ BK110 hb; have NB121_146 := nl_ hg BK121; have NB146_121 := ng_ hg BK121; replace BK121 := bb_ BK121 hb; have NB114_146 := am_ (by rw [hg]; exact Nat.ne_of_lt (IsS70.lt (show IsS70 w _ g114 t111 t144 t145 from ix_ HI114.out)) : g114 ≠ gb146); have NB146_114 := am_ (by rw [hg]; exact Nat.ne_of_gt (IsS70.lt (show IsS70 w _ g114 t111 t144 t145 from ix_ HI114.out)) : gb146 ≠ g114); replace HI114 := am_ (IsS70.below (ix_ HI114.out) hb)
   clear hb hbox hg
   refine hK.out _ _ ⟨(blk_cell BK121.out 0).trans rfl, (blk_cell BK121.out 1).trans rfl⟩ (fun hHeld => ?_)
   clear hK K
   refine no_ (some 10) ?_
   exact nm_ (hJ6_7_8_16_17_18_21 (v132, v141, gb146) _ ⟨hHeld, (rx_ HO133.out), (rx_ HO142.out), (bx_ BK109.out), (bx_ BK110.out), (bx_ BK121.out), (bx_ BK146.out), GW146.out, GE146.out, NB114_146.out, NB146_114.out, NB109_146.out, NB146_109.out, NB110_146.out, NB146_110.out, NB121_146.out, NB146_121.out, (ix_ HI114.out), (hx_ HB.out)⟩)
 rintro ⟨v132, v141, gb146⟩ w37 ⟨hS_, h0_, h1_, h2_, h3_, h4_, h5_, h6_, h7_, h8_, h9_, h10_, h11_, h12_, h13_, h14_, h15_, h16_, h17_⟩
 have HO133 : Aside0 (Kd.R (Kd.int .i64) 2 w37 w.heap.size (fun k_ => some k_ ≠ (v141 : Value).ownBlock) v132 y131) := ⟨h0_⟩; have HO142 : Aside0 (Kd.R (Kd.int .i64) 2 w37 w.heap.size (fun k_ => some k_ ≠ (v132 : Value).ownBlock) v141 y140) := ⟨h1_⟩; replace BK109 : Aside0 (w37.heap[gb109]? = some (.cells #[.int .i64 0, .int .i64 0] 25 (0, 0))) := ⟨h2_⟩; replace BK110 : Aside0 (w37.heap[gb110]? = some (.cells #[.int .i64 0, .int .i64 0] 25 (0, 0))) := ⟨h3_⟩; replace BK121 : Aside0 (w37.heap[gb121]? = some (.cells #[.int .i64 (wrap64 (1 + t115)), .int .i64 (wrap64 (1 + t118))] 25 (0, 0))) := ⟨h4_⟩; have BK146 : Aside0 (w37.heap[gb146]? = some (.cells #[.int .i64 0, .int .i64 0] 25 (0, 0))) := ⟨h5_⟩; have GW146 : Aside0 (w.heap.size ≤ gb146) := ⟨h6_⟩; have GE146 : Aside0 (w.heap.size ≤ gb146) := ⟨h7_⟩; have NB114_146 : Aside0 (g114 ≠ gb146) := ⟨h8_⟩; have NB146_114 : Aside0 (gb146 ≠ g114) := ⟨h9_⟩; have NB109_146 : Aside0 (gb109 ≠ gb146) := ⟨h10_⟩; have NB146_109 : Aside0 (gb146 ≠ gb109) := ⟨h11_⟩; have NB110_146 : Aside0 (gb110 ≠ gb146) := ⟨h12_⟩; have NB146_110 : Aside0 (gb146 ≠ gb110) := ⟨h13_⟩; have NB121_146 : Aside0 (gb121 ≠ gb146) := ⟨h14_⟩; have NB146_121 : Aside0 (gb146 ≠ gb121) := ⟨h15_⟩; replace HI114 : Aside0 (IsS70 w w37 g114 t111 t144 t145) := ⟨h16_⟩; replace HB : Aside0 (Below w.heap.size w w37) := ⟨h17_⟩; clear h0_ h1_ h2_ h3_ h4_ h5_ h6_ h7_ h8_ h9_ h10_ h11_ h12_ h13_ h14_ h15_ h16_ h17_
 have hHeld : w37.cell? ⟨gb121, 0, none⟩ = some (.int .i64 (wrap64 (1 + t115))) ∧ w37.cell? ⟨gb121, 1, none⟩ = some (.int .i64 (wrap64 (1 + t118))) := hS_
 refine np_ ?_
 refine one_ (i := 22) (N := none) #[true, true, true, true, true, true, true, true, true, true, true, true, true, true, true, true, true, true, true, true, true, true, true] rfl rfl (one_of HT_.out (by kernel_rfl)) (by decide) (fun K hK => ?_)
 have hs38 : w37.cell? ⟨gb146, 0, none⟩ = some (.int .i64 0) := (blk_cell BK146.out 0).trans rfl
 have hfs38 := blk_frozen BK146.out 0
 have hns38_0 := NB109_146.out
 have hns38_1 := NB110_146.out
 have hns38_2 := NB121_146.out
 have hms38_0 := NB146_109.out
 have hms38_1 := NB146_110.out
 have hms38_2 := NB146_121.out
 have hs39 : w37.cell? ⟨gb146, 1, none⟩ = some (.int .i64 0) := (blk_cell BK146.out 1).trans rfl
 have hfs39 := blk_frozen BK146.out 1
 have hns39_0 := NB109_146.out
 have hns39_1 := NB110_146.out
 have hns39_2 := NB121_146.out
 have hms39_0 := NB146_109.out
 have hms39_1 := NB146_110.out
 have hms39_2 := NB146_121.out
 refine skip_ (w1 := ?_) (by rfl) rfl ?_ ?_
 rotate_left
 ·go_simp
  rfl
 refine hK.out _ _ ⟨((cell_far (p := ⟨gb146, _, none⟩) NB121_146.out _).trans (((cell_far (p := ⟨gb146, _, none⟩) NB121_146.out _).trans (hHeld.1)))), ((cell_far (p := ⟨gb146, _, none⟩) NB121_146.out _).trans (((cell_far (p := ⟨gb146, _, none⟩) NB121_146.out _).trans (hHeld.2))))⟩ (fun hHeld => ?_)
 clear hK K
 refine done_ (done_of HT_.out (by kernel_rfl)) ?_
 go_upto_block 0 with (first | ((with_reducible refine gc_ 18 rfl ?_); refine gl_ (some 48) rfl rfl Tryz.func18 rfl #[.pointer (some ⟨g114, 0, none⟩), .int .i64 24] rfl ?_; (with_reducible refine (spec_l01Next.calls g114 t111 t144 t145 24 t147 t148 t149 w _ ?side1 ?side2 A11.out).mono ?_); (case side1 => exact ix_ HI114.out); (case side2 => exact hx_ HB.out); rintro e w40 ⟨rfl, hi, hb, hk⟩; refine ⟨_, rfl, ?_⟩; replace BK109 := kb_ hk BK109 NB109_114.out; replace BK110 := kb_ hk BK110 NB110_114.out; replace BK121 := kb_ hk BK121 NB121_114.out; replace HO133 := am_ (Kd.R_mono (Kd.R_keep (IsS70.apart (show IsS70 w _ g114 t111 t144 t145 from ix_ HI114.out) (by (with_reducible repeat (first | apply Kd.R_alloc | apply Kd.R_drewN | apply Kd.R_drew)); exact (Kd.R_mono (Kd.R_far (p := ⟨gb146, 1, none⟩) (Kd.R_far (p := ⟨gb146, 0, none⟩) (Kd.R_types HO133.out BK146.out (by decide)) (fun _ hk => hk.2) (.int .i64 (wrap64 ((wrap64 ((wrap64 (1 + t122)) * (wrap64 (1 + t115)))) + t134)))) (fun _ hk => hk.2) (.int .i64 (wrap64 ((wrap64 ((wrap64 (1 + t125)) * (wrap64 (1 + t118)))) + t143)))) (fun _ h_ => h_.1))) (by decide)) hk (fun _ h => h.2)) (fun _ h => h.1)); replace HO142 := am_ (Kd.R_mono (Kd.R_keep (IsS70.apart (show IsS70 w _ g114 t111 t144 t145 from ix_ HI114.out) (by (with_reducible repeat (first | apply Kd.R_alloc | apply Kd.R_drewN | apply Kd.R_drew)); exact (Kd.R_mono (Kd.R_far (p := ⟨gb146, 1, none⟩) (Kd.R_far (p := ⟨gb146, 0, none⟩) (Kd.R_types HO142.out BK146.out (by decide)) (fun _ hk => hk.2) (.int .i64 (wrap64 ((wrap64 ((wrap64 (1 + t122)) * (wrap64 (1 + t115)))) + t134)))) (fun _ hk => hk.2) (.int .i64 (wrap64 ((wrap64 ((wrap64 (1 + t125)) * (wrap64 (1 + t118)))) + t143)))) (fun _ h_ => h_.1))) (by decide)) hk (fun _ h => h.2)) (fun _ h => h.1)); replace BK146 := am_ (KeepBut.blk hk (g' := gb146) (o := .cells #[.int .i64 (wrap64 ((wrap64 ((wrap64 (1 + t122)) * (wrap64 (1 + t115)))) + t134)), .int .i64 (wrap64 ((wrap64 ((wrap64 (1 + t125)) * (wrap64 (1 + t118)))) + t143))] 25 (0, 0)) (by (with_reducible repeat (first | refine blk_drewN ?_ _ | refine blk_drew ?_ | refine blk_alloc ?_ _)); refine blk_put (cs := #[.int .i64 (wrap64 ((wrap64 ((wrap64 (1 + t122)) * (wrap64 (1 + t115)))) + t134)), .int .i64 0]) ?_ 1 _ rfl; (with_reducible repeat (first | refine blk_drewN ?_ _ | refine blk_drew ?_ | refine blk_alloc ?_ _)); refine blk_put (cs := #[.int .i64 0, .int .i64 0]) ?_ 0 _ rfl; (with_reducible repeat (first | refine blk_drewN ?_ _ | refine blk_drew ?_ | refine blk_alloc ?_ _)); exact BK146.out) NB146_114.out (by simp)); replace HB := am_ hb; replace HI114 := am_ hi; (try clear hb); (try clear hb2); (try clear hk); (try clear hi)))
 (try simp only [Act.put, List.setIfInBounds_toArray, List.set_cons_zero, List.set_cons_succ])
 go_cut [8] (fun v8 wc => ∃ (kq : Nat) (x8_11 : Int) (x110000_11 : Int) (x110001_11 : Int) (x111000_11 : Int) (x111001_11 : Int) (x147000_11 : Int), v8 = .int .i64 x8_11 ∧ Aside0 (spec_DrawGridCuts.j0 kq x8_11 (wrap64 (1 + t125)) (wrap64 (1 + t115)) (wrap64 (1 + t118)) x147000_11 (wrap64 ((wrap64 ((wrap64 (1 + t125)) * (wrap64 (1 + t118)))) + t143)) = some (r1, r2, r3, r4, r5, r6)) ∧ Aside0 (kq ≤ k) ∧ Aside0 (wc.heap[gb109]? = some (.cells #[.int .i64 x110000_11, .int .i64 x110001_11] 25 (0, 0))) ∧ Aside0 (wc.heap[gb110]? = some (.cells #[.int .i64 x111000_11, .int .i64 x111001_11] 25 (0, 0))) ∧ Aside0 (wc.heap[gb121]? = some (.cells #[.int .i64 (wrap64 (1 + t115)), .int .i64 (wrap64 (1 + t118))] 25 (0, 0))) ∧ Aside0 (wc.heap[gb146]? = some (.cells #[.int .i64 x147000_11, .int .i64 (wrap64 ((wrap64 ((wrap64 (1 + t125)) * (wrap64 (1 + t118)))) + t143))] 25 (0, 0))) ∧ Aside0 (Below w.heap.size w wc))
 case first =>
  have H := HC12.out
  clear HC12
  by_cases c41 : t147 = 0
  ·rw [if_pos c41] at H
   have c41b0 : (t147 == 0) = true := beq_iff_eq.mpr c41
   have c41b1 : (t147 != 0) = false := bne_eq_false_iff_eq.mpr c41
   clear c41
   (first | rw [c41b0] | (simp only [i64_w, i32_w]; rw [c41b0]) | skip)
   have H' := Aside0.mk H
   clear H
   have hnb42 := NB146_109.out
   have hnc42 := NB109_146.out
   have hnb43 := NB146_110.out
   have hnc43 := NB110_146.out
   have hnb44 := NB146_121.out
   have hnc44 := NB121_146.out
   have hnb45 := NB146_114.out
   have hnc45 := NB114_146.out
   have hcz46_0 : w40.cell? ⟨gb146, 0, none⟩ = some (.int .i64 (wrap64 ((wrap64 ((wrap64 (1 + t122)) * (wrap64 (1 + t115)))) + t134))) := (blk_cell BK146.out 0).trans rfl
   have hcz46_1 : w40.cell? ⟨gb146, 1, none⟩ = some (.int .i64 (wrap64 ((wrap64 ((wrap64 (1 + t125)) * (wrap64 (1 + t118)))) + t143))) := (blk_cell BK146.out 1).trans rfl
   have hfz46_0 := blk_frozen BK146.out 0
   have hfz46_1 := blk_frozen BK146.out 1
   go_wp2
   go_meet
   case rel => exact ⟨_, (wrap64 (1 + t122)), (0), (0), (0), (0), (wrap64 ((wrap64 ((wrap64 ((wrap64 (1 + t122)) * (wrap64 (1 + t115)))) + t134)) - 1)), (by first | rfl | (simp; done) | (simp [*]; done)), H', ⟨by first | omega | exact Nat.le_refl _⟩, ⟨bx_ BK109.out⟩, ⟨bx_ BK110.out⟩, ⟨bx_ BK121.out⟩, ⟨by (with_reducible repeat (first | refine blk_drewN ?_ _ | refine blk_drew ?_ | refine blk_alloc ?_ _)); refine blk_put (cs := #[.int .i64 (wrap64 ((wrap64 ((wrap64 (1 + t122)) * (wrap64 (1 + t115)))) + t134)), .int .i64 (wrap64 ((wrap64 ((wrap64 (1 + t125)) * (wrap64 (1 + t118)))) + t143))]) ?_ 0 _ rfl; (with_reducible repeat (first | refine blk_drewN ?_ _ | refine blk_drew ?_ | refine blk_alloc ?_ _)); exact BK146.out⟩, ⟨hx_ HB.out⟩⟩
  ·rw [if_neg c41] at H
   have c41b0 : (t147 == 0) = false := beq_eq_false_iff_ne.mpr c41
   have c41b1 : (t147 != 0) = true := bne_iff_ne.mpr c41
   (first | rw [c41b0] | (simp only [i64_w, i32_w]; rw [c41b0]) | skip)
   by_cases c47 : t147 = 1
   ·rw [if_pos c47] at H
    have c47b0 : (t147 == 1) = true := beq_iff_eq.mpr c47
    have c47b1 : (t147 != 1) = false := bne_eq_false_iff_eq.mpr c47
    clear c47
    obtain ⟨y150, hy150⟩ : ∃ y_ : List Int, y_ = (([0, 80, 81] : List Int)) := ⟨_, rfl⟩
    replace H : ((spec_l01Pick.f t111 t148 t149 y150).bind fun bt153 => (spec_DrawGridCuts.j0 k bt153.1 (wrap64 (1 + t125)) (wrap64 (1 + t115)) (wrap64 (1 + t118)) (wrap64 ((wrap64 ((wrap64 (1 + t122)) * (wrap64 (1 + t115)))) + t134)) (wrap64 ((wrap64 ((wrap64 (1 + t125)) * (wrap64 (1 + t118)))) + t143)))) = some (r1, r2, r3, r4, r5, r6) := by first | (rw [hy150]; with_reducible exact H) | (have H2_ := (Option.bind_some _ _).symm.trans H; rw [hy150]; with_reducible exact H2_) | (have H2_ := (Option.bind_some _ _).symm.trans H; with_reducible exact H2_) | with_reducible exact H | (rw [hy150]; exact H) | exact H
    have Ny150 := Aside0.mk hy150
    clear hy150
    replace H := Option.bind_eq_some_iff.mp H
    obtain ⟨⟨t153, t154, t155⟩, A480, H⟩ := H
    try dsimp only at H
    have A48 := Aside0.mk A480
    clear A480
    have H' := Aside0.mk H
    clear H
    go_wp2_with (first | ((with_reducible refine gd_ 58 rfl ?_); refine Kd.R_lit (Kd.int .i64) _ 2 ?hg (N := 58) ?hd (xs := ([0, 80, 81] : List Int)) (inner := [.int .i64 0, .int .i64 80, .int .i64 81]) (ok := fun _ => True) (okp := fun _ => True) ?hr ?hp (fun _ hk => hk) trivial (Below.refl _ _) (Nat.le_refl _) (by simp) ?_; (case hd => rfl); (case hg => rfl); (case hr => first | (go_simp; done) | (go_simp; rfl)); (case hp => exact (Reps.one (show Kd.M (Kd.int .i64) _ _ _ 0 [.int .i64 0] from rfl) (Reps.one (show Kd.M (Kd.int .i64) _ _ _ 80 [.int .i64 80] from rfl) (Reps.one (show Kd.M (Kd.int .i64) _ _ _ 81 [.int .i64 81] from rfl) (Reps.none _ _))))); intro v151 w49 ho50 hb hg_ hnew_; clear hg_ hnew_; (first | rw [← Ny150.out] at ho50 | (simp only [Int.reduceToNat] at ho50; rw [← Ny150.out] at ho50)); have HO152 := am_ (Kd.R_lower (Kd.R_new' (Kd.R_new' ho50 (Kd.R_lt (rx_ HO133.out))) (Kd.R_lt (rx_ HO142.out))) (below_size (hx_ HB.out))); replace HO133 := am_ (Kd.R_elder' (rx_ HO133.out) (Kd.R_base ho50) hb); replace HO142 := am_ (Kd.R_elder' (rx_ HO142.out) (Kd.R_base ho50) hb); replace BK109 := bb_ BK109 hb; replace BK110 := bb_ BK110 hb; replace HI114 := am_ (IsS70.below (ix_ HI114.out) hb); replace BK121 := bb_ BK121 hb; replace BK146 := bb_ BK146 hb; replace HB := hs_ HB hb; clear hb ho50; obtain ⟨Ao51, co51, eo51⟩ := Kd.R_slice HO152.out; subst eo51) | ((with_reducible refine gc_ 19 rfl ?_); refine gl_ (some 59) rfl rfl Tryz.func19 rfl #[.pointer (some ⟨g114, 0, none⟩), .slice Ao51 y150.length co51] rfl ?_; (with_reducible refine (spec_l01Pick.calls g114 t111 t148 t149 _ _ y150 t153 t154 t155 w _ ?side1 ?side2 ?side3 ?side4 ?side5 A48.out).mono ?_); (case side1 => exact ix_ HI114.out); (case side2 => exact hx_ HB.out); (case side3 => repeat (first | exact (Kd.R_reads' HO152.out).2.2 | (with_reducible refine Kd.C_alloc ?_ _) | (with_reducible refine Kd.C_drewN ?_ _) | (with_reducible refine Kd.C_drew ?_))); (case side4 => exact (Kd.R_reads' HO152.out).2.1); (case side5 => exact far_slice (IsS70.own_ne HI114.out HO152.out (by decide))); rintro e w52 ⟨rfl, hi, hb, hk⟩; refine ⟨_, rfl, ?_⟩; replace BK109 := kb_ hk BK109 NB109_114.out; replace BK110 := kb_ hk BK110 NB110_114.out; replace BK121 := kb_ hk BK121 NB121_114.out; replace HO133 := am_ (Kd.R_mono (Kd.R_keep (IsS70.apart (show IsS70 w _ g114 t111 t148 t149 from ix_ HI114.out) (rx_ HO133.out) (by decide)) hk (fun _ h => h.2)) (fun _ h => h.1)); replace HO142 := am_ (Kd.R_mono (Kd.R_keep (IsS70.apart (show IsS70 w _ g114 t111 t148 t149 from ix_ HI114.out) (rx_ HO142.out) (by decide)) hk (fun _ h => h.2)) (fun _ h => h.1)); replace BK146 := kb_ hk BK146 NB146_114.out; replace HO152 := am_ (Kd.R_mono (Kd.R_keep (IsS70.apart (show IsS70 w _ g114 t111 t148 t149 from ix_ HI114.out) (rx_ HO152.out) (by decide)) hk (fun _ h => h.2)) (fun _ h => h.1)); replace HB := am_ hb; replace HI114 := am_ hi; (try clear hb); (try clear hb2); (try clear hk); (try clear hi)))
    go_meet
    case rel => exact ⟨_, (t153), (0), (0), (0), (0), (wrap64 ((wrap64 ((wrap64 (1 + t122)) * (wrap64 (1 + t115)))) + t134)), (by first | rfl | (simp; done) | (simp [*]; done)), H', ⟨by first | omega | exact Nat.le_refl _⟩, ⟨bx_ BK109.out⟩, ⟨bx_ BK110.out⟩, ⟨bx_ BK121.out⟩, ⟨bx_ BK146.out⟩, ⟨hx_ HB.out⟩⟩
   ·rw [if_neg c47] at H
    have c47b0 : (t147 == 1) = false := beq_eq_false_iff_ne.mpr c47
    have c47b1 : (t147 != 1) = true := bne_iff_ne.mpr c47
    by_cases c53 : t147 = 2
    ·rw [if_pos c53] at H
     have c53b0 : (t147 == 2) = true := beq_iff_eq.mpr c53
     have c53b1 : (t147 != 2) = false := bne_eq_false_iff_eq.mpr c53
     clear c53
     obtain ⟨y156, hy156⟩ : ∃ y_ : List Int, y_ = (([8, 9, 16] : List Int)) := ⟨_, rfl⟩
     replace H : ((spec_l01Pick.f t111 t148 t149 y156).bind fun bt159 => ((spec_l01Pick.f t111 bt159.2.1 bt159.2.2 (([9, 10, 5] : List Int))).bind fun bt165 => (some (100, 100, bt159.1, bt165.1, 1, 1)))) = some (r1, r2, r3, r4, r5, r6) := by first | (rw [hy156]; with_reducible exact H) | (have H2_ := (Option.bind_some _ _).symm.trans H; rw [hy156]; with_reducible exact H2_) | (have H2_ := (Option.bind_some _ _).symm.trans H; with_reducible exact H2_) | with_reducible exact H | (rw [hy156]; exact H) | exact H
     have Ny156 := Aside0.mk hy156
     clear hy156
     replace H := Option.bind_eq_some_iff.mp H
     obtain ⟨⟨t159, t160, t161⟩, A540, H⟩ := H
     try dsimp only at H
     have A54 := Aside0.mk A540
     clear A540
     obtain ⟨y162, hy162⟩ : ∃ y_ : List Int, y_ = (([9, 10, 5] : List Int)) := ⟨_, rfl⟩
     replace H : ((spec_l01Pick.f t111 t160 t161 y162).bind fun bt165 => (some (100, 100, t159, bt165.1, 1, 1))) = some (r1, r2, r3, r4, r5, r6) := by first | (rw [hy162]; with_reducible exact H) | (have H2_ := (Option.bind_some _ _).symm.trans H; rw [hy162]; with_reducible exact H2_) | (have H2_ := (Option.bind_some _ _).symm.trans H; with_reducible exact H2_) | with_reducible exact H | (rw [hy162]; exact H) | exact H
     have Ny162 := Aside0.mk hy162
     clear hy162
     replace H := Option.bind_eq_some_iff.mp H
     obtain ⟨⟨t165, t166, t167⟩, A550, H⟩ := H
     try dsimp only at H
     have A55 := Aside0.mk A550
     clear A550
     simp only [Option.some.injEq, Prod.mk.injEq] at H
     obtain ⟨rfl, rfl, rfl, rfl, rfl, rfl⟩ := H
     go_wp2_with (first | ((with_reducible refine gd_ 64 rfl ?_); refine Kd.R_lit (Kd.int .i64) _ 2 ?hg (N := 64) ?hd (xs := ([8, 9, 16] : List Int)) (inner := [.int .i64 8, .int .i64 9, .int .i64 16]) (ok := fun _ => True) (okp := fun _ => True) ?hr ?hp (fun _ hk => hk) trivial (Below.refl _ _) (Nat.le_refl _) (by simp) ?_; (case hd => rfl); (case hg => rfl); (case hr => first | (go_simp; done) | (go_simp; rfl)); (case hp => exact (Reps.one (show Kd.M (Kd.int .i64) _ _ _ 8 [.int .i64 8] from rfl) (Reps.one (show Kd.M (Kd.int .i64) _ _ _ 9 [.int .i64 9] from rfl) (Reps.one (show Kd.M (Kd.int .i64) _ _ _ 16 [.int .i64 16] from rfl) (Reps.none _ _))))); intro v157 w56 ho57 hb hg_ hnew_; clear hg_ hnew_; (first | rw [← Ny156.out] at ho57 | (simp only [Int.reduceToNat] at ho57; rw [← Ny156.out] at ho57)); have HO158 := am_ (Kd.R_lower (Kd.R_new' (Kd.R_new' ho57 (Kd.R_lt (rx_ HO133.out))) (Kd.R_lt (rx_ HO142.out))) (below_size (hx_ HB.out))); replace HO133 := am_ (Kd.R_elder' (rx_ HO133.out) (Kd.R_base ho57) hb); replace HO142 := am_ (Kd.R_elder' (rx_ HO142.out) (Kd.R_base ho57) hb); replace BK109 := bb_ BK109 hb; replace BK110 := bb_ BK110 hb; replace HI114 := am_ (IsS70.below (ix_ HI114.out) hb); replace BK121 := bb_ BK121 hb; replace BK146 := bb_ BK146 hb; replace HB := hs_ HB hb; clear hb ho57; obtain ⟨Ao58, co58, eo58⟩ := Kd.R_slice HO158.out; subst eo58) | ((with_reducible refine gc_ 19 rfl ?_); refine gl_ (some 65) rfl rfl Tryz.func19 rfl #[.pointer (some ⟨g114, 0, none⟩), .slice Ao58 y156.length co58] rfl ?_; (with_reducible refine (spec_l01Pick.calls g114 t111 t148 t149 _ _ y156 t159 t160 t161 w _ ?side1 ?side2 ?side3 ?side4 ?side5 A54.out).mono ?_); (case side1 => exact ix_ HI114.out); (case side2 => exact hx_ HB.out); (case side3 => repeat (first | exact (Kd.R_reads' HO158.out).2.2 | (with_reducible refine Kd.C_alloc ?_ _) | (with_reducible refine Kd.C_drewN ?_ _) | (with_reducible refine Kd.C_drew ?_))); (case side4 => exact (Kd.R_reads' HO158.out).2.1); (case side5 => exact far_slice (IsS70.own_ne HI114.out HO158.out (by decide))); rintro e w59 ⟨rfl, hi, hb, hk⟩; refine ⟨_, rfl, ?_⟩; replace BK109 := kb_ hk BK109 NB109_114.out; replace BK110 := kb_ hk BK110 NB110_114.out; replace BK121 := kb_ hk BK121 NB121_114.out; replace HO133 := am_ (Kd.R_mono (Kd.R_keep (IsS70.apart (show IsS70 w _ g114 t111 t148 t149 from ix_ HI114.out) (rx_ HO133.out) (by decide)) hk (fun _ h => h.2)) (fun _ h => h.1)); replace HO142 := am_ (Kd.R_mono (Kd.R_keep (IsS70.apart (show IsS70 w _ g114 t111 t148 t149 from ix_ HI114.out) (rx_ HO142.out) (by decide)) hk (fun _ h => h.2)) (fun _ h => h.1)); replace BK146 := kb_ hk BK146 NB146_114.out; replace HO158 := am_ (Kd.R_mono (Kd.R_keep (IsS70.apart (show IsS70 w _ g114 t111 t148 t149 from ix_ HI114.out) (rx_ HO158.out) (by decide)) hk (fun _ h => h.2)) (fun _ h => h.1)); replace HB := am_ hb; replace HI114 := am_ hi; (try clear hb); (try clear hb2); (try clear hk); (try clear hi)) | ((with_reducible refine gd_ 67 rfl ?_); refine Kd.R_lit (Kd.int .i64) _ 2 ?hg (N := 67) ?hd (xs := ([9, 10, 5] : List Int)) (inner := [.int .i64 9, .int .i64 10, .int .i64 5]) (ok := fun _ => True) (okp := fun _ => True) ?hr ?hp (fun _ hk => hk) trivial (Below.refl _ _) (Nat.le_refl _) (by simp) ?_; (case hd => rfl); (case hg => rfl); (case hr => first | (go_simp; done) | (go_simp; rfl)); (case hp => exact (Reps.one (show Kd.M (Kd.int .i64) _ _ _ 9 [.int .i64 9] from rfl) (Reps.one (show Kd.M (Kd.int .i64) _ _ _ 10 [.int .i64 10] from rfl) (Reps.one (show Kd.M (Kd.int .i64) _ _ _ 5 [.int .i64 5] from rfl) (Reps.none _ _))))); intro v163 w60 ho61 hb hg_ hnew_; clear hg_ hnew_; (first | rw [← Ny162.out] at ho61 | (simp only [Int.reduceToNat] at ho61; rw [← Ny162.out] at ho61)); have HO164 := am_ (Kd.R_lower (Kd.R_new' (Kd.R_new' (Kd.R_new' ho61 (Kd.R_lt (rx_ HO133.out))) (Kd.R_lt (rx_ HO142.out))) (Kd.R_lt (rx_ HO158.out))) (below_size (hx_ HB.out))); replace HO133 := am_ (Kd.R_elder' (rx_ HO133.out) (Kd.R_base ho61) hb); replace HO142 := am_ (Kd.R_elder' (rx_ HO142.out) (Kd.R_base ho61) hb); replace HO158 := am_ (Kd.R_elder' (rx_ HO158.out) (Kd.R_base ho61) hb); replace BK109 := bb_ BK109 hb; replace BK110 := bb_ BK110 hb; replace HI114 := am_ (IsS70.below (ix_ HI114.out) hb); replace BK121 := bb_ BK121 hb; replace BK146 := bb_ BK146 hb; replace HB := hs_ HB hb; clear hb ho61; obtain ⟨Ao62, co62, eo62⟩ := Kd.R_slice HO164.out; subst eo62) | ((with_reducible refine gc_ 19 rfl ?_); refine gl_ (some 68) rfl rfl Tryz.func19 rfl #[.pointer (some ⟨g114, 0, none⟩), .slice Ao62 y162.length co62] rfl ?_; (with_reducible refine (spec_l01Pick.calls g114 t111 t160 t161 _ _ y162 t165 t166 t167 w _ ?side1 ?side2 ?side3 ?side4 ?side5 A55.out).mono ?_); (case side1 => exact ix_ HI114.out); (case side2 => exact hx_ HB.out); (case side3 => repeat (first | exact (Kd.R_reads' HO164.out).2.2 | (with_reducible refine Kd.C_alloc ?_ _) | (with_reducible refine Kd.C_drewN ?_ _) | (with_reducible refine Kd.C_drew ?_))); (case side4 => exact (Kd.R_reads' HO164.out).2.1); (case side5 => exact far_slice (IsS70.own_ne HI114.out HO164.out (by decide))); rintro e w63 ⟨rfl, hi, hb, hk⟩; refine ⟨_, rfl, ?_⟩; replace BK109 := kb_ hk BK109 NB109_114.out; replace BK110 := kb_ hk BK110 NB110_114.out; replace BK121 := kb_ hk BK121 NB121_114.out; replace HO133 := am_ (Kd.R_mono (Kd.R_keep (IsS70.apart (show IsS70 w _ g114 t111 t160 t161 from ix_ HI114.out) (rx_ HO133.out) (by decide)) hk (fun _ h => h.2)) (fun _ h => h.1)); replace HO142 := am_ (Kd.R_mono (Kd.R_keep (IsS70.apart (show IsS70 w _ g114 t111 t160 t161 from ix_ HI114.out) (rx_ HO142.out) (by decide)) hk (fun _ h => h.2)) (fun _ h => h.1)); replace BK146 := kb_ hk BK146 NB146_114.out; replace HO158 := am_ (Kd.R_mono (Kd.R_keep (IsS70.apart (show IsS70 w _ g114 t111 t160 t161 from ix_ HI114.out) (rx_ HO158.out) (by decide)) hk (fun _ h => h.2)) (fun _ h => h.1)); replace HO164 := am_ (Kd.R_mono (Kd.R_keep (IsS70.apart (show IsS70 w _ g114 t111 t160 t161 from ix_ HI114.out) (rx_ HO164.out) (by decide)) hk (fun _ h => h.2)) (fun _ h => h.1)); replace HB := am_ hb; replace HI114 := am_ hi; (try clear hb); (try clear hb2); (try clear hk); (try clear hi); have hnb64 := NB109_110.out; have hnc64 := NB110_109.out; have hnb65 := NB109_121.out; have hnc65 := NB121_109.out; have hnb66 := NB109_146.out; have hnc66 := NB146_109.out; have hnb67 := NB109_114.out; have hnc67 := NB114_109.out; have hcz68_0 : w63.cell? ⟨gb109, 0, none⟩ = some (.int .i64 0) := (blk_cell BK109.out 0).trans rfl; have hcz68_1 : w63.cell? ⟨gb109, 1, none⟩ = some (.int .i64 0) := (blk_cell BK109.out 1).trans rfl; have hfz68_0 := blk_frozen BK109.out 0; have hfz68_1 := blk_frozen BK109.out 1; have hnb69 := NB110_121.out; have hnc69 := NB121_110.out; have hnb70 := NB110_146.out; have hnc70 := NB146_110.out; have hnb71 := NB110_114.out; have hnc71 := NB114_110.out; have hcz72_0 : w63.cell? ⟨gb110, 0, none⟩ = some (.int .i64 0) := (blk_cell BK110.out 0).trans rfl; have hcz72_1 : w63.cell? ⟨gb110, 1, none⟩ = some (.int .i64 0) := (blk_cell BK110.out 1).trans rfl; have hfz72_0 := blk_frozen BK110.out 0; have hfz72_1 := blk_frozen BK110.out 1))
     refine bodyPost_ret (results_list (rs := [.cell 2 25, .tmp 3, .tmp 4, .cell 5 25]) rfl (by simp) (.cell gb109 25 #[.int .i64 100, .int .i64 100] (0, 0) _ rfl (by (with_reducible repeat (first | refine blk_drewN ?_ _ | refine blk_drew ?_ | refine blk_alloc ?_ _)); refine blk_far ?_ NB109_110.out _; (with_reducible repeat (first | refine blk_drewN ?_ _ | refine blk_drew ?_ | refine blk_alloc ?_ _)); refine blk_far ?_ NB109_110.out _; (with_reducible repeat (first | refine blk_drewN ?_ _ | refine blk_drew ?_ | refine blk_alloc ?_ _)); refine blk_put (cs := #[.int .i64 100, .int .i64 0]) ?_ 1 _ rfl; (with_reducible repeat (first | refine blk_drewN ?_ _ | refine blk_drew ?_ | refine blk_alloc ?_ _)); refine blk_put (cs := #[.int .i64 0, .int .i64 0]) ?_ 0 _ rfl; (with_reducible repeat (first | refine blk_drewN ?_ _ | refine blk_drew ?_ | refine blk_alloc ?_ _)); exact BK109.out) Tryz.underlying25 rfl (by kernel_rfl) (.tmp (.tmp (.cell gb110 25 #[.int .i64 1, .int .i64 1] (0, 0) _ rfl (by (with_reducible repeat (first | refine blk_drewN ?_ _ | refine blk_drew ?_ | refine blk_alloc ?_ _)); refine blk_put (cs := #[.int .i64 1, .int .i64 0]) ?_ 1 _ rfl; (with_reducible repeat (first | refine blk_drewN ?_ _ | refine blk_drew ?_ | refine blk_alloc ?_ _)); refine blk_put (cs := #[.int .i64 0, .int .i64 0]) ?_ 0 _ rfl; (with_reducible repeat (first | refine blk_drewN ?_ _ | refine blk_drew ?_ | refine blk_alloc ?_ _)); refine blk_far ?_ NB110_109.out _; (with_reducible repeat (first | refine blk_drewN ?_ _ | refine blk_drew ?_ | refine blk_alloc ?_ _)); refine blk_far ?_ NB110_109.out _; (with_reducible repeat (first | refine blk_drewN ?_ _ | refine blk_drew ?_ | refine blk_alloc ?_ _)); exact BK110.out) Tryz.underlying25 rfl (by kernel_rfl) .nil))))) rfl ?_
     exact er_ (hx_ HB.out)
    ·rw [if_neg c53] at H
     have c53b0 : (t147 == 2) = false := beq_eq_false_iff_ne.mpr c53
     have c53b1 : (t147 != 2) = true := bne_iff_ne.mpr c53
     have H' := Aside0.mk H
     clear H
     go_wp2
     go_meet
     case rel => exact ⟨_, (wrap64 (1 + t122)), (0), (0), (0), (0), (wrap64 ((wrap64 ((wrap64 (1 + t122)) * (wrap64 (1 + t115)))) + t134)), (by first | rfl | (simp; done) | (simp [*]; done)), H', ⟨by first | omega | exact Nat.le_refl _⟩, ⟨bx_ BK109.out⟩, ⟨bx_ BK110.out⟩, ⟨bx_ BK121.out⟩, ⟨bx_ BK146.out⟩, ⟨hx_ HB.out⟩⟩
 case rest =>
  clear HC12
  (try clear c1); (try clear p2); (try clear c4); (try clear c5); (try clear c6); (try clear p6); (try clear c7); (try clear c18); (try clear c19); (try clear c41); (try clear c41b0); (try clear c41b1); (try clear c42); (try clear c43); (try clear c44); (try clear c45); (try clear c47); (try clear c47b0); (try clear c47b1); (try clear c53); (try clear c53b0); (try clear c53b1); (try clear c64); (try clear p64); (try clear c65); (try clear c66); (try clear c67); (try clear c69); (try clear c70); (try clear c71); (try clear hcz46_0); (try clear hcz46_1); (try clear hcz68_0); (try clear hcz68_1); (try clear hcz72_0); (try clear hcz72_1); (try clear hfz46_0); (try clear hfz46_1); (try clear hfz68_0); (try clear hfz68_1); (try clear hfz72_0); (try clear hfz72_1)
  obtain ⟨kq, x8_11, x110000_11, x110001_11, x111000_11, x111001_11, x147000_11, rfl, HA, HJ11, BK109, BK110, BK121, BK146, HB⟩ := hcut
  cases kq with
  | zero => exact absurd HA.out (by simp [spec_DrawGridCuts.j0])
  | succ kj11 =>
   have H := HA.out
   clear HA
   simp only [spec_DrawGridCuts.j0] at H
   simp only [Option.some.injEq, Prod.mk.injEq] at H
   obtain ⟨rfl, rfl, rfl, rfl, rfl, rfl⟩ := H
   try go_wp2
   replace BK109 := am_ (blk_drew BK109.out); replace BK110 := am_ (blk_drew BK110.out); replace BK121 := am_ (blk_drew BK121.out); replace BK146 := am_ (blk_drew BK146.out); replace HB := am_ (below_drew1 HB.out)
   refine start_ (n := 8) (S := fun w' => w'.cell? ⟨gb146, 0, none⟩ = some (.int .i64 x147000_11) ∧ w'.cell? ⟨gb146, 1, none⟩ = some (.int .i64 (wrap64 ((wrap64 ((wrap64 (1 + t125)) * (wrap64 (1 + t118)))) + t143))) ∧ w'.cell? ⟨gb121, 0, none⟩ = some (.int .i64 (wrap64 (1 + t115))) ∧ w'.cell? ⟨gb121, 1, none⟩ = some (.int .i64 (wrap64 (1 + t118)))) (ds := []) #[false, false, false, false, false, false, false, false] (by kernel_rfl) rfl rfl ⟨(blk_cell BK146.out 0).trans rfl, (blk_cell BK146.out 1).trans rfl, (blk_cell BK121.out 0).trans rfl, (blk_cell BK121.out 1).trans rfl⟩ (fun hHeld => ?_); refine with_tabW spec_DrawGridCuts.tab12 spec_DrawGridCuts.bits12 (fun HT_ HW_ => ?_)
   generalize wc.drew = w73 at BK109 BK110 BK121 BK146 HB hHeld ⊢
   refine pu_ 1 (some 71) #[false, true, false, false, false, false, false, false] HT_ ?_
   refine pu_ 2 (some 72) #[false, true, true, false, false, false, false, false] HT_ ?_
   refine ta4_ 0 (some 70) #[true, true, true, false, false, false, false, false] HT_ HW_ hHeld ?_
   refine ta4_ 3 (some 73) #[true, true, true, true, false, false, false, false] HT_ HW_ hHeld ?_
   refine one_ (i := 4) (N := none) #[true, true, true, true, true, false, false, false] rfl rfl (one_of HT_.out (by kernel_rfl)) (by decide) (fun K hK => ?_)
   have hs74 : w73.cell? ⟨gb109, 0, none⟩ = some (.int .i64 x110000_11) := (blk_cell BK109.out 0).trans rfl
   have hfs74 := blk_frozen BK109.out 0
   have hns74_1 := NB110_109.out
   have hns74_2 := NB121_109.out
   have hns74_3 := NB146_109.out
   have hms74_1 := NB109_110.out
   have hms74_2 := NB109_121.out
   have hms74_3 := NB109_146.out
   have hs75 : w73.cell? ⟨gb109, 1, none⟩ = some (.int .i64 x110001_11) := (blk_cell BK109.out 1).trans rfl
   have hfs75 := blk_frozen BK109.out 1
   have hns75_1 := NB110_109.out
   have hns75_2 := NB121_109.out
   have hns75_3 := NB146_109.out
   have hms75_1 := NB109_110.out
   have hms75_2 := NB109_121.out
   have hms75_3 := NB109_146.out
   refine skip_ (w1 := ?_) (by rfl) rfl ?_ ?_
   rotate_left
   ·go_simp
    rfl
   refine hK.out _ _ ⟨((cell_far (p := ⟨gb109, _, none⟩) NB146_109.out _).trans (((cell_far (p := ⟨gb109, _, none⟩) NB146_109.out _).trans (hHeld.1)))), ((cell_far (p := ⟨gb109, _, none⟩) NB146_109.out _).trans (((cell_far (p := ⟨gb109, _, none⟩) NB146_109.out _).trans (hHeld.2.1)))), ((cell_far (p := ⟨gb109, _, none⟩) NB121_109.out _).trans (((cell_far (p := ⟨gb109, _, none⟩) NB121_109.out _).trans (hHeld.2.2.1)))), ((cell_far (p := ⟨gb109, _, none⟩) NB121_109.out _).trans (((cell_far (p := ⟨gb109, _, none⟩) NB121_109.out _).trans (hHeld.2.2.2))))⟩ (fun hHeld => ?_)
   clear hK K
   refine pu_ 5 (some 3) #[true, true, true, true, true, true, false, false] HT_ ?_
   refine pu_ 6 (some 4) #[true, true, true, true, true, true, true, false] HT_ ?_
   refine one_ (i := 7) (N := none) #[true, true, true, true, true, true, true, true] rfl rfl (one_of HT_.out (by kernel_rfl)) (by decide) (fun K hK => ?_)
   have hs76 : w73.cell? ⟨gb110, 0, none⟩ = some (.int .i64 x111000_11) := (blk_cell BK110.out 0).trans rfl
   have hfs76 := blk_frozen BK110.out 0
   have hns76_0 := NB109_110.out
   have hns76_2 := NB121_110.out
   have hns76_3 := NB146_110.out
   have hms76_0 := NB110_109.out
   have hms76_2 := NB110_121.out
   have hms76_3 := NB110_146.out
   have hs77 : w73.cell? ⟨gb110, 1, none⟩ = some (.int .i64 x111001_11) := (blk_cell BK110.out 1).trans rfl
   have hfs77 := blk_frozen BK110.out 1
   have hns77_0 := NB109_110.out
   have hns77_2 := NB121_110.out
   have hns77_3 := NB146_110.out
   have hms77_0 := NB110_109.out
   have hms77_2 := NB110_121.out
   have hms77_3 := NB110_146.out
   refine skip_ (w1 := ?_) (by rfl) rfl ?_ ?_
   rotate_left
   ·go_simp
    rfl
   refine hK.out _ _ ⟨((cell_far (p := ⟨gb110, _, none⟩) NB146_110.out _).trans (((cell_far (p := ⟨gb110, _, none⟩) NB146_110.out _).trans (hHeld.1)))), ((cell_far (p := ⟨gb110, _, none⟩) NB146_110.out _).trans (((cell_far (p := ⟨gb110, _, none⟩) NB146_110.out _).trans (hHeld.2.1)))), ((cell_far (p := ⟨gb110, _, none⟩) NB121_110.out _).trans (((cell_far (p := ⟨gb110, _, none⟩) NB121_110.out _).trans (hHeld.2.2.1)))), ((cell_far (p := ⟨gb110, _, none⟩) NB121_110.out _).trans (((cell_far (p := ⟨gb110, _, none⟩) NB121_110.out _).trans (hHeld.2.2.2))))⟩ (fun hHeld => ?_)
   clear hK K
   refine done_ (done_of HT_.out (by kernel_rfl)) ?_
   try go_wp2
   refine bodyPost_ret (results_list (rs := [.cell 2 25, .tmp 3, .tmp 4, .cell 5 25]) rfl (by simp) (.cell gb109 25 #[.int .i64 x147000_11, .int .i64 (wrap64 ((wrap64 ((wrap64 (1 + t125)) * (wrap64 (1 + t118)))) + t143))] (0, 0) _ rfl (by (with_reducible repeat (first | refine blk_drewN ?_ _ | refine blk_drew ?_ | refine blk_alloc ?_ _)); refine blk_far ?_ NB109_110.out _; (with_reducible repeat (first | refine blk_drewN ?_ _ | refine blk_drew ?_ | refine blk_alloc ?_ _)); refine blk_far ?_ NB109_110.out _; (with_reducible repeat (first | refine blk_drewN ?_ _ | refine blk_drew ?_ | refine blk_alloc ?_ _)); refine blk_put (cs := #[.int .i64 x147000_11, .int .i64 x110001_11]) ?_ 1 _ rfl; (with_reducible repeat (first | refine blk_drewN ?_ _ | refine blk_drew ?_ | refine blk_alloc ?_ _)); refine blk_put (cs := #[.int .i64 x110000_11, .int .i64 x110001_11]) ?_ 0 _ rfl; (with_reducible repeat (first | refine blk_drewN ?_ _ | refine blk_drew ?_ | refine blk_alloc ?_ _)); exact BK109.out) Tryz.underlying25 rfl (by kernel_rfl) (.tmp (.tmp (.cell gb110 25 #[.int .i64 (wrap64 (1 + t115)), .int .i64 (wrap64 (1 + t118))] (0, 0) _ rfl (by (with_reducible repeat (first | refine blk_drewN ?_ _ | refine blk_drew ?_ | refine blk_alloc ?_ _)); refine blk_put (cs := #[.int .i64 (wrap64 (1 + t115)), .int .i64 x111001_11]) ?_ 1 _ rfl; (with_reducible repeat (first | refine blk_drewN ?_ _ | refine blk_drew ?_ | refine blk_alloc ?_ _)); refine blk_put (cs := #[.int .i64 x111000_11, .int .i64 x111001_11]) ?_ 0 _ rfl; (with_reducible repeat (first | refine blk_drewN ?_ _ | refine blk_drew ?_ | refine blk_alloc ?_ _)); refine blk_far ?_ NB110_109.out _; (with_reducible repeat (first | refine blk_drewN ?_ _ | refine blk_drew ?_ | refine blk_alloc ?_ _)); refine blk_far ?_ NB110_109.out _; (with_reducible repeat (first | refine blk_drewN ?_ _ | refine blk_drew ?_ | refine blk_alloc ?_ _)); exact BK110.out) Tryz.underlying25 rfl (by kernel_rfl) .nil))))) rfl ?_
   exact er_ (hx_ HB.out)

end Go.Proofs.YtdafddgmeidclaaGreatDoor.PFnGridCuts
