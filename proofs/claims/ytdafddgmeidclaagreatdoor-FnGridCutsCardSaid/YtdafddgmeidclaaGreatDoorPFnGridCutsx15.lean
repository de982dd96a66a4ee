-- Written by wip/inject.py: a contract of each function that the law reaches; those of the stand-ins are proved in this seat's Hand texts
import Derived.Test.YtdafddgmeidclaaGreatDoorPFnGridCutsx0
import Derived.Test.YtdafddgmeidclaaGreatDoorPFnGridCutsx2
import Derived.Test.YtdafddgmeidclaaGreatDoorPFnGridCutsx11
import Derived.Test.YtdafddgmeidclaaGreatDoorPFnGridCutsx13
import Derived.Test.YtdafddgmeidclaaGreatDoorPFnGridCutsx14
namespace Go.Proofs.YtdafddgmeidclaaGreatDoor.PFnGridCuts
open Go.RowKit Go.Proofs.YtdafddgmeidclaaGreatDoorW.PrintWords Go.Proofs.YtdafddgmeidclaaGreatDoorW.PrintLast Go.Proofs.YtdafddgmeidclaaGreatDoorW.PrintMore
attribute [local go_sem] max2_int min2_int max_two min_two max_three min_three max_four min_four   -- for this text's walks alone
set_option linter.unusedVariables false
set_option linter.unusedSimpArgs false

attribute [local go_sem high] eqA50
/-! ### spec_ReadProgram: function 12 -/
mutual
def spec_ReadProgram.l0 : Nat → ByteArray → List (S50) → List ByteArray → Int → Option ((List (S50)) × Bool)
 | 0, _, _, _, _ => none
 | k + 1, x0, x4, x5, x6 => if x6 < (x5.length : Int) then (if 0 ≤ x6 then ((spec_l01Split.f k (rdOf ByteArray.empty x5 x6) 45).bind fun t469 => (if (t469.length : Int) = 2 then (spec_ReadProgram.j1 k x0 x4 x5 x6 45) else (spec_ReadProgram.j1 k x0 x4 x5 x6 124))) else (none)) else ((spec_ProgramText.f k x4).bind fun t487 => (if t487.toList = x0.toList then (some (x4, true)) else (some (([] : List (S50)), false))))
def spec_ReadProgram.j1 : Nat → ByteArray → List (S50) → List ByteArray → Int → Int → Option ((List (S50)) × Bool)
 | 0, _, _, _, _, _ => none
 | k + 1, x0, x4, x5, x6, x7 => if 0 ≤ x6 then (if x6 < (x5.length : Int) then ((spec_l01Split.f k (rdOf ByteArray.empty x5 x6) x7).bind fun t473 => ((spec_l01Numbers.f k t473).bind fun bt476 => (if bt476.2 = true then (if (bt476.1.length : Int) = 2 then (if 0 < (bt476.1.length : Int) then (if (rd bt476.1 0) < 0 then (spec_ReadProgram.j2 k x0 x4 x5 x6 x7 bt476.1 true) else (if 1 < (bt476.1.length : Int) then (spec_ReadProgram.j2 k x0 x4 x5 x6 x7 bt476.1 (decide ((rd bt476.1 1) < 0))) else (none))) else (none)) else (spec_ReadProgram.j2 k x0 x4 x5 x6 x7 bt476.1 true)) else (spec_ReadProgram.j2 k x0 x4 x5 x6 x7 bt476.1 true)))) else (none)) else (none)
def spec_ReadProgram.j2 : Nat → ByteArray → List (S50) → List ByteArray → Int → Int → List Int → Bool → Option ((List (S50)) × Bool)
 | 0, _, _, _, _, _, _, _ => none
 | k + 1, x0, x4, x5, x6, x7, x8, x57 => if x57 = true then (some (([] : List (S50)), false)) else (if 0 < (x8.length : Int) then (if 1 < (x8.length : Int) then (if x4.length < 5864062014805 then (spec_ReadProgram.l0 k x0 (x4 ++ [(⟨rd x8 0, (x7 == 45), rd x8 1⟩ : S50)]) x5 (wrap64 (x6 + 1))) else (none)) else (none)) else (none))
end
def spec_ReadProgram.f (k : Nat) (a0 : ByteArray) : Option ((List (S50)) × Bool) := (some (([] : List (S50)) : List (S50))).bind fun y462 => (if a0.toList = ([] : List UInt8) then (some (y462, true)) else ((spec_l01Split.f k a0 32).bind fun t465 => (spec_ReadProgram.l0 k a0 y462 t465 0)))
theorem spec_ReadProgram.mono_l : ∀ k, (∀ y0 y1 y2 y3, LeO (spec_ReadProgram.l0 k y0 y1 y2 y3) (spec_ReadProgram.l0 (k + 1) y0 y1 y2 y3)) ∧ (∀ y0 y1 y2 y3 y4, LeO (spec_ReadProgram.j1 k y0 y1 y2 y3 y4) (spec_ReadProgram.j1 (k + 1) y0 y1 y2 y3 y4)) ∧ (∀ y0 y1 y2 y3 y4 y5 y6, LeO (spec_ReadProgram.j2 k y0 y1 y2 y3 y4 y5 y6) (spec_ReadProgram.j2 (k + 1) y0 y1 y2 y3 y4 y5 y6))
 | 0 => ⟨fun _ _ _ _ r h => by simp [spec_ReadProgram.l0] at h, fun _ _ _ _ _ r h => by simp [spec_ReadProgram.j1] at h, fun _ _ _ _ _ _ _ r h => by simp [spec_ReadProgram.j2] at h⟩
 | k + 1 => by
  obtain ⟨ih0, ih1, ih2⟩ := spec_ReadProgram.mono_l k
  refine ⟨?_, ?_, ?_⟩
  ·intro y0 y1 y2 y3
   unfold spec_ReadProgram.l0
   repeat' first
   | (with_reducible exact ih0 _ _ _ _)
   | (with_reducible exact ih1 _ _ _ _ _)
   | (with_reducible exact ih2 _ _ _ _ _ _ _)
   | (with_reducible exact spec_ProgramText.mono _ _)
   | (with_reducible exact spec_l01Numbers.mono _ _)
   | (with_reducible exact spec_l01Split.mono _ _ _)
   | (with_reducible exact LeO.refl _)
   | (with_reducible exact LeO.none _)
   | (with_reducible refine LeO.ite ?_ ?_)
   | (with_reducible refine LeO.bind ?_ (fun _ => ?_))
   | exact ih0 _ _ _ _
   | exact ih1 _ _ _ _ _
   | exact ih2 _ _ _ _ _ _ _
   | exact spec_ProgramText.mono _ _
   | exact spec_l01Numbers.mono _ _
   | exact spec_l01Split.mono _ _ _
   | exact LeO.none _
   | refine LeO.ite ?_ ?_
   | refine LeO.bind ?_ (fun _ => ?_)
  ·intro y0 y1 y2 y3 y4
   unfold spec_ReadProgram.j1
   repeat' first
   | (with_reducible exact ih0 _ _ _ _)
   | (with_reducible exact ih1 _ _ _ _ _)
   | (with_reducible exact ih2 _ _ _ _ _ _ _)
   | (with_reducible exact spec_ProgramText.mono _ _)
   | (with_reducible exact spec_l01Numbers.mono _ _)
   | (with_reducible exact spec_l01Split.mono _ _ _)
   | (with_reducible exact LeO.refl _)
   | (with_reducible exact LeO.none _)
   | (with_reducible refine LeO.ite ?_ ?_)
   | (with_reducible refine LeO.bind ?_ (fun _ => ?_))
   | exact ih0 _ _ _ _
   | exact ih1 _ _ _ _ _
   | exact ih2 _ _ _ _ _ _ _
   | exact spec_ProgramText.mono _ _
   | exact spec_l01Numbers.mono _ _
   | exact spec_l01Split.mono _ _ _
   | exact LeO.none _
   | refine LeO.ite ?_ ?_
   | refine LeO.bind ?_ (fun _ => ?_)
  ·intro y0 y1 y2 y3 y4 y5 y6
   unfold spec_ReadProgram.j2
   repeat' first
   | (with_reducible exact ih0 _ _ _ _)
   | (with_reducible exact ih1 _ _ _ _ _)
   | (with_reducible exact ih2 _ _ _ _ _ _ _)
   | (with_reducible exact spec_ProgramText.mono _ _)
   | (with_reducible exact spec_l01Numbers.mono _ _)
   | (with_reducible exact spec_l01Split.mono _ _ _)
   | (with_reducible exact LeO.refl _)
   | (with_reducible exact LeO.none _)
   | (with_reducible refine LeO.ite ?_ ?_)
   | (with_reducible refine LeO.bind ?_ (fun _ => ?_))
   | exact ih0 _ _ _ _
   | exact ih1 _ _ _ _ _
   | exact ih2 _ _ _ _ _ _ _
   | exact spec_ProgramText.mono _ _
   | exact spec_l01Numbers.mono _ _
   | exact spec_l01Split.mono _ _ _
   | exact LeO.none _
   | refine LeO.ite ?_ ?_
   | refine LeO.bind ?_ (fun _ => ?_)
theorem spec_ReadProgram.mono : ∀ a0 k, LeO (spec_ReadProgram.f k a0) (spec_ReadProgram.f (k + 1) a0) := by
 intro a0 k
 obtain ⟨ih0, ih1, ih2⟩ := spec_ReadProgram.mono_l k
 unfold spec_ReadProgram.f
 repeat' first
   | (with_reducible exact ih0 _ _ _ _)
   | (with_reducible exact ih1 _ _ _ _ _)
   | (with_reducible exact ih2 _ _ _ _ _ _ _)
   | (with_reducible exact spec_ProgramText.mono _ _)
   | (with_reducible exact spec_l01Numbers.mono _ _)
   | (with_reducible exact spec_l01Split.mono _ _ _)
   | (with_reducible exact LeO.refl _)
   | (with_reducible exact LeO.none _)
   | (with_reducible refine LeO.ite ?_ ?_)
   | (with_reducible refine LeO.bind ?_ (fun _ => ?_))
   | exact ih0 _ _ _ _
   | exact ih1 _ _ _ _ _
   | exact ih2 _ _ _ _ _ _ _
   | exact spec_ProgramText.mono _ _
   | exact spec_l01Numbers.mono _ _
   | exact spec_l01Split.mono _ _ _
   | exact LeO.none _
   | refine LeO.ite ?_ ?_
   | refine LeO.bind ?_ (fun _ => ?_)
def spec_ReadProgram.T14 : Bool × List (List Nat × List Nat) := (true, [([], []), ([], []), ([1], [1]), ([2], [2]), ([], []), ([4], [4]), ([], []), ([6], [6]), ([7], [7]), ([3, 5, 8], [3, 5, 8]), ([9], [9]), ([0, 10], [0, 10]), ([11, 11, 0, 1, 2, 3, 4, 5, 6, 7, 8, 9, 10, 11], [0, 11])])
def spec_ReadProgram.B14 : List Nat := [0, 0, 2, 6, 0, 16, 0, 64, 192, 510, 1022, 2047, 4095]
theorem spec_ReadProgram.tab14 : rtab .any (opsOf Tryz.f12 14) = spec_ReadProgram.T14 := by kernel_rfl
theorem spec_ReadProgram.bits14 : waitsOk spec_ReadProgram.T14.2 spec_ReadProgram.B14 = true := by kernel_rfl
set_option maxHeartbeats 8000000 in
set_option maxRecDepth 100000 in
theorem spec_ReadProgram.calls (k : Nat) (a0 : ByteArray) (r1 : List (S50)) (r2 : Bool) (w : World) (h : spec_ReadProgram.f k a0 = some (r1, r2)) :
  Calls Tryz.prog 12 #[.string a0] w fun e w' => ∃ v0_ : Value, e = .returned (.tuple #[v0_, .bool r2]) ∧ Kd.R k50 50 w' w.heap.size (fun _ => True) v0_ r1 ∧ Below w.heap.size w w' := by
 have hu50 := Tryz.underlying50
 have HB := Aside0.mk (Below.refl w.heap.size w)
 have H : ((some (([] : List (S50)) : List (S50))).bind fun y462 => (if a0.toList = ([] : List UInt8) then (some (y462, true)) else ((spec_l01Split.f k a0 32).bind fun t465 => (spec_ReadProgram.l0 k a0 y462 t465 0)))) = some (r1, r2) := h
 clear h
 obtain ⟨y462, hy462⟩ : ∃ y_ : List (S50), y_ = (([] : List (S50))) := ⟨_, rfl⟩
 replace H : (if a0.toList = ([] : List UInt8) then (some (y462, true)) else ((spec_l01Split.f k a0 32).bind fun t465 => (spec_ReadProgram.l0 k a0 y462 t465 0))) = some (r1, r2) := by first | (rw [hy462]; with_reducible exact H) | (have H2_ := (Option.bind_some _ _).symm.trans H; rw [hy462]; with_reducible exact H2_) | (have H2_ := (Option.bind_some _ _).symm.trans H; with_reducible exact H2_) | with_reducible exact H | (rw [hy462]; exact H) | exact H
 have Ny462 := Aside0.mk hy462
 clear hy462
 by_cases c2 : a0.toList = ([] : List UInt8)
 ·rw [if_pos c2] at H
  have c2b0 : (a0.toList == ([] : List UInt8)) = true := beq_iff_eq.mpr c2
  have c2b1 : (a0.toList != ([] : List UInt8)) = false := bne_eq_false_iff_eq.mpr c2
  clear c2
  simp only [Option.some.injEq, Prod.mk.injEq] at H
  obtain ⟨rfl, rfl⟩ := H
  go_enter Tryz.func12, Tryz.ntmps12
  go_wp2_with (first | ((with_reducible refine gd_ 10 rfl ?_); (try (refine gate_guard (by rfl) ?_; dsimp only)); refine Kd.R_lit k50 _ 50 ?hg (N := 10) ?hd (xs := ([] : List (S50))) (inner := []) (ok := fun _ => True) (okp := fun _ => True) ?hr ?hp (fun _ hk => hk) trivial (Below.refl _ _) (Nat.le_refl _) (by simp) ?_; (case hd => rfl); (case hg => rfl); (case hr => first | (go_simp; done) | (go_simp; rfl)); (case hp => exact (Reps.none _ _)); intro v463 w3 ho4 hb hg_ hnew_; clear hg_ hnew_; (first | rw [← Ny462.out] at ho4 | (simp only [Int.reduceToNat] at ho4; rw [← Ny462.out] at ho4)); have HO464 := am_ (Kd.R_lower ho4 (below_size (hx_ HB.out))); replace HB := hs_ HB hb; clear hb ho4))
  go_ret2
  exact ⟨_, by first | rfl | (simp [errW_none, errW_some] <;> rfl) | (simp [*, errW_none, errW_some] <;> rfl), rx_ HO464.out, hx_ HB.out⟩
 ·rw [if_neg c2] at H
  have c2b0 : (a0.toList == ([] : List UInt8)) = false := beq_eq_false_iff_ne.mpr c2
  have c2b1 : (a0.toList != ([] : List UInt8)) = true := bne_iff_ne.mpr c2
  replace H := Option.bind_eq_some_iff.mp H
  obtain ⟨t465, A50, H⟩ := H
  try dsimp only at H
  have A5 := Aside0.mk A50
  clear A50
  have H' := Aside0.mk H
  clear H
  go_enter Tryz.func12, Tryz.ntmps12
  go_wp2_with (first | ((with_reducible refine gd_ 10 rfl ?_); (try (refine gate_guard (by rfl) ?_; dsimp only)); refine Kd.R_lit k50 _ 50 ?hg (N := 10) ?hd (xs := ([] : List (S50))) (inner := []) (ok := fun _ => True) (okp := fun _ => True) ?hr ?hp (fun _ hk => hk) trivial (Below.refl _ _) (Nat.le_refl _) (by simp) ?_; (case hd => rfl); (case hg => rfl); (case hr => first | (go_simp; done) | (go_simp; rfl)); (case hp => exact (Reps.none _ _)); intro v463 w6 ho7 hb hg_ hnew_; clear hg_ hnew_; (first | rw [← Ny462.out] at ho7 | (simp only [Int.reduceToNat] at ho7; rw [← Ny462.out] at ho7)); have HO464 := am_ (Kd.R_lower ho7 (below_size (hx_ HB.out))); replace HB := hs_ HB hb; clear hb ho7) | ((with_reducible refine gc_ 33 rfl ?_); refine gl_ (some 15) rfl rfl Tryz.func33 rfl #[.string a0, .int .u8 32] rfl ?_; (with_reducible refine (spec_l01Split.calls k a0 32 t465 _ A5.out).mono ?_); rintro e w8 ⟨v466, rfl, ho0, hb⟩; refine ⟨_, rfl, ?_⟩; replace HO464 := am_ (Kd.R_below (rx_ HO464.out) hb); have HO467 := am_ (Kd.R_lower ho0 (below_size (hx_ HB.out))); replace HB := hs_ HB hb; (try clear hb); (try clear hb2); (try clear hk); (try clear hi); (try clear ho0)))
  go_loopg [4, 6] k (fun kq v4 v6 w' => ∃ (x4_1 : List (S50)) (x6_1 : Int), v6 = .int .i64 x6_1 ∧ Aside0 (spec_ReadProgram.l0 kq a0 x4_1 t465 x6_1 = some (r1, r2)) ∧ Aside0 (kq ≤ k) ∧ Aside0 (Kd.R k50 50 w' w.heap.size (fun _ => True) v4 x4_1) ∧ Aside0 (Kd.R Kd.string 9 w' w.heap.size (fun _ => True) v466 t465) ∧ Aside0 (Below w.heap.size w w'))
  case atStart => exact ⟨(y462), (0), (by first | rfl | (simp; done) | (simp [*]; done)), H', ⟨Nat.le_refl _⟩, ⟨rx_ HO464.out⟩, ⟨rx_ HO467.out⟩, ⟨hx_ HB.out⟩⟩
  case round =>
   clear H'
   (try clear c1); (try clear c2); (try clear c2b0); (try clear c2b1); (try clear p2); (try clear c3)
   obtain ⟨x4_1, x6_1, rfl, HA, HK1, HO_4, HO_5, HB⟩ := hrel
   cases gk with
   | zero => exact absurd HA.out (by simp [spec_ReadProgram.l0])
   | succ k1 =>
    have H := HA.out
    clear HA
    simp only [spec_ReadProgram.l0] at H
    by_cases c9 : x6_1 < (t465.length : Int)
    ·rw [if_pos c9] at H
     have c9b0 : decide (x6_1 < (t465.length : Int)) = true := decide_eq_true c9
     clear c9
     by_cases c10 : 0 ≤ x6_1
     ·rw [if_pos c10] at H
      have c10b0 : decide (0 ≤ x6_1) = true := decide_eq_true c10
      clear c10
      replace H := Option.bind_eq_some_iff.mp H
      obtain ⟨t469, A110, H⟩ := H
      try dsimp only at H
      have A11 := Aside0.mk A110
      clear A110
      have HC12 := Aside0.mk H
      clear H
      obtain ⟨Ao13, co13, eo13⟩ := Kd.R_slice HO_5.out
      subst eo13
      have p468 : 0 ≤ (x6_1 : Int) := of_decide_eq_true (by first | (with_reducible assumption) | assumption)
      have q468 : x6_1 < (t465.length : Int) := of_decide_eq_true (by first | (with_reducible assumption) | assumption)
      obtain ⟨ad468, e468, hx468_0⟩ := Kd.at_string (Kd.R_reads' HO_5.out).2.2 x6_1 p468 q468
      cases e468
      replace p468 := eq_true p468
      replace q468 := eq_true q468
      go_upto_if 28 with (first | ((with_reducible refine gc_ 33 rfl ?_); refine gl_ (some 26) rfl rfl Tryz.func33 rfl #[.string (rdOf ByteArray.empty t465 x6_1), .int .u8 45] rfl ?_; (with_reducible refine (spec_l01Split.calls k1 (rdOf ByteArray.empty t465 x6_1) 45 t469 _ A11.out).mono ?_); rintro e w14 ⟨v470, rfl, ho0, hb⟩; refine ⟨_, rfl, ?_⟩; replace HO_4 := am_ (Kd.R_below (rx_ HO_4.out) hb); have HO471 := am_ (Kd.R_lower (Kd.R_new' ho0 (Kd.R_lt (rx_ HO_5.out))) (below_size (hx_ HB.out))); replace HO_5 := am_ (Kd.R_elder' (rx_ HO_5.out) (Kd.R_base ho0) hb); replace HB := hs_ HB hb; (try clear hb); (try clear hb2); (try clear hk); (try clear hi); (try clear ho0); obtain ⟨Ao15, co15, eo15⟩ := Kd.R_slice HO471.out; subst eo15))
      (try simp only [Act.put, List.setIfInBounds_toArray, List.set_cons_zero, List.set_cons_succ])
      go_cut [7] (fun v7 wc => ∃ (kq : Nat) (x7_11 : Int), v7 = .int .u8 x7_11 ∧ Aside0 (spec_ReadProgram.j1 kq a0 x4_1 t465 x6_1 x7_11 = some (r1, r2)) ∧ Aside0 (kq ≤ k1) ∧ Aside0 (Kd.R k50 50 wc w.heap.size (fun _ => True) u4 x4_1) ∧ Aside0 (Kd.R Kd.string 9 wc w.heap.size (fun _ => True) (.slice (some ad468) t465.length co13) t465) ∧ Aside0 (Below w.heap.size w wc))
      case first =>
       have H := HC12.out
       clear HC12
       by_cases c16 : (t469.length : Int) = 2
       ·rw [if_pos c16] at H
        have c16b0 : ((t469.length : Int) == 2) = true := beq_iff_eq.mpr c16
        have c16b1 : ((t469.length : Int) != 2) = false := bne_eq_false_iff_eq.mpr c16
        clear c16
        (first | rw [c16b0] | (simp only [i64_w, i32_w]; rw [c16b0]) | skip)
        have H' := Aside0.mk H
        clear H
        go_wp2
        go_meet
        case rel => exact ⟨_, (45), (by first | rfl | (simp; done) | (simp [*]; done)), H', ⟨by have := HK1.out; first | omega | exact Nat.le_refl _⟩, ⟨rx_ HO_4.out⟩, ⟨by (with_reducible repeat (first | apply Kd.R_alloc | apply Kd.R_drewN | apply Kd.R_drew)); exact Kd.R_mono HO_5.out (fun _ hk => trivial)⟩, ⟨hx_ HB.out⟩⟩
       ·rw [if_neg c16] at H
        have c16b0 : ((t469.length : Int) == 2) = false := beq_eq_false_iff_ne.mpr c16
        have c16b1 : ((t469.length : Int) != 2) = true := bne_iff_ne.mpr c16
        (first | rw [c16b0] | (simp only [i64_w, i32_w]; rw [c16b0]) | skip)
        have H' := Aside0.mk H
        clear H
        go_wp2
        go_meet
        case rel => exact ⟨_, (124), (by first | rfl | (simp; done) | (simp [*]; done)), H', ⟨by have := HK1.out; first | omega | exact Nat.le_refl _⟩, ⟨rx_ HO_4.out⟩, ⟨by (with_reducible repeat (first | apply Kd.R_alloc | apply Kd.R_drewN | apply Kd.R_drew)); exact Kd.R_mono HO_5.out (fun _ hk => trivial)⟩, ⟨hx_ HB.out⟩⟩
      case rest =>
       clear HC12
       (try clear c1); (try clear c2); (try clear c2b0); (try clear c2b1); (try clear p2); (try clear c3); (try clear p4); (try clear q4); (try clear hx4); (try clear c9); (try clear c9b0); (try clear c10); (try clear c10b0); (try clear c12); (try clear c16); (try clear c16b0); (try clear c16b1); (try clear hx468_0); (try clear p2); (try clear p468); (try clear q468)
       obtain ⟨kq, x7_11, rfl, HA, HJ11, HO_4, HO_5, HB⟩ := hcut
       cases kq with
       | zero => exact absurd HA.out (by simp [spec_ReadProgram.j1])
       | succ kj11 =>
        have H := HA.out
        clear HA
        simp only [spec_ReadProgram.j1] at H
        by_cases c17 : 0 ≤ x6_1
        ·rw [if_pos c17] at H
         have c17b0 : decide (0 ≤ x6_1) = true := decide_eq_true c17
         clear c17
         by_cases c18 : x6_1 < (t465.length : Int)
         ·rw [if_pos c18] at H
          have c18b0 : decide (x6_1 < (t465.length : Int)) = true := decide_eq_true c18
          clear c18
          replace H := Option.bind_eq_some_iff.mp H
          obtain ⟨t473, A190, H⟩ := H
          try dsimp only at H
          have A19 := Aside0.mk A190
          clear A190
          replace H := Option.bind_eq_some_iff.mp H
          obtain ⟨⟨t476, t477⟩, A200, H⟩ := H
          try dsimp only at H
          have A20 := Aside0.mk A200
          clear A200
          have HC21 := Aside0.mk H
          clear H
          have p472 : 0 ≤ (x6_1 : Int) := of_decide_eq_true (by first | (with_reducible assumption) | assumption)
          have q472 : x6_1 < (t465.length : Int) := of_decide_eq_true (by first | (with_reducible assumption) | assumption)
          obtain ⟨ad472, e472, hx472_0⟩ := Kd.at_string (Kd.R_reads' HO_5.out).2.2 x6_1 p472 q472
          obtain rfl : ad468 = ad472 := (by injection e472)
          replace p472 := eq_true p472
          replace q472 := eq_true q472
          go_upto_region 12 with (first | ((with_reducible refine gc_ 33 rfl ?_); refine gl_ (some 35) rfl rfl Tryz.func33 rfl #[.string (rdOf ByteArray.empty t465 x6_1), .int .u8 x7_11] rfl ?_; (with_reducible refine (spec_l01Split.calls kj11 (rdOf ByteArray.empty t465 x6_1) x7_11 t473 _ A19.out).mono ?_); rintro e w22 ⟨v474, rfl, ho0, hb⟩; refine ⟨_, rfl, ?_⟩; replace HO_4 := am_ (Kd.R_below (rx_ HO_4.out) hb); have HO475 := am_ (Kd.R_lower (Kd.R_new' ho0 (Kd.R_lt (rx_ HO_5.out))) (below_size (hx_ HB.out))); replace HO_5 := am_ (Kd.R_elder' (rx_ HO_5.out) (Kd.R_base ho0) hb); replace HB := hs_ HB hb; (try clear hb); (try clear hb2); (try clear hk); (try clear hi); (try clear ho0); obtain ⟨Ao23, co23, eo23⟩ := Kd.R_slice HO475.out; subst eo23) | ((with_reducible refine gc_ 34 rfl ?_); refine gl_ (some 36) rfl rfl Tryz.func34 rfl #[.slice Ao23 t473.length co23] rfl ?_; (with_reducible refine (spec_l01Numbers.calls kj11 _ _ t473 t476 t477 _ ?side1 ?side2 A20.out).mono ?_); (case side1 => repeat (first | exact (Kd.R_reads' HO475.out).2.2 | (with_reducible refine Kd.C_alloc ?_ _) | (with_reducible refine Kd.C_drewN ?_ _) | (with_reducible refine Kd.C_drew ?_))); (case side2 => exact (Kd.R_reads' HO475.out).2.1); rintro e w24 ⟨v478, rfl, ho0, hb⟩; refine ⟨_, rfl, ?_⟩; replace HO_4 := am_ (Kd.R_below (rx_ HO_4.out) hb); replace HO_5 := am_ (Kd.R_below (rx_ HO_5.out) hb); replace HO475 := am_ (Kd.R_below (rx_ HO475.out) hb); have HO479 := am_ (Kd.R_lower ho0 (below_size (hx_ HB.out))); replace HB := hs_ HB hb; (try clear hb); (try clear hb2); (try clear hk); (try clear hi); (try clear ho0)))
          (try simp only [Act.put, List.setIfInBounds_toArray, List.set_cons_zero, List.set_cons_succ])
          go_cut [57] (fun v57 wc => ∃ (kq : Nat) (x57_20 : Bool), v57 = .bool x57_20 ∧ Aside0 (spec_ReadProgram.j2 kq a0 x4_1 t465 x6_1 x7_11 t476 x57_20 = some (r1, r2)) ∧ Aside0 (kq ≤ kj11) ∧ Aside0 (Kd.R k50 50 wc w.heap.size (fun _ => True) u4 x4_1) ∧ Aside0 (Kd.R Kd.string 9 wc w.heap.size (fun _ => True) (.slice (some ad468) t465.length co13) t465) ∧ Aside0 (Kd.R (Kd.int .i64) 2 wc w.heap.size (fun _ => True) v478 t476) ∧ Aside0 (Below w.heap.size w wc))
          case first =>
           have H := HC21.out
           clear HC21
           by_cases c25 : t477 = true
           ·subst c25
            have H1 : (if (t476.length : Int) = 2 then (if 0 < (t476.length : Int) then (if (rd t476 0) < 0 then (spec_ReadProgram.j2 kj11 a0 x4_1 t465 x6_1 x7_11 t476 true) else (if 1 < (t476.length : Int) then (spec_ReadProgram.j2 kj11 a0 x4_1 t465 x6_1 x7_11 t476 (decide ((rd t476 1) < 0))) else (none))) else (none)) else (spec_ReadProgram.j2 kj11 a0 x4_1 t465 x6_1 x7_11 t476 true)) = some (r1, r2) := by rw [if_pos rfl] at H; exact H
            clear H
            have H := H1
            clear H1
            by_cases c26 : (t476.length : Int) = 2
            ·rw [if_pos c26] at H
             have c26b0 : ((t476.length : Int) == 2) = true := beq_iff_eq.mpr c26
             have c26b1 : ((t476.length : Int) != 2) = false := bne_eq_false_iff_eq.mpr c26
             clear c26
             (first | rw [c26b0] | (simp only [i64_w, i32_w]; rw [c26b0]) | skip)
             by_cases c27 : 0 < (t476.length : Int)
             ·rw [if_pos c27] at H
              have c27b0 : decide (0 < (t476.length : Int)) = true := decide_eq_true c27
              have c27b1 : decide (0 < t476.length) = true := decide_eq_true (by omega)
              clear c27
              by_cases c28 : (rd t476 0) < 0
              ·rw [if_pos c28] at H
               have c28b0 : decide ((rd t476 0) < 0) = true := decide_eq_true c28
               clear c28
               have H' := Aside0.mk H
               clear H
               obtain ⟨Ao29, co29, eo29⟩ := Kd.R_slice HO479.out
               subst eo29
               have p480 : 0 ≤ (0 : Int) := (by omega)
               have q480 : 0 < (t476.length : Int) := of_decide_eq_true (by first | (with_reducible assumption) | assumption)
               obtain ⟨ad480, e480, hx480_0⟩ := Kd.at_int (Kd.R_reads' HO479.out).2.2 0 p480 q480
               cases e480
               have qi480 : (0 < t476.length) = True := eq_true (by omega)
               (try rw [show ((0 : Int)).toNat = 0 from rfl] at hx480_0)
               (try rw [Addr.add_zero'] at hx480_0)
               replace p480 := eq_true p480
               replace q480 := eq_true q480
               go_wp2
               go_meet
               case rel => exact ⟨_, (true), (by first | rfl | (simp; done) | (simp [*]; done)), H', ⟨by have := HK1.out; have := HJ11.out; first | omega | exact Nat.le_refl _⟩, ⟨rx_ HO_4.out⟩, ⟨by (with_reducible repeat (first | apply Kd.R_alloc | apply Kd.R_drewN | apply Kd.R_drew)); exact Kd.R_mono HO_5.out (fun _ hk => trivial)⟩, ⟨rx_ HO479.out⟩, ⟨hx_ HB.out⟩⟩
              ·rw [if_neg c28] at H
               have c28b0 : decide ((rd t476 0) < 0) = false := decide_eq_false c28
               clear c28
               by_cases c30 : 1 < (t476.length : Int)
               ·rw [if_pos c30] at H
                have c30b0 : decide (1 < (t476.length : Int)) = true := decide_eq_true c30
                have c30b1 : decide (1 < t476.length) = true := decide_eq_true (by omega)
                clear c30
                have H' := Aside0.mk H
                clear H
                obtain ⟨Ao31, co31, eo31⟩ := Kd.R_slice HO479.out
                subst eo31
                have p480 : 0 ≤ (0 : Int) := (by omega)
                have q480 : 0 < (t476.length : Int) := of_decide_eq_true (by first | (with_reducible assumption) | assumption)
                obtain ⟨ad480, e480, hx480_0⟩ := Kd.at_int (Kd.R_reads' HO479.out).2.2 0 p480 q480
                cases e480
                have qi480 : (0 < t476.length) = True := eq_true (by omega)
                (try rw [show ((0 : Int)).toNat = 0 from rfl] at hx480_0)
                (try rw [Addr.add_zero'] at hx480_0)
                replace p480 := eq_true p480
                replace q480 := eq_true q480
                have p481 : 0 ≤ (1 : Int) := (by omega)
                have q481 : 1 < (t476.length : Int) := of_decide_eq_true (by first | (with_reducible assumption) | assumption)
                obtain ⟨ad481, e481, hx481_0⟩ := Kd.at_int (Kd.R_reads' HO479.out).2.2 1 p481 q481
                obtain rfl : ad480 = ad481 := (by injection e481)
                (try simp only [show (1 : Int).toNat = 1 from rfl, Nat.reduceMul, Nat.reduceEqDiff, Go.Addr.add, ↓reduceIte] at hx481_0)
                have qi481 : (1 < t476.length) = True := eq_true (by omega)
                (try rw [show ((1 : Int)).toNat = 1 from rfl] at hx481_0)
                replace p481 := eq_true p481
                replace q481 := eq_true q481
                go_wp2
                go_meet
                case rel => exact ⟨_, (decide ((rd t476 1) < 0)), (by first | rfl | (simp; done) | (simp [*]; done)), H', ⟨by have := HK1.out; have := HJ11.out; first | omega | exact Nat.le_refl _⟩, ⟨rx_ HO_4.out⟩, ⟨by (with_reducible repeat (first | apply Kd.R_alloc | apply Kd.R_drewN | apply Kd.R_drew)); exact Kd.R_mono HO_5.out (fun _ hk => trivial)⟩, ⟨rx_ HO479.out⟩, ⟨hx_ HB.out⟩⟩
               ·rw [if_neg c30] at H
                exact absurd H (by simp)
             ·rw [if_neg c27] at H
              exact absurd H (by simp)
            ·rw [if_neg c26] at H
             have c26b0 : ((t476.length : Int) == 2) = false := beq_eq_false_iff_ne.mpr c26
             have c26b1 : ((t476.length : Int) != 2) = true := bne_iff_ne.mpr c26
             (first | rw [c26b0] | (simp only [i64_w, i32_w]; rw [c26b0]) | skip)
             have H' := Aside0.mk H
             clear H
             obtain ⟨Ao32, co32, eo32⟩ := Kd.R_slice HO479.out
             subst eo32
             go_wp2
             go_meet
             case rel => exact ⟨_, (true), (by first | rfl | (simp; done) | (simp [*]; done)), H', ⟨by have := HK1.out; have := HJ11.out; first | omega | exact Nat.le_refl _⟩, ⟨rx_ HO_4.out⟩, ⟨by (with_reducible repeat (first | apply Kd.R_alloc | apply Kd.R_drewN | apply Kd.R_drew)); exact Kd.R_mono HO_5.out (fun _ hk => trivial)⟩, ⟨rx_ HO479.out⟩, ⟨hx_ HB.out⟩⟩
           ·replace c25 := Bool.eq_false_iff.mpr c25
            subst c25
            have H1 : (spec_ReadProgram.j2 kj11 a0 x4_1 t465 x6_1 x7_11 t476 true) = some (r1, r2) := by rw [if_neg (show ¬ (false = true) by decide)] at H; exact H
            clear H
            have H := H1
            clear H1
            have H' := Aside0.mk H
            clear H
            go_wp2
            go_meet
            case rel => exact ⟨_, (true), (by first | rfl | (simp; done) | (simp [*]; done)), H', ⟨by have := HK1.out; have := HJ11.out; first | omega | exact Nat.le_refl _⟩, ⟨rx_ HO_4.out⟩, ⟨by (with_reducible repeat (first | apply Kd.R_alloc | apply Kd.R_drewN | apply Kd.R_drew)); exact Kd.R_mono HO_5.out (fun _ hk => trivial)⟩, ⟨rx_ HO479.out⟩, ⟨hx_ HB.out⟩⟩
          case rest =>
           clear HC21
           (try clear c1); (try clear c2); (try clear c2b0); (try clear c2b1); (try clear p2); (try clear c3); (try clear p4); (try clear q4); (try clear hx4); (try clear qi4); (try clear c9); (try clear c9b0); (try clear c10); (try clear c10b0); (try clear c12); (try clear c16); (try clear c16b0); (try clear c16b1); (try clear c17); (try clear c17b0); (try clear c18); (try clear c18b0); (try clear c25); (try clear c26); (try clear c26b0); (try clear c26b1); (try clear c27); (try clear c27b0); (try clear c27b1); (try clear c28); (try clear c28b0); (try clear c30); (try clear c30b0); (try clear c30b1); (try clear hx468_0); (try clear hx472_0); (try clear hx480_0); (try clear hx481_0); (try clear p2); (try clear p4); (try clear p468); (try clear p472); (try clear p480); (try clear p481); (try clear q4); (try clear q468); (try clear q472); (try clear q480); (try clear q481)
           obtain ⟨kq, x57_20, rfl, HA, HJ20, HO_4, HO_5, HO_8, HB⟩ := hcut
           cases kq with
           | zero => exact absurd HA.out (by simp [spec_ReadProgram.j2])
           | succ kj20 =>
            have H := HA.out
            clear HA
            simp only [spec_ReadProgram.j2] at H
            by_cases c33 : x57_20 = true
            ·subst c33
             have H1 : (some (([] : List (S50)), false)) = some (r1, r2) := by rw [if_pos rfl] at H; exact H
             clear H
             have H := H1
             clear H1
             simp only [Option.some.injEq, Prod.mk.injEq] at H
             obtain ⟨rfl, rfl⟩ := H
             go_wp2
             go_ret2
             exact ⟨_, by first | rfl | (simp [errW_none, errW_some] <;> rfl) | (simp [*, errW_none, errW_some] <;> rfl), by first | exact Kd.R_nil _ _ _ _ _ | exact Kd.N_nil _ _ _ _ _ | exact Kd.V_nil _ _ _ _ _ | exact Kd.Q_nil _ _ _ _ _ | exact Kd.S_nil _ _ _ _ _, hx_ HB.out⟩
            ·replace c33 := Bool.eq_false_iff.mpr c33
             subst c33
             have H1 : (if 0 < (t476.length : Int) then (if 1 < (t476.length : Int) then (if x4_1.length < 5864062014805 then (spec_ReadProgram.l0 kj20 a0 (x4_1 ++ [(⟨rd t476 0, (x7_11 == 45), rd t476 1⟩ : S50)]) t465 (wrap64 (x6_1 + 1))) else (none)) else (none)) else (none)) = some (r1, r2) := by rw [if_neg (show ¬ (false = true) by decide)] at H; exact H
             clear H
             have H := H1
             clear H1
             by_cases c34 : 0 < (t476.length : Int)
             ·rw [if_pos c34] at H
              have c34b0 : decide (0 < (t476.length : Int)) = true := decide_eq_true c34
              have c34b1 : decide (0 < t476.length) = true := decide_eq_true (by omega)
              clear c34
              by_cases c35 : 1 < (t476.length : Int)
              ·rw [if_pos c35] at H
               have c35b0 : decide (1 < (t476.length : Int)) = true := decide_eq_true c35
               have c35b1 : decide (1 < t476.length) = true := decide_eq_true (by omega)
               clear c35
               by_cases c36 : x4_1.length < 5864062014805
               ·rw [if_pos c36] at H
                have LMc36 := Aside0.mk c36
                clear c36
                obtain ⟨y484, hy484⟩ : ∃ y_ : List (S50), y_ = (x4_1 ++ [(⟨rd t476 0, (x7_11 == 45), rd t476 1⟩ : S50)]) := ⟨_, rfl⟩
                replace H : (spec_ReadProgram.l0 kj20 a0 y484 t465 (wrap64 (x6_1 + 1))) = some (r1, r2) := by first | (rw [hy484]; with_reducible exact H) | (have H2_ := (Option.bind_some _ _).symm.trans H; rw [hy484]; with_reducible exact H2_) | (have H2_ := (Option.bind_some _ _).symm.trans H; with_reducible exact H2_) | with_reducible exact H | (rw [hy484]; exact H) | exact H
                have Ny484 := Aside0.mk hy484
                clear hy484
                have H' := Aside0.mk H
                clear H
                try go_wp2
                replace HO_4 := am_ (Kd.R_drew HO_4.out); replace HO_5 := am_ (Kd.R_drew HO_5.out); replace HO_8 := am_ (Kd.R_drew HO_8.out); replace HB := am_ (below_drew1 HB.out)
                obtain ⟨Ao38, co38, eo38⟩ := Kd.R_slice HO_8.out
                (first | subst eo38 | (injection eo38 with f1_ f2_ f3_; have f4_ := f1_.symm; have f5_ := f3_.symm; clear f1_ f2_ f3_; subst f4_; subst f5_))
                have p482 : 0 ≤ (0 : Int) := (by omega)
                have q482 : 0 < (t476.length : Int) := of_decide_eq_true (by first | (with_reducible assumption) | assumption)
                obtain ⟨ad482, e482, hx482_0⟩ := Kd.at_int (Kd.R_reads' HO_8.out).2.2 0 p482 q482
                cases e482
                have qi482 : (0 < t476.length) = True := eq_true (by omega)
                (try rw [show ((0 : Int)).toNat = 0 from rfl] at hx482_0)
                (try rw [Addr.add_zero'] at hx482_0)
                replace p482 := eq_true p482
                replace q482 := eq_true q482
                have p483 : 0 ≤ (1 : Int) := (by omega)
                have q483 : 1 < (t476.length : Int) := of_decide_eq_true (by first | (with_reducible assumption) | assumption)
                obtain ⟨ad483, e483, hx483_0⟩ := Kd.at_int (Kd.R_reads' HO_8.out).2.2 1 p483 q483
                obtain rfl : ad482 = ad483 := (by injection e483)
                (try simp only [show (1 : Int).toNat = 1 from rfl, Nat.reduceMul, Nat.reduceEqDiff, Go.Addr.add, ↓reduceIte] at hx483_0)
                have qi483 : (1 < t476.length) = True := eq_true (by omega)
                (try rw [show ((1 : Int)).toNat = 1 from rfl] at hx483_0)
                replace p483 := eq_true p483
                replace q483 := eq_true q483
                refine start_ (n := 13) (S := fun w' => w'.cell? ad482 = some (.int .i64 (rd t476 0)) ∧ w'.cell? ⟨ad482.block, ad482.off + 1, none⟩ = some (.int .i64 (rd t476 1))) (ds := [10, 11]) #[false, false, false, false, false, false, false, false, false, false, false, false, false] (by kernel_rfl) rfl rfl ⟨hx482_0, hx483_0⟩ (fun hHeld => ?_); refine with_tabW spec_ReadProgram.tab14 spec_ReadProgram.bits14 (fun HT_ HW_ => ?_)
                generalize wc.drew = w37 at HO_4 HO_5 HO_8 HB hx482_0 hx483_0 hHeld ⊢
                refine pu_ 0 (some 58) #[true, false, false, false, false, false, false, false, false, false, false, false, false] HT_ ?_
                refine pu_ 1 (some 59) #[true, true, false, false, false, false, false, false, false, false, false, false, false] HT_ ?_
                refine pu_ 2 (some 60) #[true, true, true, false, false, false, false, false, false, false, false, false, false] HT_ ?_
                refine pu_ 4 (some 62) #[true, true, true, false, true, false, false, false, false, false, false, false, false] HT_ ?_
                refine pu_ 5 (some 63) #[true, true, true, false, true, true, false, false, false, false, false, false, false] HT_ ?_
                refine pu_ 6 (some 64) #[true, true, true, false, true, true, true, false, false, false, false, false, false] HT_ ?_
                refine pu_ 7 (some 65) #[true, true, true, false, true, true, true, true, false, false, false, false, false] HT_ ?_
                refine ta2_ 3 (some 61) #[true, true, true, true, true, true, true, true, false, false, false, false, false] HT_ HW_ hHeld ?_
                refine ta2_ 8 (some 66) #[true, true, true, true, true, true, true, true, true, false, false, false, false] HT_ HW_ hHeld ?_
                refine pu_ 9 (some 67) #[true, true, true, true, true, true, true, true, true, true, false, false, false] HT_ ?_
                refine last_ (i := 10) (N := some 68) #[true, true, true, true, true, true, true, true, true, true, true, false, false] rfl rfl (one_of HT_.out (by kernel_rfl)) (by decide) (fun K hK => ?_)
                refine value_ (w1 := ?_) (v := ?_) (by rfl) rfl ?_ ?_
                rotate_left 2
                ·go_simp
                 constructor
                 ·rfl
                 ·rfl
                refine hK.out _ _ ?_
                clear hK K
                refine no_ (some 68) ?_
                refine last_ (i := 11) (N := some 69) #[true, true, true, true, true, true, true, true, true, true, true, true, false] rfl rfl (one_of HT_.out (by kernel_rfl)) (by decide) (fun K hK => ?_)
                refine Kd.R_append_step k50 (w0 := w) w.heap.size (by rfl) (.tmp 58) (.tmp 68) 28 50 (.agg #[(.int .i64 0), (.bool false), (.int .i64 0)]) 24 rfl Tryz.underlying28 info50 rfl (by decide) (by omega) u4 x4_1 (⟨rd t476 0, (x7_11 == 45), rd t476 1⟩ : S50) [.int .i64 (rd t476 0), .bool (x7_11 == 45), .int .i64 (rd t476 1)] (fun _ => True) (fun _ => False) rfl rfl ?aP (fun _ hk => hk.elim) ?aF ?aO ?aB ?aS ?aL ?_
                (case aP => exact k50_mkM _ _ _ (⟨rd t476 0, (x7_11 == 45), rd t476 1⟩ : S50))
                (case aB => exact (hx_ HB.out))
                (case aF => exact (fun _ _ => trivial))
                (case aO => exact (rx_ HO_4.out))
                (case aS => exact (below_size (hx_ HB.out)))
                (case aL => have := LMc36.out; omega)
                intro v485 w39 ho hb hg hat
                rw [← Ny484.out] at ho
                replace HO_5 := am_ (Kd.R_over' (rx_ HO_5.out) (Kd.R_typed (rx_ HO_4.out)) (by decide) hg); replace HO_8 := am_ (Kd.R_over' (rx_ HO_8.out) (Kd.R_typed (rx_ HO_4.out)) (by decide) hg); replace HB := am_ hb; have HO486 := am_ ho; clear HO_4
                clear ho hb hg hat
                refine hK.out _ _ ?_
                clear hK K
                refine no_ (some 69) ?_
                refine pu_ 12 (some 4) #[true, true, true, true, true, true, true, true, true, true, true, true, true] HT_ ?_
                refine done_ (done_of HT_.out (by kernel_rfl)) ?_
                try go_wp2
                go_roundg kj20
                case measure => have := HK1.out; have := HJ11.out; have := HJ20.out; omega
                case rel => exact ⟨(y484), (wrap64 (x6_1 + 1)), (by first | rfl | (simp; done) | (simp [*]; done)), H', ⟨by have := HK1.out; have := HJ11.out; have := HJ20.out; omega⟩, ⟨rx_ HO486.out⟩, ⟨rx_ HO_5.out⟩, ⟨hx_ HB.out⟩⟩
               ·rw [if_neg c36] at H
                exact absurd H (by simp)
              ·rw [if_neg c35] at H
               exact absurd H (by simp)
             ·rw [if_neg c34] at H
              exact absurd H (by simp)
         ·rw [if_neg c18] at H
          exact absurd H (by simp)
        ·rw [if_neg c17] at H
         exact absurd H (by simp)
     ·rw [if_neg c10] at H
      exact absurd H (by simp)
    ·rw [if_neg c9] at H
     have c9b0 : decide (x6_1 < (t465.length : Int)) = false := decide_eq_false c9
     clear c9
     replace H := Option.bind_eq_some_iff.mp H
     obtain ⟨t487, A400, H⟩ := H
     try dsimp only at H
     have A40 := Aside0.mk A400
     clear A400
     by_cases c41 : t487.toList = a0.toList
     ·rw [if_pos c41] at H
      have c41b0 : (t487.toList == a0.toList) = true := beq_iff_eq.mpr c41
      have c41b1 : (t487.toList != a0.toList) = false := bne_eq_false_iff_eq.mpr c41
      clear c41
      simp only [Option.some.injEq, Prod.mk.injEq] at H
      obtain ⟨rfl, rfl⟩ := H
      obtain ⟨Ao42, co42, eo42⟩ := Kd.R_slice HO_5.out
      subst eo42
      obtain ⟨Ao43, co43, eo43⟩ := Kd.R_slice HO_4.out
      subst eo43
      go_wp2_with (first | ((with_reducible refine gc_ 14 rfl ?_); refine gl_ (some 71) rfl rfl Tryz.func14 rfl #[.slice Ao43 x4_1.length co43] rfl ?_; (with_reducible refine (spec_ProgramText.calls k1 _ _ x4_1 t487 _ ?side1 ?side2 A40.out).mono ?_); (case side1 => repeat (first | exact (Kd.R_reads' HO_4.out).2.2 | (with_reducible refine Kd.C_alloc ?_ _) | (with_reducible refine Kd.C_drewN ?_ _) | (with_reducible refine Kd.C_drew ?_))); (case side2 => exact (Kd.R_reads' HO_4.out).2.1); rintro e w44 ⟨rfl, hb⟩; refine ⟨_, rfl, ?_⟩; replace HO_4 := am_ (Kd.R_below (rx_ HO_4.out) hb); replace HO_5 := am_ (Kd.R_below (rx_ HO_5.out) hb); replace HB := hs_ HB hb; (try clear hb); (try clear hb2); (try clear hk); (try clear hi)))
      go_ret2
      exact ⟨_, by first | rfl | (simp [errW_none, errW_some] <;> rfl) | (simp [*, errW_none, errW_some] <;> rfl), rx_ HO_4.out, hx_ HB.out⟩
     ·rw [if_neg c41] at H
      have c41b0 : (t487.toList == a0.toList) = false := beq_eq_false_iff_ne.mpr c41
      have c41b1 : (t487.toList != a0.toList) = true := bne_iff_ne.mpr c41
      simp only [Option.some.injEq, Prod.mk.injEq] at H
      obtain ⟨rfl, rfl⟩ := H
      obtain ⟨Ao45, co45, eo45⟩ := Kd.R_slice HO_5.out
      subst eo45
      obtain ⟨Ao46, co46, eo46⟩ := Kd.R_slice HO_4.out
      subst eo46
      go_wp2_with (first | ((with_reducible refine gc_ 14 rfl ?_); refine gl_ (some 71) rfl rfl Tryz.func14 rfl #[.slice Ao46 x4_1.length co46] rfl ?_; (with_reducible refine (spec_ProgramText.calls k1 _ _ x4_1 t487 _ ?side1 ?side2 A40.out).mono ?_); (case side1 => repeat (first | exact (Kd.R_reads' HO_4.out).2.2 | (with_reducible refine Kd.C_alloc ?_ _) | (with_reducible refine Kd.C_drewN ?_ _) | (with_reducible refine Kd.C_drew ?_))); (case side2 => exact (Kd.R_reads' HO_4.out).2.1); rintro e w47 ⟨rfl, hb⟩; refine ⟨_, rfl, ?_⟩; replace HO_4 := am_ (Kd.R_below (rx_ HO_4.out) hb); replace HO_5 := am_ (Kd.R_below (rx_ HO_5.out) hb); replace HB := hs_ HB hb; (try clear hb); (try clear hb2); (try clear hk); (try clear hi)))
      go_ret2
      exact ⟨_, by first | rfl | (simp [errW_none, errW_some] <;> rfl) | (simp [*, errW_none, errW_some] <;> rfl), by first | exact Kd.R_nil _ _ _ _ _ | exact Kd.N_nil _ _ _ _ _ | exact Kd.V_nil _ _ _ _ _ | exact Kd.Q_nil _ _ _ _ _ | exact Kd.S_nil _ _ _ _ _, hx_ HB.out⟩

/-! ### laws_likeCuts9: function 13 -/
def laws_likeCuts9.l0 : Nat → List (S50) → List (S50) → Int → Option (Bool)
 | 0, _, _, _ => none
 | k + 1, x0, x1, x5 => if x5 < (x0.length : Int) then (if 0 ≤ x5 then (if x5 < (x1.length : Int) then (if (!(((rd_T50 x0 x5).f0) == ((rd_T50 x1 x5).f0)) || (!(((rd_T50 x0 x5).f1) == ((rd_T50 x1 x5).f1)) || (!(((rd_T50 x0 x5).f2) == ((rd_T50 x1 x5).f2))))) = true then (some false) else (laws_likeCuts9.l0 k x0 x1 (wrap64 (x5 + 1)))) else (none)) else (none)) else (some true)
def laws_likeCuts9.f (k : Nat) (l0 : List (S50)) (l1 : List (S50)) : Option (Bool) := if (l0.length : Int) = (l1.length : Int) then (laws_likeCuts9.l0 k l0 l1 0) else (some false)
theorem laws_likeCuts9.mono_l : ∀ k, (∀ y0 y1 y2, LeO (laws_likeCuts9.l0 k y0 y1 y2) (laws_likeCuts9.l0 (k + 1) y0 y1 y2))
 | 0 => fun _ _ _ r h => by simp [laws_likeCuts9.l0] at h
 | k + 1 => by
  have ih0 := laws_likeCuts9.mono_l k
  ·intro y0 y1 y2
   unfold laws_likeCuts9.l0
   repeat' first
   | (with_reducible exact ih0 _ _ _)
   | (with_reducible exact LeO.refl _)
   | (with_reducible exact LeO.none _)
   | (with_reducible refine LeO.ite ?_ ?_)
   | (with_reducible refine LeO.bind ?_ (fun _ => ?_))
   | exact ih0 _ _ _
   | exact LeO.none _
   | refine LeO.ite ?_ ?_
   | refine LeO.bind ?_ (fun _ => ?_)
theorem laws_likeCuts9.mono : ∀ a0 a1 k, LeO (laws_likeCuts9.f k a0 a1) (laws_likeCuts9.f (k + 1) a0 a1) := by
 intro a0 a1 k
 have ih0 := laws_likeCuts9.mono_l k
 unfold laws_likeCuts9.f
 repeat' first
   | (with_reducible exact ih0 _ _ _)
   | (with_reducible exact LeO.refl _)
   | (with_reducible exact LeO.none _)
   | (with_reducible refine LeO.ite ?_ ?_)
   | (with_reducible refine LeO.bind ?_ (fun _ => ?_))
   | exact ih0 _ _ _
   | exact LeO.none _
   | refine LeO.ite ?_ ?_
   | refine LeO.bind ?_ (fun _ => ?_)
set_option maxHeartbeats 8000000 in
set_option maxRecDepth 100000 in
theorem laws_likeCuts9.calls (k : Nat) (A0 : Option Addr) (c0 : Nat) (l0 : List (S50)) (A1 : Option Addr) (c1 : Nat) (l1 : List (S50)) (r : Bool) (w : World) (hr0 : Kd.C k50 w A0 l0.length l0) (hc0 : l0.length ≤ c0) (hr1 : Kd.C k50 w A1 l1.length l1) (hc1 : l1.length ≤ c1) (h : laws_likeCuts9.f k l0 l1 = some r) :
  Calls Tryz.prog 13 #[.slice A0 l0.length c0, .slice A1 l1.length c1] w fun e w' => e = .returned (.bool r) ∧ Drawn0 w w' := by
 have hu50 := Tryz.underlying50
 have HR0 := Aside0.mk hr0
 have HC0 := Aside0.mk hc0
 clear hr0 hc0
 have HR1 := Aside0.mk hr1
 have HC1 := Aside0.mk hc1
 clear hr1 hc1
 have H : (if (l0.length : Int) = (l1.length : Int) then (laws_likeCuts9.l0 k l0 l1 0) else (some false)) = some r := h
 clear h
 by_cases c3 : (l0.length : Int) = (l1.length : Int)
 ·rw [if_pos c3] at H
  have c3b0 : ((l0.length : Int) == (l1.length : Int)) = true := beq_iff_eq.mpr c3
  have c3b1 : ((l0.length : Int) != (l1.length : Int)) = false := bne_eq_false_iff_eq.mpr c3
  have c3b2 : (l0.length == l1.length) = true := by first | simpa using c3 | (simp at c3 ⊢; omega)
  clear c3
  have H' := Aside0.mk H
  clear H
  go_enter Tryz.func13, Tryz.ntmps13
  go_wp2
  repeat (go_quiet (fail); try go_wp2)
  go_loopg [5] k (fun kq v5 w' => ∃ (x5_1 : Int), v5 = .int .i64 x5_1 ∧ Aside0 (laws_likeCuts9.l0 kq l0 l1 x5_1 = some r) ∧ Aside0 (kq ≤ k) ∧ Drawn0 w w')
  case atStart => exact ⟨(0), (by first | rfl | (simp; done) | (simp [*]; done)), H', ⟨Nat.le_refl _⟩, by repeat (first | exact Drawn0.refl _ | apply Drawn0.step)⟩
  case round =>
   clear H'
   (try clear c1); (try clear p2); (try clear c3); (try clear c3b0); (try clear c3b1); (try clear c3b2)
   obtain ⟨x5_1, rfl, HA, HK1, ⟨m1, rfl⟩⟩ := hrel
   cases gk with
   | zero => exact absurd HA.out (by simp [laws_likeCuts9.l0])
   | succ k1 =>
    have H := HA.out
    clear HA
    simp only [laws_likeCuts9.l0] at H
    by_cases c4 : x5_1 < (l0.length : Int)
    ·rw [if_pos c4] at H
     have c4b0 : decide (x5_1 < (l0.length : Int)) = true := decide_eq_true c4
     clear c4
     by_cases c5 : 0 ≤ x5_1
     ·rw [if_pos c5] at H
      have c5b0 : decide (0 ≤ x5_1) = true := decide_eq_true c5
      clear c5
      by_cases c6 : x5_1 < (l1.length : Int)
      ·rw [if_pos c6] at H
       have c6b0 : decide (x5_1 < (l1.length : Int)) = true := decide_eq_true c6
       clear c6
       by_cases c7 : (!(((rd_T50 l0 x5_1).f0) == ((rd_T50 l1 x5_1).f0)) || (!(((rd_T50 l0 x5_1).f1) == ((rd_T50 l1 x5_1).f1)) || (!(((rd_T50 l0 x5_1).f2) == ((rd_T50 l1 x5_1).f2))))) = true
       ·rw [if_pos c7] at H
        have c7b0 : (!(((rd_T50 l0 x5_1).f0) == ((rd_T50 l1 x5_1).f0)) || (!(((rd_T50 l0 x5_1).f1) == ((rd_T50 l1 x5_1).f1)) || (!(((rd_T50 l0 x5_1).f2) == ((rd_T50 l1 x5_1).f2))))) = true := c7
        clear c7
        obtain rfl := Option.some.inj H
        have p488 : 0 ≤ (x5_1 : Int) := of_decide_eq_true (by first | (with_reducible assumption) | assumption)
        have q488 : x5_1 < (l0.length : Int) := of_decide_eq_true (by first | (with_reducible assumption) | assumption)
        obtain ⟨ad488, e488, hx488_0, hx488_1, hx488_2⟩ := at_T50 HR0.out x5_1 p488 q488
        cases e488
        replace p488 := eq_true p488
        replace q488 := eq_true q488
        have p489 : 0 ≤ (x5_1 : Int) := of_decide_eq_true (by first | (with_reducible assumption) | assumption)
        have q489 : x5_1 < (l1.length : Int) := of_decide_eq_true (by first | (with_reducible assumption) | assumption)
        obtain ⟨ad489, e489, hx489_0, hx489_1, hx489_2⟩ := at_T50 HR1.out x5_1 p489 q489
        cases e489
        replace p489 := eq_true p489
        replace q489 := eq_true q489
        go_wp2
        repeat (go_quiet (fail); try go_wp2)
        go_ret
        exact ⟨by first | rfl | (simp; done) | (simp [*]; done), by repeat (first | exact Drawn0.refl _ | apply Drawn0.step)⟩
       ·rw [if_neg c7] at H
        have c7b0 : (!(((rd_T50 l0 x5_1).f0) == ((rd_T50 l1 x5_1).f0)) || (!(((rd_T50 l0 x5_1).f1) == ((rd_T50 l1 x5_1).f1)) || (!(((rd_T50 l0 x5_1).f2) == ((rd_T50 l1 x5_1).f2))))) = false := by simpa using c7
        clear c7
        have H' := Aside0.mk H
        clear H
        have p488 : 0 ≤ (x5_1 : Int) := of_decide_eq_true (by first | (with_reducible assumption) | assumption)
        have q488 : x5_1 < (l0.length : Int) := of_decide_eq_true (by first | (with_reducible assumption) | assumption)
        obtain ⟨ad488, e488, hx488_0, hx488_1, hx488_2⟩ := at_T50 HR0.out x5_1 p488 q488
        cases e488
        replace p488 := eq_true p488
        replace q488 := eq_true q488
        have p489 : 0 ≤ (x5_1 : Int) := of_decide_eq_true (by first | (with_reducible assumption) | assumption)
        have q489 : x5_1 < (l1.length : Int) := of_decide_eq_true (by first | (with_reducible assumption) | assumption)
        obtain ⟨ad489, e489, hx489_0, hx489_1, hx489_2⟩ := at_T50 HR1.out x5_1 p489 q489
        cases e489
        replace p489 := eq_true p489
        replace q489 := eq_true q489
        go_wp2
        repeat (go_quiet (fail); try go_wp2)
        go_roundg k1
        case measure => have := HK1.out; omega
        case rel => exact ⟨(wrap64 (x5_1 + 1)), (by first | rfl | (simp; done) | (simp [*]; done)), H', ⟨by have := HK1.out; omega⟩, by repeat (first | exact Drawn0.refl _ | apply Drawn0.step)⟩
      ·rw [if_neg c6] at H
       exact absurd H (by simp)
     ·rw [if_neg c5] at H
      exact absurd H (by simp)
    ·rw [if_neg c4] at H
     have c4b0 : decide (x5_1 < (l0.length : Int)) = false := decide_eq_false c4
     clear c4
     obtain rfl := Option.some.inj H
     go_wp2
     repeat (go_quiet (fail); try go_wp2)
     go_ret
     exact ⟨by first | rfl | (simp; done) | (simp [*]; done), by repeat (first | exact Drawn0.refl _ | apply Drawn0.step)⟩
 ·rw [if_neg c3] at H
  have c3b0 : ((l0.length : Int) == (l1.length : Int)) = false := beq_eq_false_iff_ne.mpr c3
  have c3b1 : ((l0.length : Int) != (l1.length : Int)) = true := bne_iff_ne.mpr c3
  have c3b2 : (l0.length == l1.length) = false := by first | simpa using c3 | (simp at c3 ⊢; omega)
  obtain rfl := Option.some.inj H
  go_enter Tryz.func13, Tryz.ntmps13
  go_wp2
  repeat (go_quiet (fail); try go_wp2)
  go_ret
  exact ⟨by first | rfl | (simp; done) | (simp [*]; done), by repeat (first | exact Drawn0.refl _ | apply Drawn0.step)⟩

/-! ### impl_Piece_54: function 54 -/
def impl_Piece_54.f (l0 : List (S25)) : Option (Int) := some (l0.length : Int)
set_option maxHeartbeats 8000000 in
set_option maxRecDepth 100000 in
theorem impl_Piece_54.calls (A0 : Option Addr) (c0 : Nat) (l0 : List (S25)) (r : Int) (w : World) (hr0 : Kd.C k25 w A0 l0.length l0) (hc0 : l0.length ≤ c0) (h : impl_Piece_54.f l0 = some r) :
  Calls Tryz.prog 54 #[.slice A0 l0.length c0] w fun e w' => e = .returned (.int .i64 r) ∧ Drawn0 w w' := by
 have HR0 := Aside0.mk hr0
 have HC0 := Aside0.mk hc0
 clear hr0 hc0
 have H : (some (l0.length : Int)) = some r := h
 clear h
 obtain rfl := Option.some.inj H
 go_enter Tryz.func54, Tryz.ntmps54
 go_wp2
 go_ret
 exact ⟨by first | rfl | (simp; done) | (simp [*]; done), by repeat (first | exact Drawn0.refl _ | apply Drawn0.step)⟩

end Go.Proofs.YtdafddgmeidclaaGreatDoor.PFnGridCuts
