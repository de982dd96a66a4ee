-- Written by wip/inject.py: a contract of each function that the law reaches; those of the stand-ins are proved in this seat's Hand texts
import Derived.Test.YtaapnjhgkbjdkaaPFnPackingsx0
import Derived.Test.YtaapnjhgkbjdkaaPFnPackingsx1
namespace Go.Proofs.Ytaapnjhgkbjdkaa.PFnPackings
open Go.RowKit Go.Proofs.YtaapnjhgkbjdkaaW.PrintWords Go.Proofs.YtaapnjhgkbjdkaaW.PrintLast Go.Proofs.YtaapnjhgkbjdkaaW.PrintMore
attribute [local go_sem] max2_int min2_int max_two min_two max_three min_three max_four min_four   -- for this text's walks alone
set_option linter.unusedVariables false
set_option linter.unusedSimpArgs false

/-! ### spec_DrawFirstFit: function 13 -/
def spec_DrawFirstFit.f (k : Nat) (l0 : List Int) : Option (Int × List Int) := (spec_l01From.f k l0).bind fun bt155 => ((spec_l10Draw.f k bt155.1 bt155.2.1 bt155.2.2).bind fun bt159 => (some (bt159.1, bt159.2.1)))
theorem spec_DrawFirstFit.mono : ∀ a0 k, LeO (spec_DrawFirstFit.f k a0) (spec_DrawFirstFit.f (k + 1) a0) := by
  intro a0 k
  unfold spec_DrawFirstFit.f
  repeat' first
      | (with_reducible exact spec_l01From.mono _ _)
      | (with_reducible exact spec_l10Draw.mono _ _ _ _)
      | (with_reducible exact LeO.refl _)
      | (with_reducible exact LeO.none _)
      | (with_reducible refine LeO.ite ?_ ?_)
      | (with_reducible refine LeO.bind ?_ (fun _ => ?_))
      | exact spec_l01From.mono _ _
      | exact spec_l10Draw.mono _ _ _ _
      | exact LeO.none _
      | refine LeO.ite ?_ ?_
      | refine LeO.bind ?_ (fun _ => ?_)
set_option maxHeartbeats 8000000 in
set_option maxRecDepth 100000 in
theorem spec_DrawFirstFit.calls (k : Nat) (A0 : Option Addr) (c0 : Nat) (l0 : List Int) (r1 : Int) (r2 : List Int) (w : World) (hr0 : Kd.C (Kd.int .u8) w A0 l0.length l0) (hc0 : l0.length ≤ c0) (h : spec_DrawFirstFit.f k l0 = some (r1, r2)) :
    Calls Try.prog 13 #[.slice A0 l0.length c0] w fun e w' => ∃ v1_ : Value, e = .returned (.tuple #[.int .i64 r1, v1_]) ∧ Kd.R (Kd.int .i64) 2 w' w.heap.size (fun _ => True) v1_ r2 ∧ Below w.heap.size w w' := by
  have HR0 := Aside0.mk hr0
  have HC0 := Aside0.mk hc0
  clear hr0 hc0
  have HB := Aside0.mk (Below.refl w.heap.size w)
  have H : ((spec_l01From.f k l0).bind fun bt155 => ((spec_l10Draw.f k bt155.1 bt155.2.1 bt155.2.2).bind fun bt159 => (some (bt159.1, bt159.2.1)))) = some (r1, r2) := h
  clear h
  replace H := Option.bind_eq_some_iff.mp H
  obtain ⟨⟨t155, t156, t157⟩, A20, H⟩ := H
  replace H : ((spec_l10Draw.f k t155 t156 t157).bind fun bt159 => (some (bt159.1, bt159.2.1))) = some (r1, r2) := H
  have A2 := Aside0.mk A20
  clear A20
  replace H := Option.bind_eq_some_iff.mp H
  obtain ⟨⟨t159, t160, t163, t164⟩, A30, H⟩ := H
  replace H : (some (t159, t160)) = some (r1, r2) := H
  have A3 := Aside0.mk A30
  clear A30
  simp only [Option.some.injEq, Prod.mk.injEq] at H
  obtain ⟨rfl, rfl⟩ := H
  go_enter Try.func13, Try.ntmps13
  go_wp2_with (first | ((with_reducible refine gate_callee (f := 54) rfl ?_); refine goesL_ (some 5) rfl rfl Try.func54 (by kernel_rfl) rfl #[.slice A0 l0.length c0] rfl (by (try simp only [List.map_toArray, List.map_cons, List.map_nil]); first | done | rfl | (simp only [List.length_drop, List.length_take]; rfl)) ?_; (with_reducible refine (spec_l01From.calls k _ _ l0 t155 t156 t157 w _ ?side1 ?side2 ?side3 A2.out).mono ?_); (case side1 => repeat (first | (with_reducible first | exact HB.out | apply below_alloc | apply pw_below_drewN | apply below_drew1) | exact HB.out)); (case side2 => exact HR0.out); (case side3 => exact HC0.out); rintro e w4 ⟨g158, rfl, hi, hb, hb2⟩; refine ⟨_, rfl, ?_⟩; have n0_ := Aside0.mk (hb); have n1_ := Aside0.mk (hi); clear HB; have HB := n0_; have HI158 := n1_; clear n0_ n1_; (try clear hb); (try clear hb2); (try clear hk); (try clear hi)) | ((with_reducible refine gate_callee (f := 53) rfl ?_); refine goesL_ (some 6) rfl rfl Try.func53 (by kernel_rfl) rfl #[.pointer (some ⟨g158, 0, none⟩)] rfl (by (try simp only [List.map_toArray, List.map_cons, List.map_nil]); first | done | rfl | (simp only [List.length_drop, List.length_take]; rfl)) ?_; (with_reducible refine (spec_l10Draw.calls k g158 t155 t156 t157 t159 t160 t163 t164 w _ ?side1 ?side2 A3.out).mono ?_); (case side1 => repeat (first | (with_reducible first | exact HI158.out | apply IsS97.alloc | apply IsS97.drewN | apply IsS97.drew | apply IsS97.set_1 | apply IsS97.set_2) | exact HI158.out)); (case side2 => repeat (first | (with_reducible first | exact HB.out | apply below_alloc | apply pw_below_drewN | apply below_drew1 | refine below_set ?_ (IsS97.ge HI158.out)) | exact HB.out)); rintro e w5 ⟨v161, rfl, ho0, hi, hb, hk⟩; refine ⟨_, rfl, ?_⟩; have n0_ := Aside0.mk (Kd.R_lower ho0 (below_size (by repeat (first | (with_reducible first | exact HB.out | apply below_alloc | apply pw_below_drewN | apply below_drew1 | refine below_set ?_ (IsS97.ge HI158.out)) | exact HB.out)))); have n1_ := Aside0.mk (hb); have n2_ := Aside0.mk (hi); clear HB; clear HI158; have HO162 := n0_; have HB := n1_; have HI158 := n2_; clear n0_ n1_ n2_; (try clear hb); (try clear hb2); (try clear hk); (try clear hi); (try clear ho0)))
  go_ret2
  exact ⟨_, by first | rfl | (simp [errW_none, errW_some] <;> rfl) | (simp [*, errW_none, errW_some] <;> rfl), by (with_reducible repeat (first | apply Kd.R_alloc | apply Kd.R_drewN | apply Kd.R_drew)); exact HO162.out, by repeat (first | (with_reducible first | exact HB.out | apply below_alloc | apply pw_below_drewN | apply below_drew1 | refine below_set ?_ (IsS97.ge HI158.out)) | exact HB.out)⟩

/-! ### impl_inRange: function 73 -/
def impl_inRange.f (a0 : Int) (a1 : Int) (a2 : Int) : Option (Bool) := if a1 ≤ a0 then (some (decide (a0 ≤ a2))) else (some false)
set_option maxHeartbeats 8000000 in
set_option maxRecDepth 100000 in
theorem impl_inRange.calls (a0 : Int) (a1 : Int) (a2 : Int) (r : Bool) (w : World) (h : impl_inRange.f a0 a1 a2 = some r) :
    Calls Try.prog 73 #[.int .i64 a0, .int .i64 a1, .int .i64 a2] w fun e w' => e = .returned (.bool r) ∧ Drawn0 w w' := by
  have H : (if a1 ≤ a0 then (some (decide (a0 ≤ a2))) else (some false)) = some r := h
  clear h
  by_cases c4 : a1 ≤ a0
  · rw [if_pos c4] at H
    have c4b0 : decide (a1 ≤ a0) = true := decide_eq_true c4
    clear c4
    obtain rfl := Option.some.inj H
    go_enter Try.func73, Try.ntmps73
    go_wp2
    go_ret
    exact ⟨by first | rfl | (simp; done) | (simp [*]; done), by repeat (first | exact Drawn0.refl _ | apply Drawn0.step)⟩
  · rw [if_neg c4] at H
    have c4b0 : decide (a1 ≤ a0) = false := decide_eq_false c4
    clear c4
    obtain rfl := Option.some.inj H
    go_enter Try.func73, Try.ntmps73
    go_wp2
    go_ret
    exact ⟨by first | rfl | (simp; done) | (simp [*]; done), by repeat (first | exact Drawn0.refl _ | apply Drawn0.step)⟩

-- NOT PRINTED: function 96 (slices_IndexFunc_int64_int64)

-- NOT PRINTED: function 102 (slices_ContainsFunc_int64_int64)

/-! ### impl_allIn: function 74 -/
def impl_allIn.f (l0 : List Int) (a1 : Int) (a2 : Int) : Option (Bool) := some (l0.all fun x => Hand.inRng x a1 a2)
set_option maxHeartbeats 8000000 in
set_option maxRecDepth 100000 in
theorem impl_allIn.calls (A0 : Option Addr) (c0 : Nat) (l0 : List Int) (a1 : Int) (a2 : Int) (r : Bool) (w : World) (hr0 : Kd.C (Kd.int .i64) w A0 l0.length l0) (hc0 : l0.length ≤ c0) (h : impl_allIn.f l0 a1 a2 = some r) :
    Calls Try.prog 74 #[.slice A0 l0.length c0, .int .i64 a1, .int .i64 a2] w fun e w' => e = .returned (.bool r) ∧ Below w.heap.size w w' := by
  obtain rfl := Option.some.inj h
  exact Hand.allIn_calls _ _ l0 a1 a2 w hr0

/-! ### impl_IsRollTask: function 25 -/
def impl_IsRollTask.f (a0 : Int) (l1 : List Int) : Option (Bool) := (impl_inRange.f a0 1 100000).bind fun t168 => (if t168 = true then (if (l1.length : Int) ≤ 12 then ((impl_allIn.f l1 1 a0).bind fun t169 => (some t169)) else (some false)) else (some false))
set_option maxHeartbeats 8000000 in
set_option maxRecDepth 100000 in
theorem impl_IsRollTask.calls (a0 : Int) (A1 : Option Addr) (c1 : Nat) (l1 : List Int) (r : Bool) (w : World) (hr1 : Kd.C (Kd.int .i64) w A1 l1.length l1) (hc1 : l1.length ≤ c1) (h : impl_IsRollTask.f a0 l1 = some r) :
    Calls Try.prog 25 #[.int .i64 a0, .slice A1 l1.length c1] w fun e w' => e = .returned (.bool r) ∧ Below w.heap.size w w' := by
  have HR1 := Aside0.mk hr1
  have HC1 := Aside0.mk hc1
  clear hr1 hc1
  have HB := Aside0.mk (Below.refl w.heap.size w)
  have H : ((impl_inRange.f a0 1 100000).bind fun t168 => (if t168 = true then (if (l1.length : Int) ≤ 12 then ((impl_allIn.f l1 1 a0).bind fun t169 => (some t169)) else (some false)) else (some false))) = some r := h
  clear h
  replace H := Option.bind_eq_some_iff.mp H
  obtain ⟨t168, A30, H⟩ := H
  replace H : (if t168 = true then (if (l1.length : Int) ≤ 12 then ((impl_allIn.f l1 1 a0).bind fun t169 => (some t169)) else (some false)) else (some false)) = some r := H
  have A3 := Aside0.mk A30
  clear A30
  by_cases c4 : t168 = true
  · subst c4
    have H1 : (if (l1.length : Int) ≤ 12 then ((impl_allIn.f l1 1 a0).bind fun t169 => (some t169)) else (some false)) = some r := by rw [if_pos rfl] at H; exact H
    clear H
    have H := H1
    clear H1
    by_cases c5 : (l1.length : Int) ≤ 12
    · rw [if_pos c5] at H
      have c5b0 : decide ((l1.length : Int) ≤ 12) = true := decide_eq_true c5
      have c5b1 : decide (l1.length ≤ 12) = true := decide_eq_true (by omega)
      clear c5
      replace H := Option.bind_eq_some_iff.mp H
      obtain ⟨t169, A60, H⟩ := H
      replace H : (some t169) = some r := H
      have A6 := Aside0.mk A60
      clear A60
      obtain rfl := Option.some.inj H
      go_enter Try.func25, Try.ntmps25
      go_wp2_with (first | ((with_reducible refine gate_callee (f := 73) rfl ?_); refine goesL_ (some 6) rfl rfl Try.func73 (by kernel_rfl) rfl #[.int .i64 a0, .int .i64 1, .int .i64 100000] rfl (by (try simp only [List.map_toArray, List.map_cons, List.map_nil]); first | done | rfl | (simp only [List.length_drop, List.length_take]; rfl)) ?_; (with_reducible refine (impl_inRange.calls a0 1 100000 true _ A3.out).mono ?_); rintro e w' ⟨rfl, ⟨nd, rfl⟩⟩; refine ⟨_, rfl, ?_⟩) | (go_at_call 74; (with_reducible refine (impl_allIn.calls _ _ l1 1 a0 t169 _ ?side1 ?side2 A6.out).mono ?_); (case side1 => repeat (first | exact HR1.out | (with_reducible refine Kd.C_alloc ?_ _) | (with_reducible refine Kd.C_drewN ?_ _) | (with_reducible refine Kd.C_drew ?_))); (case side2 => exact HC1.out); rintro e w7 ⟨rfl, hb⟩; have n0_ := Aside0.mk (below_step (by repeat (first | (with_reducible first | exact HB.out | apply below_alloc | apply pw_below_drewN | apply below_drew1) | exact HB.out)) hb); clear HB; have HB := n0_; clear n0_; (try clear hb); (try clear hb2); (try clear hk); (try clear hi)))
      go_ret
      exact ⟨by first | rfl | (simp [errW_none, errW_some] <;> rfl) | (simp [*, errW_none, errW_some] <;> rfl), by repeat (first | (with_reducible first | exact HB.out | apply below_alloc | apply pw_below_drewN | apply below_drew1) | exact HB.out)⟩
    · rw [if_neg c5] at H
      have c5b0 : decide ((l1.length : Int) ≤ 12) = false := decide_eq_false c5
      have c5b1 : decide (l1.length ≤ 12) = false := decide_eq_false (by omega)
      clear c5
      obtain rfl := Option.some.inj H
      go_enter Try.func25, Try.ntmps25
      go_wp2_with (first | ((with_reducible refine gate_callee (f := 73) rfl ?_); refine goesL_ (some 6) rfl rfl Try.func73 (by kernel_rfl) rfl #[.int .i64 a0, .int .i64 1, .int .i64 100000] rfl (by (try simp only [List.map_toArray, List.map_cons, List.map_nil]); first | done | rfl | (simp only [List.length_drop, List.length_take]; rfl)) ?_; (with_reducible refine (impl_inRange.calls a0 1 100000 true _ A3.out).mono ?_); rintro e w' ⟨rfl, ⟨nd, rfl⟩⟩; refine ⟨_, rfl, ?_⟩))
      go_ret
      exact ⟨by first | rfl | (simp [errW_none, errW_some] <;> rfl) | (simp [*, errW_none, errW_some] <;> rfl), by repeat (first | (with_reducible first | exact HB.out | apply below_alloc | apply pw_below_drewN | apply below_drew1) | exact HB.out)⟩
  · replace c4 := Bool.eq_false_iff.mpr c4
    subst c4
    have H1 : (some false) = some r := by rw [if_neg (show ¬ (false = true) by decide)] at H; exact H
    clear H
    have H := H1
    clear H1
    obtain rfl := Option.some.inj H
    go_enter Try.func25, Try.ntmps25
    go_wp2_with (first | ((with_reducible refine gate_callee (f := 73) rfl ?_); refine goesL_ (some 6) rfl rfl Try.func73 (by kernel_rfl) rfl #[.int .i64 a0, .int .i64 1, .int .i64 100000] rfl (by (try simp only [List.map_toArray, List.map_cons, List.map_nil]); first | done | rfl | (simp only [List.length_drop, List.length_take]; rfl)) ?_; (with_reducible refine (impl_inRange.calls a0 1 100000 false _ A3.out).mono ?_); rintro e w' ⟨rfl, ⟨nd, rfl⟩⟩; refine ⟨_, rfl, ?_⟩))
    go_ret
    exact ⟨by first | rfl | (simp [errW_none, errW_some] <;> rfl) | (simp [*, errW_none, errW_some] <;> rfl), by repeat (first | (with_reducible first | exact HB.out | apply below_alloc | apply pw_below_drewN | apply below_drew1) | exact HB.out)⟩

/-! ### slices_Index_int64_int64: function 62 -/
def slices_Index_int64_int64.l0 : Nat → List Int → Int → Int → Int → Option (Int)
  | 0, _, _, _, _ => none
  | k + 1, x0, x1, x7, x8 => if x8 < x7 then (if 0 ≤ x8 then (if x8 < (x0.length : Int) then (if x1 = (rd x0 x8) then (some x8) else (slices_Index_int64_int64.l0 k x0 x1 x7 (wrap64 (x8 + 1)))) else (none)) else (none)) else (some (-1))
def slices_Index_int64_int64.f (k : Nat) (l0 : List Int) (a1 : Int) : Option (Int) := slices_Index_int64_int64.l0 k l0 a1 (l0.length : Int) 0
theorem slices_Index_int64_int64.mono_l : ∀ k, (∀ y0 y1 y2 y3, LeO (slices_Index_int64_int64.l0 k y0 y1 y2 y3) (slices_Index_int64_int64.l0 (k + 1) y0 y1 y2 y3))
  | 0 => fun _ _ _ _ r h => by simp [slices_Index_int64_int64.l0] at h
  | k + 1 => by
    have ih0 := slices_Index_int64_int64.mono_l k
    · intro y0 y1 y2 y3
      unfold slices_Index_int64_int64.l0
      repeat' first
      | (with_reducible exact ih0 _ _ _ _)
      | (with_reducible exact LeO.refl _)
      | (with_reducible exact LeO.none _)
      | (with_reducible refine LeO.ite ?_ ?_)
      | (with_reducible refine LeO.bind ?_ (fun _ => ?_))
      | exact ih0 _ _ _ _
      | exact LeO.none _
      | refine LeO.ite ?_ ?_
      | refine LeO.bind ?_ (fun _ => ?_)
theorem slices_Index_int64_int64.mono : ∀ a0 a1 k, LeO (slices_Index_int64_int64.f k a0 a1) (slices_Index_int64_int64.f (k + 1) a0 a1) := by
  intro a0 a1 k
  have ih0 := slices_Index_int64_int64.mono_l k
  unfold slices_Index_int64_int64.f
  repeat' first
      | (with_reducible exact ih0 _ _ _ _)
      | (with_reducible exact LeO.refl _)
      | (with_reducible exact LeO.none _)
      | (with_reducible refine LeO.ite ?_ ?_)
      | (with_reducible refine LeO.bind ?_ (fun _ => ?_))
      | exact ih0 _ _ _ _
      | exact LeO.none _
      | refine LeO.ite ?_ ?_
      | refine LeO.bind ?_ (fun _ => ?_)
set_option maxHeartbeats 8000000 in
set_option maxRecDepth 100000 in
theorem slices_Index_int64_int64.calls (k : Nat) (A0 : Option Addr) (c0 : Nat) (l0 : List Int) (a1 : Int) (r : Int) (w : World) (hr0 : Kd.C (Kd.int .i64) w A0 l0.length l0) (hc0 : l0.length ≤ c0) (h : slices_Index_int64_int64.f k l0 a1 = some r) :
    Calls Try.prog 62 #[.slice A0 l0.length c0, .int .i64 a1] w fun e w' => e = .returned (.int .i64 r) ∧ Drawn0 w w' := by
  have HR0 := Aside0.mk hr0
  have HC0 := Aside0.mk hc0
  clear hr0 hc0
  have H : (slices_Index_int64_int64.l0 k l0 a1 (l0.length : Int) 0) = some r := h
  clear h
  have H' := Aside0.mk H
  clear H
  go_enter Try.func62, Try.ntmps62
  go_wp2
  go_loopg [8] k (fun kq v8 w' => ∃ (x8_1 : Int), v8 = .int .i64 x8_1 ∧ Aside0 (slices_Index_int64_int64.l0 kq l0 a1 (l0.length : Int) x8_1 = some r) ∧ Aside0 (kq ≤ k) ∧ Drawn0 w w')
  case atStart => exact ⟨(0), (by first | rfl | (simp; done) | (simp [*]; done)), H', ⟨Nat.le_refl _⟩, by repeat (first | exact Drawn0.refl _ | apply Drawn0.step)⟩
  case round =>
    clear H'
    try clear p2
    obtain ⟨x8_1, rfl, HA, HK1, ⟨m1, rfl⟩⟩ := hrel
    cases gk with
    | zero => exact absurd HA.out (by simp [slices_Index_int64_int64.l0])
    | succ k1 =>
      have H := HA.out
      clear HA
      simp only [slices_Index_int64_int64.l0] at H
      by_cases c3 : x8_1 < (l0.length : Int)
      · rw [if_pos c3] at H
        have c3b0 : decide (x8_1 < (l0.length : Int)) = true := decide_eq_true c3
        clear c3
        by_cases c4 : 0 ≤ x8_1
        · rw [if_pos c4] at H
          have c4b0 : decide (0 ≤ x8_1) = true := decide_eq_true c4
          clear c4
          by_cases c5 : x8_1 < (l0.length : Int)
          · rw [if_pos c5] at H
            have c5b0 : decide (x8_1 < (l0.length : Int)) = true := decide_eq_true c5
            clear c5
            by_cases c6 : a1 = (rd l0 x8_1)
            · rw [if_pos c6] at H
              have c6b0 : (a1 == (rd l0 x8_1)) = true := beq_iff_eq.mpr c6
              have c6b1 : (a1 != (rd l0 x8_1)) = false := bne_eq_false_iff_eq.mpr c6
              clear c6
              obtain rfl := Option.some.inj H
              have p170 : 0 ≤ (x8_1 : Int) := of_decide_eq_true (by first | (with_reducible assumption) | assumption)
              have q170 : x8_1 < (l0.length : Int) := of_decide_eq_true (by first | (with_reducible assumption) | assumption)
              obtain ⟨ad170, e170, hx170_0⟩ := Kd.at_int HR0.out x8_1 p170 q170
              cases e170
              replace p170 := eq_true p170
              replace q170 := eq_true q170
              go_wp2
              go_ret
              exact ⟨by first | rfl | (simp; done) | (simp [*]; done), by repeat (first | exact Drawn0.refl _ | apply Drawn0.step)⟩
            · rw [if_neg c6] at H
              have c6b0 : (a1 == (rd l0 x8_1)) = false := beq_eq_false_iff_ne.mpr c6
              have c6b1 : (a1 != (rd l0 x8_1)) = true := bne_iff_ne.mpr c6
              have H' := Aside0.mk H
              clear H
              have p170 : 0 ≤ (x8_1 : Int) := of_decide_eq_true (by first | (with_reducible assumption) | assumption)
              have q170 : x8_1 < (l0.length : Int) := of_decide_eq_true (by first | (with_reducible assumption) | assumption)
              obtain ⟨ad170, e170, hx170_0⟩ := Kd.at_int HR0.out x8_1 p170 q170
              cases e170
              replace p170 := eq_true p170
              replace q170 := eq_true q170
              go_wp2
              go_roundg k1
              case measure => have := HK1.out; omega
              case rel => exact ⟨(wrap64 (x8_1 + 1)), (by first | rfl | (simp; done) | (simp [*]; done)), H', ⟨by have := HK1.out; omega⟩, by repeat (first | exact Drawn0.refl _ | apply Drawn0.step)⟩
          · rw [if_neg c5] at H
            exact absurd H (by simp)
        · rw [if_neg c4] at H
          exact absurd H (by simp)
      · rw [if_neg c3] at H
        have c3b0 : decide (x8_1 < (l0.length : Int)) = false := decide_eq_false c3
        clear c3
        obtain rfl := Option.some.inj H
        go_wp2
        go_ret
        exact ⟨by first | rfl | (simp; done) | (simp [*]; done), by repeat (first | exact Drawn0.refl _ | apply Drawn0.step)⟩

/-! ### impl_firstFit: function 55 -/
def impl_firstFit.l0 : Nat → Int → List Int → List Int → List Int → List Int → Int → Int → Option (List Int)
  | 0, _, _, _, _, _, _, _ => none
  | k + 1, x0, x1, x7, x8, x16, x17, x18 => if x18 < x17 then (if 0 ≤ x18 then (if x18 < (x16.length : Int) then ((some (Hand.idxBy (fun n_ => decide (wrap64 (n_ + (rd x1 (rd x16 x18))) ≤ x0)) x8 0)).bind fun t178 => (if t178 < 0 then (if x8.length < 17592186044416 then ((some (x8 ++ [0] : List Int)).bind fun y179 => (if 0 ≤ (x8.length : Int) then (if (x8.length : Int) < (y179.length : Int) then (if 0 ≤ (rd x16 x18) then (if (rd x16 x18) < (x1.length : Int) then (if (rd x16 x18) < (x7.length : Int) then (impl_firstFit.l0 k x0 x1 (x7.set ((rd x16 x18) : Int).toNat (x8.length : Int)) (y179.set ((x8.length : Int) : Int).toNat (wrap64 ((rd y179 (x8.length : Int)) + (rd x1 (rd x16 x18))))) x16 x17 (wrap64 (x18 + 1))) else (none)) else (none)) else (none)) else (none)) else (none))) else (none)) else (if 0 ≤ t178 then (if t178 < (x8.length : Int) then (if 0 ≤ (rd x16 x18) then (if (rd x16 x18) < (x1.length : Int) then (if (rd x16 x18) < (x7.length : Int) then (impl_firstFit.l0 k x0 x1 (x7.set ((rd x16 x18) : Int).toNat t178) (x8.set (t178 : Int).toNat (wrap64 ((rd x8 t178) + (rd x1 (rd x16 x18))))) x16 x17 (wrap64 (x18 + 1))) else (none)) else (none)) else (none)) else (none)) else (none)))) else (none)) else (none)) else (some x7)
def impl_firstFit.f (k : Nat) (a0 : Int) (l1 : List Int) (l2 : List Int) : Option (List Int) := if 0 ≤ (l1.length : Int) then (if ((l1.length : Int) : Int).toNat ≤ 35184372088832 then (impl_firstFit.l0 k a0 l1 (List.replicate ((l1.length : Int) : Int).toNat 0) (([] : List Int)) l2 (l2.length : Int) 0) else (none)) else (none)
theorem impl_firstFit.mono_l : ∀ k, (∀ y0 y1 y2 y3 y4 y5 y6, LeO (impl_firstFit.l0 k y0 y1 y2 y3 y4 y5 y6) (impl_firstFit.l0 (k + 1) y0 y1 y2 y3 y4 y5 y6))
  | 0 => fun _ _ _ _ _ _ _ r h => by simp [impl_firstFit.l0] at h
  | k + 1 => by
    have ih0 := impl_firstFit.mono_l k
    · intro y0 y1 y2 y3 y4 y5 y6
      unfold impl_firstFit.l0
      repeat' first
      | (with_reducible exact ih0 _ _ _ _ _ _ _)
      | (with_reducible exact slices_Index_int64_int64.mono _ _ _)
      | (with_reducible exact LeO.refl _)
      | (with_reducible exact LeO.none _)
      | (with_reducible refine LeO.ite ?_ ?_)
      | (with_reducible refine LeO.bind ?_ (fun _ => ?_))
      | exact ih0 _ _ _ _ _ _ _
      | exact slices_Index_int64_int64.mono _ _ _
      | exact LeO.none _
      | refine LeO.ite ?_ ?_
      | refine LeO.bind ?_ (fun _ => ?_)
theorem impl_firstFit.mono : ∀ a0 a1 a2 k, LeO (impl_firstFit.f k a0 a1 a2) (impl_firstFit.f (k + 1) a0 a1 a2) := by
  intro a0 a1 a2 k
  have ih0 := impl_firstFit.mono_l k
  unfold impl_firstFit.f
  repeat' first
      | (with_reducible exact ih0 _ _ _ _ _ _ _)
      | (with_reducible exact slices_Index_int64_int64.mono _ _ _)
      | (with_reducible exact LeO.refl _)
      | (with_reducible exact LeO.none _)
      | (with_reducible refine LeO.ite ?_ ?_)
      | (with_reducible refine LeO.bind ?_ (fun _ => ?_))
      | exact ih0 _ _ _ _ _ _ _
      | exact slices_Index_int64_int64.mono _ _ _
      | exact LeO.none _
      | refine LeO.ite ?_ ?_
      | refine LeO.bind ?_ (fun _ => ?_)
def impl_firstFit.T9 : Bool × List (List Nat × List Nat) := (true, [([], []), ([], []), ([0, 1], [0, 1]), ([2], [2]), ([], []), ([], []), ([4, 5], [4, 5]), ([6], [6]), ([3, 7], [3, 7]), ([0, 1, 0, 1, 2, 3, 4, 5, 6, 7, 8], [0, 1]), ([9, 8, 0, 1, 2, 3, 4, 5, 6, 7, 8], [8, 9])])
def impl_firstFit.B9 : List Nat := [0, 0, 3, 7, 0, 0, 48, 112, 255, 511, 1023]
theorem impl_firstFit.tab9 : rtab .any (opsOf Try.f55 9) = impl_firstFit.T9 := by kernel_rfl
theorem impl_firstFit.bits9 : waitsOk impl_firstFit.T9.2 impl_firstFit.B9 = true := by kernel_rfl
set_option maxHeartbeats 8000000 in
set_option maxRecDepth 100000 in
theorem impl_firstFit.calls (k : Nat) (a0 : Int) (A1 : Option Addr) (c1 : Nat) (l1 : List Int) (A2 : Option Addr) (c2 : Nat) (l2 : List Int) (r : List Int) (wz : World) (hr1 : Kd.C (Kd.int .i64) wz A1 l1.length l1) (hc1 : l1.length ≤ c1) (hr2 : Kd.C (Kd.int .i64) wz A2 l2.length l2) (hc2 : l2.length ≤ c2) (h : impl_firstFit.f k a0 l1 l2 = some r) :
    Calls Try.prog 55 #[.int .i64 a0, .slice A1 l1.length c1, .slice A2 l2.length c2] wz fun e wz' => ∃ v0_ : Value, e = .returned (v0_) ∧ Kd.R (Kd.int .i64) 2 wz' wz.heap.size (fun _ => True) v0_ r ∧ Below wz.heap.size wz wz' := by
  have HR1 := Aside0.mk hr1
  have HC1 := Aside0.mk hc1
  clear hr1 hc1
  have HR2 := Aside0.mk hr2
  have HC2 := Aside0.mk hc2
  clear hr2 hc2
  have H : (if 0 ≤ (l1.length : Int) then (if ((l1.length : Int) : Int).toNat ≤ 35184372088832 then (impl_firstFit.l0 k a0 l1 (List.replicate ((l1.length : Int) : Int).toNat 0) (([] : List Int)) l2 (l2.length : Int) 0) else (none)) else (none)) = some r := h
  clear h
  by_cases c4 : 0 ≤ (l1.length : Int)
  · rw [if_pos c4] at H
    have c4b0 := eq_true c4
    have c4b1 : decide (0 ≤ (l1.length : Int)) = true := decide_eq_true c4
    clear c4
    by_cases c5 : ((l1.length : Int) : Int).toNat ≤ 35184372088832
    · rw [if_pos c5] at H
      have c5b0 := eq_true c5
      have c5b1 : decide (((l1.length : Int) : Int).toNat ≤ 35184372088832) = true := decide_eq_true c5
      clear c5
      obtain ⟨y171, hy171⟩ : ∃ y_ : List Int, y_ = (List.replicate ((l1.length : Int) : Int).toNat 0) := ⟨_, rfl⟩
      replace H : (impl_firstFit.l0 k a0 l1 y171 (([] : List Int)) l2 (l2.length : Int) 0) = some r := by first | (rw [hy171]; with_reducible exact H) | (have H2_ := (Option.bind_some _ _).symm.trans H; rw [hy171]; with_reducible exact H2_) | (have H2_ := (Option.bind_some _ _).symm.trans H; with_reducible exact H2_) | with_reducible exact H | (rw [hy171]; exact H) | exact H
      have Ny171 := Aside0.mk hy171
      clear hy171
      obtain ⟨y174, hy174⟩ : ∃ y_ : List Int, y_ = (([] : List Int)) := ⟨_, rfl⟩
      replace H : (impl_firstFit.l0 k a0 l1 y171 y174 l2 (l2.length : Int) 0) = some r := by first | (rw [hy174]; with_reducible exact H) | (have H2_ := (Option.bind_some _ _).symm.trans H; rw [hy174]; with_reducible exact H2_) | (have H2_ := (Option.bind_some _ _).symm.trans H; with_reducible exact H2_) | with_reducible exact H | (rw [hy174]; exact H) | exact H
      have Ny174 := Aside0.mk hy174
      clear hy174
      have H' := Aside0.mk H
      clear H
      have hz_ : Below wz.heap.size wz ((wz.alloc (.cells #[.int .i64 a0] 2)).alloc (.cells #[.slice A1 l1.length c1] 24)) := ((Below.refl _ _).alloc (Nat.le_refl _) _).alloc (by simp) _
      have l4_ : ((wz.alloc (.cells #[.int .i64 a0] 2)).alloc (.cells #[.slice A1 l1.length c1] 24)).cell? ⟨wz.heap.size + 1, 0, none⟩ = some (.slice A1 l1.length c1) := by simp
      have l3_ : ((wz.alloc (.cells #[.int .i64 a0] 2)).alloc (.cells #[.slice A1 l1.length c1] 24)).cell? ⟨wz.heap.size, 0, none⟩ = some (.int .i64 a0) := by simp
      obtain ⟨w, hw_⟩ : ∃ w_, w_ = ((wz.alloc (.cells #[.int .i64 a0] 2)).alloc (.cells #[.slice A1 l1.length c1] 24)) := ⟨_, rfl⟩
      have HZ := Aside0.mk (show Below wz.heap.size wz w by rw [hw_]; exact hz_)
      have L4 := Aside0.mk (show w.cell? ⟨wz.heap.size + 1, 0, none⟩ = some (.slice A1 l1.length c1) by rw [hw_]; exact l4_)
      have L3 := Aside0.mk (show w.cell? ⟨wz.heap.size, 0, none⟩ = some (.int .i64 a0) by rw [hw_]; exact l3_)
      have HW_ := Aside0.mk hw_
      clear hz_ l3_ hw_
      have HR1' := Aside0.mk (Kd.C_below HR1.out HZ.out)
      have HR2' := Aside0.mk (Kd.C_below HR2.out HZ.out)
      clear HR1 HR2
      have HR1 := HR1'
      have HR2 := HR2'
      clear HR1' HR2'
      have HB := Aside0.mk (Below.refl w.heap.size w)
      go_enter Try.func55, Try.ntmps55
      go_wp2_with (first | ((with_reducible refine gate_dst (N := 14) rfl ?_); rw [← HW_.out]; clear l4_; refine Kd.R_make (Kd.int .i64) _ 2 rfl (N := 14) rfl 24 _ _ rfl (l1.length : Int) rfl rfl Try.underlying24 (.int .i64 0) 8 info2 rfl (by decide) (by omega) 0 (ok := fun _ => True) (okp := fun _ => True) rfl (fun _ hk => hk) trivial (of_decide_eq_true (by first | (with_reducible assumption) | assumption)) (Nat.le_trans (Nat.mul_le_mul_right _ (of_decide_eq_true (by first | (with_reducible assumption) | assumption) : (l1.length : Int).toNat ≤ 35184372088832)) (by omega)) (Below.refl _ _) (Nat.le_refl _) ?_; intro v172 w6 ho7 hb hg_ hnew_; clear hg_ hnew_; (first | rw [← Ny171.out] at ho7 | (simp only [Int.reduceToNat] at ho7; rw [← Ny171.out] at ho7)); have n0_ := Aside0.mk (Kd.R_lower ho7 (below_size (by repeat (first | (with_reducible first | exact HB.out | apply below_alloc | apply pw_below_drewN | apply below_drew1) | exact HB.out)))); have n1_ := Aside0.mk (below_step (by repeat (first | (with_reducible first | exact HB.out | apply below_alloc | apply pw_below_drewN | apply below_drew1) | exact HB.out)) hb); clear HB; have HO173 := n0_; have HB := n1_; clear n0_ n1_; clear hb ho7) | ((with_reducible refine gate_dst (N := 15) rfl ?_); refine Kd.R_lit (Kd.int .i64) _ 2 ?hg (N := 15) ?hd (xs := ([] : List Int)) (inner := []) (ok := fun _ => True) (okp := fun _ => True) ?hr ?hp (fun _ hk => hk) trivial (Below.refl _ _) (Nat.le_refl _) (by simp) ?_; (case hd => rfl); (case hg => rfl); (case hr => first | (go_simp; done) | (go_simp; rfl)); (case hp => exact (Reps.none _ _)); intro v175 w8 ho9 hb hg_ hnew_; clear hg_ hnew_; (first | rw [← Ny174.out] at ho9 | (simp only [Int.reduceToNat] at ho9; rw [← Ny174.out] at ho9)); have n0_ := Aside0.mk (Kd.R_elder' (by (with_reducible repeat (first | apply Kd.R_alloc | apply Kd.R_drewN | apply Kd.R_drew)); exact HO173.out) (Kd.R_base ho9) hb); have n1_ := Aside0.mk (Kd.R_lower (Kd.R_new' ho9 (Kd.R_lt (by (with_reducible repeat (first | apply Kd.R_alloc | apply Kd.R_drewN | apply Kd.R_drew)); exact HO173.out))) (below_size (by repeat (first | (with_reducible first | exact HB.out | apply below_alloc | apply pw_below_drewN | apply below_drew1) | exact HB.out)))); have n2_ := Aside0.mk (below_step (by repeat (first | (with_reducible first | exact HB.out | apply below_alloc | apply pw_below_drewN | apply below_drew1) | exact HB.out)) hb); clear HO173; clear HB; have HO173 := n0_; have HO176 := n1_; have HB := n2_; clear n0_ n1_ n2_; clear hb ho9))
      go_loopg [8, 18] k (fun kq v8 v18 w' => ∃ (x7_1 : List Int) (x8_1 : List Int) (x18_1 : Int), v18 = .int .i64 x18_1 ∧ Aside0 (impl_firstFit.l0 kq a0 l1 x7_1 x8_1 l2 (l2.length : Int) x18_1 = some r) ∧ Aside0 (kq ≤ k) ∧ Aside0 (Kd.R (Kd.int .i64) 2 w' w.heap.size (fun k_ => some k_ ≠ (v8 : Value).ownBlock) v172 x7_1) ∧ Aside0 (Kd.R (Kd.int .i64) 2 w' w.heap.size (fun k_ => some k_ ≠ (v172 : Value).ownBlock) v8 x8_1) ∧ Aside0 (Below w.heap.size w w'))
      case atStart => exact ⟨(y171), (y174), (0), (by first | rfl | (simp; done) | (simp [*]; done)), H', ⟨Nat.le_refl _⟩, ⟨by (with_reducible repeat (first | apply Kd.R_alloc | apply Kd.R_drewN | apply Kd.R_drew)); exact Kd.R_mono HO173.out (fun _ hk => hk.2)⟩, ⟨by (with_reducible repeat (first | apply Kd.R_alloc | apply Kd.R_drewN | apply Kd.R_drew)); exact Kd.R_mono HO176.out (fun _ hk => hk.2)⟩, ⟨by repeat (first | (with_reducible first | exact HB.out | apply below_alloc | apply pw_below_drewN | apply below_drew1) | exact HB.out)⟩⟩
      case round =>
        clear H'
        try clear c1
        try clear c2
        try clear p2
        try clear c4
        try clear c4b0
        try clear c4b1
        try clear c5
        try clear c5b0
        try clear c5b1
        obtain ⟨x7_1, x8_1, x18_1, rfl, HA, HK1, HO_7, HO_8, HB⟩ := hrel
        cases gk with
        | zero => exact absurd HA.out (by simp [impl_firstFit.l0])
        | succ k1 =>
          have H := HA.out
          clear HA
          simp only [impl_firstFit.l0] at H
          by_cases c10 : x18_1 < (l2.length : Int)
          · rw [if_pos c10] at H
            have c10b0 : decide (x18_1 < (l2.length : Int)) = true := decide_eq_true c10
            clear c10
            by_cases c11 : 0 ≤ x18_1
            · rw [if_pos c11] at H
              have c11b0 : decide (0 ≤ x18_1) = true := decide_eq_true c11
              clear c11
              by_cases c12 : x18_1 < (l2.length : Int)
              · rw [if_pos c12] at H
                have c12b0 : decide (x18_1 < (l2.length : Int)) = true := decide_eq_true c12
                clear c12
                replace H := Option.bind_eq_some_iff.mp H
                obtain ⟨t178, A130, H⟩ := H
                replace H : (if t178 < 0 then (if x8_1.length < 17592186044416 then ((some (x8_1 ++ [0] : List Int)).bind fun y179 => (if 0 ≤ (x8_1.length : Int) then (if (x8_1.length : Int) < (y179.length : Int) then (if 0 ≤ (rd l2 x18_1) then (if (rd l2 x18_1) < (l1.length : Int) then (if (rd l2 x18_1) < (x7_1.length : Int) then (impl_firstFit.l0 k1 a0 l1 (x7_1.set ((rd l2 x18_1) : Int).toNat (x8_1.length : Int)) (y179.set ((x8_1.length : Int) : Int).toNat (wrap64 ((rd y179 (x8_1.length : Int)) + (rd l1 (rd l2 x18_1))))) l2 (l2.length : Int) (wrap64 (x18_1 + 1))) else (none)) else (none)) else (none)) else (none)) else (none))) else (none)) else (if 0 ≤ t178 then (if t178 < (x8_1.length : Int) then (if 0 ≤ (rd l2 x18_1) then (if (rd l2 x18_1) < (l1.length : Int) then (if (rd l2 x18_1) < (x7_1.length : Int) then (impl_firstFit.l0 k1 a0 l1 (x7_1.set ((rd l2 x18_1) : Int).toNat t178) (x8_1.set (t178 : Int).toNat (wrap64 ((rd x8_1 t178) + (rd l1 (rd l2 x18_1))))) l2 (l2.length : Int) (wrap64 (x18_1 + 1))) else (none)) else (none)) else (none)) else (none)) else (none))) = some r := H
                have A13 := Aside0.mk A130
                clear A130
                by_cases c14 : t178 < 0
                · rw [if_pos c14] at H
                  have c14b0 : decide (t178 < 0) = true := decide_eq_true c14
                  clear c14
                  by_cases c15 : x8_1.length < 17592186044416
                  · rw [if_pos c15] at H
                    have LMc15 := Aside0.mk c15
                    clear c15
                    obtain ⟨y179, hy179⟩ : ∃ y_ : List Int, y_ = (x8_1 ++ [0]) := ⟨_, rfl⟩
                    replace H : (if 0 ≤ (x8_1.length : Int) then (if (x8_1.length : Int) < (y179.length : Int) then (if 0 ≤ (rd l2 x18_1) then (if (rd l2 x18_1) < (l1.length : Int) then (if (rd l2 x18_1) < (x7_1.length : Int) then (impl_firstFit.l0 k1 a0 l1 (x7_1.set ((rd l2 x18_1) : Int).toNat (x8_1.length : Int)) (y179.set ((x8_1.length : Int) : Int).toNat (wrap64 ((rd y179 (x8_1.length : Int)) + (rd l1 (rd l2 x18_1))))) l2 (l2.length : Int) (wrap64 (x18_1 + 1))) else (none)) else (none)) else (none)) else (none)) else (none)) = some r := by first | (rw [hy179]; with_reducible exact H) | (have H2_ := (Option.bind_some _ _).symm.trans H; rw [hy179]; with_reducible exact H2_) | (have H2_ := (Option.bind_some _ _).symm.trans H; with_reducible exact H2_) | with_reducible exact H | (rw [hy179]; exact H) | exact H
                    have Ny179 := Aside0.mk hy179
                    clear hy179
                    by_cases c16 : 0 ≤ (x8_1.length : Int)
                    · rw [if_pos c16] at H
                      have c16b0 : decide (0 ≤ (x8_1.length : Int)) = true := decide_eq_true c16
                      have c16b1 : decide (0 ≤ x8_1.length) = true := decide_eq_true (by omega)
                      clear c16
                      by_cases c17 : (x8_1.length : Int) < (y179.length : Int)
                      · rw [if_pos c17] at H
                        have c17b0 : decide ((x8_1.length : Int) < (y179.length : Int)) = true := decide_eq_true c17
                        have c17b1 : decide (x8_1.length < y179.length) = true := decide_eq_true (Int.ofNat_lt.mp c17)
                        clear c17
                        by_cases c18 : 0 ≤ (rd l2 x18_1)
                        · rw [if_pos c18] at H
                          have c18b0 : decide (0 ≤ (rd l2 x18_1)) = true := decide_eq_true c18
                          clear c18
                          by_cases c19 : (rd l2 x18_1) < (l1.length : Int)
                          · rw [if_pos c19] at H
                            have c19b0 : decide ((rd l2 x18_1) < (l1.length : Int)) = true := decide_eq_true c19
                            clear c19
                            obtain ⟨y184, hy184⟩ : ∃ y_ : List Int, y_ = (y179.set ((x8_1.length : Int) : Int).toNat (wrap64 ((rd y179 (x8_1.length : Int)) + (rd l1 (rd l2 x18_1))))) := ⟨_, rfl⟩
                            replace H : (if (rd l2 x18_1) < (x7_1.length : Int) then (impl_firstFit.l0 k1 a0 l1 (x7_1.set ((rd l2 x18_1) : Int).toNat (x8_1.length : Int)) y184 l2 (l2.length : Int) (wrap64 (x18_1 + 1))) else (none)) = some r := by first | (rw [hy184]; with_reducible exact H) | (have H2_ := (Option.bind_some _ _).symm.trans H; rw [hy184]; with_reducible exact H2_) | (have H2_ := (Option.bind_some _ _).symm.trans H; with_reducible exact H2_) | with_reducible exact H | (rw [hy184]; exact H) | exact H
                            have Ny184 := Aside0.mk hy184
                            clear hy184
                            by_cases c21 : (rd l2 x18_1) < (x7_1.length : Int)
                            · rw [if_pos c21] at H
                              have c21b0 : decide ((rd l2 x18_1) < (x7_1.length : Int)) = true := decide_eq_true c21
                              clear c21
                              obtain ⟨y185, hy185⟩ : ∃ y_ : List Int, y_ = (x7_1.set ((rd l2 x18_1) : Int).toNat (x8_1.length : Int)) := ⟨_, rfl⟩
                              replace H : (impl_firstFit.l0 k1 a0 l1 y185 y184 l2 (l2.length : Int) (wrap64 (x18_1 + 1))) = some r := by first | (rw [hy185]; with_reducible exact H) | (have H2_ := (Option.bind_some _ _).symm.trans H; rw [hy185]; with_reducible exact H2_) | (have H2_ := (Option.bind_some _ _).symm.trans H; with_reducible exact H2_) | with_reducible exact H | (rw [hy185]; exact H) | exact H
                              have Ny185 := Aside0.mk hy185
                              clear hy185
                              have H' := Aside0.mk H
                              clear H
                              have p177 : 0 ≤ (x18_1 : Int) := of_decide_eq_true (by first | (with_reducible assumption) | assumption)
                              have q177 : x18_1 < (l2.length : Int) := of_decide_eq_true (by first | (with_reducible assumption) | assumption)
                              obtain ⟨ad177, e177, hx177_0⟩ := Kd.at_int HR2.out x18_1 p177 q177
                              cases e177
                              replace hx177_0 := (HB.out.cell (World.block_lt_of_cell? w _ hx177_0)).trans hx177_0
                              replace p177 := eq_true p177
                              replace q177 := eq_true q177
                              obtain ⟨Ao23, co23, eo23⟩ := Kd.R_slice HO_8.out
                              subst eo23
                              try go_wp2_with (first | ((with_reducible refine gate_dst (N := 10) rfl ?_); refine box_event ?hg (N := 10) ?hd (cs := #[.int .i64 0]) (t := 3) ?hr ?_; (case hd => rfl); (case hg => rfl); (case hr => first | (go_simp; done) | (go_simp; rfl)); intro gb10 hg10_ w10 hbox hb; have n0_ := Aside0.mk (Kd.R_below HO_7.out hb); have n1_ := Aside0.mk (Kd.R_below HO_8.out hb); have GB10 := Aside0.mk (show w.heap.size ≤ gb10 by rw [hg10_]; exact below_size HB.out); have n2_ := Aside0.mk (below_step HB.out hb); clear HO_7 HO_8 HB; have HO_7 := n0_; have HO_8 := n1_; have HB := n2_; clear n0_ n1_ n2_; have BX10 := Aside0.mk hbox; have hcz10_ : w10.cell? ⟨gb10, 0, none⟩ = some (.int .i64 0) := (blk_cell hbox 0).trans rfl; have hfz10_ := blk_frozen hbox 0; clear hbox hb hg10_) | ((with_reducible refine gate_callee (f := 96) rfl ?_); refine goesL_ (some 24) rfl rfl Try.func96 (by kernel_rfl) rfl #[.slice Ao23 x8_1.length co23, .func (.func 97) #[] #[.pointer (some ⟨wz.heap.size + 1, 0, none⟩), .pointer (some ⟨gb10, 0, none⟩), .pointer (some ⟨wz.heap.size, 0, none⟩)]] rfl (by (try simp only [List.map_toArray, List.map_cons, List.map_nil]); first | done | rfl | (simp only [List.length_drop, List.length_take]; rfl)) ?_; have n0_ := Aside0.mk (Kd.R_set HO_7.out BX10.out (by intro q hq; simp [Kd.E, Kd.int, Kd.scalar] at hq; omega) 0 (.int .i64 (rd l2 x18_1))); have n1_ := Aside0.mk (Kd.R_set HO_8.out BX10.out (by intro q hq; simp [Kd.E, Kd.int, Kd.scalar] at hq; omega) 0 (.int .i64 (rd l2 x18_1))); have n2_ := Aside0.mk (below_set (j := 0) (v := .int .i64 (rd l2 x18_1)) HB.out GB10.out); have n3_ := Aside0.mk (blk_put BX10.out 0 (.int .i64 (rd l2 x18_1)) (cs' := #[.int .i64 (rd l2 x18_1)]) rfl); clear HO_7 HO_8 HB BX10 hcz10_ hfz10_; generalize (w10.setCell ⟨gb10, 0, none⟩ (.int .i64 (rd l2 x18_1))) = wq at n0_ n1_ n2_ n3_ ⊢; have hp_ : 0 ≤ (rd l2 x18_1) := of_decide_eq_true (by first | (with_reducible assumption) | assumption); have hq_ : (rd l2 x18_1) < (l1.length : Int) := of_decide_eq_true (by first | (with_reducible assumption) | assumption); have hcall_ := Hand.indexFuncI (fun n_ => decide (wrap64 (n_ + (rd l1 (rd l2 x18_1))) ≤ a0)) 97 _ (enters_of Try.func97 (by kernel_rfl) rfl) Ao23 co23 x8_1 wq (Kd.R_reads' n1_.out).2.2 (Hand.firstFit_pred a0 A1 c1 l1 (rd l2 x18_1) wq (wz.heap.size + 1) gb10 wz.heap.size ((n2_.out.cell (World.block_lt_of_cell? w _ L4.out)).trans L4.out) ((blk_cell n3_.out 0).trans rfl) ((n2_.out.cell (World.block_lt_of_cell? w _ L3.out)).trans L3.out) (Kd.C_below HR1.out n2_.out) hp_ hq_); rw [show Hand.idxBy (fun n_ => decide (wrap64 (n_ + (rd l1 (rd l2 x18_1))) ≤ a0)) x8_1 0 = t178 from Option.some.inj A13.out] at hcall_; clear hp_ hq_; refine hcall_.mono ?_; clear hcall_; rintro e wr ⟨rfl, hb'⟩; refine ⟨_, rfl, ?_⟩; have m0_ := Aside0.mk (Kd.R_below n0_.out hb'); have m1_ := Aside0.mk (Kd.R_below n1_.out hb'); have m2_ := Aside0.mk (below_step n2_.out hb'); have BX10 := Aside0.mk (blk_below n3_.out hb'); clear n0_ n1_ n2_ n3_ hb'; have HO_7 := m0_; have HO_8 := m1_; have HB := m2_; clear m0_ m1_ m2_) | ((with_reducible refine gate_builtin (b := .append) (xs := #[.tmp 29, .tmp 30]) rfl ?_); at_builtin; refine Kd.R_append (Kd.int .i64) (w0 := w) w.heap.size rfl (.tmp 29) (.tmp 30) 24 2 (.int .i64 0) 8 rfl Try.underlying24 info2 rfl (by decide) (by omega) (.slice Ao23 x8_1.length co23) x8_1 0 [.int .i64 0] (fun k_ => some k_ ≠ (v172 : Value).ownBlock) (fun _ => False) rfl rfl ?aP (fun _ hk => hk.elim) ?aF ?aO ?aB ?aS ?aL ?_; (case aP => exact rfl); (case aB => exact (by repeat (first | (with_reducible first | exact HB.out | apply below_alloc | apply pw_below_drewN | apply below_drew1) | exact HB.out))); (case aF => exact (fun k_ hk => Kd.fresh' (Kd.R_lt (by (with_reducible repeat (first | apply Kd.R_alloc | apply Kd.R_drewN | apply Kd.R_drew)); exact HO_7.out)) k_ hk)); (case aO => exact (by (with_reducible repeat (first | apply Kd.R_alloc | apply Kd.R_drewN | apply Kd.R_drew)); exact HO_8.out)); (case aS => exact (below_size (by repeat (first | (with_reducible first | exact HB.out | apply below_alloc | apply pw_below_drewN | apply below_drew1) | exact HB.out)))); (case aL => have := LMc15.out; omega); intro v180 w24 ho hb hg hat; have nx_ := Aside0.mk (blk_grown BX10.out hg (Kd.R_ne HO_8.out BX10.out (by decide))); clear BX10; have BX10 := nx_; clear nx_; rw [← Ny179.out] at ho; have n0_ := Aside0.mk (Kd.R_after (ok := (fun _ => True)) (by (with_reducible repeat (first | apply Kd.R_alloc | apply Kd.R_drewN | apply Kd.R_drew)); exact Kd.R_mono HO_7.out (fun _ hk => ⟨trivial, hk⟩)) hg hat); have n1_ := Aside0.mk (hb); have n2_ := Aside0.mk (ho); clear HO_7; clear HB; clear HO_8; have HO_7 := n0_; have HB := n1_; have HO181 := n2_; clear n0_ n1_ n2_; clear ho hb hg hat))
                              have n0_ := Aside0.mk (Kd.R_drew HO_7.out)
                              have n1_ := Aside0.mk (Kd.R_drew HO181.out)
                              have n2_ := Aside0.mk (below_drew1 HB.out)
                              have BX10 := Aside0.mk (blk_drew BX10.out)
                              clear HO_7
                              clear HO181
                              clear HB
                              have HO_7 := n0_
                              have HO181 := n1_
                              have HB := n2_
                              clear n0_ n1_ n2_
                              obtain ⟨Ao26, co26, eo26⟩ := Kd.R_slice HO181.out
                              (first | subst eo26 | (injection eo26 with f1_ f2_ f3_; have f4_ := f1_.symm; have f5_ := f3_.symm; clear f1_ f2_ f3_; subst f4_; subst f5_))
                              have p182 : 0 ≤ ((x8_1.length : Int) : Int) := of_decide_eq_true (by first | (with_reducible assumption) | assumption)
                              have q182 : (x8_1.length : Int) < (y179.length : Int) := of_decide_eq_true (by first | (with_reducible assumption) | assumption)
                              obtain ⟨ad182, e182, hx182_0⟩ := Kd.at_int (Kd.R_reads' HO181.out).2.2 (x8_1.length : Int) p182 q182
                              cases e182
                              (try simp only [Go.IntWalk.toNatUp] at hx182_0)
                              replace p182 := eq_true p182
                              replace q182 := eq_true q182
                              have p183 : 0 ≤ ((rd l2 x18_1) : Int) := of_decide_eq_true (by first | (with_reducible assumption) | assumption)
                              have q183 : (rd l2 x18_1) < (l1.length : Int) := of_decide_eq_true (by first | (with_reducible assumption) | assumption)
                              obtain ⟨ad183, e183, hx183_0⟩ := Kd.at_int HR1.out (rd l2 x18_1) p183 q183
                              have hw183_0 := hx183_0
                              cases e183
                              replace hx183_0 := (HB.out.cell (World.block_lt_of_cell? w _ hx183_0)).trans hx183_0
                              replace p183 := eq_true p183
                              replace q183 := eq_true q183
                              have p20 : 0 ≤ ((x8_1.length : Int) : Int) := of_decide_eq_true (by first | (with_reducible assumption) | assumption)
                              have q20 : ((x8_1.length : Int) : Int) < ((y179.length : Int) : Int) := of_decide_eq_true (by first | (with_reducible assumption) | assumption)
                              obtain ⟨go20, co20, eo20, gb20, gl20, cl20, HG20⟩ := Kd.R_form HO181.out (by omega)
                              (first | cases eo20 | (injection eo20 with ea_ en_ ec_; (first | subst ea_ | (injection ea_ with ea_; subst ea_)); subst ec_; clear en_))
                              have GB20 := Aside0.mk gb20
                              have GG20 := Aside0.mk HG20
                              clear gb20 gl20 HG20
                              (first | simp only [add_plain] at hx182_0 | skip)
                              obtain ⟨hx20_0, hf20_0⟩ := Kd.R_celln 0 HO181.out ((x8_1.length : Int) : Int) p20 q20
                              replace p20 := eq_true p20
                              replace q20 := eq_true q20
                              have HP27 := Kd.R_putn HO181.out ((x8_1.length : Int) : Int) (wrap64 ((rd y179 (x8_1.length : Int)) + (rd l1 (rd l2 x18_1))))
                              rw [← Ny184.out] at HP27
                              have HQ27 := Aside0.mk HP27
                              clear HP27
                              refine start_ (n := 11) (S := fun w' => w'.cell? ⟨go20, ((x8_1.length : Int)).toNat, none⟩ = some (.int .i64 (rd y179 (x8_1.length : Int))) ∧ w'.cell? (ad183.add ((rd l2 x18_1)).toNat) = some (.int .i64 (rd l1 (rd l2 x18_1))) ∧ w'.cell? ⟨wz.heap.size + 1, 0, none⟩ = some (.slice (some ad183) l1.length c1) ∧ w'.cell? ⟨gb10, 0, none⟩ = some (.int .i64 (rd l2 x18_1))) (ds := [10]) #[false, false, false, false, false, false, false, false, false, false, false] (by kernel_rfl) rfl rfl ⟨hx182_0, ((HB.out.cell (World.block_lt_of_cell? w _ hw183_0)).trans hw183_0), ((HB.out.cell (World.block_lt_of_cell? w _ L4.out)).trans L4.out), ((blk_cell BX10.out 0).trans rfl)⟩ (fun hHeld => ?_); refine with_tabW impl_firstFit.tab9 impl_firstFit.bits9 (fun HT_ HW_ => ?_)
                              generalize w24.drew = w25 at HO_7 HO181 HB BX10 GG20 HQ27 hf20_0 hx182_0 hx183_0 hx20_0 hHeld ⊢
                              refine pure_ (i := 0) (N := some 32) (v := ?_) (a' := ?_) #[true, false, false, false, false, false, false, false, false, false, false] rfl rfl (any_of HT_.out (by kernel_rfl)) (fun _ _ _ h => h) (Or.inl ⟨by rfl, ?_⟩) ?_ ?_
                              rotate_left
                              · intro w'
                                go_simp
                                with_reducible rfl
                              rotate_left
                              · simp only [Act.put, List.setIfInBounds_toArray, List.set_cons_zero, List.set_cons_succ, i64_w, i32_w]
                                rfl
                              refine pure_ (i := 1) (N := some 33) (v := ?_) (a' := ?_) #[true, true, false, false, false, false, false, false, false, false, false] rfl rfl (any_of HT_.out (by kernel_rfl)) (fun _ _ _ h => h) (Or.inl ⟨by rfl, ?_⟩) ?_ ?_
                              rotate_left
                              · intro w'
                                go_simp
                                with_reducible rfl
                              rotate_left
                              · simp only [Act.put, List.setIfInBounds_toArray, List.set_cons_zero, List.set_cons_succ, i64_w, i32_w]
                                rfl
                              refine pure_ (i := 2) (N := some 34) (v := ?_) (a' := ?_) #[true, true, true, false, false, false, false, false, false, false, false] rfl rfl (any_of HT_.out (by kernel_rfl)) (fun _ _ _ h => h) (Or.inl ⟨by rfl, ?_⟩) ?_ ?_
                              rotate_left
                              · intro w'
                                go_simp
                                with_reducible rfl
                              rotate_left
                              · simp only [Act.put, List.setIfInBounds_toArray, List.set_cons_zero, List.set_cons_succ, i64_w, i32_w]
                                rfl
                              refine take_ (i := 4) (N := some 36) (v := ?_) (a' := ?_) #[true, true, true, false, true, false, false, false, false, false, false] rfl rfl (take_ofW HT_.out HW_.out (by kernel_rfl)) (fun _ _ _ h => h) (Or.inl ⟨by rfl, ?_⟩) hHeld ?_ ?_
                              rotate_left
                              · rintro w' ⟨s0, s1, s2, s3⟩
                                go_simp
                                with_reducible rfl
                              rotate_left
                              · simp only [Act.put, List.setIfInBounds_toArray, List.set_cons_zero, List.set_cons_succ, i64_w, i32_w]
                                rfl
                              refine take_ (i := 5) (N := some 37) (v := ?_) (a' := ?_) #[true, true, true, false, true, true, false, false, false, false, false] rfl rfl (take_ofW HT_.out HW_.out (by kernel_rfl)) (fun _ _ _ h => h) (Or.inl ⟨by rfl, ?_⟩) hHeld ?_ ?_
                              rotate_left
                              · rintro w' ⟨s0, s1, s2, s3⟩
                                go_simp
                                with_reducible rfl
                              rotate_left
                              · simp only [Act.put, List.setIfInBounds_toArray, List.set_cons_zero, List.set_cons_succ, i64_w, i32_w]
                                rfl
                              refine pure_ (i := 6) (N := some 38) (v := ?_) (a' := ?_) #[true, true, true, false, true, true, true, false, false, false, false] rfl rfl (any_of HT_.out (by kernel_rfl)) (fun _ _ _ h => h) (Or.inl ⟨by rfl, ?_⟩) ?_ ?_
                              rotate_left
                              · intro w'
                                go_simp
                                with_reducible rfl
                              rotate_left
                              · simp only [Act.put, List.setIfInBounds_toArray, List.set_cons_zero, List.set_cons_succ, i64_w, i32_w]
                                rfl
                              refine take_ (i := 3) (N := some 35) (v := ?_) (a' := ?_) #[true, true, true, true, true, true, true, false, false, false, false] rfl rfl (take_ofW HT_.out HW_.out (by kernel_rfl)) (fun _ _ _ h => h) (Or.inl ⟨by rfl, ?_⟩) hHeld ?_ ?_
                              rotate_left
                              · rintro w' ⟨s0, s1, s2, s3⟩
                                (try simp only [Int.toNat_natCast] at s0)
                                go_simp
                                with_reducible rfl
                              rotate_left
                              · simp only [Act.put, List.setIfInBounds_toArray, List.set_cons_zero, List.set_cons_succ, i64_w, i32_w]
                                rfl
                              refine take_ (i := 7) (N := some 39) (v := ?_) (a' := ?_) #[true, true, true, true, true, true, true, true, false, false, false] rfl rfl (take_ofW HT_.out HW_.out (by kernel_rfl)) (fun _ _ _ h => h) (Or.inl ⟨by rfl, ?_⟩) hHeld ?_ ?_
                              rotate_left
                              · rintro w' ⟨s0, s1, s2, s3⟩
                                (try simp only [Int.toNat_natCast] at s0)
                                go_simp
                                with_reducible rfl
                              rotate_left
                              · simp only [Act.put, List.setIfInBounds_toArray, List.set_cons_zero, List.set_cons_succ, i64_w, i32_w]
                                rfl
                              refine pure_ (i := 8) (N := some 40) (v := ?_) (a' := ?_) #[true, true, true, true, true, true, true, true, true, false, false] rfl rfl (any_of HT_.out (by kernel_rfl)) (fun _ _ _ h => h) (Or.inl ⟨by rfl, ?_⟩) ?_ ?_
                              rotate_left
                              · intro w'
                                go_simp
                                with_reducible rfl
                              rotate_left
                              · simp only [Act.put, List.setIfInBounds_toArray, List.set_cons_zero, List.set_cons_succ, i64_w, i32_w]
                                rfl
                              refine pure_ (i := 9) (N := some 41) (v := ?_) (a' := ?_) #[true, true, true, true, true, true, true, true, true, true, false] rfl rfl (any_of HT_.out (by kernel_rfl)) (fun _ _ _ h => h) (Or.inl ⟨by rfl, ?_⟩) ?_ ?_
                              rotate_left
                              · intro w'
                                go_simp
                                with_reducible rfl
                              rotate_left
                              · simp only [Act.put, List.setIfInBounds_toArray, List.set_cons_zero, List.set_cons_succ, i64_w, i32_w]
                                rfl
                              (try simp only [Int.toNat_natCast] at hf20_0)
                              refine last_ (i := 10) (N := none) #[true, true, true, true, true, true, true, true, true, true, true] rfl rfl (one_of HT_.out (by kernel_rfl)) (by decide) (fun K hK => ?_)
                              refine skip_ (w1 := ?_) (by rfl) rfl ?_ ?_
                              rotate_left
                              · go_simp
                                rfl
                              refine hK.out _ _ ?_
                              clear hK K
                              refine done_ (done_of HT_.out (by kernel_rfl)) ?_
                              have n0_ : Aside0 (Kd.R (Kd.int .i64) 2 (w25.setCell ⟨go20, x8_1.length, none⟩ (.int .i64 (wrap64 ((rd y179 (x8_1.length : Int)) + (rd l1 (rd l2 x18_1)))))) w.heap.size (fun k_ => some k_ ≠ (.slice (some ⟨go20, 0, none⟩) y179.length co26 : Value).ownBlock) v172 x7_1) := ⟨by (with_reducible repeat (first | apply Kd.R_alloc | apply Kd.R_drewN | apply Kd.R_drew)); exact Kd.R_mono (Kd.R_far (p := ⟨go20, x8_1.length, none⟩) (Kd.R_mono HO_7.out (fun k_ hk => (⟨hk, fun e_ => hk.2 (by rw [e_]; rfl)⟩ : _ ∧ k_ ≠ go20))) (fun _ hk => hk.2) (.int .i64 (wrap64 ((rd y179 (x8_1.length : Int)) + (rd l1 (rd l2 x18_1)))))) (fun _ hk => hk.1.2)⟩
                              have n1_ : Aside0 (Kd.R (Kd.int .i64) 2 (w25.setCell ⟨go20, x8_1.length, none⟩ (.int .i64 (wrap64 ((rd y179 (x8_1.length : Int)) + (rd l1 (rd l2 x18_1)))))) w.heap.size (fun k_ => some k_ ≠ (v172 : Value).ownBlock) (.slice (some ⟨go20, 0, none⟩) y179.length co26) y184) := ⟨by (with_reducible repeat (first | apply Kd.R_alloc | apply Kd.R_drewN | apply Kd.R_drew)); exact HQ27.out⟩
                              have n2_ : Aside0 (Below w.heap.size w (w25.setCell ⟨go20, x8_1.length, none⟩ (.int .i64 (wrap64 ((rd y179 (x8_1.length : Int)) + (rd l1 (rd l2 x18_1))))))) := ⟨by repeat (first | (with_reducible first | exact HB.out | apply below_alloc | apply pw_below_drewN | apply below_drew1 | refine below_set ?_ GB20.out) | exact HB.out)⟩
                              have n3_ : Aside0 ((w25.setCell ⟨go20, x8_1.length, none⟩ (.int .i64 (wrap64 ((rd y179 (x8_1.length : Int)) + (rd l1 (rd l2 x18_1)))))).heap[gb10]? = some (.cells #[.int .i64 (rd l2 x18_1)] 3 (0, 0))) := ⟨blk_far BX10.out (fun e_ => (Kd.R_ne HO181.out BX10.out (by decide)) (by rw [e_]; rfl)) _⟩
                              (try clear HO_7)
                              (try clear HO181)
                              (try clear HB)
                              generalize (w25.setCell ⟨go20, x8_1.length, none⟩ (.int .i64 (wrap64 ((rd y179 (x8_1.length : Int)) + (rd l1 (rd l2 x18_1)))))) = w28 at n0_ n1_ n2_ n3_ ⊢
                              have HO_7 := n0_
                              have HO181 := n1_
                              have HB := n2_
                              clear n0_ n1_ n2_
                              clear BX10
                              have BX10 := n3_
                              clear n3_
                              have hcz10_ : w28.cell? ⟨gb10, 0, none⟩ = some (.int .i64 (rd l2 x18_1)) := (blk_cell BX10.out 0).trans rfl
                              have p22 : 0 ≤ ((rd l2 x18_1) : Int) := of_decide_eq_true (by first | (with_reducible assumption) | assumption)
                              have q22 : ((rd l2 x18_1) : Int) < ((x7_1.length : Int) : Int) := of_decide_eq_true (by first | (with_reducible assumption) | assumption)
                              obtain ⟨go22, co22, eo22, gb22, gl22, cl22, HG22⟩ := Kd.R_form HO_7.out (by omega)
                              (first | cases eo22 | (injection eo22 with ea_ en_ ec_; (first | subst ea_ | (injection ea_ with ea_; subst ea_)); subst ec_; clear en_))
                              have GB22 := Aside0.mk gb22
                              have GG22 := Aside0.mk HG22
                              clear gb22 gl22 HG22
                              obtain ⟨hx22_0, hf22_0⟩ := Kd.R_celln 0 HO_7.out ((rd l2 x18_1) : Int) p22 q22
                              replace p22 := eq_true p22
                              replace q22 := eq_true q22
                              obtain ⟨hy29_, hz29_⟩ := Kd.R_celln 0 HO_7.out ((rd l2 x18_1) : Int) (of_decide_eq_true (by first | (with_reducible assumption) | assumption)) (of_decide_eq_true (by first | (with_reducible assumption) | assumption))
                              have HP29 := Kd.R_putg HO_7.out ((rd l2 x18_1) : Int) (x8_1.length : Int)
                              try go_wp2_with (first | ((with_reducible refine gate_store (t := 2) (p := 45) rfl ?_); refine store_event (t := 2) (p := 45) (v := ?vo_w30) (w1 := (w28.setCell ⟨go22, ((rd l2 x18_1) : Int).toNat, none⟩ (.int .i64 (x8_1.length : Int)))) ?hg ?ho ?hn ?hr ?_; (case ho => rfl); (case hg => rfl); (case hn => rfl); (case hr => first | (go_simp; done) | (go_simp; rfl)); intro w30 hw; have hg : w28.grownBy w30 (some go22) := (by rw [hw]; exact HP29.2); have hp_ : Kd.R (Kd.int .i64) 2 w30 w.heap.size (fun k_ => some k_ ≠ (.slice (some ⟨go20, 0, none⟩) y179.length co26 : Value).ownBlock) (.slice (some ⟨go22, 0, none⟩) x7_1.length co22) y185 := (by rw [hw, Ny185.out]; exact HP29.1); clear HP29; have n0_ := Aside0.mk (hp_); have n1_ := Aside0.mk (Kd.R_after (v := (.slice (some ⟨go22, 0, none⟩) x7_1.length co22)) (v1 := (.slice (some ⟨go22, 0, none⟩) x7_1.length co22)) (ok := (fun _ => True)) (by (with_reducible repeat (first | apply Kd.R_alloc | apply Kd.R_drewN | apply Kd.R_drew)); exact Kd.R_mono HO181.out (fun _ hk => ⟨trivial, hk⟩)) hg (.inl rfl)); have n2_ := Aside0.mk ((by rw [hw]; exact below_set (HB.out) GB22.out : Below w.heap.size w w30)); clear HO_7; clear HO181; clear HB; have HO_7 := n0_; have HO181 := n1_; have HB := n2_; clear n0_ n1_ n2_; clear hg hw hp_))
                              go_roundg k1
                              case measure => have := HK1.out; omega
                              case rel => exact ⟨(y185), (y184), (wrap64 (x18_1 + 1)), (by first | rfl | (simp; done) | (simp [*]; done)), H', ⟨by have := HK1.out; omega⟩, ⟨by (with_reducible repeat (first | apply Kd.R_alloc | apply Kd.R_drewN | apply Kd.R_drew)); exact HO_7.out⟩, ⟨by (with_reducible repeat (first | apply Kd.R_alloc | apply Kd.R_drewN | apply Kd.R_drew)); exact Kd.R_mono HO181.out (fun _ hk => hk.2)⟩, ⟨by repeat (first | (with_reducible first | exact HB.out | apply below_alloc | apply pw_below_drewN | apply below_drew1) | exact HB.out)⟩⟩
                            · rw [if_neg c21] at H
                              exact absurd H (by simp)
                          · rw [if_neg c19] at H
                            exact absurd H (by simp)
                        · rw [if_neg c18] at H
                          exact absurd H (by simp)
                      · rw [if_neg c17] at H
                        exact absurd H (by simp)
                    · rw [if_neg c16] at H
                      exact absurd H (by simp)
                  · rw [if_neg c15] at H
                    exact absurd H (by simp)
                · rw [if_neg c14] at H
                  have c14b0 : decide (t178 < 0) = false := decide_eq_false c14
                  clear c14
                  by_cases c31 : 0 ≤ t178
                  · rw [if_pos c31] at H
                    have c31b0 : decide (0 ≤ t178) = true := decide_eq_true c31
                    clear c31
                    by_cases c32 : t178 < (x8_1.length : Int)
                    · rw [if_pos c32] at H
                      have c32b0 : decide (t178 < (x8_1.length : Int)) = true := decide_eq_true c32
                      clear c32
                      by_cases c33 : 0 ≤ (rd l2 x18_1)
                      · rw [if_pos c33] at H
                        have c33b0 : decide (0 ≤ (rd l2 x18_1)) = true := decide_eq_true c33
                        clear c33
                        by_cases c34 : (rd l2 x18_1) < (l1.length : Int)
                        · rw [if_pos c34] at H
                          have c34b0 : decide ((rd l2 x18_1) < (l1.length : Int)) = true := decide_eq_true c34
                          clear c34
                          obtain ⟨y188, hy188⟩ : ∃ y_ : List Int, y_ = (x8_1.set (t178 : Int).toNat (wrap64 ((rd x8_1 t178) + (rd l1 (rd l2 x18_1))))) := ⟨_, rfl⟩
                          replace H : (if (rd l2 x18_1) < (x7_1.length : Int) then (impl_firstFit.l0 k1 a0 l1 (x7_1.set ((rd l2 x18_1) : Int).toNat t178) y188 l2 (l2.length : Int) (wrap64 (x18_1 + 1))) else (none)) = some r := by first | (rw [hy188]; with_reducible exact H) | (have H2_ := (Option.bind_some _ _).symm.trans H; rw [hy188]; with_reducible exact H2_) | (have H2_ := (Option.bind_some _ _).symm.trans H; with_reducible exact H2_) | with_reducible exact H | (rw [hy188]; exact H) | exact H
                          have Ny188 := Aside0.mk hy188
                          clear hy188
                          by_cases c36 : (rd l2 x18_1) < (x7_1.length : Int)
                          · rw [if_pos c36] at H
                            have c36b0 : decide ((rd l2 x18_1) < (x7_1.length : Int)) = true := decide_eq_true c36
                            clear c36
                            obtain ⟨y189, hy189⟩ : ∃ y_ : List Int, y_ = (x7_1.set ((rd l2 x18_1) : Int).toNat t178) := ⟨_, rfl⟩
                            replace H : (impl_firstFit.l0 k1 a0 l1 y189 y188 l2 (l2.length : Int) (wrap64 (x18_1 + 1))) = some r := by first | (rw [hy189]; with_reducible exact H) | (have H2_ := (Option.bind_some _ _).symm.trans H; rw [hy189]; with_reducible exact H2_) | (have H2_ := (Option.bind_some _ _).symm.trans H; with_reducible exact H2_) | with_reducible exact H | (rw [hy189]; exact H) | exact H
                            have Ny189 := Aside0.mk hy189
                            clear hy189
                            have H' := Aside0.mk H
                            clear H
                            have p177 : 0 ≤ (x18_1 : Int) := of_decide_eq_true (by first | (with_reducible assumption) | assumption)
                            have q177 : x18_1 < (l2.length : Int) := of_decide_eq_true (by first | (with_reducible assumption) | assumption)
                            obtain ⟨ad177, e177, hx177_0⟩ := Kd.at_int HR2.out x18_1 p177 q177
                            cases e177
                            replace hx177_0 := (HB.out.cell (World.block_lt_of_cell? w _ hx177_0)).trans hx177_0
                            replace p177 := eq_true p177
                            replace q177 := eq_true q177
                            obtain ⟨Ao38, co38, eo38⟩ := Kd.R_slice HO_8.out
                            subst eo38
                            try go_wp2_with (first | ((with_reducible refine gate_dst (N := 10) rfl ?_); refine box_event ?hg (N := 10) ?hd (cs := #[.int .i64 0]) (t := 3) ?hr ?_; (case hd => rfl); (case hg => rfl); (case hr => first | (go_simp; done) | (go_simp; rfl)); intro gb10 hg10_ w10 hbox hb; have n0_ := Aside0.mk (Kd.R_below HO_7.out hb); have n1_ := Aside0.mk (Kd.R_below HO_8.out hb); have GB10 := Aside0.mk (show w.heap.size ≤ gb10 by rw [hg10_]; exact below_size HB.out); have n2_ := Aside0.mk (below_step HB.out hb); clear HO_7 HO_8 HB; have HO_7 := n0_; have HO_8 := n1_; have HB := n2_; clear n0_ n1_ n2_; have BX10 := Aside0.mk hbox; have hcz10_ : w10.cell? ⟨gb10, 0, none⟩ = some (.int .i64 0) := (blk_cell hbox 0).trans rfl; have hfz10_ := blk_frozen hbox 0; clear hbox hb hg10_) | ((with_reducible refine gate_callee (f := 96) rfl ?_); refine goesL_ (some 24) rfl rfl Try.func96 (by kernel_rfl) rfl #[.slice Ao38 x8_1.length co38, .func (.func 97) #[] #[.pointer (some ⟨wz.heap.size + 1, 0, none⟩), .pointer (some ⟨gb10, 0, none⟩), .pointer (some ⟨wz.heap.size, 0, none⟩)]] rfl (by (try simp only [List.map_toArray, List.map_cons, List.map_nil]); first | done | rfl | (simp only [List.length_drop, List.length_take]; rfl)) ?_; have n0_ := Aside0.mk (Kd.R_set HO_7.out BX10.out (by intro q hq; simp [Kd.E, Kd.int, Kd.scalar] at hq; omega) 0 (.int .i64 (rd l2 x18_1))); have n1_ := Aside0.mk (Kd.R_set HO_8.out BX10.out (by intro q hq; simp [Kd.E, Kd.int, Kd.scalar] at hq; omega) 0 (.int .i64 (rd l2 x18_1))); have n2_ := Aside0.mk (below_set (j := 0) (v := .int .i64 (rd l2 x18_1)) HB.out GB10.out); have n3_ := Aside0.mk (blk_put BX10.out 0 (.int .i64 (rd l2 x18_1)) (cs' := #[.int .i64 (rd l2 x18_1)]) rfl); clear HO_7 HO_8 HB BX10 hcz10_ hfz10_; generalize (w10.setCell ⟨gb10, 0, none⟩ (.int .i64 (rd l2 x18_1))) = wq at n0_ n1_ n2_ n3_ ⊢; have hp_ : 0 ≤ (rd l2 x18_1) := of_decide_eq_true (by first | (with_reducible assumption) | assumption); have hq_ : (rd l2 x18_1) < (l1.length : Int) := of_decide_eq_true (by first | (with_reducible assumption) | assumption); have hcall_ := Hand.indexFuncI (fun n_ => decide (wrap64 (n_ + (rd l1 (rd l2 x18_1))) ≤ a0)) 97 _ (enters_of Try.func97 (by kernel_rfl) rfl) Ao38 co38 x8_1 wq (Kd.R_reads' n1_.out).2.2 (Hand.firstFit_pred a0 A1 c1 l1 (rd l2 x18_1) wq (wz.heap.size + 1) gb10 wz.heap.size ((n2_.out.cell (World.block_lt_of_cell? w _ L4.out)).trans L4.out) ((blk_cell n3_.out 0).trans rfl) ((n2_.out.cell (World.block_lt_of_cell? w _ L3.out)).trans L3.out) (Kd.C_below HR1.out n2_.out) hp_ hq_); rw [show Hand.idxBy (fun n_ => decide (wrap64 (n_ + (rd l1 (rd l2 x18_1))) ≤ a0)) x8_1 0 = t178 from Option.some.inj A13.out] at hcall_; clear hp_ hq_; refine hcall_.mono ?_; clear hcall_; rintro e wr ⟨rfl, hb'⟩; refine ⟨_, rfl, ?_⟩; have m0_ := Aside0.mk (Kd.R_below n0_.out hb'); have m1_ := Aside0.mk (Kd.R_below n1_.out hb'); have m2_ := Aside0.mk (below_step n2_.out hb'); have BX10 := Aside0.mk (blk_below n3_.out hb'); clear n0_ n1_ n2_ n3_ hb'; have HO_7 := m0_; have HO_8 := m1_; have HB := m2_; clear m0_ m1_ m2_))
                            have n0_ := Aside0.mk (Kd.R_drew HO_7.out)
                            have n1_ := Aside0.mk (Kd.R_drew HO_8.out)
                            have n2_ := Aside0.mk (below_drew1 HB.out)
                            have BX10 := Aside0.mk (blk_drew BX10.out)
                            clear HO_7
                            clear HO_8
                            clear HB
                            have HO_7 := n0_
                            have HO_8 := n1_
                            have HB := n2_
                            clear n0_ n1_ n2_
                            have p186 : 0 ≤ (t178 : Int) := of_decide_eq_true (by first | (with_reducible assumption) | assumption)
                            have q186 : t178 < (x8_1.length : Int) := of_decide_eq_true (by first | (with_reducible assumption) | assumption)
                            obtain ⟨ad186, e186, hx186_0⟩ := Kd.at_int (Kd.R_reads' HO_8.out).2.2 t178 p186 q186
                            cases e186
                            replace p186 := eq_true p186
                            replace q186 := eq_true q186
                            have p187 : 0 ≤ ((rd l2 x18_1) : Int) := of_decide_eq_true (by first | (with_reducible assumption) | assumption)
                            have q187 : (rd l2 x18_1) < (l1.length : Int) := of_decide_eq_true (by first | (with_reducible assumption) | assumption)
                            obtain ⟨ad187, e187, hx187_0⟩ := Kd.at_int HR1.out (rd l2 x18_1) p187 q187
                            have hw187_0 := hx187_0
                            cases e187
                            replace hx187_0 := (HB.out.cell (World.block_lt_of_cell? w _ hx187_0)).trans hx187_0
                            replace p187 := eq_true p187
                            replace q187 := eq_true q187
                            have p35 : 0 ≤ (t178 : Int) := of_decide_eq_true (by first | (with_reducible assumption) | assumption)
                            have q35 : (t178 : Int) < ((x8_1.length : Int) : Int) := of_decide_eq_true (by first | (with_reducible assumption) | assumption)
                            obtain ⟨go35, co35, eo35, gb35, gl35, cl35, HG35⟩ := Kd.R_form HO_8.out (by omega)
                            (first | cases eo35 | (injection eo35 with ea_ en_ ec_; (first | subst ea_ | (injection ea_ with ea_; subst ea_)); subst ec_; clear en_))
                            have GB35 := Aside0.mk gb35
                            have GG35 := Aside0.mk HG35
                            clear gb35 gl35 HG35
                            (first | simp only [add_plain] at hx186_0 | skip)
                            obtain ⟨hx35_0, hf35_0⟩ := Kd.R_celln 0 HO_8.out (t178 : Int) p35 q35
                            replace p35 := eq_true p35
                            replace q35 := eq_true q35
                            have HP40 := Kd.R_putn HO_8.out (t178 : Int) (wrap64 ((rd x8_1 t178) + (rd l1 (rd l2 x18_1))))
                            rw [← Ny188.out] at HP40
                            have HQ40 := Aside0.mk HP40
                            clear HP40
                            refine start_ (n := 11) (S := fun w' => w'.cell? ⟨go35, (t178).toNat, none⟩ = some (.int .i64 (rd x8_1 t178)) ∧ w'.cell? (ad187.add ((rd l2 x18_1)).toNat) = some (.int .i64 (rd l1 (rd l2 x18_1))) ∧ w'.cell? ⟨wz.heap.size + 1, 0, none⟩ = some (.slice (some ad187) l1.length c1) ∧ w'.cell? ⟨gb10, 0, none⟩ = some (.int .i64 (rd l2 x18_1))) (ds := [10]) #[false, false, false, false, false, false, false, false, false, false, false] (by kernel_rfl) rfl rfl ⟨hx186_0, ((HB.out.cell (World.block_lt_of_cell? w _ hw187_0)).trans hw187_0), ((HB.out.cell (World.block_lt_of_cell? w _ L4.out)).trans L4.out), ((blk_cell BX10.out 0).trans rfl)⟩ (fun hHeld => ?_); refine with_tabW impl_firstFit.tab9 impl_firstFit.bits9 (fun HT_ HW_ => ?_)
                            generalize wr.drew = w39 at HO_7 HO_8 HB BX10 GG35 HQ40 hf35_0 hx186_0 hx187_0 hx35_0 hHeld ⊢
                            refine pure_ (i := 0) (N := some 32) (v := ?_) (a' := ?_) #[true, false, false, false, false, false, false, false, false, false, false] rfl rfl (any_of HT_.out (by kernel_rfl)) (fun _ _ _ h => h) (Or.inl ⟨by rfl, ?_⟩) ?_ ?_
                            rotate_left
                            · intro w'
                              go_simp
                              with_reducible rfl
                            rotate_left
                            · simp only [Act.put, List.setIfInBounds_toArray, List.set_cons_zero, List.set_cons_succ, i64_w, i32_w]
                              rfl
                            refine pure_ (i := 1) (N := some 33) (v := ?_) (a' := ?_) #[true, true, false, false, false, false, false, false, false, false, false] rfl rfl (any_of HT_.out (by kernel_rfl)) (fun _ _ _ h => h) (Or.inl ⟨by rfl, ?_⟩) ?_ ?_
                            rotate_left
                            · intro w'
                              go_simp
                              with_reducible rfl
                            rotate_left
                            · simp only [Act.put, List.setIfInBounds_toArray, List.set_cons_zero, List.set_cons_succ, i64_w, i32_w]
                              rfl
                            refine pure_ (i := 2) (N := some 34) (v := ?_) (a' := ?_) #[true, true, true, false, false, false, false, false, false, false, false] rfl rfl (any_of HT_.out (by kernel_rfl)) (fun _ _ _ h => h) (Or.inl ⟨by rfl, ?_⟩) ?_ ?_
                            rotate_left
                            · intro w'
                              go_simp
                              with_reducible rfl
                            rotate_left
                            · simp only [Act.put, List.setIfInBounds_toArray, List.set_cons_zero, List.set_cons_succ, i64_w, i32_w]
                              rfl
                            refine take_ (i := 4) (N := some 36) (v := ?_) (a' := ?_) #[true, true, true, false, true, false, false, false, false, false, false] rfl rfl (take_ofW HT_.out HW_.out (by kernel_rfl)) (fun _ _ _ h => h) (Or.inl ⟨by rfl, ?_⟩) hHeld ?_ ?_
                            rotate_left
                            · rintro w' ⟨s0, s1, s2, s3⟩
                              go_simp
                              with_reducible rfl
                            rotate_left
                            · simp only [Act.put, List.setIfInBounds_toArray, List.set_cons_zero, List.set_cons_succ, i64_w, i32_w]
                              rfl
                            refine take_ (i := 5) (N := some 37) (v := ?_) (a' := ?_) #[true, true, true, false, true, true, false, false, false, false, false] rfl rfl (take_ofW HT_.out HW_.out (by kernel_rfl)) (fun _ _ _ h => h) (Or.inl ⟨by rfl, ?_⟩) hHeld ?_ ?_
                            rotate_left
                            · rintro w' ⟨s0, s1, s2, s3⟩
                              go_simp
                              with_reducible rfl
                            rotate_left
                            · simp only [Act.put, List.setIfInBounds_toArray, List.set_cons_zero, List.set_cons_succ, i64_w, i32_w]
                              rfl
                            refine pure_ (i := 6) (N := some 38) (v := ?_) (a' := ?_) #[true, true, true, false, true, true, true, false, false, false, false] rfl rfl (any_of HT_.out (by kernel_rfl)) (fun _ _ _ h => h) (Or.inl ⟨by rfl, ?_⟩) ?_ ?_
                            rotate_left
                            · intro w'
                              go_simp
                              with_reducible rfl
                            rotate_left
                            · simp only [Act.put, List.setIfInBounds_toArray, List.set_cons_zero, List.set_cons_succ, i64_w, i32_w]
                              rfl
                            refine take_ (i := 3) (N := some 35) (v := ?_) (a' := ?_) #[true, true, true, true, true, true, true, false, false, false, false] rfl rfl (take_ofW HT_.out HW_.out (by kernel_rfl)) (fun _ _ _ h => h) (Or.inl ⟨by rfl, ?_⟩) hHeld ?_ ?_
                            rotate_left
                            · rintro w' ⟨s0, s1, s2, s3⟩
                              (try simp only [Int.toNat_natCast] at s0)
                              go_simp
                              with_reducible rfl
                            rotate_left
                            · simp only [Act.put, List.setIfInBounds_toArray, List.set_cons_zero, List.set_cons_succ, i64_w, i32_w]
                              rfl
                            refine take_ (i := 7) (N := some 39) (v := ?_) (a' := ?_) #[true, true, true, true, true, true, true, true, false, false, false] rfl rfl (take_ofW HT_.out HW_.out (by kernel_rfl)) (fun _ _ _ h => h) (Or.inl ⟨by rfl, ?_⟩) hHeld ?_ ?_
                            rotate_left
                            · rintro w' ⟨s0, s1, s2, s3⟩
                              (try simp only [Int.toNat_natCast] at s0)
                              go_simp
                              with_reducible rfl
                            rotate_left
                            · simp only [Act.put, List.setIfInBounds_toArray, List.set_cons_zero, List.set_cons_succ, i64_w, i32_w]
                              rfl
                            refine pure_ (i := 8) (N := some 40) (v := ?_) (a' := ?_) #[true, true, true, true, true, true, true, true, true, false, false] rfl rfl (any_of HT_.out (by kernel_rfl)) (fun _ _ _ h => h) (Or.inl ⟨by rfl, ?_⟩) ?_ ?_
                            rotate_left
                            · intro w'
                              go_simp
                              with_reducible rfl
                            rotate_left
                            · simp only [Act.put, List.setIfInBounds_toArray, List.set_cons_zero, List.set_cons_succ, i64_w, i32_w]
                              rfl
                            refine pure_ (i := 9) (N := some 41) (v := ?_) (a' := ?_) #[true, true, true, true, true, true, true, true, true, true, false] rfl rfl (any_of HT_.out (by kernel_rfl)) (fun _ _ _ h => h) (Or.inl ⟨by rfl, ?_⟩) ?_ ?_
                            rotate_left
                            · intro w'
                              go_simp
                              with_reducible rfl
                            rotate_left
                            · simp only [Act.put, List.setIfInBounds_toArray, List.set_cons_zero, List.set_cons_succ, i64_w, i32_w]
                              rfl
                            (try simp only [Int.toNat_natCast] at hf35_0)
                            refine last_ (i := 10) (N := none) #[true, true, true, true, true, true, true, true, true, true, true] rfl rfl (one_of HT_.out (by kernel_rfl)) (by decide) (fun K hK => ?_)
                            refine skip_ (w1 := ?_) (by rfl) rfl ?_ ?_
                            rotate_left
                            · go_simp
                              rfl
                            refine hK.out _ _ ?_
                            clear hK K
                            refine done_ (done_of HT_.out (by kernel_rfl)) ?_
                            have n0_ : Aside0 (Kd.R (Kd.int .i64) 2 (w39.setCell ⟨go35, (t178 : Int).toNat, none⟩ (.int .i64 (wrap64 ((rd x8_1 t178) + (rd l1 (rd l2 x18_1)))))) w.heap.size (fun k_ => some k_ ≠ (.slice (some ⟨go35, 0, none⟩) x8_1.length co38 : Value).ownBlock) v172 x7_1) := ⟨by (with_reducible repeat (first | apply Kd.R_alloc | apply Kd.R_drewN | apply Kd.R_drew)); exact Kd.R_mono (Kd.R_far (p := ⟨go35, (t178 : Int).toNat, none⟩) (Kd.R_mono HO_7.out (fun k_ hk => (⟨hk, fun e_ => hk (by rw [e_]; rfl)⟩ : _ ∧ k_ ≠ go35))) (fun _ hk => hk.2) (.int .i64 (wrap64 ((rd x8_1 t178) + (rd l1 (rd l2 x18_1)))))) (fun _ hk => hk.1)⟩
                            have n1_ : Aside0 (Kd.R (Kd.int .i64) 2 (w39.setCell ⟨go35, (t178 : Int).toNat, none⟩ (.int .i64 (wrap64 ((rd x8_1 t178) + (rd l1 (rd l2 x18_1)))))) w.heap.size (fun k_ => some k_ ≠ (v172 : Value).ownBlock) (.slice (some ⟨go35, 0, none⟩) x8_1.length co38) y188) := ⟨by (with_reducible repeat (first | apply Kd.R_alloc | apply Kd.R_drewN | apply Kd.R_drew)); exact HQ40.out⟩
                            have n2_ : Aside0 (Below w.heap.size w (w39.setCell ⟨go35, (t178 : Int).toNat, none⟩ (.int .i64 (wrap64 ((rd x8_1 t178) + (rd l1 (rd l2 x18_1))))))) := ⟨by repeat (first | (with_reducible first | exact HB.out | apply below_alloc | apply pw_below_drewN | apply below_drew1 | refine below_set ?_ GB35.out) | exact HB.out)⟩
                            have n3_ : Aside0 ((w39.setCell ⟨go35, (t178 : Int).toNat, none⟩ (.int .i64 (wrap64 ((rd x8_1 t178) + (rd l1 (rd l2 x18_1)))))).heap[gb10]? = some (.cells #[.int .i64 (rd l2 x18_1)] 3 (0, 0))) := ⟨blk_far BX10.out (fun e_ => (Kd.R_ne HO_8.out BX10.out (by decide)) (by rw [e_]; rfl)) _⟩
                            (try clear HO_7)
                            (try clear HO_8)
                            (try clear HB)
                            generalize (w39.setCell ⟨go35, (t178 : Int).toNat, none⟩ (.int .i64 (wrap64 ((rd x8_1 t178) + (rd l1 (rd l2 x18_1)))))) = w41 at n0_ n1_ n2_ n3_ ⊢
                            have HO_7 := n0_
                            have HO_8 := n1_
                            have HB := n2_
                            clear n0_ n1_ n2_
                            clear BX10
                            have BX10 := n3_
                            clear n3_
                            have hcz10_ : w41.cell? ⟨gb10, 0, none⟩ = some (.int .i64 (rd l2 x18_1)) := (blk_cell BX10.out 0).trans rfl
                            have p37 : 0 ≤ ((rd l2 x18_1) : Int) := of_decide_eq_true (by first | (with_reducible assumption) | assumption)
                            have q37 : ((rd l2 x18_1) : Int) < ((x7_1.length : Int) : Int) := of_decide_eq_true (by first | (with_reducible assumption) | assumption)
                            obtain ⟨go37, co37, eo37, gb37, gl37, cl37, HG37⟩ := Kd.R_form HO_7.out (by omega)
                            (first | cases eo37 | (injection eo37 with ea_ en_ ec_; (first | subst ea_ | (injection ea_ with ea_; subst ea_)); subst ec_; clear en_))
                            have GB37 := Aside0.mk gb37
                            have GG37 := Aside0.mk HG37
                            clear gb37 gl37 HG37
                            obtain ⟨hx37_0, hf37_0⟩ := Kd.R_celln 0 HO_7.out ((rd l2 x18_1) : Int) p37 q37
                            replace p37 := eq_true p37
                            replace q37 := eq_true q37
                            obtain ⟨hy42_, hz42_⟩ := Kd.R_celln 0 HO_7.out ((rd l2 x18_1) : Int) (of_decide_eq_true (by first | (with_reducible assumption) | assumption)) (of_decide_eq_true (by first | (with_reducible assumption) | assumption))
                            have HP42 := Kd.R_putg HO_7.out ((rd l2 x18_1) : Int) t178
                            try go_wp2_with (first | ((with_reducible refine gate_store (t := 2) (p := 45) rfl ?_); refine store_event (t := 2) (p := 45) (v := ?vo_w43) (w1 := (w41.setCell ⟨go37, ((rd l2 x18_1) : Int).toNat, none⟩ (.int .i64 t178))) ?hg ?ho ?hn ?hr ?_; (case ho => rfl); (case hg => rfl); (case hn => rfl); (case hr => first | (go_simp; done) | (go_simp; rfl)); intro w43 hw; have hg : w41.grownBy w43 (some go37) := (by rw [hw]; exact HP42.2); have hp_ : Kd.R (Kd.int .i64) 2 w43 w.heap.size (fun k_ => some k_ ≠ (.slice (some ⟨go35, 0, none⟩) x8_1.length co38 : Value).ownBlock) (.slice (some ⟨go37, 0, none⟩) x7_1.length co37) y189 := (by rw [hw, Ny189.out]; exact HP42.1); clear HP42; have n0_ := Aside0.mk (hp_); have n1_ := Aside0.mk (Kd.R_after (v := (.slice (some ⟨go37, 0, none⟩) x7_1.length co37)) (v1 := (.slice (some ⟨go37, 0, none⟩) x7_1.length co37)) (ok := (fun _ => True)) (by (with_reducible repeat (first | apply Kd.R_alloc | apply Kd.R_drewN | apply Kd.R_drew)); exact Kd.R_mono HO_8.out (fun _ hk => ⟨trivial, hk⟩)) hg (.inl rfl)); have n2_ := Aside0.mk ((by rw [hw]; exact below_set (HB.out) GB37.out : Below w.heap.size w w43)); clear HO_7; clear HO_8; clear HB; have HO_7 := n0_; have HO_8 := n1_; have HB := n2_; clear n0_ n1_ n2_; clear hg hw hp_))
                            go_roundg k1
                            case measure => have := HK1.out; omega
                            case rel => exact ⟨(y189), (y188), (wrap64 (x18_1 + 1)), (by first | rfl | (simp; done) | (simp [*]; done)), H', ⟨by have := HK1.out; omega⟩, ⟨by (with_reducible repeat (first | apply Kd.R_alloc | apply Kd.R_drewN | apply Kd.R_drew)); exact HO_7.out⟩, ⟨by (with_reducible repeat (first | apply Kd.R_alloc | apply Kd.R_drewN | apply Kd.R_drew)); exact Kd.R_mono HO_8.out (fun _ hk => hk.2)⟩, ⟨by repeat (first | (with_reducible first | exact HB.out | apply below_alloc | apply pw_below_drewN | apply below_drew1) | exact HB.out)⟩⟩
                          · rw [if_neg c36] at H
                            exact absurd H (by simp)
                        · rw [if_neg c34] at H
                          exact absurd H (by simp)
                      · rw [if_neg c33] at H
                        exact absurd H (by simp)
                    · rw [if_neg c32] at H
                      exact absurd H (by simp)
                  · rw [if_neg c31] at H
                    exact absurd H (by simp)
              · rw [if_neg c12] at H
                exact absurd H (by simp)
            · rw [if_neg c11] at H
              exact absurd H (by simp)
          · rw [if_neg c10] at H
            have c10b0 : decide (x18_1 < (l2.length : Int)) = false := decide_eq_false c10
            clear c10
            obtain rfl := Option.some.inj H
            go_wp2
            go_ret
            exact ⟨_, by first | rfl | (simp [errW_none, errW_some] <;> rfl) | (simp [*, errW_none, errW_some] <;> rfl), Kd.R_lower (Kd.R_mono HO_7.out (fun _ hk => trivial)) HZ.out.size, HZ.out.trans (HB.out.mono HZ.out.size)⟩
    · rw [if_neg c5] at H
      exact absurd H (by simp)
  · rw [if_neg c4] at H
    exact absurd H (by simp)

end Go.Proofs.Ytaapnjhgkbjdkaa.PFnPackings
