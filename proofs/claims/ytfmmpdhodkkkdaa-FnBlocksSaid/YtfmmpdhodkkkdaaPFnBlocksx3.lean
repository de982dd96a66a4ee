-- Written by wip/inject.py: a contract of each function that the law reaches; those of the stand-ins are proved in this seat's Hand texts
import Derived.Test.YtfmmpdhodkkkdaaPFnBlocksx0
import Derived.Test.YtfmmpdhodkkkdaaPFnBlocksx1
import Derived.Test.YtfmmpdhodkkkdaaPFnBlocksx2
namespace Go.Proofs.Ytfmmpdhodkkkdaa.PFnBlocks
open Go.RowKit Go.Proofs.YtfmmpdhodkkkdaaW.PrintWords Go.Proofs.YtfmmpdhodkkkdaaW.PrintLast Go.Proofs.YtfmmpdhodkkkdaaW.PrintMore
attribute [local go_sem] max2_int min2_int max_two min_two max_three min_three max_four min_four   -- for this text's walks alone
set_option linter.unusedVariables false
set_option linter.unusedSimpArgs false

/-! ### spec_DrawSpineWidth: function 26 -/
def spec_DrawSpineWidth.f (k : Nat) (l0 : List Int) : Option (Int × Int × Int) := (spec_l01From.f k l0).bind fun bt179 => ((spec_l06DrawPages.f bt179.1 bt179.2.1 bt179.2.2).bind fun bt183 => ((spec_l07DrawThickness.f bt179.1 bt183.2.1 bt183.2.2).bind fun bt186 => ((spec_l01Next.f bt179.1 bt186.2.1 bt186.2.2 500).bind fun bt189 => ((spec_l01Next.f bt179.1 bt189.2.1 bt189.2.2 500).bind fun bt192 => ((spec_l01Pick.f bt179.1 bt192.2.1 bt192.2.2 (([(-1), 2000, 2001] : List Int))).bind fun bt198 => ((spec_l01Pick.f bt179.1 bt198.2.1 bt198.2.2 (([0, bt189.1, bt192.1, bt198.1] : List Int))).bind fun bt204 => (some (bt183.1, bt186.1, bt204.1))))))))
theorem spec_DrawSpineWidth.mono : ∀ a0 k, LeO (spec_DrawSpineWidth.f k a0) (spec_DrawSpineWidth.f (k + 1) a0) := by
  intro a0 k
  unfold spec_DrawSpineWidth.f
  repeat' first
      | (with_reducible exact spec_l01From.mono _ _)
      | (with_reducible exact LeO.refl _)
      | (with_reducible exact LeO.none _)
      | (with_reducible refine LeO.ite ?_ ?_)
      | (with_reducible refine LeO.bind ?_ (fun _ => ?_))
      | exact spec_l01From.mono _ _
      | exact LeO.none _
      | refine LeO.ite ?_ ?_
      | refine LeO.bind ?_ (fun _ => ?_)
set_option maxHeartbeats 8000000 in
set_option maxRecDepth 100000 in
theorem spec_DrawSpineWidth.calls (k : Nat) (A0 : Option Addr) (c0 : Nat) (l0 : List Int) (r1 : Int) (r2 : Int) (r3 : Int) (w : World) (hr0 : Kd.C (Kd.int .u8) w A0 l0.length l0) (hc0 : l0.length ≤ c0) (h : spec_DrawSpineWidth.f k l0 = some (r1, r2, r3)) :
    Calls Try.prog 26 #[.slice A0 l0.length c0] w fun e w' => e = .returned (.tuple #[.int .i64 r1, .int .i64 r2, .int .i64 r3]) ∧ Below w.heap.size w w' := by
  have HR0 := Aside0.mk hr0
  have HC0 := Aside0.mk hc0
  clear hr0 hc0
  have HB := Aside0.mk (Below.refl w.heap.size w)
  have H : ((spec_l01From.f k l0).bind fun bt179 => ((spec_l06DrawPages.f bt179.1 bt179.2.1 bt179.2.2).bind fun bt183 => ((spec_l07DrawThickness.f bt179.1 bt183.2.1 bt183.2.2).bind fun bt186 => ((spec_l01Next.f bt179.1 bt186.2.1 bt186.2.2 500).bind fun bt189 => ((spec_l01Next.f bt179.1 bt189.2.1 bt189.2.2 500).bind fun bt192 => ((spec_l01Pick.f bt179.1 bt192.2.1 bt192.2.2 (([(-1), 2000, 2001] : List Int))).bind fun bt198 => ((spec_l01Pick.f bt179.1 bt198.2.1 bt198.2.2 (([0, bt189.1, bt192.1, bt198.1] : List Int))).bind fun bt204 => (some (bt183.1, bt186.1, bt204.1))))))))) = some (r1, r2, r3) := h
  clear h
  replace H := Option.bind_eq_some_iff.mp H
  obtain ⟨⟨t179, t180, t181⟩, A20, H⟩ := H
  replace H : ((spec_l06DrawPages.f t179 t180 t181).bind fun bt183 => ((spec_l07DrawThickness.f t179 bt183.2.1 bt183.2.2).bind fun bt186 => ((spec_l01Next.f t179 bt186.2.1 bt186.2.2 500).bind fun bt189 => ((spec_l01Next.f t179 bt189.2.1 bt189.2.2 500).bind fun bt192 => ((spec_l01Pick.f t179 bt192.2.1 bt192.2.2 (([(-1), 2000, 2001] : List Int))).bind fun bt198 => ((spec_l01Pick.f t179 bt198.2.1 bt198.2.2 (([0, bt189.1, bt192.1, bt198.1] : List Int))).bind fun bt204 => (some (bt183.1, bt186.1, bt204.1)))))))) = some (r1, r2, r3) := H
  have A2 := Aside0.mk A20
  clear A20
  replace H := Option.bind_eq_some_iff.mp H
  obtain ⟨⟨t183, t184, t185⟩, A30, H⟩ := H
  replace H : ((spec_l07DrawThickness.f t179 t184 t185).bind fun bt186 => ((spec_l01Next.f t179 bt186.2.1 bt186.2.2 500).bind fun bt189 => ((spec_l01Next.f t179 bt189.2.1 bt189.2.2 500).bind fun bt192 => ((spec_l01Pick.f t179 bt192.2.1 bt192.2.2 (([(-1), 2000, 2001] : List Int))).bind fun bt198 => ((spec_l01Pick.f t179 bt198.2.1 bt198.2.2 (([0, bt189.1, bt192.1, bt198.1] : List Int))).bind fun bt204 => (some (t183, bt186.1, bt204.1))))))) = some (r1, r2, r3) := H
  have A3 := Aside0.mk A30
  clear A30
  replace H := Option.bind_eq_some_iff.mp H
  obtain ⟨⟨t186, t187, t188⟩, A40, H⟩ := H
  replace H : ((spec_l01Next.f t179 t187 t188 500).bind fun bt189 => ((spec_l01Next.f t179 bt189.2.1 bt189.2.2 500).bind fun bt192 => ((spec_l01Pick.f t179 bt192.2.1 bt192.2.2 (([(-1), 2000, 2001] : List Int))).bind fun bt198 => ((spec_l01Pick.f t179 bt198.2.1 bt198.2.2 (([0, bt189.1, bt192.1, bt198.1] : List Int))).bind fun bt204 => (some (t183, t186, bt204.1)))))) = some (r1, r2, r3) := H
  have A4 := Aside0.mk A40
  clear A40
  replace H := Option.bind_eq_some_iff.mp H
  obtain ⟨⟨t189, t190, t191⟩, A50, H⟩ := H
  replace H : ((spec_l01Next.f t179 t190 t191 500).bind fun bt192 => ((spec_l01Pick.f t179 bt192.2.1 bt192.2.2 (([(-1), 2000, 2001] : List Int))).bind fun bt198 => ((spec_l01Pick.f t179 bt198.2.1 bt198.2.2 (([0, t189, bt192.1, bt198.1] : List Int))).bind fun bt204 => (some (t183, t186, bt204.1))))) = some (r1, r2, r3) := H
  have A5 := Aside0.mk A50
  clear A50
  replace H := Option.bind_eq_some_iff.mp H
  obtain ⟨⟨t192, t193, t194⟩, A60, H⟩ := H
  replace H : ((spec_l01Pick.f t179 t193 t194 (([(-1), 2000, 2001] : List Int))).bind fun bt198 => ((spec_l01Pick.f t179 bt198.2.1 bt198.2.2 (([0, t189, t192, bt198.1] : List Int))).bind fun bt204 => (some (t183, t186, bt204.1)))) = some (r1, r2, r3) := H
  have A6 := Aside0.mk A60
  clear A60
  obtain ⟨y195, hy195⟩ : ∃ y_ : List Int, y_ = (([(-1), 2000, 2001] : List Int)) := ⟨_, rfl⟩
  replace H : ((spec_l01Pick.f t179 t193 t194 y195).bind fun bt198 => ((spec_l01Pick.f t179 bt198.2.1 bt198.2.2 (([0, t189, t192, bt198.1] : List Int))).bind fun bt204 => (some (t183, t186, bt204.1)))) = some (r1, r2, r3) := by first | (rw [hy195]; with_reducible exact H) | (have H2_ := (Option.bind_some _ _).symm.trans H; rw [hy195]; with_reducible exact H2_) | (have H2_ := (Option.bind_some _ _).symm.trans H; with_reducible exact H2_) | with_reducible exact H | (rw [hy195]; exact H) | exact H
  have Ny195 := Aside0.mk hy195
  clear hy195
  replace H := Option.bind_eq_some_iff.mp H
  obtain ⟨⟨t198, t199, t200⟩, A70, H⟩ := H
  replace H : ((spec_l01Pick.f t179 t199 t200 (([0, t189, t192, t198] : List Int))).bind fun bt204 => (some (t183, t186, bt204.1))) = some (r1, r2, r3) := H
  have A7 := Aside0.mk A70
  clear A70
  obtain ⟨y201, hy201⟩ : ∃ y_ : List Int, y_ = (([0, t189, t192, t198] : List Int)) := ⟨_, rfl⟩
  replace H : ((spec_l01Pick.f t179 t199 t200 y201).bind fun bt204 => (some (t183, t186, bt204.1))) = some (r1, r2, r3) := by first | (rw [hy201]; with_reducible exact H) | (have H2_ := (Option.bind_some _ _).symm.trans H; rw [hy201]; with_reducible exact H2_) | (have H2_ := (Option.bind_some _ _).symm.trans H; with_reducible exact H2_) | with_reducible exact H | (rw [hy201]; exact H) | exact H
  have Ny201 := Aside0.mk hy201
  clear hy201
  replace H := Option.bind_eq_some_iff.mp H
  obtain ⟨⟨t204, t205, t206⟩, A80, H⟩ := H
  replace H : (some (t183, t186, t204)) = some (r1, r2, r3) := H
  have A8 := Aside0.mk A80
  clear A80
  simp only [Option.some.injEq, Prod.mk.injEq] at H
  obtain ⟨rfl, rfl, rfl⟩ := H
  go_enter Try.func26, Try.ntmps26
  go_wp2_with (first | ((with_reducible refine gate_callee (f := 113) rfl ?_); refine goesL_ (some 7) rfl rfl Try.func113 (by kernel_rfl) rfl #[.slice A0 l0.length c0] rfl (by (try simp only [List.map_toArray, List.map_cons, List.map_nil]); first | done | rfl | (simp only [List.length_drop, List.length_take]; rfl)) ?_; (with_reducible refine (spec_l01From.calls k _ _ l0 t179 t180 t181 w _ ?side1 ?side2 ?side3 A2.out).mono ?_); (case side1 => repeat (first | (with_reducible first | exact HB.out | apply below_alloc | apply pw_below_drewN | apply below_drew1) | exact HB.out)); (case side2 => exact HR0.out); (case side3 => exact HC0.out); rintro e w9 ⟨g182, rfl, hi, hb, hb2⟩; refine ⟨_, rfl, ?_⟩; have n0_ := Aside0.mk (hb); have n1_ := Aside0.mk (hi); clear HB; have HB := n0_; have HI182 := n1_; clear n0_ n1_; (try clear hb); (try clear hb2); (try clear hk); (try clear hi)) | ((with_reducible refine gate_callee (f := 123) rfl ?_); refine goesL_ (some 9) rfl rfl Try.func123 (by kernel_rfl) rfl #[.pointer (some ⟨g182, 0, none⟩)] rfl (by (try simp only [List.map_toArray, List.map_cons, List.map_nil]); first | done | rfl | (simp only [List.length_drop, List.length_take]; rfl)) ?_; (with_reducible refine (spec_l06DrawPages.calls g182 t179 t180 t181 t183 t184 t185 w _ ?side1 ?side2 A3.out).mono ?_); (case side1 => repeat (first | (with_reducible first | exact HI182.out | apply IsS142.alloc | apply IsS142.drewN | apply IsS142.drew | apply IsS142.set_1 | apply IsS142.set_2) | exact HI182.out)); (case side2 => repeat (first | (with_reducible first | exact HB.out | apply below_alloc | apply pw_below_drewN | apply below_drew1 | refine below_set ?_ (IsS142.ge HI182.out)) | exact HB.out)); rintro e w10 ⟨rfl, hi, hb, hk⟩; refine ⟨_, rfl, ?_⟩; have n0_ := Aside0.mk (hb); have n1_ := Aside0.mk (hi); clear HB; clear HI182; have HB := n0_; have HI182 := n1_; clear n0_ n1_; (try clear hb); (try clear hb2); (try clear hk); (try clear hi)) | ((with_reducible refine gate_callee (f := 124) rfl ?_); refine goesL_ (some 11) rfl rfl Try.func124 (by kernel_rfl) rfl #[.pointer (some ⟨g182, 0, none⟩)] rfl (by (try simp only [List.map_toArray, List.map_cons, List.map_nil]); first | done | rfl | (simp only [List.length_drop, List.length_take]; rfl)) ?_; (with_reducible refine (spec_l07DrawThickness.calls g182 t179 t184 t185 t186 t187 t188 w _ ?side1 ?side2 A4.out).mono ?_); (case side1 => repeat (first | (with_reducible first | exact HI182.out | apply IsS142.alloc | apply IsS142.drewN | apply IsS142.drew | apply IsS142.set_1 | apply IsS142.set_2) | exact HI182.out)); (case side2 => repeat (first | (with_reducible first | exact HB.out | apply below_alloc | apply pw_below_drewN | apply below_drew1 | refine below_set ?_ (IsS142.ge HI182.out)) | exact HB.out)); rintro e w11 ⟨rfl, hi, hb, hk⟩; refine ⟨_, rfl, ?_⟩; have n0_ := Aside0.mk (hb); have n1_ := Aside0.mk (hi); clear HB; clear HI182; have HB := n0_; have HI182 := n1_; clear n0_ n1_; (try clear hb); (try clear hb2); (try clear hk); (try clear hi)) | ((with_reducible refine gate_callee (f := 115) rfl ?_); refine goesL_ (some 14) rfl rfl Try.func115 (by kernel_rfl) rfl #[.pointer (some ⟨g182, 0, none⟩), .int .i64 500] rfl (by (try simp only [List.map_toArray, List.map_cons, List.map_nil]); first | done | rfl | (simp only [List.length_drop, List.length_take]; rfl)) ?_; (with_reducible refine (spec_l01Next.calls g182 t179 t187 t188 500 t189 t190 t191 w _ ?side1 ?side2 A5.out).mono ?_); (case side1 => repeat (first | (with_reducible first | exact HI182.out | apply IsS142.alloc | apply IsS142.drewN | apply IsS142.drew | apply IsS142.set_1 | apply IsS142.set_2) | exact HI182.out)); (case side2 => repeat (first | (with_reducible first | exact HB.out | apply below_alloc | apply pw_below_drewN | apply below_drew1 | refine below_set ?_ (IsS142.ge HI182.out)) | exact HB.out)); rintro e w12 ⟨rfl, hi, hb, hk⟩; refine ⟨_, rfl, ?_⟩; have n0_ := Aside0.mk (hb); have n1_ := Aside0.mk (hi); clear HB; clear HI182; have HB := n0_; have HI182 := n1_; clear n0_ n1_; (try clear hb); (try clear hb2); (try clear hk); (try clear hi)) | ((with_reducible refine gate_callee (f := 115) rfl ?_); refine goesL_ (some 16) rfl rfl Try.func115 (by kernel_rfl) rfl #[.pointer (some ⟨g182, 0, none⟩), .int .i64 500] rfl (by (try simp only [List.map_toArray, List.map_cons, List.map_nil]); first | done | rfl | (simp only [List.length_drop, List.length_take]; rfl)) ?_; (with_reducible refine (spec_l01Next.calls g182 t179 t190 t191 500 t192 t193 t194 w _ ?side1 ?side2 A6.out).mono ?_); (case side1 => repeat (first | (with_reducible first | exact HI182.out | apply IsS142.alloc | apply IsS142.drewN | apply IsS142.drew | apply IsS142.set_1 | apply IsS142.set_2) | exact HI182.out)); (case side2 => repeat (first | (with_reducible first | exact HB.out | apply below_alloc | apply pw_below_drewN | apply below_drew1 | refine below_set ?_ (IsS142.ge HI182.out)) | exact HB.out)); rintro e w13 ⟨rfl, hi, hb, hk⟩; refine ⟨_, rfl, ?_⟩; have n0_ := Aside0.mk (hb); have n1_ := Aside0.mk (hi); clear HB; clear HI182; have HB := n0_; have HI182 := n1_; clear n0_ n1_; (try clear hb); (try clear hb2); (try clear hk); (try clear hi)) | ((with_reducible refine gate_dst (N := 18) rfl ?_); refine Kd.R_lit (Kd.int .i64) _ 2 ?hg (N := 18) ?hd (xs := ([(-1), 2000, 2001] : List Int)) (inner := [.int .i64 (-1), .int .i64 2000, .int .i64 2001]) (ok := fun _ => True) (okp := fun _ => True) ?hr ?hp (fun _ hk => hk) trivial (Below.refl _ _) (Nat.le_refl _) (by simp) ?_; (case hd => rfl); (case hg => rfl); (case hr => first | (go_simp; done) | (go_simp; rfl)); (case hp => exact (Reps.one (show Kd.M (Kd.int .i64) _ _ _ (-1) [.int .i64 (-1)] from rfl) (Reps.one (show Kd.M (Kd.int .i64) _ _ _ 2000 [.int .i64 2000] from rfl) (Reps.one (show Kd.M (Kd.int .i64) _ _ _ 2001 [.int .i64 2001] from rfl) (Reps.none _ _))))); intro v196 w14 ho15 hb hg_ hnew_; clear hg_ hnew_; (first | rw [← Ny195.out] at ho15 | (simp only [Int.reduceToNat] at ho15; rw [← Ny195.out] at ho15)); have n0_ := Aside0.mk (Kd.R_lower ho15 (below_size (by repeat (first | (with_reducible first | exact HB.out | apply below_alloc | apply pw_below_drewN | apply below_drew1 | refine below_set ?_ (IsS142.ge HI182.out)) | exact HB.out)))); have n1_ := Aside0.mk (IsS142.below (by repeat (first | (with_reducible first | exact HI182.out | apply IsS142.alloc | apply IsS142.drewN | apply IsS142.drew | apply IsS142.set_1 | apply IsS142.set_2) | exact HI182.out)) hb); have n2_ := Aside0.mk (below_step (by repeat (first | (with_reducible first | exact HB.out | apply below_alloc | apply pw_below_drewN | apply below_drew1 | refine below_set ?_ (IsS142.ge HI182.out)) | exact HB.out)) hb); clear HI182; clear HB; have HO197 := n0_; have HI182 := n1_; have HB := n2_; clear n0_ n1_ n2_; clear hb ho15; obtain ⟨Ao16, co16, eo16⟩ := Kd.R_slice HO197.out; subst eo16) | ((with_reducible refine gate_callee (f := 116) rfl ?_); refine goesL_ (some 19) rfl rfl Try.func116 (by kernel_rfl) rfl #[.pointer (some ⟨g182, 0, none⟩), .slice Ao16 y195.length co16] rfl (by (try simp only [List.map_toArray, List.map_cons, List.map_nil]); first | done | rfl | (simp only [List.length_drop, List.length_take]; rfl)) ?_; (with_reducible refine (spec_l01Pick.calls g182 t179 t193 t194 _ _ y195 t198 t199 t200 w _ ?side1 ?side2 ?side3 ?side4 ?side5 A7.out).mono ?_); (case side1 => repeat (first | (with_reducible first | exact HI182.out | apply IsS142.alloc | apply IsS142.drewN | apply IsS142.drew | apply IsS142.set_1 | apply IsS142.set_2) | exact HI182.out)); (case side2 => repeat (first | (with_reducible first | exact HB.out | apply below_alloc | apply pw_below_drewN | apply below_drew1 | refine below_set ?_ (IsS142.ge HI182.out)) | exact HB.out)); (case side3 => repeat (first | exact (Kd.R_reads' HO197.out).2.2 | (with_reducible refine Kd.C_alloc ?_ _) | (with_reducible refine Kd.C_drewN ?_ _) | (with_reducible refine Kd.C_drew ?_))); (case side4 => exact (Kd.R_reads' HO197.out).2.1); (case side5 => exact far_slice (IsS142.own_ne HI182.out HO197.out (by decide))); rintro e w17 ⟨rfl, hi, hb, hk⟩; refine ⟨_, rfl, ?_⟩; have n0_ := Aside0.mk (Kd.R_mono (Kd.R_keep (IsS142.apart (show IsS142 w _ g182 t179 t193 t194 from by repeat (first | (with_reducible first | exact HI182.out | apply IsS142.alloc | apply IsS142.drewN | apply IsS142.drew | apply IsS142.set_1 | apply IsS142.set_2) | exact HI182.out)) (by (with_reducible repeat (first | apply Kd.R_alloc | apply Kd.R_drewN | apply Kd.R_drew)); exact HO197.out) (by decide)) hk (fun _ h => h.2)) (fun _ h => h.1)); have n1_ := Aside0.mk (hb); have n2_ := Aside0.mk (hi); clear HO197; clear HB; clear HI182; have HO197 := n0_; have HB := n1_; have HI182 := n2_; clear n0_ n1_ n2_; (try clear hb); (try clear hb2); (try clear hk); (try clear hi)) | ((with_reducible refine gate_dst (N := 20) rfl ?_); refine Kd.R_lit (Kd.int .i64) _ 2 ?hg (N := 20) ?hd (xs := ([0, t189, t192, t198] : List Int)) (inner := [.int .i64 0, .int .i64 t189, .int .i64 t192, .int .i64 t198]) (ok := fun _ => True) (okp := fun _ => True) ?hr ?hp (fun _ hk => hk) trivial (Below.refl _ _) (Nat.le_refl _) (by simp) ?_; (case hd => rfl); (case hg => rfl); (case hr => first | (go_simp; done) | (go_simp; rfl)); (case hp => exact (Reps.one (show Kd.M (Kd.int .i64) _ _ _ 0 [.int .i64 0] from rfl) (Reps.one (show Kd.M (Kd.int .i64) _ _ _ t189 [.int .i64 t189] from rfl) (Reps.one (show Kd.M (Kd.int .i64) _ _ _ t192 [.int .i64 t192] from rfl) (Reps.one (show Kd.M (Kd.int .i64) _ _ _ t198 [.int .i64 t198] from rfl) (Reps.none _ _)))))); intro v202 w18 ho19 hb hg_ hnew_; clear hg_ hnew_; (first | rw [← Ny201.out] at ho19 | (simp only [Int.reduceToNat] at ho19; rw [← Ny201.out] at ho19)); have n0_ := Aside0.mk (Kd.R_elder' (by (with_reducible repeat (first | apply Kd.R_alloc | apply Kd.R_drewN | apply Kd.R_drew)); exact HO197.out) (Kd.R_base ho19) hb); have n1_ := Aside0.mk (Kd.R_lower (Kd.R_new' ho19 (Kd.R_lt (by (with_reducible repeat (first | apply Kd.R_alloc | apply Kd.R_drewN | apply Kd.R_drew)); exact HO197.out))) (below_size (by repeat (first | (with_reducible first | exact HB.out | apply below_alloc | apply pw_below_drewN | apply below_drew1 | refine below_set ?_ (IsS142.ge HI182.out)) | exact HB.out)))); have n2_ := Aside0.mk (IsS142.below (by repeat (first | (with_reducible first | exact HI182.out | apply IsS142.alloc | apply IsS142.drewN | apply IsS142.drew | apply IsS142.set_1 | apply IsS142.set_2) | exact HI182.out)) hb); have n3_ := Aside0.mk (below_step (by repeat (first | (with_reducible first | exact HB.out | apply below_alloc | apply pw_below_drewN | apply below_drew1 | refine below_set ?_ (IsS142.ge HI182.out)) | exact HB.out)) hb); clear HO197; clear HI182; clear HB; have HO197 := n0_; have HO203 := n1_; have HI182 := n2_; have HB := n3_; clear n0_ n1_ n2_ n3_; clear hb ho19; obtain ⟨Ao20, co20, eo20⟩ := Kd.R_slice HO203.out; subst eo20) | ((with_reducible refine gate_callee (f := 116) rfl ?_); refine goesL_ (some 21) rfl rfl Try.func116 (by kernel_rfl) rfl #[.pointer (some ⟨g182, 0, none⟩), .slice Ao20 y201.length co20] rfl (by (try simp only [List.map_toArray, List.map_cons, List.map_nil]); first | done | rfl | (simp only [List.length_drop, List.length_take]; rfl)) ?_; (with_reducible refine (spec_l01Pick.calls g182 t179 t199 t200 _ _ y201 t204 t205 t206 w _ ?side1 ?side2 ?side3 ?side4 ?side5 A8.out).mono ?_); (case side1 => repeat (first | (with_reducible first | exact HI182.out | apply IsS142.alloc | apply IsS142.drewN | apply IsS142.drew | apply IsS142.set_1 | apply IsS142.set_2) | exact HI182.out)); (case side2 => repeat (first | (with_reducible first | exact HB.out | apply below_alloc | apply pw_below_drewN | apply below_drew1 | refine below_set ?_ (IsS142.ge HI182.out)) | exact HB.out)); (case side3 => repeat (first | exact (Kd.R_reads' HO203.out).2.2 | (with_reducible refine Kd.C_alloc ?_ _) | (with_reducible refine Kd.C_drewN ?_ _) | (with_reducible refine Kd.C_drew ?_))); (case side4 => exact (Kd.R_reads' HO203.out).2.1); (case side5 => exact far_slice (IsS142.own_ne HI182.out HO203.out (by decide))); rintro e w21 ⟨rfl, hi, hb, hk⟩; refine ⟨_, rfl, ?_⟩; have n0_ := Aside0.mk (Kd.R_mono (Kd.R_keep (IsS142.apart (show IsS142 w _ g182 t179 t199 t200 from by repeat (first | (with_reducible first | exact HI182.out | apply IsS142.alloc | apply IsS142.drewN | apply IsS142.drew | apply IsS142.set_1 | apply IsS142.set_2) | exact HI182.out)) (by (with_reducible repeat (first | apply Kd.R_alloc | apply Kd.R_drewN | apply Kd.R_drew)); exact HO197.out) (by decide)) hk (fun _ h => h.2)) (fun _ h => h.1)); have n1_ := Aside0.mk (Kd.R_mono (Kd.R_keep (IsS142.apart (show IsS142 w _ g182 t179 t199 t200 from by repeat (first | (with_reducible first | exact HI182.out | apply IsS142.alloc | apply IsS142.drewN | apply IsS142.drew | apply IsS142.set_1 | apply IsS142.set_2) | exact HI182.out)) (by (with_reducible repeat (first | apply Kd.R_alloc | apply Kd.R_drewN | apply Kd.R_drew)); exact HO203.out) (by decide)) hk (fun _ h => h.2)) (fun _ h => h.1)); have n2_ := Aside0.mk (hb); have n3_ := Aside0.mk (hi); clear HO197; clear HO203; clear HB; clear HI182; have HO197 := n0_; have HO203 := n1_; have HB := n2_; have HI182 := n3_; clear n0_ n1_ n2_ n3_; (try clear hb); (try clear hb2); (try clear hk); (try clear hi)))
  go_ret3
  exact ⟨by first | rfl | (simp [errW_none, errW_some] <;> rfl) | (simp [*, errW_none, errW_some] <;> rfl), by repeat (first | (with_reducible first | exact HB.out | apply below_alloc | apply pw_below_drewN | apply below_drew1 | refine below_set ?_ (IsS142.ge HI182.out)) | exact HB.out)⟩

/-! ### spec_DrawBlockThickness: function 29 -/
def spec_DrawBlockThickness.f (k : Nat) (l0 : List Int) : Option (Int × Int) := (spec_l01From.f k l0).bind fun bt207 => ((spec_l06DrawPages.f bt207.1 bt207.2.1 bt207.2.2).bind fun bt211 => ((spec_l07DrawThickness.f bt207.1 bt211.2.1 bt211.2.2).bind fun bt214 => (some (bt211.1, bt214.1))))
theorem spec_DrawBlockThickness.mono : ∀ a0 k, LeO (spec_DrawBlockThickness.f k a0) (spec_DrawBlockThickness.f (k + 1) a0) := by
  intro a0 k
  unfold spec_DrawBlockThickness.f
  repeat' first
      | (with_reducible exact spec_l01From.mono _ _)
      | (with_reducible exact LeO.refl _)
      | (with_reducible exact LeO.none _)
      | (with_reducible refine LeO.ite ?_ ?_)
      | (with_reducible refine LeO.bind ?_ (fun _ => ?_))
      | exact spec_l01From.mono _ _
      | exact LeO.none _
      | refine LeO.ite ?_ ?_
      | refine LeO.bind ?_ (fun _ => ?_)
set_option maxHeartbeats 8000000 in
set_option maxRecDepth 100000 in
theorem spec_DrawBlockThickness.calls (k : Nat) (A0 : Option Addr) (c0 : Nat) (l0 : List Int) (r1 : Int) (r2 : Int) (w : World) (hr0 : Kd.C (Kd.int .u8) w A0 l0.length l0) (hc0 : l0.length ≤ c0) (h : spec_DrawBlockThickness.f k l0 = some (r1, r2)) :
    Calls Try.prog 29 #[.slice A0 l0.length c0] w fun e w' => e = .returned (.tuple #[.int .i64 r1, .int .i64 r2]) ∧ Below w.heap.size w w' := by
  have HR0 := Aside0.mk hr0
  have HC0 := Aside0.mk hc0
  clear hr0 hc0
  have HB := Aside0.mk (Below.refl w.heap.size w)
  have H : ((spec_l01From.f k l0).bind fun bt207 => ((spec_l06DrawPages.f bt207.1 bt207.2.1 bt207.2.2).bind fun bt211 => ((spec_l07DrawThickness.f bt207.1 bt211.2.1 bt211.2.2).bind fun bt214 => (some (bt211.1, bt214.1))))) = some (r1, r2) := h
  clear h
  replace H := Option.bind_eq_some_iff.mp H
  obtain ⟨⟨t207, t208, t209⟩, A20, H⟩ := H
  replace H : ((spec_l06DrawPages.f t207 t208 t209).bind fun bt211 => ((spec_l07DrawThickness.f t207 bt211.2.1 bt211.2.2).bind fun bt214 => (some (bt211.1, bt214.1)))) = some (r1, r2) := H
  have A2 := Aside0.mk A20
  clear A20
  replace H := Option.bind_eq_some_iff.mp H
  obtain ⟨⟨t211, t212, t213⟩, A30, H⟩ := H
  replace H : ((spec_l07DrawThickness.f t207 t212 t213).bind fun bt214 => (some (t211, bt214.1))) = some (r1, r2) := H
  have A3 := Aside0.mk A30
  clear A30
  replace H := Option.bind_eq_some_iff.mp H
  obtain ⟨⟨t214, t215, t216⟩, A40, H⟩ := H
  replace H : (some (t211, t214)) = some (r1, r2) := H
  have A4 := Aside0.mk A40
  clear A40
  simp only [Option.some.injEq, Prod.mk.injEq] at H
  obtain ⟨rfl, rfl⟩ := H
  go_enter Try.func29, Try.ntmps29
  go_wp2_with (first | ((with_reducible refine gate_callee (f := 113) rfl ?_); refine goesL_ (some 6) rfl rfl Try.func113 (by kernel_rfl) rfl #[.slice A0 l0.length c0] rfl (by (try simp only [List.map_toArray, List.map_cons, List.map_nil]); first | done | rfl | (simp only [List.length_drop, List.length_take]; rfl)) ?_; (with_reducible refine (spec_l01From.calls k _ _ l0 t207 t208 t209 w _ ?side1 ?side2 ?side3 A2.out).mono ?_); (case side1 => repeat (first | (with_reducible first | exact HB.out | apply below_alloc | apply pw_below_drewN | apply below_drew1) | exact HB.out)); (case side2 => exact HR0.out); (case side3 => exact HC0.out); rintro e w5 ⟨g210, rfl, hi, hb, hb2⟩; refine ⟨_, rfl, ?_⟩; have n0_ := Aside0.mk (hb); have n1_ := Aside0.mk (hi); clear HB; have HB := n0_; have HI210 := n1_; clear n0_ n1_; (try clear hb); (try clear hb2); (try clear hk); (try clear hi)) | ((with_reducible refine gate_callee (f := 123) rfl ?_); refine goesL_ (some 8) rfl rfl Try.func123 (by kernel_rfl) rfl #[.pointer (some ⟨g210, 0, none⟩)] rfl (by (try simp only [List.map_toArray, List.map_cons, List.map_nil]); first | done | rfl | (simp only [List.length_drop, List.length_take]; rfl)) ?_; (with_reducible refine (spec_l06DrawPages.calls g210 t207 t208 t209 t211 t212 t213 w _ ?side1 ?side2 A3.out).mono ?_); (case side1 => repeat (first | (with_reducible first | exact HI210.out | apply IsS142.alloc | apply IsS142.drewN | apply IsS142.drew | apply IsS142.set_1 | apply IsS142.set_2) | exact HI210.out)); (case side2 => repeat (first | (with_reducible first | exact HB.out | apply below_alloc | apply pw_below_drewN | apply below_drew1 | refine below_set ?_ (IsS142.ge HI210.out)) | exact HB.out)); rintro e w6 ⟨rfl, hi, hb, hk⟩; refine ⟨_, rfl, ?_⟩; have n0_ := Aside0.mk (hb); have n1_ := Aside0.mk (hi); clear HB; clear HI210; have HB := n0_; have HI210 := n1_; clear n0_ n1_; (try clear hb); (try clear hb2); (try clear hk); (try clear hi)) | ((with_reducible refine gate_callee (f := 124) rfl ?_); refine goesL_ (some 10) rfl rfl Try.func124 (by kernel_rfl) rfl #[.pointer (some ⟨g210, 0, none⟩)] rfl (by (try simp only [List.map_toArray, List.map_cons, List.map_nil]); first | done | rfl | (simp only [List.length_drop, List.length_take]; rfl)) ?_; (with_reducible refine (spec_l07DrawThickness.calls g210 t207 t212 t213 t214 t215 t216 w _ ?side1 ?side2 A4.out).mono ?_); (case side1 => repeat (first | (with_reducible first | exact HI210.out | apply IsS142.alloc | apply IsS142.drewN | apply IsS142.drew | apply IsS142.set_1 | apply IsS142.set_2) | exact HI210.out)); (case side2 => repeat (first | (with_reducible first | exact HB.out | apply below_alloc | apply pw_below_drewN | apply below_drew1 | refine below_set ?_ (IsS142.ge HI210.out)) | exact HB.out)); rintro e w7 ⟨rfl, hi, hb, hk⟩; refine ⟨_, rfl, ?_⟩; have n0_ := Aside0.mk (hb); have n1_ := Aside0.mk (hi); clear HB; clear HI210; have HB := n0_; have HI210 := n1_; clear n0_ n1_; (try clear hb); (try clear hb2); (try clear hk); (try clear hi)))
  go_ret2
  exact ⟨by first | rfl | (simp [errW_none, errW_some] <;> rfl) | (simp [*, errW_none, errW_some] <;> rfl), by repeat (first | (with_reducible first | exact HB.out | apply below_alloc | apply pw_below_drewN | apply below_drew1 | refine below_set ?_ (IsS142.ge HI210.out)) | exact HB.out)⟩

/-! ### impl_BlockThickness: function 30 -/
def impl_BlockThickness.f (a0 : Int) (a1 : Int) : Option (Int × Int) := (impl_isPages.f a0).bind fun t217 => (if t217 = true then ((impl_isThickness.f a1).bind fun t218 => (if t218 = true then ((impl_block.f a0 a1).bind fun t219 => (some (t219, 0))) else (some (0, 2)))) else (some (0, 2)))
set_option maxHeartbeats 8000000 in
set_option maxRecDepth 100000 in
theorem impl_BlockThickness.calls (a0 : Int) (a1 : Int) (r1 : Int) (r2 : Int) (w : World) (h : impl_BlockThickness.f a0 a1 = some (r1, r2)) :
    Calls Try.prog 30 #[.int .i64 a0, .int .i64 a1] w fun e w' => e = .returned (.tuple #[.int .i64 r1, .int .i64 r2]) ∧ Drawn0 w w' := by
  have H : ((impl_isPages.f a0).bind fun t217 => (if t217 = true then ((impl_isThickness.f a1).bind fun t218 => (if t218 = true then ((impl_block.f a0 a1).bind fun t219 => (some (t219, 0))) else (some (0, 2)))) else (some (0, 2)))) = some (r1, r2) := h
  clear h
  replace H := Option.bind_eq_some_iff.mp H
  obtain ⟨t217, A30, H⟩ := H
  replace H : (if t217 = true then ((impl_isThickness.f a1).bind fun t218 => (if t218 = true then ((impl_block.f a0 a1).bind fun t219 => (some (t219, 0))) else (some (0, 2)))) else (some (0, 2))) = some (r1, r2) := H
  have A3 := Aside0.mk A30
  clear A30
  by_cases c4 : t217 = true
  · subst c4
    have H1 : ((impl_isThickness.f a1).bind fun t218 => (if t218 = true then ((impl_block.f a0 a1).bind fun t219 => (some (t219, 0))) else (some (0, 2)))) = some (r1, r2) := by rw [if_pos rfl] at H; exact H
    clear H
    have H := H1
    clear H1
    replace H := Option.bind_eq_some_iff.mp H
    obtain ⟨t218, A50, H⟩ := H
    replace H : (if t218 = true then ((impl_block.f a0 a1).bind fun t219 => (some (t219, 0))) else (some (0, 2))) = some (r1, r2) := H
    have A5 := Aside0.mk A50
    clear A50
    by_cases c6 : t218 = true
    · subst c6
      have H1 : ((impl_block.f a0 a1).bind fun t219 => (some (t219, 0))) = some (r1, r2) := by rw [if_pos rfl] at H; exact H
      clear H
      have H := H1
      clear H1
      replace H := Option.bind_eq_some_iff.mp H
      obtain ⟨t219, A70, H⟩ := H
      replace H : (some (t219, 0)) = some (r1, r2) := H
      have A7 := Aside0.mk A70
      clear A70
      simp only [Option.some.injEq, Prod.mk.injEq] at H
      obtain ⟨rfl, rfl⟩ := H
      go_enter Try.func30, Try.ntmps30
      go_wp2_with (first | ((with_reducible refine gate_callee (f := 125) rfl ?_); refine goesL_ (some 7) rfl rfl Try.func125 (by kernel_rfl) rfl #[.int .i64 a0] rfl (by (try simp only [List.map_toArray, List.map_cons, List.map_nil]); first | done | rfl | (simp only [List.length_drop, List.length_take]; rfl)) ?_; (with_reducible refine (impl_isPages.calls a0 true _ A3.out).mono ?_); rintro e w' ⟨rfl, ⟨nd, rfl⟩⟩; refine ⟨_, rfl, ?_⟩) | (go_at_call 129; (with_reducible refine (impl_isThickness.calls a1 true _ A5.out).mono ?_); rintro e w' ⟨rfl, ⟨nd, rfl⟩⟩) | ((with_reducible refine gate_callee (f := 130) rfl ?_); refine goesL_ (some 16) rfl rfl Try.func130 (by kernel_rfl) rfl #[.int .i64 a0, .int .i64 a1] rfl (by (try simp only [List.map_toArray, List.map_cons, List.map_nil]); first | done | rfl | (simp only [List.length_drop, List.length_take]; rfl)) ?_; (with_reducible refine (impl_block.calls a0 a1 t219 _ A7.out).mono ?_); rintro e w' ⟨rfl, ⟨nd, rfl⟩⟩; refine ⟨_, rfl, ?_⟩))
      go_ret2
      exact ⟨by first | rfl | (simp; done) | (simp [*]; done), by repeat (first | exact Drawn0.refl _ | apply Drawn0.step)⟩
    · replace c6 := Bool.eq_false_iff.mpr c6
      subst c6
      have H1 : (some (0, 2)) = some (r1, r2) := by rw [if_neg (show ¬ (false = true) by decide)] at H; exact H
      clear H
      have H := H1
      clear H1
      simp only [Option.some.injEq, Prod.mk.injEq] at H
      obtain ⟨rfl, rfl⟩ := H
      go_enter Try.func30, Try.ntmps30
      go_wp2_with (first | ((with_reducible refine gate_callee (f := 125) rfl ?_); refine goesL_ (some 7) rfl rfl Try.func125 (by kernel_rfl) rfl #[.int .i64 a0] rfl (by (try simp only [List.map_toArray, List.map_cons, List.map_nil]); first | done | rfl | (simp only [List.length_drop, List.length_take]; rfl)) ?_; (with_reducible refine (impl_isPages.calls a0 true _ A3.out).mono ?_); rintro e w' ⟨rfl, ⟨nd, rfl⟩⟩; refine ⟨_, rfl, ?_⟩) | (go_at_call 129; (with_reducible refine (impl_isThickness.calls a1 false _ A5.out).mono ?_); rintro e w' ⟨rfl, ⟨nd, rfl⟩⟩))
      go_ret2
      exact ⟨by first | rfl | (simp; done) | (simp [*]; done), by repeat (first | exact Drawn0.refl _ | apply Drawn0.step)⟩
  · replace c4 := Bool.eq_false_iff.mpr c4
    subst c4
    have H1 : (some (0, 2)) = some (r1, r2) := by rw [if_neg (show ¬ (false = true) by decide)] at H; exact H
    clear H
    have H := H1
    clear H1
    simp only [Option.some.injEq, Prod.mk.injEq] at H
    obtain ⟨rfl, rfl⟩ := H
    go_enter Try.func30, Try.ntmps30
    go_wp2_with (first | ((with_reducible refine gate_callee (f := 125) rfl ?_); refine goesL_ (some 7) rfl rfl Try.func125 (by kernel_rfl) rfl #[.int .i64 a0] rfl (by (try simp only [List.map_toArray, List.map_cons, List.map_nil]); first | done | rfl | (simp only [List.length_drop, List.length_take]; rfl)) ?_; (with_reducible refine (impl_isPages.calls a0 false _ A3.out).mono ?_); rintro e w' ⟨rfl, ⟨nd, rfl⟩⟩; refine ⟨_, rfl, ?_⟩))
    go_ret2
    exact ⟨by first | rfl | (simp; done) | (simp [*]; done), by repeat (first | exact Drawn0.refl _ | apply Drawn0.step)⟩

/-! ### spec_BlockThickness: function 31 -/
def spec_BlockThickness.f (a0 : Int) (a1 : Int) : Option (Int × Int) := (spec_l01In.f a0 1 4096).bind fun t220 => (if t220 = true then ((spec_l07Fits.f 1 a1).bind fun t221 => (if t221 = true then ((spec_l07Block.f a0 a1).bind fun t222 => (some (t222, 0))) else (some (0, 2)))) else (some (0, 2)))
set_option maxHeartbeats 8000000 in
set_option maxRecDepth 100000 in
theorem spec_BlockThickness.calls (a0 : Int) (a1 : Int) (r1 : Int) (r2 : Int) (w : World) (h : spec_BlockThickness.f a0 a1 = some (r1, r2)) :
    Calls Try.prog 31 #[.int .i64 a0, .int .i64 a1] w fun e w' => e = .returned (.tuple #[.int .i64 r1, .int .i64 r2]) ∧ Drawn0 w w' := by
  have H : ((spec_l01In.f a0 1 4096).bind fun t220 => (if t220 = true then ((spec_l07Fits.f 1 a1).bind fun t221 => (if t221 = true then ((spec_l07Block.f a0 a1).bind fun t222 => (some (t222, 0))) else (some (0, 2)))) else (some (0, 2)))) = some (r1, r2) := h
  clear h
  replace H := Option.bind_eq_some_iff.mp H
  obtain ⟨t220, A30, H⟩ := H
  replace H : (if t220 = true then ((spec_l07Fits.f 1 a1).bind fun t221 => (if t221 = true then ((spec_l07Block.f a0 a1).bind fun t222 => (some (t222, 0))) else (some (0, 2)))) else (some (0, 2))) = some (r1, r2) := H
  have A3 := Aside0.mk A30
  clear A30
  by_cases c4 : t220 = true
  · subst c4
    have H1 : ((spec_l07Fits.f 1 a1).bind fun t221 => (if t221 = true then ((spec_l07Block.f a0 a1).bind fun t222 => (some (t222, 0))) else (some (0, 2)))) = some (r1, r2) := by rw [if_pos rfl] at H; exact H
    clear H
    have H := H1
    clear H1
    replace H := Option.bind_eq_some_iff.mp H
    obtain ⟨t221, A50, H⟩ := H
    replace H : (if t221 = true then ((spec_l07Block.f a0 a1).bind fun t222 => (some (t222, 0))) else (some (0, 2))) = some (r1, r2) := H
    have A5 := Aside0.mk A50
    clear A50
    by_cases c6 : t221 = true
    · subst c6
      have H1 : ((spec_l07Block.f a0 a1).bind fun t222 => (some (t222, 0))) = some (r1, r2) := by rw [if_pos rfl] at H; exact H
      clear H
      have H := H1
      clear H1
      replace H := Option.bind_eq_some_iff.mp H
      obtain ⟨t222, A70, H⟩ := H
      replace H : (some (t222, 0)) = some (r1, r2) := H
      have A7 := Aside0.mk A70
      clear A70
      simp only [Option.some.injEq, Prod.mk.injEq] at H
      obtain ⟨rfl, rfl⟩ := H
      go_enter Try.func31, Try.ntmps31
      go_wp2_with (first | ((with_reducible refine gate_callee (f := 120) rfl ?_); refine goesL_ (some 7) rfl rfl Try.func120 (by kernel_rfl) rfl #[.int .i64 a0, .int .i64 1, .int .i64 4096] rfl (by (try simp only [List.map_toArray, List.map_cons, List.map_nil]); first | done | rfl | (simp only [List.length_drop, List.length_take]; rfl)) ?_; (with_reducible refine (spec_l01In.calls a0 1 4096 true _ A3.out).mono ?_); rintro e w' ⟨rfl, ⟨nd, rfl⟩⟩; refine ⟨_, rfl, ?_⟩) | (go_at_call 131; (with_reducible refine (spec_l07Fits.calls 1 a1 true _ A5.out).mono ?_); rintro e w' ⟨rfl, ⟨nd, rfl⟩⟩) | ((with_reducible refine gate_callee (f := 128) rfl ?_); refine goesL_ (some 16) rfl rfl Try.func128 (by kernel_rfl) rfl #[.int .i64 a0, .int .i64 a1] rfl (by (try simp only [List.map_toArray, List.map_cons, List.map_nil]); first | done | rfl | (simp only [List.length_drop, List.length_take]; rfl)) ?_; (with_reducible refine (spec_l07Block.calls a0 a1 t222 _ A7.out).mono ?_); rintro e w' ⟨rfl, ⟨nd, rfl⟩⟩; refine ⟨_, rfl, ?_⟩))
      go_ret2
      exact ⟨by first | rfl | (simp; done) | (simp [*]; done), by repeat (first | exact Drawn0.refl _ | apply Drawn0.step)⟩
    · replace c6 := Bool.eq_false_iff.mpr c6
      subst c6
      have H1 : (some (0, 2)) = some (r1, r2) := by rw [if_neg (show ¬ (false = true) by decide)] at H; exact H
      clear H
      have H := H1
      clear H1
      simp only [Option.some.injEq, Prod.mk.injEq] at H
      obtain ⟨rfl, rfl⟩ := H
      go_enter Try.func31, Try.ntmps31
      go_wp2_with (first | ((with_reducible refine gate_callee (f := 120) rfl ?_); refine goesL_ (some 7) rfl rfl Try.func120 (by kernel_rfl) rfl #[.int .i64 a0, .int .i64 1, .int .i64 4096] rfl (by (try simp only [List.map_toArray, List.map_cons, List.map_nil]); first | done | rfl | (simp only [List.length_drop, List.length_take]; rfl)) ?_; (with_reducible refine (spec_l01In.calls a0 1 4096 true _ A3.out).mono ?_); rintro e w' ⟨rfl, ⟨nd, rfl⟩⟩; refine ⟨_, rfl, ?_⟩) | (go_at_call 131; (with_reducible refine (spec_l07Fits.calls 1 a1 false _ A5.out).mono ?_); rintro e w' ⟨rfl, ⟨nd, rfl⟩⟩))
      go_ret2
      exact ⟨by first | rfl | (simp; done) | (simp [*]; done), by repeat (first | exact Drawn0.refl _ | apply Drawn0.step)⟩
  · replace c4 := Bool.eq_false_iff.mpr c4
    subst c4
    have H1 : (some (0, 2)) = some (r1, r2) := by rw [if_neg (show ¬ (false = true) by decide)] at H; exact H
    clear H
    have H := H1
    clear H1
    simp only [Option.some.injEq, Prod.mk.injEq] at H
    obtain ⟨rfl, rfl⟩ := H
    go_enter Try.func31, Try.ntmps31
    go_wp2_with (first | ((with_reducible refine gate_callee (f := 120) rfl ?_); refine goesL_ (some 7) rfl rfl Try.func120 (by kernel_rfl) rfl #[.int .i64 a0, .int .i64 1, .int .i64 4096] rfl (by (try simp only [List.map_toArray, List.map_cons, List.map_nil]); first | done | rfl | (simp only [List.length_drop, List.length_take]; rfl)) ?_; (with_reducible refine (spec_l01In.calls a0 1 4096 false _ A3.out).mono ?_); rintro e w' ⟨rfl, ⟨nd, rfl⟩⟩; refine ⟨_, rfl, ?_⟩))
    go_ret2
    exact ⟨by first | rfl | (simp; done) | (simp [*]; done), by repeat (first | exact Drawn0.refl _ | apply Drawn0.step)⟩

/-! ### laws_FnBlocks: function 4 -/
mutual
def laws_FnBlocks.j0 : Nat → Int → Int → Int → Int → Int → Int → Int → Int → Int → Int → Bool → Option (Bool)
  | 0, _, _, _, _, _, _, _, _, _, _, _ => none
  | k + 1, x3, x4, x5, x6, x7, x11, x12, x13, x14, x15, x119 => if x119 = true then (some false) else (if x15 = 0 then ((impl_BlockThickness.f x11 x12).bind fun bt245 => (if bt245.2 = 0 then (if (wrap64 (100 * x14)) < (wrap64 (bt245.1 + x13)) then (some false) else (if (wrap64 (100 * x14)) ≥ (wrap64 ((wrap64 (bt245.1 + x13)) + 100)) then (some false) else (laws_FnBlocks.j1 k x3 x4 x5 x6 x7))) else (some false))) else (laws_FnBlocks.j1 k x3 x4 x5 x6 x7))
def laws_FnBlocks.j1 : Nat → Int → Int → Int → Int → Int → Option (Bool)
  | 0, _, _, _, _, _ => none
  | k + 1, x3, x4, x5, x6, x7 => if x7 = 0 then (laws_FnBlocks.l0 k x3 x4 x5 x6 (wrap64 (x5 - 1))) else (some true)
def laws_FnBlocks.l0 : Nat → Int → Int → Int → Int → Int → Option (Bool)
  | 0, _, _, _, _, _ => none
  | k + 1, x3, x4, x5, x6, x26 => if x26 ≤ (wrap64 (x6 + 1)) then ((impl_SpineWidth.f x3 x26 0).bind fun bt247 => (if bt247.2 = 0 then (if x26 ≥ x5 then (if ((bt247.1 == x4) != (decide (x26 ≤ x6))) = true then (some false) else (laws_FnBlocks.l0 k x3 x4 x5 x6 (wrap64 (x26 + 1)))) else (if ((bt247.1 == x4) != false) = true then (some false) else (laws_FnBlocks.l0 k x3 x4 x5 x6 (wrap64 (x26 + 1))))) else (laws_FnBlocks.l0 k x3 x4 x5 x6 (wrap64 (x26 + 1))))) else (some (decide (x5 ≤ x6)))
end
def laws_FnBlocks.f (k : Nat) (l0 : List Int) : Option (Bool) := (laws_big.f l0).bind fun t223 => (if t223 = true then (some true) else ((spec_DrawThicknessRange.f k l0).bind fun bt224 => ((impl_ThicknessRange.f k bt224.1 bt224.2).bind fun bt226 => ((spec_ThicknessRange.f k bt224.1 bt224.2).bind fun bt229 => ((spec_DrawSpineWidth.f k l0).bind fun bt232 => ((impl_SpineWidth.f bt232.1 bt232.2.1 bt232.2.2).bind fun bt235 => ((spec_SpineWidth.f k bt232.1 bt232.2.1 bt232.2.2).bind fun bt237 => ((spec_DrawBlockThickness.f k l0).bind fun bt239 => ((impl_BlockThickness.f bt239.1 bt239.2).bind fun bt241 => ((spec_BlockThickness.f bt239.1 bt239.2).bind fun bt243 => (if bt226.2.2 = bt229.2.2 then (if bt226.1 = bt229.1 then (if bt226.2.1 = bt229.2.1 then (if bt235.2 = bt237.2 then (if bt235.1 = bt237.1 then (if bt241.2 = bt243.2 then (laws_FnBlocks.j0 k bt224.1 bt224.2 bt226.1 bt226.2.1 bt226.2.2 bt232.1 bt232.2.1 bt232.2.2 bt235.1 bt235.2 (bt241.1 != bt243.1)) else (laws_FnBlocks.j0 k bt224.1 bt224.2 bt226.1 bt226.2.1 bt226.2.2 bt232.1 bt232.2.1 bt232.2.2 bt235.1 bt235.2 true)) else (laws_FnBlocks.j0 k bt224.1 bt224.2 bt226.1 bt226.2.1 bt226.2.2 bt232.1 bt232.2.1 bt232.2.2 bt235.1 bt235.2 true)) else (laws_FnBlocks.j0 k bt224.1 bt224.2 bt226.1 bt226.2.1 bt226.2.2 bt232.1 bt232.2.1 bt232.2.2 bt235.1 bt235.2 true)) else (laws_FnBlocks.j0 k bt224.1 bt224.2 bt226.1 bt226.2.1 bt226.2.2 bt232.1 bt232.2.1 bt232.2.2 bt235.1 bt235.2 true)) else (laws_FnBlocks.j0 k bt224.1 bt224.2 bt226.1 bt226.2.1 bt226.2.2 bt232.1 bt232.2.1 bt232.2.2 bt235.1 bt235.2 true)) else (laws_FnBlocks.j0 k bt224.1 bt224.2 bt226.1 bt226.2.1 bt226.2.2 bt232.1 bt232.2.1 bt232.2.2 bt235.1 bt235.2 true))))))))))))
theorem laws_FnBlocks.mono_l : ∀ k, (∀ y0 y1 y2 y3 y4 y5 y6 y7 y8 y9 y10, LeO (laws_FnBlocks.j0 k y0 y1 y2 y3 y4 y5 y6 y7 y8 y9 y10) (laws_FnBlocks.j0 (k + 1) y0 y1 y2 y3 y4 y5 y6 y7 y8 y9 y10)) ∧ (∀ y0 y1 y2 y3 y4, LeO (laws_FnBlocks.j1 k y0 y1 y2 y3 y4) (laws_FnBlocks.j1 (k + 1) y0 y1 y2 y3 y4)) ∧ (∀ y0 y1 y2 y3 y4, LeO (laws_FnBlocks.l0 k y0 y1 y2 y3 y4) (laws_FnBlocks.l0 (k + 1) y0 y1 y2 y3 y4))
  | 0 => ⟨fun _ _ _ _ _ _ _ _ _ _ _ r h => by simp [laws_FnBlocks.j0] at h, fun _ _ _ _ _ r h => by simp [laws_FnBlocks.j1] at h, fun _ _ _ _ _ r h => by simp [laws_FnBlocks.l0] at h⟩
  | k + 1 => by
    obtain ⟨ih0, ih1, ih2⟩ := laws_FnBlocks.mono_l k
    refine ⟨?_, ?_, ?_⟩
    · intro y0 y1 y2 y3 y4 y5 y6 y7 y8 y9 y10
      unfold laws_FnBlocks.j0
      repeat' first
      | (with_reducible exact ih0 _ _ _ _ _ _ _ _ _ _ _)
      | (with_reducible exact ih1 _ _ _ _ _)
      | (with_reducible exact ih2 _ _ _ _ _)
      | (with_reducible exact impl_ThicknessRange.mono _ _ _)
      | (with_reducible exact spec_DrawBlockThickness.mono _ _)
      | (with_reducible exact spec_DrawSpineWidth.mono _ _)
      | (with_reducible exact spec_DrawThicknessRange.mono _ _)
      | (with_reducible exact spec_SpineWidth.mono _ _ _ _)
      | (with_reducible exact spec_ThicknessRange.mono _ _ _)
      | (with_reducible exact LeO.refl _)
      | (with_reducible exact LeO.none _)
      | (with_reducible refine LeO.ite ?_ ?_)
      | (with_reducible refine LeO.bind ?_ (fun _ => ?_))
      | exact ih0 _ _ _ _ _ _ _ _ _ _ _
      | exact ih1 _ _ _ _ _
      | exact ih2 _ _ _ _ _
      | exact impl_ThicknessRange.mono _ _ _
      | exact spec_DrawBlockThickness.mono _ _
      | exact spec_DrawSpineWidth.mono _ _
      | exact spec_DrawThicknessRange.mono _ _
      | exact spec_SpineWidth.mono _ _ _ _
      | exact spec_ThicknessRange.mono _ _ _
      | exact LeO.none _
      | refine LeO.ite ?_ ?_
      | refine LeO.bind ?_ (fun _ => ?_)
    · intro y0 y1 y2 y3 y4
      unfold laws_FnBlocks.j1
      repeat' first
      | (with_reducible exact ih0 _ _ _ _ _ _ _ _ _ _ _)
      | (with_reducible exact ih1 _ _ _ _ _)
      | (with_reducible exact ih2 _ _ _ _ _)
      | (with_reducible exact impl_ThicknessRange.mono _ _ _)
      | (with_reducible exact spec_DrawBlockThickness.mono _ _)
      | (with_reducible exact spec_DrawSpineWidth.mono _ _)
      | (with_reducible exact spec_DrawThicknessRange.mono _ _)
      | (with_reducible exact spec_SpineWidth.mono _ _ _ _)
      | (with_reducible exact spec_ThicknessRange.mono _ _ _)
      | (with_reducible exact LeO.refl _)
      | (with_reducible exact LeO.none _)
      | (with_reducible refine LeO.ite ?_ ?_)
      | (with_reducible refine LeO.bind ?_ (fun _ => ?_))
      | exact ih0 _ _ _ _ _ _ _ _ _ _ _
      | exact ih1 _ _ _ _ _
      | exact ih2 _ _ _ _ _
      | exact impl_ThicknessRange.mono _ _ _
      | exact spec_DrawBlockThickness.mono _ _
      | exact spec_DrawSpineWidth.mono _ _
      | exact spec_DrawThicknessRange.mono _ _
      | exact spec_SpineWidth.mono _ _ _ _
      | exact spec_ThicknessRange.mono _ _ _
      | exact LeO.none _
      | refine LeO.ite ?_ ?_
      | refine LeO.bind ?_ (fun _ => ?_)
    · intro y0 y1 y2 y3 y4
      unfold laws_FnBlocks.l0
      repeat' first
      | (with_reducible exact ih0 _ _ _ _ _ _ _ _ _ _ _)
      | (with_reducible exact ih1 _ _ _ _ _)
      | (with_reducible exact ih2 _ _ _ _ _)
      | (with_reducible exact impl_ThicknessRange.mono _ _ _)
      | (with_reducible exact spec_DrawBlockThickness.mono _ _)
      | (with_reducible exact spec_DrawSpineWidth.mono _ _)
      | (with_reducible exact spec_DrawThicknessRange.mono _ _)
      | (with_reducible exact spec_SpineWidth.mono _ _ _ _)
      | (with_reducible exact spec_ThicknessRange.mono _ _ _)
      | (with_reducible exact LeO.refl _)
      | (with_reducible exact LeO.none _)
      | (with_reducible refine LeO.ite ?_ ?_)
      | (with_reducible refine LeO.bind ?_ (fun _ => ?_))
      | exact ih0 _ _ _ _ _ _ _ _ _ _ _
      | exact ih1 _ _ _ _ _
      | exact ih2 _ _ _ _ _
      | exact impl_ThicknessRange.mono _ _ _
      | exact spec_DrawBlockThickness.mono _ _
      | exact spec_DrawSpineWidth.mono _ _
      | exact spec_DrawThicknessRange.mono _ _
      | exact spec_SpineWidth.mono _ _ _ _
      | exact spec_ThicknessRange.mono _ _ _
      | exact LeO.none _
      | refine LeO.ite ?_ ?_
      | refine LeO.bind ?_ (fun _ => ?_)
theorem laws_FnBlocks.mono : ∀ a0 k, LeO (laws_FnBlocks.f k a0) (laws_FnBlocks.f (k + 1) a0) := by
  intro a0 k
  obtain ⟨ih0, ih1, ih2⟩ := laws_FnBlocks.mono_l k
  unfold laws_FnBlocks.f
  repeat' first
      | (with_reducible exact ih0 _ _ _ _ _ _ _ _ _ _ _)
      | (with_reducible exact ih1 _ _ _ _ _)
      | (with_reducible exact ih2 _ _ _ _ _)
      | (with_reducible exact impl_ThicknessRange.mono _ _ _)
      | (with_reducible exact spec_DrawBlockThickness.mono _ _)
      | (with_reducible exact spec_DrawSpineWidth.mono _ _)
      | (with_reducible exact spec_DrawThicknessRange.mono _ _)
      | (with_reducible exact spec_SpineWidth.mono _ _ _ _)
      | (with_reducible exact spec_ThicknessRange.mono _ _ _)
      | (with_reducible exact LeO.refl _)
      | (with_reducible exact LeO.none _)
      | (with_reducible refine LeO.ite ?_ ?_)
      | (with_reducible refine LeO.bind ?_ (fun _ => ?_))
      | exact ih0 _ _ _ _ _ _ _ _ _ _ _
      | exact ih1 _ _ _ _ _
      | exact ih2 _ _ _ _ _
      | exact impl_ThicknessRange.mono _ _ _
      | exact spec_DrawBlockThickness.mono _ _
      | exact spec_DrawSpineWidth.mono _ _
      | exact spec_DrawThicknessRange.mono _ _
      | exact spec_SpineWidth.mono _ _ _ _
      | exact spec_ThicknessRange.mono _ _ _
      | exact LeO.none _
      | refine LeO.ite ?_ ?_
      | refine LeO.bind ?_ (fun _ => ?_)
set_option maxHeartbeats 8000000 in
set_option maxRecDepth 100000 in
theorem laws_FnBlocks.calls (k : Nat) (A0 : Option Addr) (c0 : Nat) (l0 : List Int) (r : Bool) (w : World) (hr0 : Kd.C (Kd.int .u8) w A0 l0.length l0) (hc0 : l0.length ≤ c0) (h : laws_FnBlocks.f k l0 = some r) :
    Calls Try.prog 4 #[.slice A0 l0.length c0] w fun e w' => e = .returned (.bool r) ∧ Below w.heap.size w w' := by
  have HR0 := Aside0.mk hr0
  have HC0 := Aside0.mk hc0
  clear hr0 hc0
  have HB := Aside0.mk (Below.refl w.heap.size w)
  have H : ((laws_big.f l0).bind fun t223 => (if t223 = true then (some true) else ((spec_DrawThicknessRange.f k l0).bind fun bt224 => ((impl_ThicknessRange.f k bt224.1 bt224.2).bind fun bt226 => ((spec_ThicknessRange.f k bt224.1 bt224.2).bind fun bt229 => ((spec_DrawSpineWidth.f k l0).bind fun bt232 => ((impl_SpineWidth.f bt232.1 bt232.2.1 bt232.2.2).bind fun bt235 => ((spec_SpineWidth.f k bt232.1 bt232.2.1 bt232.2.2).bind fun bt237 => ((spec_DrawBlockThickness.f k l0).bind fun bt239 => ((impl_BlockThickness.f bt239.1 bt239.2).bind fun bt241 => ((spec_BlockThickness.f bt239.1 bt239.2).bind fun bt243 => (if bt226.2.2 = bt229.2.2 then (if bt226.1 = bt229.1 then (if bt226.2.1 = bt229.2.1 then (if bt235.2 = bt237.2 then (if bt235.1 = bt237.1 then (if bt241.2 = bt243.2 then (laws_FnBlocks.j0 k bt224.1 bt224.2 bt226.1 bt226.2.1 bt226.2.2 bt232.1 bt232.2.1 bt232.2.2 bt235.1 bt235.2 (bt241.1 != bt243.1)) else (laws_FnBlocks.j0 k bt224.1 bt224.2 bt226.1 bt226.2.1 bt226.2.2 bt232.1 bt232.2.1 bt232.2.2 bt235.1 bt235.2 true)) else (laws_FnBlocks.j0 k bt224.1 bt224.2 bt226.1 bt226.2.1 bt226.2.2 bt232.1 bt232.2.1 bt232.2.2 bt235.1 bt235.2 true)) else (laws_FnBlocks.j0 k bt224.1 bt224.2 bt226.1 bt226.2.1 bt226.2.2 bt232.1 bt232.2.1 bt232.2.2 bt235.1 bt235.2 true)) else (laws_FnBlocks.j0 k bt224.1 bt224.2 bt226.1 bt226.2.1 bt226.2.2 bt232.1 bt232.2.1 bt232.2.2 bt235.1 bt235.2 true)) else (laws_FnBlocks.j0 k bt224.1 bt224.2 bt226.1 bt226.2.1 bt226.2.2 bt232.1 bt232.2.1 bt232.2.2 bt235.1 bt235.2 true)) else (laws_FnBlocks.j0 k bt224.1 bt224.2 bt226.1 bt226.2.1 bt226.2.2 bt232.1 bt232.2.1 bt232.2.2 bt235.1 bt235.2 true))))))))))))) = some r := h
  clear h
  replace H := Option.bind_eq_some_iff.mp H
  obtain ⟨t223, A20, H⟩ := H
  replace H : (if t223 = true then (some true) else ((spec_DrawThicknessRange.f k l0).bind fun bt224 => ((impl_ThicknessRange.f k bt224.1 bt224.2).bind fun bt226 => ((spec_ThicknessRange.f k bt224.1 bt224.2).bind fun bt229 => ((spec_DrawSpineWidth.f k l0).bind fun bt232 => ((impl_SpineWidth.f bt232.1 bt232.2.1 bt232.2.2).bind fun bt235 => ((spec_SpineWidth.f k bt232.1 bt232.2.1 bt232.2.2).bind fun bt237 => ((spec_DrawBlockThickness.f k l0).bind fun bt239 => ((impl_BlockThickness.f bt239.1 bt239.2).bind fun bt241 => ((spec_BlockThickness.f bt239.1 bt239.2).bind fun bt243 => (if bt226.2.2 = bt229.2.2 then (if bt226.1 = bt229.1 then (if bt226.2.1 = bt229.2.1 then (if bt235.2 = bt237.2 then (if bt235.1 = bt237.1 then (if bt241.2 = bt243.2 then (laws_FnBlocks.j0 k bt224.1 bt224.2 bt226.1 bt226.2.1 bt226.2.2 bt232.1 bt232.2.1 bt232.2.2 bt235.1 bt235.2 (bt241.1 != bt243.1)) else (laws_FnBlocks.j0 k bt224.1 bt224.2 bt226.1 bt226.2.1 bt226.2.2 bt232.1 bt232.2.1 bt232.2.2 bt235.1 bt235.2 true)) else (laws_FnBlocks.j0 k bt224.1 bt224.2 bt226.1 bt226.2.1 bt226.2.2 bt232.1 bt232.2.1 bt232.2.2 bt235.1 bt235.2 true)) else (laws_FnBlocks.j0 k bt224.1 bt224.2 bt226.1 bt226.2.1 bt226.2.2 bt232.1 bt232.2.1 bt232.2.2 bt235.1 bt235.2 true)) else (laws_FnBlocks.j0 k bt224.1 bt224.2 bt226.1 bt226.2.1 bt226.2.2 bt232.1 bt232.2.1 bt232.2.2 bt235.1 bt235.2 true)) else (laws_FnBlocks.j0 k bt224.1 bt224.2 bt226.1 bt226.2.1 bt226.2.2 bt232.1 bt232.2.1 bt232.2.2 bt235.1 bt235.2 true)) else (laws_FnBlocks.j0 k bt224.1 bt224.2 bt226.1 bt226.2.1 bt226.2.2 bt232.1 bt232.2.1 bt232.2.2 bt235.1 bt235.2 true)))))))))))) = some r := H
  have A2 := Aside0.mk A20
  clear A20
  by_cases c3 : t223 = true
  · subst c3
    have H1 : (some true) = some r := by rw [if_pos rfl] at H; exact H
    clear H
    have H := H1
    clear H1
    obtain rfl := Option.some.inj H
    go_enter Try.func4, Try.ntmps4
    go_wp2_with (first | ((with_reducible refine gate_callee (f := 13) rfl ?_); refine goesL_ (some 30) rfl rfl Try.func13 (by kernel_rfl) rfl #[.slice A0 l0.length c0] rfl (by (try simp only [List.map_toArray, List.map_cons, List.map_nil]); first | done | rfl | (simp only [List.length_drop, List.length_take]; rfl)) ?_; (with_reducible refine (laws_big.calls _ _ l0 true _ ?side1 ?side2 A2.out).mono ?_); (case side1 => repeat (first | exact HR0.out | (with_reducible refine Kd.C_alloc ?_ _) | (with_reducible refine Kd.C_drewN ?_ _) | (with_reducible refine Kd.C_drew ?_))); (case side2 => exact HC0.out); rintro e w' ⟨rfl, ⟨nd, rfl⟩⟩; refine ⟨_, rfl, ?_⟩))
    go_ret
    exact ⟨by first | rfl | (simp [errW_none, errW_some] <;> rfl) | (simp [*, errW_none, errW_some] <;> rfl), by repeat (first | (with_reducible first | exact HB.out | apply below_alloc | apply pw_below_drewN | apply below_drew1) | exact HB.out)⟩
  · replace c3 := Bool.eq_false_iff.mpr c3
    subst c3
    have H1 : ((spec_DrawThicknessRange.f k l0).bind fun bt224 => ((impl_ThicknessRange.f k bt224.1 bt224.2).bind fun bt226 => ((spec_ThicknessRange.f k bt224.1 bt224.2).bind fun bt229 => ((spec_DrawSpineWidth.f k l0).bind fun bt232 => ((impl_SpineWidth.f bt232.1 bt232.2.1 bt232.2.2).bind fun bt235 => ((spec_SpineWidth.f k bt232.1 bt232.2.1 bt232.2.2).bind fun bt237 => ((spec_DrawBlockThickness.f k l0).bind fun bt239 => ((impl_BlockThickness.f bt239.1 bt239.2).bind fun bt241 => ((spec_BlockThickness.f bt239.1 bt239.2).bind fun bt243 => (if bt226.2.2 = bt229.2.2 then (if bt226.1 = bt229.1 then (if bt226.2.1 = bt229.2.1 then (if bt235.2 = bt237.2 then (if bt235.1 = bt237.1 then (if bt241.2 = bt243.2 then (laws_FnBlocks.j0 k bt224.1 bt224.2 bt226.1 bt226.2.1 bt226.2.2 bt232.1 bt232.2.1 bt232.2.2 bt235.1 bt235.2 (bt241.1 != bt243.1)) else (laws_FnBlocks.j0 k bt224.1 bt224.2 bt226.1 bt226.2.1 bt226.2.2 bt232.1 bt232.2.1 bt232.2.2 bt235.1 bt235.2 true)) else (laws_FnBlocks.j0 k bt224.1 bt224.2 bt226.1 bt226.2.1 bt226.2.2 bt232.1 bt232.2.1 bt232.2.2 bt235.1 bt235.2 true)) else (laws_FnBlocks.j0 k bt224.1 bt224.2 bt226.1 bt226.2.1 bt226.2.2 bt232.1 bt232.2.1 bt232.2.2 bt235.1 bt235.2 true)) else (laws_FnBlocks.j0 k bt224.1 bt224.2 bt226.1 bt226.2.1 bt226.2.2 bt232.1 bt232.2.1 bt232.2.2 bt235.1 bt235.2 true)) else (laws_FnBlocks.j0 k bt224.1 bt224.2 bt226.1 bt226.2.1 bt226.2.2 bt232.1 bt232.2.1 bt232.2.2 bt235.1 bt235.2 true)) else (laws_FnBlocks.j0 k bt224.1 bt224.2 bt226.1 bt226.2.1 bt226.2.2 bt232.1 bt232.2.1 bt232.2.2 bt235.1 bt235.2 true))))))))))) = some r := by rw [if_neg (show ¬ (false = true) by decide)] at H; exact H
    clear H
    have H := H1
    clear H1
    replace H := Option.bind_eq_some_iff.mp H
    obtain ⟨⟨t224, t225⟩, A40, H⟩ := H
    replace H : ((impl_ThicknessRange.f k t224 t225).bind fun bt226 => ((spec_ThicknessRange.f k t224 t225).bind fun bt229 => ((spec_DrawSpineWidth.f k l0).bind fun bt232 => ((impl_SpineWidth.f bt232.1 bt232.2.1 bt232.2.2).bind fun bt235 => ((spec_SpineWidth.f k bt232.1 bt232.2.1 bt232.2.2).bind fun bt237 => ((spec_DrawBlockThickness.f k l0).bind fun bt239 => ((impl_BlockThickness.f bt239.1 bt239.2).bind fun bt241 => ((spec_BlockThickness.f bt239.1 bt239.2).bind fun bt243 => (if bt226.2.2 = bt229.2.2 then (if bt226.1 = bt229.1 then (if bt226.2.1 = bt229.2.1 then (if bt235.2 = bt237.2 then (if bt235.1 = bt237.1 then (if bt241.2 = bt243.2 then (laws_FnBlocks.j0 k t224 t225 bt226.1 bt226.2.1 bt226.2.2 bt232.1 bt232.2.1 bt232.2.2 bt235.1 bt235.2 (bt241.1 != bt243.1)) else (laws_FnBlocks.j0 k t224 t225 bt226.1 bt226.2.1 bt226.2.2 bt232.1 bt232.2.1 bt232.2.2 bt235.1 bt235.2 true)) else (laws_FnBlocks.j0 k t224 t225 bt226.1 bt226.2.1 bt226.2.2 bt232.1 bt232.2.1 bt232.2.2 bt235.1 bt235.2 true)) else (laws_FnBlocks.j0 k t224 t225 bt226.1 bt226.2.1 bt226.2.2 bt232.1 bt232.2.1 bt232.2.2 bt235.1 bt235.2 true)) else (laws_FnBlocks.j0 k t224 t225 bt226.1 bt226.2.1 bt226.2.2 bt232.1 bt232.2.1 bt232.2.2 bt235.1 bt235.2 true)) else (laws_FnBlocks.j0 k t224 t225 bt226.1 bt226.2.1 bt226.2.2 bt232.1 bt232.2.1 bt232.2.2 bt235.1 bt235.2 true)) else (laws_FnBlocks.j0 k t224 t225 bt226.1 bt226.2.1 bt226.2.2 bt232.1 bt232.2.1 bt232.2.2 bt235.1 bt235.2 true)))))))))) = some r := H
    have A4 := Aside0.mk A40
    clear A40
    replace H := Option.bind_eq_some_iff.mp H
    obtain ⟨⟨t226, t227, t228⟩, A50, H⟩ := H
    replace H : ((spec_ThicknessRange.f k t224 t225).bind fun bt229 => ((spec_DrawSpineWidth.f k l0).bind fun bt232 => ((impl_SpineWidth.f bt232.1 bt232.2.1 bt232.2.2).bind fun bt235 => ((spec_SpineWidth.f k bt232.1 bt232.2.1 bt232.2.2).bind fun bt237 => ((spec_DrawBlockThickness.f k l0).bind fun bt239 => ((impl_BlockThickness.f bt239.1 bt239.2).bind fun bt241 => ((spec_BlockThickness.f bt239.1 bt239.2).bind fun bt243 => (if t228 = bt229.2.2 then (if t226 = bt229.1 then (if t227 = bt229.2.1 then (if bt235.2 = bt237.2 then (if bt235.1 = bt237.1 then (if bt241.2 = bt243.2 then (laws_FnBlocks.j0 k t224 t225 t226 t227 t228 bt232.1 bt232.2.1 bt232.2.2 bt235.1 bt235.2 (bt241.1 != bt243.1)) else (laws_FnBlocks.j0 k t224 t225 t226 t227 t228 bt232.1 bt232.2.1 bt232.2.2 bt235.1 bt235.2 true)) else (laws_FnBlocks.j0 k t224 t225 t226 t227 t228 bt232.1 bt232.2.1 bt232.2.2 bt235.1 bt235.2 true)) else (laws_FnBlocks.j0 k t224 t225 t226 t227 t228 bt232.1 bt232.2.1 bt232.2.2 bt235.1 bt235.2 true)) else (laws_FnBlocks.j0 k t224 t225 t226 t227 t228 bt232.1 bt232.2.1 bt232.2.2 bt235.1 bt235.2 true)) else (laws_FnBlocks.j0 k t224 t225 t226 t227 t228 bt232.1 bt232.2.1 bt232.2.2 bt235.1 bt235.2 true)) else (laws_FnBlocks.j0 k t224 t225 t226 t227 t228 bt232.1 bt232.2.1 bt232.2.2 bt235.1 bt235.2 true))))))))) = some r := H
    have A5 := Aside0.mk A50
    clear A50
    replace H := Option.bind_eq_some_iff.mp H
    obtain ⟨⟨t229, t230, t231⟩, A60, H⟩ := H
    replace H : ((spec_DrawSpineWidth.f k l0).bind fun bt232 => ((impl_SpineWidth.f bt232.1 bt232.2.1 bt232.2.2).bind fun bt235 => ((spec_SpineWidth.f k bt232.1 bt232.2.1 bt232.2.2).bind fun bt237 => ((spec_DrawBlockThickness.f k l0).bind fun bt239 => ((impl_BlockThickness.f bt239.1 bt239.2).bind fun bt241 => ((spec_BlockThickness.f bt239.1 bt239.2).bind fun bt243 => (if t228 = t231 then (if t226 = t229 then (if t227 = t230 then (if bt235.2 = bt237.2 then (if bt235.1 = bt237.1 then (if bt241.2 = bt243.2 then (laws_FnBlocks.j0 k t224 t225 t226 t227 t228 bt232.1 bt232.2.1 bt232.2.2 bt235.1 bt235.2 (bt241.1 != bt243.1)) else (laws_FnBlocks.j0 k t224 t225 t226 t227 t228 bt232.1 bt232.2.1 bt232.2.2 bt235.1 bt235.2 true)) else (laws_FnBlocks.j0 k t224 t225 t226 t227 t228 bt232.1 bt232.2.1 bt232.2.2 bt235.1 bt235.2 true)) else (laws_FnBlocks.j0 k t224 t225 t226 t227 t228 bt232.1 bt232.2.1 bt232.2.2 bt235.1 bt235.2 true)) else (laws_FnBlocks.j0 k t224 t225 t226 t227 t228 bt232.1 bt232.2.1 bt232.2.2 bt235.1 bt235.2 true)) else (laws_FnBlocks.j0 k t224 t225 t226 t227 t228 bt232.1 bt232.2.1 bt232.2.2 bt235.1 bt235.2 true)) else (laws_FnBlocks.j0 k t224 t225 t226 t227 t228 bt232.1 bt232.2.1 bt232.2.2 bt235.1 bt235.2 true)))))))) = some r := H
    have A6 := Aside0.mk A60
    clear A60
    replace H := Option.bind_eq_some_iff.mp H
    obtain ⟨⟨t232, t233, t234⟩, A70, H⟩ := H
    replace H : ((impl_SpineWidth.f t232 t233 t234).bind fun bt235 => ((spec_SpineWidth.f k t232 t233 t234).bind fun bt237 => ((spec_DrawBlockThickness.f k l0).bind fun bt239 => ((impl_BlockThickness.f bt239.1 bt239.2).bind fun bt241 => ((spec_BlockThickness.f bt239.1 bt239.2).bind fun bt243 => (if t228 = t231 then (if t226 = t229 then (if t227 = t230 then (if bt235.2 = bt237.2 then (if bt235.1 = bt237.1 then (if bt241.2 = bt243.2 then (laws_FnBlocks.j0 k t224 t225 t226 t227 t228 t232 t233 t234 bt235.1 bt235.2 (bt241.1 != bt243.1)) else (laws_FnBlocks.j0 k t224 t225 t226 t227 t228 t232 t233 t234 bt235.1 bt235.2 true)) else (laws_FnBlocks.j0 k t224 t225 t226 t227 t228 t232 t233 t234 bt235.1 bt235.2 true)) else (laws_FnBlocks.j0 k t224 t225 t226 t227 t228 t232 t233 t234 bt235.1 bt235.2 true)) else (laws_FnBlocks.j0 k t224 t225 t226 t227 t228 t232 t233 t234 bt235.1 bt235.2 true)) else (laws_FnBlocks.j0 k t224 t225 t226 t227 t228 t232 t233 t234 bt235.1 bt235.2 true)) else (laws_FnBlocks.j0 k t224 t225 t226 t227 t228 t232 t233 t234 bt235.1 bt235.2 true))))))) = some r := H
    have A7 := Aside0.mk A70
    clear A70
    replace H := Option.bind_eq_some_iff.mp H
    obtain ⟨⟨t235, t236⟩, A80, H⟩ := H
    replace H : ((spec_SpineWidth.f k t232 t233 t234).bind fun bt237 => ((spec_DrawBlockThickness.f k l0).bind fun bt239 => ((impl_BlockThickness.f bt239.1 bt239.2).bind fun bt241 => ((spec_BlockThickness.f bt239.1 bt239.2).bind fun bt243 => (if t228 = t231 then (if t226 = t229 then (if t227 = t230 then (if t236 = bt237.2 then (if t235 = bt237.1 then (if bt241.2 = bt243.2 then (laws_FnBlocks.j0 k t224 t225 t226 t227 t228 t232 t233 t234 t235 t236 (bt241.1 != bt243.1)) else (laws_FnBlocks.j0 k t224 t225 t226 t227 t228 t232 t233 t234 t235 t236 true)) else (laws_FnBlocks.j0 k t224 t225 t226 t227 t228 t232 t233 t234 t235 t236 true)) else (laws_FnBlocks.j0 k t224 t225 t226 t227 t228 t232 t233 t234 t235 t236 true)) else (laws_FnBlocks.j0 k t224 t225 t226 t227 t228 t232 t233 t234 t235 t236 true)) else (laws_FnBlocks.j0 k t224 t225 t226 t227 t228 t232 t233 t234 t235 t236 true)) else (laws_FnBlocks.j0 k t224 t225 t226 t227 t228 t232 t233 t234 t235 t236 true)))))) = some r := H
    have A8 := Aside0.mk A80
    clear A80
    replace H := Option.bind_eq_some_iff.mp H
    obtain ⟨⟨t237, t238⟩, A90, H⟩ := H
    replace H : ((spec_DrawBlockThickness.f k l0).bind fun bt239 => ((impl_BlockThickness.f bt239.1 bt239.2).bind fun bt241 => ((spec_BlockThickness.f bt239.1 bt239.2).bind fun bt243 => (if t228 = t231 then (if t226 = t229 then (if t227 = t230 then (if t236 = t238 then (if t235 = t237 then (if bt241.2 = bt243.2 then (laws_FnBlocks.j0 k t224 t225 t226 t227 t228 t232 t233 t234 t235 t236 (bt241.1 != bt243.1)) else (laws_FnBlocks.j0 k t224 t225 t226 t227 t228 t232 t233 t234 t235 t236 true)) else (laws_FnBlocks.j0 k t224 t225 t226 t227 t228 t232 t233 t234 t235 t236 true)) else (laws_FnBlocks.j0 k t224 t225 t226 t227 t228 t232 t233 t234 t235 t236 true)) else (laws_FnBlocks.j0 k t224 t225 t226 t227 t228 t232 t233 t234 t235 t236 true)) else (laws_FnBlocks.j0 k t224 t225 t226 t227 t228 t232 t233 t234 t235 t236 true)) else (laws_FnBlocks.j0 k t224 t225 t226 t227 t228 t232 t233 t234 t235 t236 true))))) = some r := H
    have A9 := Aside0.mk A90
    clear A90
    replace H := Option.bind_eq_some_iff.mp H
    obtain ⟨⟨t239, t240⟩, A100, H⟩ := H
    replace H : ((impl_BlockThickness.f t239 t240).bind fun bt241 => ((spec_BlockThickness.f t239 t240).bind fun bt243 => (if t228 = t231 then (if t226 = t229 then (if t227 = t230 then (if t236 = t238 then (if t235 = t237 then (if bt241.2 = bt243.2 then (laws_FnBlocks.j0 k t224 t225 t226 t227 t228 t232 t233 t234 t235 t236 (bt241.1 != bt243.1)) else (laws_FnBlocks.j0 k t224 t225 t226 t227 t228 t232 t233 t234 t235 t236 true)) else (laws_FnBlocks.j0 k t224 t225 t226 t227 t228 t232 t233 t234 t235 t236 true)) else (laws_FnBlocks.j0 k t224 t225 t226 t227 t228 t232 t233 t234 t235 t236 true)) else (laws_FnBlocks.j0 k t224 t225 t226 t227 t228 t232 t233 t234 t235 t236 true)) else (laws_FnBlocks.j0 k t224 t225 t226 t227 t228 t232 t233 t234 t235 t236 true)) else (laws_FnBlocks.j0 k t224 t225 t226 t227 t228 t232 t233 t234 t235 t236 true)))) = some r := H
    have A10 := Aside0.mk A100
    clear A100
    replace H := Option.bind_eq_some_iff.mp H
    obtain ⟨⟨t241, t242⟩, A110, H⟩ := H
    replace H : ((spec_BlockThickness.f t239 t240).bind fun bt243 => (if t228 = t231 then (if t226 = t229 then (if t227 = t230 then (if t236 = t238 then (if t235 = t237 then (if t242 = bt243.2 then (laws_FnBlocks.j0 k t224 t225 t226 t227 t228 t232 t233 t234 t235 t236 (t241 != bt243.1)) else (laws_FnBlocks.j0 k t224 t225 t226 t227 t228 t232 t233 t234 t235 t236 true)) else (laws_FnBlocks.j0 k t224 t225 t226 t227 t228 t232 t233 t234 t235 t236 true)) else (laws_FnBlocks.j0 k t224 t225 t226 t227 t228 t232 t233 t234 t235 t236 true)) else (laws_FnBlocks.j0 k t224 t225 t226 t227 t228 t232 t233 t234 t235 t236 true)) else (laws_FnBlocks.j0 k t224 t225 t226 t227 t228 t232 t233 t234 t235 t236 true)) else (laws_FnBlocks.j0 k t224 t225 t226 t227 t228 t232 t233 t234 t235 t236 true))) = some r := H
    have A11 := Aside0.mk A110
    clear A110
    replace H := Option.bind_eq_some_iff.mp H
    obtain ⟨⟨t243, t244⟩, A120, H⟩ := H
    replace H : (if t228 = t231 then (if t226 = t229 then (if t227 = t230 then (if t236 = t238 then (if t235 = t237 then (if t242 = t244 then (laws_FnBlocks.j0 k t224 t225 t226 t227 t228 t232 t233 t234 t235 t236 (t241 != t243)) else (laws_FnBlocks.j0 k t224 t225 t226 t227 t228 t232 t233 t234 t235 t236 true)) else (laws_FnBlocks.j0 k t224 t225 t226 t227 t228 t232 t233 t234 t235 t236 true)) else (laws_FnBlocks.j0 k t224 t225 t226 t227 t228 t232 t233 t234 t235 t236 true)) else (laws_FnBlocks.j0 k t224 t225 t226 t227 t228 t232 t233 t234 t235 t236 true)) else (laws_FnBlocks.j0 k t224 t225 t226 t227 t228 t232 t233 t234 t235 t236 true)) else (laws_FnBlocks.j0 k t224 t225 t226 t227 t228 t232 t233 t234 t235 t236 true)) = some r := H
    have A12 := Aside0.mk A120
    clear A120
    have HC13 := Aside0.mk H
    clear H
    go_enter Try.func4, Try.ntmps4
    go_upto_region 12 with (first | ((with_reducible refine gate_callee (f := 13) rfl ?_); refine goesL_ (some 30) rfl rfl Try.func13 (by kernel_rfl) rfl #[.slice A0 l0.length c0] rfl (by (try simp only [List.map_toArray, List.map_cons, List.map_nil]); first | done | rfl | (simp only [List.length_drop, List.length_take]; rfl)) ?_; (with_reducible refine (laws_big.calls _ _ l0 false _ ?side1 ?side2 A2.out).mono ?_); (case side1 => repeat (first | exact HR0.out | (with_reducible refine Kd.C_alloc ?_ _) | (with_reducible refine Kd.C_drewN ?_ _) | (with_reducible refine Kd.C_drew ?_))); (case side2 => exact HC0.out); rintro e w' ⟨rfl, ⟨nd, rfl⟩⟩; refine ⟨_, rfl, ?_⟩) | ((with_reducible refine gate_callee (f := 23) rfl ?_); refine goesL_ (some 33) rfl rfl Try.func23 (by kernel_rfl) rfl #[.slice A0 l0.length c0] rfl (by (try simp only [List.map_toArray, List.map_cons, List.map_nil]); first | done | rfl | (simp only [List.length_drop, List.length_take]; rfl)) ?_; (with_reducible refine (spec_DrawThicknessRange.calls k _ _ l0 t224 t225 _ ?side1 ?side2 A4.out).mono ?_); (case side1 => repeat (first | exact HR0.out | (with_reducible refine Kd.C_alloc ?_ _) | (with_reducible refine Kd.C_drewN ?_ _) | (with_reducible refine Kd.C_drew ?_))); (case side2 => exact HC0.out); rintro e w14 ⟨rfl, hb⟩; refine ⟨_, rfl, ?_⟩; have n0_ := Aside0.mk (below_step (by repeat (first | (with_reducible first | exact HB.out | apply below_alloc | apply pw_below_drewN | apply below_drew1) | exact HB.out)) hb); clear HB; have HB := n0_; clear n0_; (try clear hb); (try clear hb2); (try clear hk); (try clear hi)) | ((with_reducible refine gate_callee (f := 24) rfl ?_); refine goesL_ (some 39) rfl rfl Try.func24 (by kernel_rfl) rfl #[.int .i64 t224, .int .i64 t225] rfl (by (try simp only [List.map_toArray, List.map_cons, List.map_nil]); first | done | rfl | (simp only [List.length_drop, List.length_take]; rfl)) ?_; (with_reducible refine (impl_ThicknessRange.calls k t224 t225 t226 t227 t228 _ A5.out).mono ?_); rintro e w' ⟨rfl, ⟨nd, rfl⟩⟩; refine ⟨_, rfl, ?_⟩) | ((with_reducible refine gate_callee (f := 25) rfl ?_); refine goesL_ (some 46) rfl rfl Try.func25 (by kernel_rfl) rfl #[.int .i64 t224, .int .i64 t225] rfl (by (try simp only [List.map_toArray, List.map_cons, List.map_nil]); first | done | rfl | (simp only [List.length_drop, List.length_take]; rfl)) ?_; (with_reducible refine (spec_ThicknessRange.calls k t224 t225 t229 t230 t231 _ A6.out).mono ?_); rintro e w' ⟨rfl, ⟨nd, rfl⟩⟩; refine ⟨_, rfl, ?_⟩) | ((with_reducible refine gate_callee (f := 26) rfl ?_); refine goesL_ (some 52) rfl rfl Try.func26 (by kernel_rfl) rfl #[.slice A0 l0.length c0] rfl (by (try simp only [List.map_toArray, List.map_cons, List.map_nil]); first | done | rfl | (simp only [List.length_drop, List.length_take]; rfl)) ?_; (with_reducible refine (spec_DrawSpineWidth.calls k _ _ l0 t232 t233 t234 _ ?side1 ?side2 A7.out).mono ?_); (case side1 => repeat (first | exact (Kd.C_below HR0.out (by repeat (first | (with_reducible first | exact HB.out | apply below_alloc | apply pw_below_drewN | apply below_drew1) | exact HB.out))) | (with_reducible refine Kd.C_alloc ?_ _) | (with_reducible refine Kd.C_drewN ?_ _) | (with_reducible refine Kd.C_drew ?_))); (case side2 => exact HC0.out); rintro e w15 ⟨rfl, hb⟩; refine ⟨_, rfl, ?_⟩; have n0_ := Aside0.mk (below_step (by repeat (first | (with_reducible first | exact HB.out | apply below_alloc | apply pw_below_drewN | apply below_drew1) | exact HB.out)) hb); clear HB; have HB := n0_; clear n0_; (try clear hb); (try clear hb2); (try clear hk); (try clear hi)) | ((with_reducible refine gate_callee (f := 27) rfl ?_); refine goesL_ (some 60) rfl rfl Try.func27 (by kernel_rfl) rfl #[.int .i64 t232, .int .i64 t233, .int .i64 t234] rfl (by (try simp only [List.map_toArray, List.map_cons, List.map_nil]); first | done | rfl | (simp only [List.length_drop, List.length_take]; rfl)) ?_; (with_reducible refine (impl_SpineWidth.calls t232 t233 t234 t235 t236 _ A8.out).mono ?_); rintro e w' ⟨rfl, ⟨nd, rfl⟩⟩; refine ⟨_, rfl, ?_⟩) | ((with_reducible refine gate_callee (f := 28) rfl ?_); refine goesL_ (some 67) rfl rfl Try.func28 (by kernel_rfl) rfl #[.int .i64 t232, .int .i64 t233, .int .i64 t234] rfl (by (try simp only [List.map_toArray, List.map_cons, List.map_nil]); first | done | rfl | (simp only [List.length_drop, List.length_take]; rfl)) ?_; (with_reducible refine (spec_SpineWidth.calls k t232 t233 t234 t237 t238 _ A9.out).mono ?_); rintro e w' ⟨rfl, ⟨nd, rfl⟩⟩; refine ⟨_, rfl, ?_⟩) | ((with_reducible refine gate_callee (f := 29) rfl ?_); refine goesL_ (some 72) rfl rfl Try.func29 (by kernel_rfl) rfl #[.slice A0 l0.length c0] rfl (by (try simp only [List.map_toArray, List.map_cons, List.map_nil]); first | done | rfl | (simp only [List.length_drop, List.length_take]; rfl)) ?_; (with_reducible refine (spec_DrawBlockThickness.calls k _ _ l0 t239 t240 _ ?side1 ?side2 A10.out).mono ?_); (case side1 => repeat (first | exact (Kd.C_below HR0.out (by repeat (first | (with_reducible first | exact HB.out | apply below_alloc | apply pw_below_drewN | apply below_drew1) | exact HB.out))) | (with_reducible refine Kd.C_alloc ?_ _) | (with_reducible refine Kd.C_drewN ?_ _) | (with_reducible refine Kd.C_drew ?_))); (case side2 => exact HC0.out); rintro e w16 ⟨rfl, hb⟩; refine ⟨_, rfl, ?_⟩; have n0_ := Aside0.mk (below_step (by repeat (first | (with_reducible first | exact HB.out | apply below_alloc | apply pw_below_drewN | apply below_drew1) | exact HB.out)) hb); clear HB; have HB := n0_; clear n0_; (try clear hb); (try clear hb2); (try clear hk); (try clear hi)) | ((with_reducible refine gate_callee (f := 30) rfl ?_); refine goesL_ (some 78) rfl rfl Try.func30 (by kernel_rfl) rfl #[.int .i64 t239, .int .i64 t240] rfl (by (try simp only [List.map_toArray, List.map_cons, List.map_nil]); first | done | rfl | (simp only [List.length_drop, List.length_take]; rfl)) ?_; (with_reducible refine (impl_BlockThickness.calls t239 t240 t241 t242 _ A11.out).mono ?_); rintro e w' ⟨rfl, ⟨nd, rfl⟩⟩; refine ⟨_, rfl, ?_⟩) | ((with_reducible refine gate_callee (f := 31) rfl ?_); refine goesL_ (some 84) rfl rfl Try.func31 (by kernel_rfl) rfl #[.int .i64 t239, .int .i64 t240] rfl (by (try simp only [List.map_toArray, List.map_cons, List.map_nil]); first | done | rfl | (simp only [List.length_drop, List.length_take]; rfl)) ?_; (with_reducible refine (spec_BlockThickness.calls t239 t240 t243 t244 _ A12.out).mono ?_); rintro e w' ⟨rfl, ⟨nd, rfl⟩⟩; refine ⟨_, rfl, ?_⟩))
    (try simp only [Act.put, List.setIfInBounds_toArray, List.set_cons_zero, List.set_cons_succ])
    go_cut [119] (fun v119 wc => ∃ (kq : Nat) (x119_12 : Bool), v119 = .bool x119_12 ∧ Aside0 (laws_FnBlocks.j0 kq t224 t225 t226 t227 t228 t232 t233 t234 t235 t236 x119_12 = some r) ∧ Aside0 (kq ≤ k) ∧ Aside0 (Below w.heap.size w wc))
    case first =>
      have H := HC13.out
      clear HC13
      by_cases c17 : t228 = t231
      · rw [if_pos c17] at H
        have c17b0 : (t228 == t231) = true := beq_iff_eq.mpr c17
        have c17b1 : (t228 != t231) = false := bne_eq_false_iff_eq.mpr c17
        clear c17
        (first | rw [c17b0] | (simp only [i64_w, i32_w]; rw [c17b0]) | skip)
        by_cases c18 : t226 = t229
        · rw [if_pos c18] at H
          have c18b0 : (t226 == t229) = true := beq_iff_eq.mpr c18
          have c18b1 : (t226 != t229) = false := bne_eq_false_iff_eq.mpr c18
          clear c18
          by_cases c19 : t227 = t230
          · rw [if_pos c19] at H
            have c19b0 : (t227 == t230) = true := beq_iff_eq.mpr c19
            have c19b1 : (t227 != t230) = false := bne_eq_false_iff_eq.mpr c19
            clear c19
            by_cases c20 : t236 = t238
            · rw [if_pos c20] at H
              have c20b0 : (t236 == t238) = true := beq_iff_eq.mpr c20
              have c20b1 : (t236 != t238) = false := bne_eq_false_iff_eq.mpr c20
              clear c20
              by_cases c21 : t235 = t237
              · rw [if_pos c21] at H
                have c21b0 : (t235 == t237) = true := beq_iff_eq.mpr c21
                have c21b1 : (t235 != t237) = false := bne_eq_false_iff_eq.mpr c21
                clear c21
                by_cases c22 : t242 = t244
                · rw [if_pos c22] at H
                  have c22b0 : (t242 == t244) = true := beq_iff_eq.mpr c22
                  have c22b1 : (t242 != t244) = false := bne_eq_false_iff_eq.mpr c22
                  clear c22
                  have H' := Aside0.mk H
                  clear H
                  go_wp2
                  go_meet
                  case rel => exact ⟨_, ((t241 != t243)), (by first | rfl | (simp; done) | (simp [*]; done)), H', ⟨by first | omega | exact Nat.le_refl _⟩, ⟨by repeat (first | (with_reducible first | exact HB.out | apply below_alloc | apply pw_below_drewN | apply below_drew1) | exact HB.out)⟩⟩
                · rw [if_neg c22] at H
                  have c22b0 : (t242 == t244) = false := beq_eq_false_iff_ne.mpr c22
                  have c22b1 : (t242 != t244) = true := bne_iff_ne.mpr c22
                  have H' := Aside0.mk H
                  clear H
                  go_wp2
                  go_meet
                  case rel => exact ⟨_, (true), (by first | rfl | (simp; done) | (simp [*]; done)), H', ⟨by first | omega | exact Nat.le_refl _⟩, ⟨by repeat (first | (with_reducible first | exact HB.out | apply below_alloc | apply pw_below_drewN | apply below_drew1) | exact HB.out)⟩⟩
              · rw [if_neg c21] at H
                have c21b0 : (t235 == t237) = false := beq_eq_false_iff_ne.mpr c21
                have c21b1 : (t235 != t237) = true := bne_iff_ne.mpr c21
                have H' := Aside0.mk H
                clear H
                go_wp2
                go_meet
                case rel => exact ⟨_, (true), (by first | rfl | (simp; done) | (simp [*]; done)), H', ⟨by first | omega | exact Nat.le_refl _⟩, ⟨by repeat (first | (with_reducible first | exact HB.out | apply below_alloc | apply pw_below_drewN | apply below_drew1) | exact HB.out)⟩⟩
            · rw [if_neg c20] at H
              have c20b0 : (t236 == t238) = false := beq_eq_false_iff_ne.mpr c20
              have c20b1 : (t236 != t238) = true := bne_iff_ne.mpr c20
              have H' := Aside0.mk H
              clear H
              go_wp2
              go_meet
              case rel => exact ⟨_, (true), (by first | rfl | (simp; done) | (simp [*]; done)), H', ⟨by first | omega | exact Nat.le_refl _⟩, ⟨by repeat (first | (with_reducible first | exact HB.out | apply below_alloc | apply pw_below_drewN | apply below_drew1) | exact HB.out)⟩⟩
          · rw [if_neg c19] at H
            have c19b0 : (t227 == t230) = false := beq_eq_false_iff_ne.mpr c19
            have c19b1 : (t227 != t230) = true := bne_iff_ne.mpr c19
            have H' := Aside0.mk H
            clear H
            go_wp2
            go_meet
            case rel => exact ⟨_, (true), (by first | rfl | (simp; done) | (simp [*]; done)), H', ⟨by first | omega | exact Nat.le_refl _⟩, ⟨by repeat (first | (with_reducible first | exact HB.out | apply below_alloc | apply pw_below_drewN | apply below_drew1) | exact HB.out)⟩⟩
        · rw [if_neg c18] at H
          have c18b0 : (t226 == t229) = false := beq_eq_false_iff_ne.mpr c18
          have c18b1 : (t226 != t229) = true := bne_iff_ne.mpr c18
          have H' := Aside0.mk H
          clear H
          go_wp2
          go_meet
          case rel => exact ⟨_, (true), (by first | rfl | (simp; done) | (simp [*]; done)), H', ⟨by first | omega | exact Nat.le_refl _⟩, ⟨by repeat (first | (with_reducible first | exact HB.out | apply below_alloc | apply pw_below_drewN | apply below_drew1) | exact HB.out)⟩⟩
      · rw [if_neg c17] at H
        have c17b0 : (t228 == t231) = false := beq_eq_false_iff_ne.mpr c17
        have c17b1 : (t228 != t231) = true := bne_iff_ne.mpr c17
        (first | rw [c17b0] | (simp only [i64_w, i32_w]; rw [c17b0]) | skip)
        have H' := Aside0.mk H
        clear H
        go_wp2
        go_meet
        case rel => exact ⟨_, (true), (by first | rfl | (simp; done) | (simp [*]; done)), H', ⟨by first | omega | exact Nat.le_refl _⟩, ⟨by repeat (first | (with_reducible first | exact HB.out | apply below_alloc | apply pw_below_drewN | apply below_drew1) | exact HB.out)⟩⟩
    case rest =>
      clear HC13
      try clear c1
      try clear c2
      try clear p2
      try clear c3
      try clear c4
      try clear c13
      try clear c17
      try clear c17b0
      try clear c17b1
      try clear c18
      try clear c18b0
      try clear c18b1
      try clear c19
      try clear c19b0
      try clear c19b1
      try clear c20
      try clear c20b0
      try clear c20b1
      try clear c21
      try clear c21b0
      try clear c21b1
      try clear c22
      try clear c22b0
      try clear c22b1
      obtain ⟨kq, x119_12, rfl, HA, HJ12, HB⟩ := hcut
      cases kq with
      | zero => exact absurd HA.out (by simp [laws_FnBlocks.j0])
      | succ kj12 =>
        have H := HA.out
        clear HA
        simp only [laws_FnBlocks.j0] at H
        by_cases c23 : x119_12 = true
        · subst c23
          have H1 : (some false) = some r := by rw [if_pos rfl] at H; exact H
          clear H
          have H := H1
          clear H1
          obtain rfl := Option.some.inj H
          go_wp2
          go_ret
          exact ⟨by first | rfl | (simp [errW_none, errW_some] <;> rfl) | (simp [*, errW_none, errW_some] <;> rfl), by repeat (first | (with_reducible first | exact HB.out | apply below_alloc | apply pw_below_drewN | apply below_drew1) | exact HB.out)⟩
        · replace c23 := Bool.eq_false_iff.mpr c23
          subst c23
          have H1 : (if t236 = 0 then ((impl_BlockThickness.f t232 t233).bind fun bt245 => (if bt245.2 = 0 then (if (wrap64 (100 * t235)) < (wrap64 (bt245.1 + t234)) then (some false) else (if (wrap64 (100 * t235)) ≥ (wrap64 ((wrap64 (bt245.1 + t234)) + 100)) then (some false) else (laws_FnBlocks.j1 kj12 t224 t225 t226 t227 t228))) else (some false))) else (laws_FnBlocks.j1 kj12 t224 t225 t226 t227 t228)) = some r := by rw [if_neg (show ¬ (false = true) by decide)] at H; exact H
          clear H
          have H := H1
          clear H1
          have HC24 := Aside0.mk H
          clear H
          go_upto_if 121 with (fail)
          go_cut [] (fun wc => ∃ (kq : Nat), Aside0 (laws_FnBlocks.j1 kq t224 t225 t226 t227 t228 = some r) ∧ Aside0 (kq ≤ kj12) ∧ Aside0 (Below w.heap.size w wc))
          case first =>
            have H := HC24.out
            clear HC24
            by_cases c25 : t236 = 0
            · rw [if_pos c25] at H
              have c25b0 : (t236 == 0) = true := beq_iff_eq.mpr c25
              have c25b1 : (t236 != 0) = false := bne_eq_false_iff_eq.mpr c25
              clear c25
              (first | rw [c25b0] | (simp only [i64_w, i32_w]; rw [c25b0]) | skip)
              replace H := Option.bind_eq_some_iff.mp H
              obtain ⟨⟨t245, t246⟩, A260, H⟩ := H
              replace H : (if t246 = 0 then (if (wrap64 (100 * t235)) < (wrap64 (t245 + t234)) then (some false) else (if (wrap64 (100 * t235)) ≥ (wrap64 ((wrap64 (t245 + t234)) + 100)) then (some false) else (laws_FnBlocks.j1 kj12 t224 t225 t226 t227 t228))) else (some false)) = some r := H
              have A26 := Aside0.mk A260
              clear A260
              by_cases c27 : t246 = 0
              · rw [if_pos c27] at H
                have c27b0 : (t246 == 0) = true := beq_iff_eq.mpr c27
                have c27b1 : (t246 != 0) = false := bne_eq_false_iff_eq.mpr c27
                clear c27
                by_cases c28 : (wrap64 (100 * t235)) < (wrap64 (t245 + t234))
                · rw [if_pos c28] at H
                  have c28b0 : decide ((wrap64 (100 * t235)) < (wrap64 (t245 + t234))) = true := decide_eq_true c28
                  clear c28
                  obtain rfl := Option.some.inj H
                  go_wp2_with (first | ((with_reducible refine gate_callee (f := 30) rfl ?_); refine goesL_ (some 125) rfl rfl Try.func30 (by kernel_rfl) rfl #[.int .i64 t232, .int .i64 t233] rfl (by (try simp only [List.map_toArray, List.map_cons, List.map_nil]); first | done | rfl | (simp only [List.length_drop, List.length_take]; rfl)) ?_; (with_reducible refine (impl_BlockThickness.calls t232 t233 t245 t246 _ A26.out).mono ?_); rintro e w' ⟨rfl, ⟨nd, rfl⟩⟩; refine ⟨_, rfl, ?_⟩))
                  go_ret
                  exact ⟨by first | rfl | (simp [errW_none, errW_some] <;> rfl) | (simp [*, errW_none, errW_some] <;> rfl), by repeat (first | (with_reducible first | exact HB.out | apply below_alloc | apply pw_below_drewN | apply below_drew1) | exact HB.out)⟩
                · rw [if_neg c28] at H
                  have c28b0 : decide ((wrap64 (100 * t235)) < (wrap64 (t245 + t234))) = false := decide_eq_false c28
                  clear c28
                  by_cases c29 : (wrap64 (100 * t235)) ≥ (wrap64 ((wrap64 (t245 + t234)) + 100))
                  · rw [if_pos c29] at H
                    have c29b0 : decide ((wrap64 ((wrap64 (t245 + t234)) + 100)) ≤ (wrap64 (100 * t235))) = true := decide_eq_true c29
                    clear c29
                    obtain rfl := Option.some.inj H
                    go_wp2_with (first | ((with_reducible refine gate_callee (f := 30) rfl ?_); refine goesL_ (some 125) rfl rfl Try.func30 (by kernel_rfl) rfl #[.int .i64 t232, .int .i64 t233] rfl (by (try simp only [List.map_toArray, List.map_cons, List.map_nil]); first | done | rfl | (simp only [List.length_drop, List.length_take]; rfl)) ?_; (with_reducible refine (impl_BlockThickness.calls t232 t233 t245 t246 _ A26.out).mono ?_); rintro e w' ⟨rfl, ⟨nd, rfl⟩⟩; refine ⟨_, rfl, ?_⟩))
                    go_ret
                    exact ⟨by first | rfl | (simp [errW_none, errW_some] <;> rfl) | (simp [*, errW_none, errW_some] <;> rfl), by repeat (first | (with_reducible first | exact HB.out | apply below_alloc | apply pw_below_drewN | apply below_drew1) | exact HB.out)⟩
                  · rw [if_neg c29] at H
                    have c29b0 : decide ((wrap64 ((wrap64 (t245 + t234)) + 100)) ≤ (wrap64 (100 * t235))) = false := decide_eq_false c29
                    clear c29
                    have H' := Aside0.mk H
                    clear H
                    go_wp2_with (first | ((with_reducible refine gate_callee (f := 30) rfl ?_); refine goesL_ (some 125) rfl rfl Try.func30 (by kernel_rfl) rfl #[.int .i64 t232, .int .i64 t233] rfl (by (try simp only [List.map_toArray, List.map_cons, List.map_nil]); first | done | rfl | (simp only [List.length_drop, List.length_take]; rfl)) ?_; (with_reducible refine (impl_BlockThickness.calls t232 t233 t245 t246 _ A26.out).mono ?_); rintro e w' ⟨rfl, ⟨nd, rfl⟩⟩; refine ⟨_, rfl, ?_⟩))
                    go_meet
                    case rel => exact ⟨_, H', ⟨by have := HJ12.out; first | omega | exact Nat.le_refl _⟩, ⟨by repeat (first | (with_reducible first | exact HB.out | apply below_alloc | apply pw_below_drewN | apply below_drew1) | exact HB.out)⟩⟩
              · rw [if_neg c27] at H
                have c27b0 : (t246 == 0) = false := beq_eq_false_iff_ne.mpr c27
                have c27b1 : (t246 != 0) = true := bne_iff_ne.mpr c27
                obtain rfl := Option.some.inj H
                go_wp2_with (first | ((with_reducible refine gate_callee (f := 30) rfl ?_); refine goesL_ (some 125) rfl rfl Try.func30 (by kernel_rfl) rfl #[.int .i64 t232, .int .i64 t233] rfl (by (try simp only [List.map_toArray, List.map_cons, List.map_nil]); first | done | rfl | (simp only [List.length_drop, List.length_take]; rfl)) ?_; (with_reducible refine (impl_BlockThickness.calls t232 t233 t245 t246 _ A26.out).mono ?_); rintro e w' ⟨rfl, ⟨nd, rfl⟩⟩; refine ⟨_, rfl, ?_⟩))
                go_ret
                exact ⟨by first | rfl | (simp [errW_none, errW_some] <;> rfl) | (simp [*, errW_none, errW_some] <;> rfl), by repeat (first | (with_reducible first | exact HB.out | apply below_alloc | apply pw_below_drewN | apply below_drew1) | exact HB.out)⟩
            · rw [if_neg c25] at H
              have c25b0 : (t236 == 0) = false := beq_eq_false_iff_ne.mpr c25
              have c25b1 : (t236 != 0) = true := bne_iff_ne.mpr c25
              (first | rw [c25b0] | (simp only [i64_w, i32_w]; rw [c25b0]) | skip)
              have H' := Aside0.mk H
              clear H
              go_wp2
              go_meet
              case rel => exact ⟨_, H', ⟨by have := HJ12.out; first | omega | exact Nat.le_refl _⟩, ⟨by repeat (first | (with_reducible first | exact HB.out | apply below_alloc | apply pw_below_drewN | apply below_drew1) | exact HB.out)⟩⟩
          case rest =>
            clear HC24
            try clear c1
            try clear c2
            try clear p2
            try clear c3
            try clear c4
            try clear p6
            try clear c13
            try clear c17
            try clear c17b0
            try clear c17b1
            try clear c18
            try clear c18b0
            try clear c18b1
            try clear c19
            try clear c19b0
            try clear c19b1
            try clear c20
            try clear c20b0
            try clear c20b1
            try clear c21
            try clear c21b0
            try clear c21b1
            try clear c22
            try clear c22b0
            try clear c22b1
            try clear c23
            try clear c24
            try clear c25
            try clear c25b0
            try clear c25b1
            try clear c26
            try clear c27
            try clear c27b0
            try clear c27b1
            try clear c28
            try clear c28b0
            try clear c29
            try clear c29b0
            try clear p2
            obtain ⟨kq, HA, HJ23, HB⟩ := hcut
            cases kq with
            | zero => exact absurd HA.out (by simp [laws_FnBlocks.j1])
            | succ kj23 =>
              have H := HA.out
              clear HA
              simp only [laws_FnBlocks.j1] at H
              by_cases c30 : t228 = 0
              · rw [if_pos c30] at H
                have c30b0 : (t228 == 0) = true := beq_iff_eq.mpr c30
                have c30b1 : (t228 != 0) = false := bne_eq_false_iff_eq.mpr c30
                clear c30
                have H' := Aside0.mk H
                clear H
                go_wp2
                go_loopg [26] kj23 (fun kq v26 w' => ∃ (x26_3 : Int), v26 = .int .i64 x26_3 ∧ Aside0 (laws_FnBlocks.l0 kq t224 t225 t226 t227 x26_3 = some r) ∧ Aside0 (kq ≤ kj23) ∧ Aside0 (Below w.heap.size w w'))
                case atStart => exact ⟨(wrap64 (t226 - 1)), (by first | rfl | (simp; done) | (simp [*]; done)), H', ⟨Nat.le_refl _⟩, ⟨by repeat (first | (with_reducible first | exact HB.out | apply below_alloc | apply pw_below_drewN | apply below_drew1) | exact HB.out)⟩⟩
                case round =>
                  clear H'
                  try clear c1
                  try clear c2
                  try clear p2
                  try clear c3
                  try clear c4
                  try clear p6
                  try clear c13
                  try clear c17
                  try clear c17b0
                  try clear c17b1
                  try clear c18
                  try clear c18b0
                  try clear c18b1
                  try clear c19
                  try clear c19b0
                  try clear c19b1
                  try clear c20
                  try clear c20b0
                  try clear c20b1
                  try clear c21
                  try clear c21b0
                  try clear c21b1
                  try clear c22
                  try clear c22b0
                  try clear c22b1
                  try clear c23
                  try clear c24
                  try clear c25
                  try clear c25b0
                  try clear c25b1
                  try clear c26
                  try clear c27
                  try clear c27b0
                  try clear c27b1
                  try clear c28
                  try clear c28b0
                  try clear c29
                  try clear c29b0
                  try clear c30
                  try clear c30b0
                  try clear c30b1
                  try clear p2
                  try clear p6
                  obtain ⟨x26_3, rfl, HA, HK3, HB⟩ := hrel
                  cases gk with
                  | zero => exact absurd HA.out (by simp [laws_FnBlocks.l0])
                  | succ k3 =>
                    have H := HA.out
                    clear HA
                    simp only [laws_FnBlocks.l0] at H
                    by_cases c31 : x26_3 ≤ (wrap64 (t227 + 1))
                    · rw [if_pos c31] at H
                      have c31b0 : decide (x26_3 ≤ (wrap64 (t227 + 1))) = true := decide_eq_true c31
                      clear c31
                      replace H := Option.bind_eq_some_iff.mp H
                      obtain ⟨⟨t247, t248⟩, A320, H⟩ := H
                      replace H : (if t248 = 0 then (if x26_3 ≥ t226 then (if ((t247 == t225) != (decide (x26_3 ≤ t227))) = true then (some false) else (laws_FnBlocks.l0 k3 t224 t225 t226 t227 (wrap64 (x26_3 + 1)))) else (if ((t247 == t225) != false) = true then (some false) else (laws_FnBlocks.l0 k3 t224 t225 t226 t227 (wrap64 (x26_3 + 1))))) else (laws_FnBlocks.l0 k3 t224 t225 t226 t227 (wrap64 (x26_3 + 1)))) = some r := H
                      have A32 := Aside0.mk A320
                      clear A320
                      by_cases c33 : t248 = 0
                      · rw [if_pos c33] at H
                        have c33b0 : (t248 == 0) = true := beq_iff_eq.mpr c33
                        have c33b1 : (t248 != 0) = false := bne_eq_false_iff_eq.mpr c33
                        clear c33
                        by_cases c34 : x26_3 ≥ t226
                        · rw [if_pos c34] at H
                          have c34b0 : decide (t226 ≤ x26_3) = true := decide_eq_true c34
                          clear c34
                          by_cases c35 : ((t247 == t225) != (decide (x26_3 ≤ t227))) = true
                          · rw [if_pos c35] at H
                            have c35b0 : ((t247 == t225) != (decide (x26_3 ≤ t227))) = true := c35
                            (try (have c35b1 : decide ((t247 == t225) = (decide (x26_3 ≤ t227))) = false := by simpa using c35))
                            (try (have c35b2 : ((t247 == t225) == (decide (x26_3 ≤ t227))) = false := by simpa using c35))
                            (try (have c35b3 : ¬ ((t247 == t225) = (decide (x26_3 ≤ t227))) := by simpa using c35))
                            clear c35
                            obtain rfl := Option.some.inj H
                            go_wp2_with (first | ((with_reducible refine gate_callee (f := 27) rfl ?_); refine goesL_ (some 160) rfl rfl Try.func27 (by kernel_rfl) rfl #[.int .i64 t224, .int .i64 x26_3, .int .i64 0] rfl (by (try simp only [List.map_toArray, List.map_cons, List.map_nil]); first | done | rfl | (simp only [List.length_drop, List.length_take]; rfl)) ?_; (with_reducible refine (impl_SpineWidth.calls t224 x26_3 0 t247 t248 _ A32.out).mono ?_); rintro e w' ⟨rfl, ⟨nd, rfl⟩⟩; refine ⟨_, rfl, ?_⟩))
                            go_ret
                            exact ⟨by first | rfl | (simp [errW_none, errW_some] <;> rfl) | (simp [*, errW_none, errW_some] <;> rfl), by repeat (first | (with_reducible first | exact HB.out | apply below_alloc | apply pw_below_drewN | apply below_drew1) | exact HB.out)⟩
                          · rw [if_neg c35] at H
                            have c35b0 : ((t247 == t225) != (decide (x26_3 ≤ t227))) = false := by simpa using c35
                            (try (have c35b1 : decide ((t247 == t225) = (decide (x26_3 ≤ t227))) = true := by simpa using c35))
                            (try (have c35b2 : ((t247 == t225) == (decide (x26_3 ≤ t227))) = true := by simpa using c35))
                            clear c35
                            have H' := Aside0.mk H
                            clear H
                            go_wp2_with (first | ((with_reducible refine gate_callee (f := 27) rfl ?_); refine goesL_ (some 160) rfl rfl Try.func27 (by kernel_rfl) rfl #[.int .i64 t224, .int .i64 x26_3, .int .i64 0] rfl (by (try simp only [List.map_toArray, List.map_cons, List.map_nil]); first | done | rfl | (simp only [List.length_drop, List.length_take]; rfl)) ?_; (with_reducible refine (impl_SpineWidth.calls t224 x26_3 0 t247 t248 _ A32.out).mono ?_); rintro e w' ⟨rfl, ⟨nd, rfl⟩⟩; refine ⟨_, rfl, ?_⟩))
                            go_roundg k3
                            case measure => have := HJ12.out; have := HJ23.out; have := HK3.out; omega
                            case rel => exact ⟨(wrap64 (x26_3 + 1)), (by first | rfl | (simp; done) | (simp [*]; done)), H', ⟨by have := HJ12.out; have := HJ23.out; have := HK3.out; omega⟩, ⟨by repeat (first | (with_reducible first | exact HB.out | apply below_alloc | apply pw_below_drewN | apply below_drew1) | exact HB.out)⟩⟩
                        · rw [if_neg c34] at H
                          have c34b0 : decide (t226 ≤ x26_3) = false := decide_eq_false c34
                          clear c34
                          by_cases c36 : ((t247 == t225) != false) = true
                          · rw [if_pos c36] at H
                            have c36b0 : ((t247 == t225) != false) = true := c36
                            (try (have c36b1 : decide ((t247 == t225) = false) = false := by simpa using c36))
                            (try (have c36b2 : ((t247 == t225) == false) = false := by simpa using c36))
                            (try (have c36b3 : ¬ ((t247 == t225) = false) := by simpa using c36))
                            clear c36
                            obtain rfl := Option.some.inj H
                            go_wp2_with (first | ((with_reducible refine gate_callee (f := 27) rfl ?_); refine goesL_ (some 160) rfl rfl Try.func27 (by kernel_rfl) rfl #[.int .i64 t224, .int .i64 x26_3, .int .i64 0] rfl (by (try simp only [List.map_toArray, List.map_cons, List.map_nil]); first | done | rfl | (simp only [List.length_drop, List.length_take]; rfl)) ?_; (with_reducible refine (impl_SpineWidth.calls t224 x26_3 0 t247 t248 _ A32.out).mono ?_); rintro e w' ⟨rfl, ⟨nd, rfl⟩⟩; refine ⟨_, rfl, ?_⟩))
                            go_ret
                            exact ⟨by first | rfl | (simp [errW_none, errW_some] <;> rfl) | (simp [*, errW_none, errW_some] <;> rfl), by repeat (first | (with_reducible first | exact HB.out | apply below_alloc | apply pw_below_drewN | apply below_drew1) | exact HB.out)⟩
                          · rw [if_neg c36] at H
                            have c36b0 : ((t247 == t225) != false) = false := by simpa using c36
                            (try (have c36b1 : decide ((t247 == t225) = false) = true := by simpa using c36))
                            (try (have c36b2 : ((t247 == t225) == false) = true := by simpa using c36))
                            clear c36
                            have H' := Aside0.mk H
                            clear H
                            go_wp2_with (first | ((with_reducible refine gate_callee (f := 27) rfl ?_); refine goesL_ (some 160) rfl rfl Try.func27 (by kernel_rfl) rfl #[.int .i64 t224, .int .i64 x26_3, .int .i64 0] rfl (by (try simp only [List.map_toArray, List.map_cons, List.map_nil]); first | done | rfl | (simp only [List.length_drop, List.length_take]; rfl)) ?_; (with_reducible refine (impl_SpineWidth.calls t224 x26_3 0 t247 t248 _ A32.out).mono ?_); rintro e w' ⟨rfl, ⟨nd, rfl⟩⟩; refine ⟨_, rfl, ?_⟩))
                            go_roundg k3
                            case measure => have := HJ12.out; have := HJ23.out; have := HK3.out; omega
                            case rel => exact ⟨(wrap64 (x26_3 + 1)), (by first | rfl | (simp; done) | (simp [*]; done)), H', ⟨by have := HJ12.out; have := HJ23.out; have := HK3.out; omega⟩, ⟨by repeat (first | (with_reducible first | exact HB.out | apply below_alloc | apply pw_below_drewN | apply below_drew1) | exact HB.out)⟩⟩
                      · rw [if_neg c33] at H
                        have c33b0 : (t248 == 0) = false := beq_eq_false_iff_ne.mpr c33
                        have c33b1 : (t248 != 0) = true := bne_iff_ne.mpr c33
                        have H' := Aside0.mk H
                        clear H
                        go_wp2_with (first | ((with_reducible refine gate_callee (f := 27) rfl ?_); refine goesL_ (some 160) rfl rfl Try.func27 (by kernel_rfl) rfl #[.int .i64 t224, .int .i64 x26_3, .int .i64 0] rfl (by (try simp only [List.map_toArray, List.map_cons, List.map_nil]); first | done | rfl | (simp only [List.length_drop, List.length_take]; rfl)) ?_; (with_reducible refine (impl_SpineWidth.calls t224 x26_3 0 t247 t248 _ A32.out).mono ?_); rintro e w' ⟨rfl, ⟨nd, rfl⟩⟩; refine ⟨_, rfl, ?_⟩))
                        go_roundg k3
                        case measure => have := HJ12.out; have := HJ23.out; have := HK3.out; omega
                        case rel => exact ⟨(wrap64 (x26_3 + 1)), (by first | rfl | (simp; done) | (simp [*]; done)), H', ⟨by have := HJ12.out; have := HJ23.out; have := HK3.out; omega⟩, ⟨by repeat (first | (with_reducible first | exact HB.out | apply below_alloc | apply pw_below_drewN | apply below_drew1) | exact HB.out)⟩⟩
                    · rw [if_neg c31] at H
                      have c31b0 : decide (x26_3 ≤ (wrap64 (t227 + 1))) = false := decide_eq_false c31
                      clear c31
                      obtain rfl := Option.some.inj H
                      go_wp2
                      go_ret
                      exact ⟨by first | rfl | (simp [errW_none, errW_some] <;> rfl) | (simp [*, errW_none, errW_some] <;> rfl), by repeat (first | (with_reducible first | exact HB.out | apply below_alloc | apply pw_below_drewN | apply below_drew1) | exact HB.out)⟩
              · rw [if_neg c30] at H
                have c30b0 : (t228 == 0) = false := beq_eq_false_iff_ne.mpr c30
                have c30b1 : (t228 != 0) = true := bne_iff_ne.mpr c30
                obtain rfl := Option.some.inj H
                go_wp2
                go_ret
                exact ⟨by first | rfl | (simp [errW_none, errW_some] <;> rfl) | (simp [*, errW_none, errW_some] <;> rfl), by repeat (first | (with_reducible first | exact HB.out | apply below_alloc | apply pw_below_drewN | apply below_drew1) | exact HB.out)⟩

/-- THE ONE PURE STATEMENT of laws_FnBlocks: yours. -/
def laws_FnBlocks.Pure : Prop := ∀ (l0 : List Int), l0.length ≤ maxLen → l0.length * 1 ≤ 140737488351232 → (∀ x ∈ l0, (Lit.int .u8 x).wf = true) → ∃ k, laws_FnBlocks.f k l0 = some true
theorem laws_FnBlocks.walk (P : laws_FnBlocks.Pure) (a0 : Option Addr) (len0 cap0 : Nat) (z0 : List Int) (w : World) (w0 : (a0 = none ∧ len0 = 0 ∧ cap0 = 0 ∧ z0 = []) ∨ ∃ x, a0 = some x ∧ len0 ≤ cap0 ∧ cap0 ≤ maxLen ∧ z0.length = cap0 ∧ (∀ i, i < z0.length → w.cell? (x.add i) = some (.int .u8 (z0.getD i 0))) ∧ ∀ n ∈ z0, (Lit.int .u8 n).wf = true) (y0 : len0 * 1 ≤ 140737488351232) :
    Calls Try.prog 4 #[.slice a0 len0 cap0] w fun e w' => e = .returned (.bool true) ∧ Below w.heap.size w w' := by
  obtain ⟨l0, rfl, hr0, hm0, hw0, hc0⟩ := ReadsInt.ofRowC w0
  obtain ⟨k, h⟩ := P l0 hm0 y0 hw0
  refine (laws_FnBlocks.calls k _ _ l0 true w (Kd.C_of_reads (d := (0 : Int)) (h1 := fun _ => rfl) hr0) hc0 h).mono ?_
  rintro e w' ⟨rfl, hd⟩
  exact ⟨rfl, hd⟩

end Go.Proofs.Ytfmmpdhodkkkdaa.PFnBlocks
