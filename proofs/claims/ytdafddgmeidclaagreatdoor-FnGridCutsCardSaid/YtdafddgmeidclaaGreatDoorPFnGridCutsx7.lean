-- Written by wip/inject.py: a contract of each function that the law reaches; those of the stand-ins are proved in this seat's Hand texts
import Derived.Test.YtdafddgmeidclaaGreatDoorPFnGridCutsx0
import Derived.Test.YtdafddgmeidclaaGreatDoorPFnGridCutsx3
import Derived.Test.YtdafddgmeidclaaGreatDoorPFnGridCutsx5
namespace Go.Proofs.YtdafddgmeidclaaGreatDoor.PFnGridCuts
open Go.RowKit Go.Proofs.YtdafddgmeidclaaGreatDoorW.PrintWords Go.Proofs.YtdafddgmeidclaaGreatDoorW.PrintLast Go.Proofs.YtdafddgmeidclaaGreatDoorW.PrintMore
attribute [local go_sem] max2_int min2_int max_two min_two max_three min_three max_four min_four   -- for this text's walks alone
set_option linter.unusedVariables false
set_option linter.unusedSimpArgs false

/-! ### spec_l09DrawPiece: function 39 -/
def spec_l09DrawPiece.f (s0_0 : List Int) (s0_1 : Int) (s0_2 : Int) : Option (Int × Int × Int × Int) := (spec_l01Next.f s0_0 s0_1 s0_2 40).bind fun bt207 => (if bt207.1 = 0 then ((spec_l01Pick.f s0_0 bt207.2.1 bt207.2.2 (([0, 1, 20000, 20001] : List Int))).bind fun bt213 => ((spec_l01Pick.f s0_0 bt213.2.1 bt213.2.2 (([1, 20000] : List Int))).bind fun bt219 => (some (bt213.1, bt219.1, bt219.2.1, bt219.2.2)))) else ((spec_l01Next.f s0_0 bt207.2.1 bt207.2.2 60).bind fun bt222 => ((spec_l01Next.f s0_0 bt222.2.1 bt222.2.2 60).bind fun bt225 => (some (wrap64 (1 + bt222.1), wrap64 (1 + bt225.1), bt225.2.1, bt225.2.2)))))
set_option maxHeartbeats 8000000 in
set_option maxRecDepth 100000 in
theorem spec_l09DrawPiece.calls (g : Nat) (s0_0 : List Int) (s0_1 : Int) (s0_2 : Int) (r1 : Int) (r2 : Int) (r3 : Int) (r4 : Int) (w0 w : World) (hI : IsS70 w0 w g s0_0 s0_1 s0_2) (hB : Below w0.heap.size w0 w) (h : spec_l09DrawPiece.f s0_0 s0_1 s0_2 = some (r1, r2, r3, r4)) :
  Calls Tryz.prog 39 #[.pointer (some ⟨g, 0, none⟩)] w fun e w' => e = .returned (.agg #[.int .i64 r1, .int .i64 r2]) ∧ IsS70 w0 w' g s0_0 r3 r4 ∧ Below w0.heap.size w0 w' ∧ KeepBut w w' g none := by
 have hu25 := Tryz.underlying25
 have HI0 := Aside0.mk hI
 have HK := Aside0.mk (KeepBut.refl w g none)
 have HL := Aside0.mk hB.size
 clear hI
 have HW0 := Aside0.mk hB.size
 have HB := Aside0.mk hB
 clear hB
 have H : ((spec_l01Next.f s0_0 s0_1 s0_2 40).bind fun bt207 => (if bt207.1 = 0 then ((spec_l01Pick.f s0_0 bt207.2.1 bt207.2.2 (([0, 1, 20000, 20001] : List Int))).bind fun bt213 => ((spec_l01Pick.f s0_0 bt213.2.1 bt213.2.2 (([1, 20000] : List Int))).bind fun bt219 => (some (bt213.1, bt219.1, bt219.2.1, bt219.2.2)))) else ((spec_l01Next.f s0_0 bt207.2.1 bt207.2.2 60).bind fun bt222 => ((spec_l01Next.f s0_0 bt222.2.1 bt222.2.2 60).bind fun bt225 => (some (wrap64 (1 + bt222.1), wrap64 (1 + bt225.1), bt225.2.1, bt225.2.2)))))) = some (r1, r2, r3, r4) := h
 clear h
 replace H := Option.bind_eq_some_iff.mp H
 obtain ⟨⟨t207, t208, t209⟩, A20, H⟩ := H
 try dsimp only at H
 have A2 := Aside0.mk A20
 clear A20
 by_cases c3 : t207 = 0
 ·rw [if_pos c3] at H
  have c3b0 : (t207 == 0) = true := beq_iff_eq.mpr c3
  have c3b1 : (t207 != 0) = false := bne_eq_false_iff_eq.mpr c3
  clear c3
  obtain ⟨y210, hy210⟩ : ∃ y_ : List Int, y_ = (([0, 1, 20000, 20001] : List Int)) := ⟨_, rfl⟩
  replace H : ((spec_l01Pick.f s0_0 t208 t209 y210).bind fun bt213 => ((spec_l01Pick.f s0_0 bt213.2.1 bt213.2.2 (([1, 20000] : List Int))).bind fun bt219 => (some (bt213.1, bt219.1, bt219.2.1, bt219.2.2)))) = some (r1, r2, r3, r4) := by first | (rw [hy210]; with_reducible exact H) | (have H2_ := (Option.bind_some _ _).symm.trans H; rw [hy210]; with_reducible exact H2_) | (have H2_ := (Option.bind_some _ _).symm.trans H; with_reducible exact H2_) | with_reducible exact H | (rw [hy210]; exact H) | exact H
  have Ny210 := Aside0.mk hy210
  clear hy210
  replace H := Option.bind_eq_some_iff.mp H
  obtain ⟨⟨t213, t214, t215⟩, A40, H⟩ := H
  try dsimp only at H
  have A4 := Aside0.mk A40
  clear A40
  obtain ⟨y216, hy216⟩ : ∃ y_ : List Int, y_ = (([1, 20000] : List Int)) := ⟨_, rfl⟩
  replace H : ((spec_l01Pick.f s0_0 t214 t215 y216).bind fun bt219 => (some (t213, bt219.1, bt219.2.1, bt219.2.2))) = some (r1, r2, r3, r4) := by first | (rw [hy216]; with_reducible exact H) | (have H2_ := (Option.bind_some _ _).symm.trans H; rw [hy216]; with_reducible exact H2_) | (have H2_ := (Option.bind_some _ _).symm.trans H; with_reducible exact H2_) | with_reducible exact H | (rw [hy216]; exact H) | exact H
  have Ny216 := Aside0.mk hy216
  clear hy216
  replace H := Option.bind_eq_some_iff.mp H
  obtain ⟨⟨t219, t220, t221⟩, A50, H⟩ := H
  try dsimp only at H
  have A5 := Aside0.mk A50
  clear A50
  simp only [Option.some.injEq, Prod.mk.injEq] at H
  obtain ⟨rfl, rfl, rfl, rfl⟩ := H
  go_enter Tryz.func39, Tryz.ntmps39
  go_wp2_with (first | ((with_reducible refine gd_ 2 rfl ?_); refine be_ 2 #[.int .i64 0, .int .i64 0] 25 rfl rfl ?_; intro gb206 hg w6 hbox hb; replace HB := hs_ HB hb; have BK206 := am_ hbox; have GW206 := am_ (by rw [hg]; exact (keep_size (w := w) (g := g) (row := none) (kx_ HK.out)) : w.heap.size ≤ gb206); have GE206 := am_ (Nat.le_trans HW0.out (by rw [hg]; exact (keep_size (w := w) (g := g) (row := none) (kx_ HK.out)) : w.heap.size ≤ gb206) : w0.heap.size ≤ gb206); replace HK := am_ (KeepBut.trans (kx_ HK.out) (KeepBut.of_below hb g none) (.inl rfl)); have NB0_206 := am_ (by rw [hg]; exact Nat.ne_of_lt (IsS70.lt (show IsS70 w0 _ g s0_0 s0_1 s0_2 from ix_ HI0.out)) : g ≠ gb206); have NB206_0 := am_ (by rw [hg]; exact Nat.ne_of_gt (IsS70.lt (show IsS70 w0 _ g s0_0 s0_1 s0_2 from ix_ HI0.out)) : gb206 ≠ g); replace HI0 := am_ (IsS70.below (ix_ HI0.out) hb); clear hb hbox hg) | ((with_reducible refine gc_ 18 rfl ?_); refine gl_ (some 4) rfl rfl Tryz.func18 rfl #[.pointer (some ⟨g, 0, none⟩), .int .i64 40] rfl ?_; (with_reducible refine (spec_l01Next.calls g s0_0 s0_1 s0_2 40 t207 t208 t209 w0 _ ?side1 ?side2 A2.out).mono ?_); (case side1 => exact ix_ HI0.out); (case side2 => exact hx_ HB.out); rintro e w7 ⟨rfl, hi, hb, hk⟩; refine ⟨_, rfl, ?_⟩; replace BK206 := kb_ hk BK206 NB206_0.out; replace HK := am_ (KeepBut.trans (kx_ HK.out) hk (.inl rfl)); replace HB := am_ hb; replace HI0 := am_ hi; (try clear hb); (try clear hb2); (try clear hk); (try clear hi)) | ((with_reducible refine gd_ 7 rfl ?_); refine Kd.R_lit (Kd.int .i64) _ 2 ?hg (N := 7) ?hd (xs := ([0, 1, 20000, 20001] : List Int)) (inner := [.int .i64 0, .int .i64 1, .int .i64 20000, .int .i64 20001]) (ok := fun _ => True) (okp := fun _ => True) ?hr ?hp (fun _ hk => hk) trivial (Below.refl _ _) (Nat.le_refl _) (by simp) ?_; (case hd => rfl); (case hg => rfl); (case hr => first | (go_simp; done) | (go_simp; rfl)); (case hp => exact (Reps.one (show Kd.M (Kd.int .i64) _ _ _ 0 [.int .i64 0] from rfl) (Reps.one (show Kd.M (Kd.int .i64) _ _ _ 1 [.int .i64 1] from rfl) (Reps.one (show Kd.M (Kd.int .i64) _ _ _ 20000 [.int .i64 20000] from rfl) (Reps.one (show Kd.M (Kd.int .i64) _ _ _ 20001 [.int .i64 20001] from rfl) (Reps.none _ _)))))); intro v211 w8 ho9 hb hg_ hnew_; clear hg_ hnew_; (first | rw [← Ny210.out] at ho9 | (simp only [Int.reduceToNat] at ho9; rw [← Ny210.out] at ho9)); have HO212 := am_ (Kd.R_lower ho9 (keep_size (w := w) (g := g) (row := none) (kx_ HK.out))); replace HI0 := am_ (IsS70.below (ix_ HI0.out) hb); replace BK206 := bb_ BK206 hb; replace HK := am_ (KeepBut.trans (kx_ HK.out) (KeepBut.of_below hb g none) (.inl rfl)); replace HB := hs_ HB hb; clear hb ho9; obtain ⟨Ao10, co10, eo10⟩ := Kd.R_slice HO212.out; subst eo10) | ((with_reducible refine gc_ 19 rfl ?_); refine gl_ (some 8) rfl rfl Tryz.func19 rfl #[.pointer (some ⟨g, 0, none⟩), .slice Ao10 y210.length co10] rfl ?_; (with_reducible refine (spec_l01Pick.calls g s0_0 t208 t209 _ _ y210 t213 t214 t215 w0 _ ?side1 ?side2 ?side3 ?side4 ?side5 A4.out).mono ?_); (case side1 => exact ix_ HI0.out); (case side2 => exact hx_ HB.out); (case side3 => repeat (first | exact (Kd.R_reads' HO212.out).2.2 | (with_reducible refine Kd.C_alloc ?_ _) | (with_reducible refine Kd.C_drewN ?_ _) | (with_reducible refine Kd.C_drew ?_))); (case side4 => exact (Kd.R_reads' HO212.out).2.1); (case side5 => exact far_slice (IsS70.own_ne HI0.out HO212.out (by decide))); rintro e w11 ⟨rfl, hi, hb, hk⟩; refine ⟨_, rfl, ?_⟩; replace BK206 := kb_ hk BK206 NB206_0.out; replace HO212 := am_ (Kd.R_mono (Kd.R_keep (IsS70.apart (show IsS70 w0 _ g s0_0 t208 t209 from ix_ HI0.out) (rx_ HO212.out) (by decide)) hk (fun _ h => h.2)) (fun _ h => h.1)); replace HK := am_ (KeepBut.trans (kx_ HK.out) hk (.inl rfl)); replace HB := am_ hb; replace HI0 := am_ hi; (try clear hb); (try clear hb2); (try clear hk); (try clear hi)) | ((with_reducible refine gd_ 10 rfl ?_); refine Kd.R_lit (Kd.int .i64) _ 2 ?hg (N := 10) ?hd (xs := ([1, 20000] : List Int)) (inner := [.int .i64 1, .int .i64 20000]) (ok := fun _ => True) (okp := fun _ => True) ?hr ?hp (fun _ hk => hk) trivial (Below.refl _ _) (Nat.le_refl _) (by simp) ?_; (case hd => rfl); (case hg => rfl); (case hr => first | (go_simp; done) | (go_simp; rfl)); (case hp => exact (Reps.one (show Kd.M (Kd.int .i64) _ _ _ 1 [.int .i64 1] from rfl) (Reps.one (show Kd.M (Kd.int .i64) _ _ _ 20000 [.int .i64 20000] from rfl) (Reps.none _ _)))); intro v217 w12 ho13 hb hg_ hnew_; clear hg_ hnew_; (first | rw [← Ny216.out] at ho13 | (simp only [Int.reduceToNat] at ho13; rw [← Ny216.out] at ho13)); have HO218 := am_ (Kd.R_lower (Kd.R_new' ho13 (Kd.R_lt (rx_ HO212.out))) (keep_size (w := w) (g := g) (row := none) (kx_ HK.out))); replace HO212 := am_ (Kd.R_elder' (rx_ HO212.out) (Kd.R_base ho13) hb); replace HI0 := am_ (IsS70.below (ix_ HI0.out) hb); replace BK206 := bb_ BK206 hb; replace HK := am_ (KeepBut.trans (kx_ HK.out) (KeepBut.of_below hb g none) (.inl rfl)); replace HB := hs_ HB hb; clear hb ho13; obtain ⟨Ao14, co14, eo14⟩ := Kd.R_slice HO218.out; subst eo14) | ((with_reducible refine gc_ 19 rfl ?_); refine gl_ (some 11) rfl rfl Tryz.func19 rfl #[.pointer (some ⟨g, 0, none⟩), .slice Ao14 y216.length co14] rfl ?_; (with_reducible refine (spec_l01Pick.calls g s0_0 t214 t215 _ _ y216 t219 t220 t221 w0 _ ?side1 ?side2 ?side3 ?side4 ?side5 A5.out).mono ?_); (case side1 => exact ix_ HI0.out); (case side2 => exact hx_ HB.out); (case side3 => repeat (first | exact (Kd.R_reads' HO218.out).2.2 | (with_reducible refine Kd.C_alloc ?_ _) | (with_reducible refine Kd.C_drewN ?_ _) | (with_reducible refine Kd.C_drew ?_))); (case side4 => exact (Kd.R_reads' HO218.out).2.1); (case side5 => exact far_slice (IsS70.own_ne HI0.out HO218.out (by decide))); rintro e w15 ⟨rfl, hi, hb, hk⟩; refine ⟨_, rfl, ?_⟩; replace BK206 := kb_ hk BK206 NB206_0.out; replace HO212 := am_ (Kd.R_mono (Kd.R_keep (IsS70.apart (show IsS70 w0 _ g s0_0 t214 t215 from ix_ HI0.out) (rx_ HO212.out) (by decide)) hk (fun _ h => h.2)) (fun _ h => h.1)); replace HO218 := am_ (Kd.R_mono (Kd.R_keep (IsS70.apart (show IsS70 w0 _ g s0_0 t214 t215 from ix_ HI0.out) (rx_ HO218.out) (by decide)) hk (fun _ h => h.2)) (fun _ h => h.1)); replace HK := am_ (KeepBut.trans (kx_ HK.out) hk (.inl rfl)); replace HB := am_ hb; replace HI0 := am_ hi; (try clear hb); (try clear hb2); (try clear hk); (try clear hi); have hnb16 := NB206_0.out; have hnc16 := NB0_206.out; have hcz17_0 : w15.cell? ⟨gb206, 0, none⟩ = some (.int .i64 0) := (blk_cell BK206.out 0).trans rfl; have hcz17_1 : w15.cell? ⟨gb206, 1, none⟩ = some (.int .i64 0) := (blk_cell BK206.out 1).trans rfl; have hfz17_0 := blk_frozen BK206.out 0; have hfz17_1 := blk_frozen BK206.out 1))
  refine bodyPost_ret (results_cell_row rfl _ _ gb206 25 #[.int .i64 t213, .int .i64 t219] (0, 0) _ rfl (by (with_reducible repeat (first | refine blk_drewN ?_ _ | refine blk_drew ?_ | refine blk_alloc ?_ _)); refine blk_put (cs := #[.int .i64 t213, .int .i64 0]) ?_ 1 _ rfl; (with_reducible repeat (first | refine blk_drewN ?_ _ | refine blk_drew ?_ | refine blk_alloc ?_ _)); refine blk_put (cs := #[.int .i64 0, .int .i64 0]) ?_ 0 _ rfl; (with_reducible repeat (first | refine blk_drewN ?_ _ | refine blk_drew ?_ | refine blk_alloc ?_ _)); exact BK206.out) Tryz.underlying25 rfl (by kernel_rfl)) rfl ?_
  exact er_ ⟨ix_ HI0.out, hx_ HB.out, kx_ HK.out⟩
 ·rw [if_neg c3] at H
  have c3b0 : (t207 == 0) = false := beq_eq_false_iff_ne.mpr c3
  have c3b1 : (t207 != 0) = true := bne_iff_ne.mpr c3
  replace H := Option.bind_eq_some_iff.mp H
  obtain ⟨⟨t222, t223, t224⟩, A180, H⟩ := H
  try dsimp only at H
  have A18 := Aside0.mk A180
  clear A180
  replace H := Option.bind_eq_some_iff.mp H
  obtain ⟨⟨t225, t226, t227⟩, A190, H⟩ := H
  try dsimp only at H
  have A19 := Aside0.mk A190
  clear A190
  simp only [Option.some.injEq, Prod.mk.injEq] at H
  obtain ⟨rfl, rfl, rfl, rfl⟩ := H
  go_enter Tryz.func39, Tryz.ntmps39
  go_wp2_with (first | ((with_reducible refine gd_ 2 rfl ?_); refine be_ 2 #[.int .i64 0, .int .i64 0] 25 rfl rfl ?_; intro gb206 hg w20 hbox hb; replace HB := hs_ HB hb; have BK206 := am_ hbox; have GW206 := am_ (by rw [hg]; exact (keep_size (w := w) (g := g) (row := none) (kx_ HK.out)) : w.heap.size ≤ gb206); have GE206 := am_ (Nat.le_trans HW0.out (by rw [hg]; exact (keep_size (w := w) (g := g) (row := none) (kx_ HK.out)) : w.heap.size ≤ gb206) : w0.heap.size ≤ gb206); replace HK := am_ (KeepBut.trans (kx_ HK.out) (KeepBut.of_below hb g none) (.inl rfl)); have NB0_206 := am_ (by rw [hg]; exact Nat.ne_of_lt (IsS70.lt (show IsS70 w0 _ g s0_0 s0_1 s0_2 from ix_ HI0.out)) : g ≠ gb206); have NB206_0 := am_ (by rw [hg]; exact Nat.ne_of_gt (IsS70.lt (show IsS70 w0 _ g s0_0 s0_1 s0_2 from ix_ HI0.out)) : gb206 ≠ g); replace HI0 := am_ (IsS70.below (ix_ HI0.out) hb); clear hb hbox hg) | ((with_reducible refine gc_ 18 rfl ?_); refine gl_ (some 4) rfl rfl Tryz.func18 rfl #[.pointer (some ⟨g, 0, none⟩), .int .i64 40] rfl ?_; (with_reducible refine (spec_l01Next.calls g s0_0 s0_1 s0_2 40 t207 t208 t209 w0 _ ?side1 ?side2 A2.out).mono ?_); (case side1 => exact ix_ HI0.out); (case side2 => exact hx_ HB.out); rintro e w21 ⟨rfl, hi, hb, hk⟩; refine ⟨_, rfl, ?_⟩; replace BK206 := kb_ hk BK206 NB206_0.out; replace HK := am_ (KeepBut.trans (kx_ HK.out) hk (.inl rfl)); replace HB := am_ hb; replace HI0 := am_ hi; (try clear hb); (try clear hb2); (try clear hk); (try clear hi)) | ((with_reducible refine gc_ 18 rfl ?_); refine gl_ (some 14) rfl rfl Tryz.func18 rfl #[.pointer (some ⟨g, 0, none⟩), .int .i64 60] rfl ?_; (with_reducible refine (spec_l01Next.calls g s0_0 t208 t209 60 t222 t223 t224 w0 _ ?side1 ?side2 A18.out).mono ?_); (case side1 => exact ix_ HI0.out); (case side2 => exact hx_ HB.out); rintro e w22 ⟨rfl, hi, hb, hk⟩; refine ⟨_, rfl, ?_⟩; replace BK206 := kb_ hk BK206 NB206_0.out; replace HK := am_ (KeepBut.trans (kx_ HK.out) hk (.inl rfl)); replace HB := am_ hb; replace HI0 := am_ hi; (try clear hb); (try clear hb2); (try clear hk); (try clear hi)) | ((with_reducible refine gc_ 18 rfl ?_); refine gl_ (some 17) rfl rfl Tryz.func18 rfl #[.pointer (some ⟨g, 0, none⟩), .int .i64 60] rfl ?_; (with_reducible refine (spec_l01Next.calls g s0_0 t223 t224 60 t225 t226 t227 w0 _ ?side1 ?side2 A19.out).mono ?_); (case side1 => exact ix_ HI0.out); (case side2 => exact hx_ HB.out); rintro e w23 ⟨rfl, hi, hb, hk⟩; refine ⟨_, rfl, ?_⟩; replace BK206 := kb_ hk BK206 NB206_0.out; replace HK := am_ (KeepBut.trans (kx_ HK.out) hk (.inl rfl)); replace HB := am_ hb; replace HI0 := am_ hi; (try clear hb); (try clear hb2); (try clear hk); (try clear hi); have hnb24 := NB206_0.out; have hnc24 := NB0_206.out; have hcz25_0 : w23.cell? ⟨gb206, 0, none⟩ = some (.int .i64 0) := (blk_cell BK206.out 0).trans rfl; have hcz25_1 : w23.cell? ⟨gb206, 1, none⟩ = some (.int .i64 0) := (blk_cell BK206.out 1).trans rfl; have hfz25_0 := blk_frozen BK206.out 0; have hfz25_1 := blk_frozen BK206.out 1))
  refine bodyPost_ret (results_cell_row rfl _ _ gb206 25 #[.int .i64 (wrap64 (1 + t222)), .int .i64 (wrap64 (1 + t225))] (0, 0) _ rfl (by (with_reducible repeat (first | refine blk_drewN ?_ _ | refine blk_drew ?_ | refine blk_alloc ?_ _)); refine blk_put (cs := #[.int .i64 (wrap64 (1 + t222)), .int .i64 0]) ?_ 1 _ rfl; (with_reducible repeat (first | refine blk_drewN ?_ _ | refine blk_drew ?_ | refine blk_alloc ?_ _)); refine blk_put (cs := #[.int .i64 0, .int .i64 0]) ?_ 0 _ rfl; (with_reducible repeat (first | refine blk_drewN ?_ _ | refine blk_drew ?_ | refine blk_alloc ?_ _)); exact BK206.out) Tryz.underlying25 rfl (by kernel_rfl)) rfl ?_
  exact er_ ⟨ix_ HI0.out, hx_ HB.out, kx_ HK.out⟩

/-! ### spec_l09DrawCut: function 40 -/
def spec_l09DrawCut.j0 : Nat → List (S25) → Int → List Int → Int → Int → Int → Bool → Int → Option (Int × Bool × Int × Int × Int)
 | 0, _, _, _, _, _, _, _, _ => none
 | k + 1, x1, x6, x1000, x1001, x1002, x236000, x236001, x236002 => (spec_l01Next.f x1000 x1001 x1002 (wrap64 (x6 - 1))).bind fun bt238 => ((spec_l01Next.f x1000 bt238.2.1 bt238.2.2 24).bind fun bt241 => (if bt241.1 = 0 then ((spec_l01Pick.f x1000 bt241.2.1 bt241.2.2 (([0, x6, (-1)] : List Int))).bind fun bt247 => (some (x236000, x236001, bt247.1, bt247.2.1, bt247.2.2))) else (if bt241.1 = 1 then ((spec_l01Pick.f x1000 bt241.2.1 bt241.2.2 (([(-1), (x1.length : Int)] : List Int))).bind fun bt253 => (some (bt253.1, x236001, wrap64 (1 + bt238.1), bt253.2.1, bt253.2.2))) else (some (x236000, x236001, wrap64 (1 + bt238.1), bt241.2.1, bt241.2.2)))))
def spec_l09DrawCut.f (k : Nat) (s0_0 : List Int) (s0_1 : Int) (s0_2 : Int) (l1 : List (S25)) : Option (Int × Bool × Int × Int × Int) := (spec_l01Next.f s0_0 s0_1 s0_2 (l1.length : Int)).bind fun bt229 => ((spec_l01Next.f s0_0 bt229.2.1 bt229.2.2 2).bind fun bt232 => (if (l1.length : Int) = 0 then (some (bt229.1, (bt232.1 == 0), 0, bt232.2.1, bt232.2.2)) else (if 0 ≤ bt229.1 then (if bt229.1 < (l1.length : Int) then (if bt232.1 = 0 then (spec_l09DrawCut.j0 k l1 ((rd_T25 l1 bt229.1).f1) s0_0 bt232.2.1 bt232.2.2 bt229.1 (bt232.1 == 0) 0) else (spec_l09DrawCut.j0 k l1 ((rd_T25 l1 bt229.1).f0) s0_0 bt232.2.1 bt232.2.2 bt229.1 (bt232.1 == 0) 0)) else (none)) else (none))))
theorem spec_l09DrawCut.mono_l : ∀ k, (∀ y0 y1 y2 y3 y4 y5 y6 y7, LeO (spec_l09DrawCut.j0 k y0 y1 y2 y3 y4 y5 y6 y7) (spec_l09DrawCut.j0 (k + 1) y0 y1 y2 y3 y4 y5 y6 y7))
 | 0 => fun _ _ _ _ _ _ _ _ r h => by simp [spec_l09DrawCut.j0] at h
 | k + 1 => by
  have ih0 := spec_l09DrawCut.mono_l k
  ·intro y0 y1 y2 y3 y4 y5 y6 y7
   unfold spec_l09DrawCut.j0
   repeat' first
   | (with_reducible exact ih0 _ _ _ _ _ _ _ _)
   | (with_reducible exact LeO.refl _)
   | (with_reducible exact LeO.none _)
   | (with_reducible refine LeO.ite ?_ ?_)
   | (with_reducible refine LeO.bind ?_ (fun _ => ?_))
   | exact ih0 _ _ _ _ _ _ _ _
   | exact LeO.none _
   | refine LeO.ite ?_ ?_
   | refine LeO.bind ?_ (fun _ => ?_)
theorem spec_l09DrawCut.mono : ∀ a0 a1 a2 a3 k, LeO (spec_l09DrawCut.f k a0 a1 a2 a3) (spec_l09DrawCut.f (k + 1) a0 a1 a2 a3) := by
 intro a0 a1 a2 a3 k
 have ih0 := spec_l09DrawCut.mono_l k
 unfold spec_l09DrawCut.f
 repeat' first
   | (with_reducible exact ih0 _ _ _ _ _ _ _ _)
   | (with_reducible exact LeO.refl _)
   | (with_reducible exact LeO.none _)
   | (with_reducible refine LeO.ite ?_ ?_)
   | (with_reducible refine LeO.bind ?_ (fun _ => ?_))
   | exact ih0 _ _ _ _ _ _ _ _
   | exact LeO.none _
   | refine LeO.ite ?_ ?_
   | refine LeO.bind ?_ (fun _ => ?_)
set_option maxHeartbeats 8000000 in
set_option maxRecDepth 100000 in
theorem spec_l09DrawCut.calls (k : Nat) (g : Nat) (s0_0 : List Int) (s0_1 : Int) (s0_2 : Int) (A1 : Option Addr) (c1 : Nat) (l1 : List (S25)) (r1 : Int) (r2 : Bool) (r3 : Int) (r4 : Int) (r5 : Int) (w0 w : World) (hI : IsS70 w0 w g s0_0 s0_1 s0_2) (hB : Below w0.heap.size w0 w) (hr1 : ∀ W_, KeepBut w W_ g none → Kd.C k25 W_ A1 l1.length l1) (hc1 : l1.length ≤ c1) (h : spec_l09DrawCut.f k s0_0 s0_1 s0_2 l1 = some (r1, r2, r3, r4, r5)) :
  Calls Tryz.prog 40 #[.pointer (some ⟨g, 0, none⟩), .slice A1 l1.length c1] w fun e w' => e = .returned (.agg #[.int .i64 r1, .bool r2, .int .i64 r3]) ∧ IsS70 w0 w' g s0_0 r4 r5 ∧ Below w0.heap.size w0 w' ∧ KeepBut w w' g none := by
 have hu50 := Tryz.underlying50
 have HR1 := Aside0.mk hr1
 have HC1 := Aside0.mk hc1
 clear hr1 hc1
 have HI0 := Aside0.mk hI
 have HK := Aside0.mk (KeepBut.refl w g none)
 have HL := Aside0.mk hB.size
 clear hI
 have HW0 := Aside0.mk hB.size
 have HB := Aside0.mk hB
 clear hB
 have H : ((spec_l01Next.f s0_0 s0_1 s0_2 (l1.length : Int)).bind fun bt229 => ((spec_l01Next.f s0_0 bt229.2.1 bt229.2.2 2).bind fun bt232 => (if (l1.length : Int) = 0 then (some (bt229.1, (bt232.1 == 0), 0, bt232.2.1, bt232.2.2)) else (if 0 ≤ bt229.1 then (if bt229.1 < (l1.length : Int) then (if bt232.1 = 0 then (spec_l09DrawCut.j0 k l1 ((rd_T25 l1 bt229.1).f1) s0_0 bt232.2.1 bt232.2.2 bt229.1 (bt232.1 == 0) 0) else (spec_l09DrawCut.j0 k l1 ((rd_T25 l1 bt229.1).f0) s0_0 bt232.2.1 bt232.2.2 bt229.1 (bt232.1 == 0) 0)) else (none)) else (none))))) = some (r1, r2, r3, r4, r5) := h
 clear h
 replace H := Option.bind_eq_some_iff.mp H
 obtain ⟨⟨t229, t230, t231⟩, A30, H⟩ := H
 try dsimp only at H
 have A3 := Aside0.mk A30
 clear A30
 replace H := Option.bind_eq_some_iff.mp H
 obtain ⟨⟨t232, t233, t234⟩, A40, H⟩ := H
 try dsimp only at H
 have A4 := Aside0.mk A40
 clear A40
 by_cases c5 : (l1.length : Int) = 0
 ·rw [if_pos c5] at H
  have c5b0 : ((l1.length : Int) == 0) = true := beq_iff_eq.mpr c5
  have c5b1 : ((l1.length : Int) != 0) = false := bne_eq_false_iff_eq.mpr c5
  clear c5
  simp only [Option.some.injEq, Prod.mk.injEq] at H
  obtain ⟨rfl, rfl, rfl, rfl, rfl⟩ := H
  go_enter Tryz.func40, Tryz.ntmps40
  go_wp2_with (first | ((with_reducible refine gd_ 4 rfl ?_); refine be_ 4 #[.int .i64 0, .bool false, .int .i64 0] 50 rfl rfl ?_; intro gb228 hg w6 hbox hb; replace HB := hs_ HB hb; have BK228 := am_ hbox; have GW228 := am_ (by rw [hg]; exact (keep_size (w := w) (g := g) (row := none) (kx_ HK.out)) : w.heap.size ≤ gb228); have GE228 := am_ (Nat.le_trans HW0.out (by rw [hg]; exact (keep_size (w := w) (g := g) (row := none) (kx_ HK.out)) : w.heap.size ≤ gb228) : w0.heap.size ≤ gb228); replace HK := am_ (KeepBut.trans (kx_ HK.out) (KeepBut.of_below hb g none) (.inl rfl)); have NB0_228 := am_ (by rw [hg]; exact Nat.ne_of_lt (IsS70.lt (show IsS70 w0 _ g s0_0 s0_1 s0_2 from ix_ HI0.out)) : g ≠ gb228); have NB228_0 := am_ (by rw [hg]; exact Nat.ne_of_gt (IsS70.lt (show IsS70 w0 _ g s0_0 s0_1 s0_2 from ix_ HI0.out)) : gb228 ≠ g); replace HI0 := am_ (IsS70.below (ix_ HI0.out) hb); clear hb hbox hg) | ((with_reducible refine gc_ 18 rfl ?_); refine gl_ (some 10) rfl rfl Tryz.func18 rfl #[.pointer (some ⟨g, 0, none⟩), .int .i64 (l1.length : Int)] rfl ?_; (with_reducible refine (spec_l01Next.calls g s0_0 s0_1 s0_2 (l1.length : Int) t229 t230 t231 w0 _ ?side1 ?side2 A3.out).mono ?_); (case side1 => exact ix_ HI0.out); (case side2 => exact hx_ HB.out); rintro e w7 ⟨rfl, hi, hb, hk⟩; refine ⟨_, rfl, ?_⟩; replace BK228 := kb_ hk BK228 NB228_0.out; replace HK := am_ (KeepBut.trans (kx_ HK.out) hk (.inl rfl)); replace HB := am_ hb; replace HI0 := am_ hi; (try clear hb); (try clear hb2); (try clear hk); (try clear hi)) | ((with_reducible refine gc_ 18 rfl ?_); refine gl_ (some 12) rfl rfl Tryz.func18 rfl #[.pointer (some ⟨g, 0, none⟩), .int .i64 2] rfl ?_; (with_reducible refine (spec_l01Next.calls g s0_0 t230 t231 2 t232 t233 t234 w0 _ ?side1 ?side2 A4.out).mono ?_); (case side1 => exact ix_ HI0.out); (case side2 => exact hx_ HB.out); rintro e w8 ⟨rfl, hi, hb, hk⟩; refine ⟨_, rfl, ?_⟩; replace BK228 := kb_ hk BK228 NB228_0.out; replace HK := am_ (KeepBut.trans (kx_ HK.out) hk (.inl rfl)); replace HB := am_ hb; replace HI0 := am_ hi; (try clear hb); (try clear hb2); (try clear hk); (try clear hi)) | ((with_reducible refine gd_ 5 rfl ?_); refine be_ 5 #[.int .i64 0, .bool false, .int .i64 0] 50 rfl rfl ?_; intro gb235 hg w9 hbox hb; replace HB := hs_ HB hb; have BK235 := am_ hbox; have GW235 := am_ (by rw [hg]; exact (keep_size (w := w) (g := g) (row := none) (kx_ HK.out)) : w.heap.size ≤ gb235); have GE235 := am_ (Nat.le_trans HW0.out (by rw [hg]; exact (keep_size (w := w) (g := g) (row := none) (kx_ HK.out)) : w.heap.size ≤ gb235) : w0.heap.size ≤ gb235); replace HK := am_ (KeepBut.trans (kx_ HK.out) (KeepBut.of_below hb g none) (.inl rfl)); have NB228_235 := nl_ hg BK228; have NB235_228 := ng_ hg BK228; replace BK228 := bb_ BK228 hb; have NB0_235 := am_ (by rw [hg]; exact Nat.ne_of_lt (IsS70.lt (show IsS70 w0 _ g s0_0 t233 t234 from ix_ HI0.out)) : g ≠ gb235); have NB235_0 := am_ (by rw [hg]; exact Nat.ne_of_gt (IsS70.lt (show IsS70 w0 _ g s0_0 t233 t234 from ix_ HI0.out)) : gb235 ≠ g); replace HI0 := am_ (IsS70.below (ix_ HI0.out) hb); clear hb hbox hg; have hnb10 := NB235_228.out; have hnc10 := NB228_235.out; have hnb11 := NB235_0.out; have hnc11 := NB0_235.out; have hcz12_0 : w9.cell? ⟨gb235, 0, none⟩ = some (.int .i64 0) := (blk_cell BK235.out 0).trans rfl; have hcz12_1 : w9.cell? ⟨gb235, 1, none⟩ = some (.bool false) := (blk_cell BK235.out 1).trans rfl; have hcz12_2 : w9.cell? ⟨gb235, 2, none⟩ = some (.int .i64 0) := (blk_cell BK235.out 2).trans rfl; have hfz12_0 := blk_frozen BK235.out 0; have hfz12_1 := blk_frozen BK235.out 1; have hfz12_2 := blk_frozen BK235.out 2; have hnb13 := NB228_0.out; have hnc13 := NB0_228.out; have hcz14_0 : w9.cell? ⟨gb228, 0, none⟩ = some (.int .i64 0) := (blk_cell BK228.out 0).trans rfl; have hcz14_1 : w9.cell? ⟨gb228, 1, none⟩ = some (.bool false) := (blk_cell BK228.out 1).trans rfl; have hcz14_2 : w9.cell? ⟨gb228, 2, none⟩ = some (.int .i64 0) := (blk_cell BK228.out 2).trans rfl; have hfz14_0 := blk_frozen BK228.out 0; have hfz14_1 := blk_frozen BK228.out 1; have hfz14_2 := blk_frozen BK228.out 2))
  refine bodyPost_ret (results_cell_row rfl _ _ gb228 50 #[.int .i64 t229, .bool (t232 == 0), .int .i64 0] (0, 0) _ rfl (by (with_reducible repeat (first | refine blk_drewN ?_ _ | refine blk_drew ?_ | refine blk_alloc ?_ _)); refine blk_put (cs := #[.int .i64 t229, .bool (t232 == 0), .int .i64 0]) ?_ 2 _ rfl; (with_reducible repeat (first | refine blk_drewN ?_ _ | refine blk_drew ?_ | refine blk_alloc ?_ _)); refine blk_put (cs := #[.int .i64 t229, .bool false, .int .i64 0]) ?_ 1 _ (by first | rfl | (rw [show (t232 == 0) = true from by assumption]; rfl) | (rw [show (t232 == 0) = false from by assumption]; rfl)); (with_reducible repeat (first | refine blk_drewN ?_ _ | refine blk_drew ?_ | refine blk_alloc ?_ _)); refine blk_put (cs := #[.int .i64 0, .bool false, .int .i64 0]) ?_ 0 _ rfl; (with_reducible repeat (first | refine blk_drewN ?_ _ | refine blk_drew ?_ | refine blk_alloc ?_ _)); refine blk_far ?_ NB228_235.out _; (with_reducible repeat (first | refine blk_drewN ?_ _ | refine blk_drew ?_ | refine blk_alloc ?_ _)); refine blk_far ?_ NB228_235.out _; (with_reducible repeat (first | refine blk_drewN ?_ _ | refine blk_drew ?_ | refine blk_alloc ?_ _)); refine blk_far ?_ NB228_235.out _; (with_reducible repeat (first | refine blk_drewN ?_ _ | refine blk_drew ?_ | refine blk_alloc ?_ _)); exact BK228.out) Tryz.underlying50 rfl (by kernel_rfl)) rfl ?_
  exact er_ ⟨ix_ HI0.out, hx_ HB.out, kx_ HK.out⟩
 ·rw [if_neg c5] at H
  have c5b0 : ((l1.length : Int) == 0) = false := beq_eq_false_iff_ne.mpr c5
  have c5b1 : ((l1.length : Int) != 0) = true := bne_iff_ne.mpr c5
  have c5b2 : ¬ (l1 = []) := fun h_ => c5 (by rw [h_]; rfl)
  by_cases c15 : 0 ≤ t229
  ·rw [if_pos c15] at H
   have c15b0 : decide (0 ≤ t229) = true := decide_eq_true c15
   clear c15
   by_cases c16 : t229 < (l1.length : Int)
   ·rw [if_pos c16] at H
    have c16b0 : decide (t229 < (l1.length : Int)) = true := decide_eq_true c16
    clear c16
    have HC17 := Aside0.mk H
    clear H
    go_enter Tryz.func40, Tryz.ntmps40
    go_upto_if 26 with (first | ((with_reducible refine gd_ 4 rfl ?_); refine be_ 4 #[.int .i64 0, .bool false, .int .i64 0] 50 rfl rfl ?_; intro gb228 hg w18 hbox hb; replace HB := hs_ HB hb; have BK228 := am_ hbox; have GW228 := am_ (by rw [hg]; exact (keep_size (w := w) (g := g) (row := none) (kx_ HK.out)) : w.heap.size ≤ gb228); have GE228 := am_ (Nat.le_trans HW0.out (by rw [hg]; exact (keep_size (w := w) (g := g) (row := none) (kx_ HK.out)) : w.heap.size ≤ gb228) : w0.heap.size ≤ gb228); replace HK := am_ (KeepBut.trans (kx_ HK.out) (KeepBut.of_below hb g none) (.inl rfl)); have NB0_228 := am_ (by rw [hg]; exact Nat.ne_of_lt (IsS70.lt (show IsS70 w0 _ g s0_0 s0_1 s0_2 from ix_ HI0.out)) : g ≠ gb228); have NB228_0 := am_ (by rw [hg]; exact Nat.ne_of_gt (IsS70.lt (show IsS70 w0 _ g s0_0 s0_1 s0_2 from ix_ HI0.out)) : gb228 ≠ g); replace HI0 := am_ (IsS70.below (ix_ HI0.out) hb); clear hb hbox hg) | ((with_reducible refine gc_ 18 rfl ?_); refine gl_ (some 10) rfl rfl Tryz.func18 rfl #[.pointer (some ⟨g, 0, none⟩), .int .i64 (l1.length : Int)] rfl ?_; (with_reducible refine (spec_l01Next.calls g s0_0 s0_1 s0_2 (l1.length : Int) t229 t230 t231 w0 _ ?side1 ?side2 A3.out).mono ?_); (case side1 => exact ix_ HI0.out); (case side2 => exact hx_ HB.out); rintro e w19 ⟨rfl, hi, hb, hk⟩; refine ⟨_, rfl, ?_⟩; replace BK228 := kb_ hk BK228 NB228_0.out; replace HK := am_ (KeepBut.trans (kx_ HK.out) hk (.inl rfl)); replace HB := am_ hb; replace HI0 := am_ hi; (try clear hb); (try clear hb2); (try clear hk); (try clear hi)) | ((with_reducible refine gc_ 18 rfl ?_); refine gl_ (some 12) rfl rfl Tryz.func18 rfl #[.pointer (some ⟨g, 0, none⟩), .int .i64 2] rfl ?_; (with_reducible refine (spec_l01Next.calls g s0_0 t230 t231 2 t232 t233 t234 w0 _ ?side1 ?side2 A4.out).mono ?_); (case side1 => exact ix_ HI0.out); (case side2 => exact hx_ HB.out); rintro e w20 ⟨rfl, hi, hb, hk⟩; refine ⟨_, rfl, ?_⟩; replace BK228 := kb_ hk BK228 NB228_0.out; replace HK := am_ (KeepBut.trans (kx_ HK.out) hk (.inl rfl)); replace HB := am_ hb; replace HI0 := am_ hi; (try clear hb); (try clear hb2); (try clear hk); (try clear hi)) | ((with_reducible refine gd_ 5 rfl ?_); refine be_ 5 #[.int .i64 0, .bool false, .int .i64 0] 50 rfl rfl ?_; intro gb235 hg w21 hbox hb; replace HB := hs_ HB hb; have BK235 := am_ hbox; have GW235 := am_ (by rw [hg]; exact (keep_size (w := w) (g := g) (row := none) (kx_ HK.out)) : w.heap.size ≤ gb235); have GE235 := am_ (Nat.le_trans HW0.out (by rw [hg]; exact (keep_size (w := w) (g := g) (row := none) (kx_ HK.out)) : w.heap.size ≤ gb235) : w0.heap.size ≤ gb235); replace HK := am_ (KeepBut.trans (kx_ HK.out) (KeepBut.of_below hb g none) (.inl rfl)); have NB228_235 := nl_ hg BK228; have NB235_228 := ng_ hg BK228; replace BK228 := bb_ BK228 hb; have NB0_235 := am_ (by rw [hg]; exact Nat.ne_of_lt (IsS70.lt (show IsS70 w0 _ g s0_0 t233 t234 from ix_ HI0.out)) : g ≠ gb235); have NB235_0 := am_ (by rw [hg]; exact Nat.ne_of_gt (IsS70.lt (show IsS70 w0 _ g s0_0 t233 t234 from ix_ HI0.out)) : gb235 ≠ g); replace HI0 := am_ (IsS70.below (ix_ HI0.out) hb); clear hb hbox hg; have hnb22 := NB235_228.out; have hnc22 := NB228_235.out; have hnb23 := NB235_0.out; have hnc23 := NB0_235.out; have hcz24_0 : w21.cell? ⟨gb235, 0, none⟩ = some (.int .i64 0) := (blk_cell BK235.out 0).trans rfl; have hcz24_1 : w21.cell? ⟨gb235, 1, none⟩ = some (.bool false) := (blk_cell BK235.out 1).trans rfl; have hcz24_2 : w21.cell? ⟨gb235, 2, none⟩ = some (.int .i64 0) := (blk_cell BK235.out 2).trans rfl; have hfz24_0 := blk_frozen BK235.out 0; have hfz24_1 := blk_frozen BK235.out 1; have hfz24_2 := blk_frozen BK235.out 2; have p236 : 0 ≤ (t229 : Int) := of_decide_eq_true (by first | (with_reducible assumption) | assumption); have q236 : t229 < (l1.length : Int) := of_decide_eq_true (by first | (with_reducible assumption) | assumption); obtain ⟨ad236, e236, hx236_0, hx236_1⟩ := at_T25 (Kd.C_foot_now HR1.out (show KeepBut w (((w21.setCell ⟨gb235, 0, none⟩ (.int .i64 t229)).setCell ⟨gb235, 1, none⟩ (.bool (t232 == 0))).setCell ⟨gb235, 2, none⟩ (.int .i64 0)) g none from kx_ HK.out)) t229 p236 q236; cases e236; replace p236 := eq_true p236; replace q236 := eq_true q236))
    (try simp only [Act.put, List.setIfInBounds_toArray, List.set_cons_zero, List.set_cons_succ])
    go_cut [6] (fun v6 wc => ∃ (kq : Nat) (x6_16 : Int), v6 = .int .i64 x6_16 ∧ Aside0 (spec_l09DrawCut.j0 kq l1 x6_16 s0_0 t233 t234 t229 (t232 == 0) 0 = some (r1, r2, r3, r4, r5)) ∧ Aside0 (kq ≤ k) ∧ Aside0 (wc.heap[gb228]? = some (.cells #[.int .i64 0, .bool false, .int .i64 0] 50 (0, 0))) ∧ Aside0 (wc.heap[gb235]? = some (.cells #[.int .i64 t229, .bool (t232 == 0), .int .i64 0] 50 (0, 0))) ∧ Aside0 (IsS70 w0 wc g s0_0 t233 t234) ∧ Aside0 (KeepBut w wc g none) ∧ Aside0 (Below w0.heap.size w0 wc))
    case first =>
     have H := HC17.out
     clear HC17
     by_cases c25 : t232 = 0
     ·rw [if_pos c25] at H
      have c25b0 : (t232 == 0) = true := beq_iff_eq.mpr c25
      have c25b1 : (t232 != 0) = false := bne_eq_false_iff_eq.mpr c25
      clear c25
      (first | rw [c25b0] | (simp only [i64_w, i32_w]; rw [c25b0]) | skip)
      have H' := Aside0.mk H
      clear H
      have hnb26 := NB235_228.out
      have hnc26 := NB228_235.out
      have hnb27 := NB235_0.out
      have hnc27 := NB0_235.out
      have hcz28_0 : w21.cell? ⟨gb235, 0, none⟩ = some (.int .i64 0) := (blk_cell BK235.out 0).trans rfl
      have hcz28_1 : w21.cell? ⟨gb235, 1, none⟩ = some (.bool false) := (blk_cell BK235.out 1).trans rfl
      have hcz28_2 : w21.cell? ⟨gb235, 2, none⟩ = some (.int .i64 0) := (blk_cell BK235.out 2).trans rfl
      have hfz28_0 := blk_frozen BK235.out 0
      have hfz28_1 := blk_frozen BK235.out 1
      have hfz28_2 := blk_frozen BK235.out 2
      have p237 : 0 ≤ (t229 : Int) := of_decide_eq_true (by first | (with_reducible assumption) | assumption)
      have q237 : t229 < (l1.length : Int) := of_decide_eq_true (by first | (with_reducible assumption) | assumption)
      obtain ⟨ad237, e237, hx237_0, hx237_1⟩ := at_T25 (Kd.C_foot_now HR1.out (show KeepBut w (((w21.setCell ⟨gb235, 0, none⟩ (.int .i64 t229)).setCell ⟨gb235, 1, none⟩ (.bool (t232 == 0))).setCell ⟨gb235, 2, none⟩ (.int .i64 0)) g none from kx_ HK.out)) t229 p237 q237
      (try rw [show (t232 == 0) = true from by assumption] at hx237_0 hx237_1)
      (try rw [show (t232 == 0) = false from by assumption] at hx237_0 hx237_1)
      obtain rfl : ad236 = ad237 := (by injection e237)
      replace p237 := eq_true p237
      replace q237 := eq_true q237
      go_wp2
      go_meet
      case rel => exact ⟨_, ((rd_T25 l1 t229).f1), (by first | rfl | (simp; done) | (simp [*]; done)), H', ⟨by first | omega | exact Nat.le_refl _⟩, ⟨bx_ BK228.out⟩, ⟨by (with_reducible repeat (first | refine blk_drewN ?_ _ | refine blk_drew ?_ | refine blk_alloc ?_ _)); refine blk_put (cs := #[.int .i64 t229, .bool (t232 == 0), .int .i64 0]) ?_ 2 _ rfl; (with_reducible repeat (first | refine blk_drewN ?_ _ | refine blk_drew ?_ | refine blk_alloc ?_ _)); refine blk_put (cs := #[.int .i64 t229, .bool false, .int .i64 0]) ?_ 1 _ (by first | rfl | (rw [show (t232 == 0) = true from by assumption]; rfl) | (rw [show (t232 == 0) = false from by assumption]; rfl)); (with_reducible repeat (first | refine blk_drewN ?_ _ | refine blk_drew ?_ | refine blk_alloc ?_ _)); refine blk_put (cs := #[.int .i64 0, .bool false, .int .i64 0]) ?_ 0 _ rfl; (with_reducible repeat (first | refine blk_drewN ?_ _ | refine blk_drew ?_ | refine blk_alloc ?_ _)); exact BK235.out⟩, ⟨ix_ HI0.out⟩, ⟨kx_ HK.out⟩, ⟨hx_ HB.out⟩⟩
     ·rw [if_neg c25] at H
      have c25b0 : (t232 == 0) = false := beq_eq_false_iff_ne.mpr c25
      have c25b1 : (t232 != 0) = true := bne_iff_ne.mpr c25
      (first | rw [c25b0] | (simp only [i64_w, i32_w]; rw [c25b0]) | skip)
      have H' := Aside0.mk H
      clear H
      go_wp2
      go_meet
      case rel => exact ⟨_, ((rd_T25 l1 t229).f0), (by first | rfl | (simp; done) | (simp [*]; done)), H', ⟨by first | omega | exact Nat.le_refl _⟩, ⟨bx_ BK228.out⟩, ⟨by (with_reducible repeat (first | refine blk_drewN ?_ _ | refine blk_drew ?_ | refine blk_alloc ?_ _)); refine blk_put (cs := #[.int .i64 t229, .bool (t232 == 0), .int .i64 0]) ?_ 2 _ rfl; (with_reducible repeat (first | refine blk_drewN ?_ _ | refine blk_drew ?_ | refine blk_alloc ?_ _)); refine blk_put (cs := #[.int .i64 t229, .bool false, .int .i64 0]) ?_ 1 _ (by first | rfl | (rw [show (t232 == 0) = true from by assumption]; rfl) | (rw [show (t232 == 0) = false from by assumption]; rfl)); (with_reducible repeat (first | refine blk_drewN ?_ _ | refine blk_drew ?_ | refine blk_alloc ?_ _)); refine blk_put (cs := #[.int .i64 0, .bool false, .int .i64 0]) ?_ 0 _ rfl; (with_reducible repeat (first | refine blk_drewN ?_ _ | refine blk_drew ?_ | refine blk_alloc ?_ _)); exact BK235.out⟩, ⟨ix_ HI0.out⟩, ⟨kx_ HK.out⟩, ⟨hx_ HB.out⟩⟩
    case rest =>
     clear HC17
     (try clear c1); (try clear c2); (try clear p2); (try clear q2); (try clear hx2); (try clear c4); (try clear c5); (try clear c5b0); (try clear c5b1); (try clear c5b2); (try clear c10); (try clear c11); (try clear c13); (try clear c15); (try clear c15b0); (try clear c16); (try clear c16b0); (try clear c18); (try clear c22); (try clear c23); (try clear p23); (try clear q23); (try clear hx23); (try clear c25); (try clear c25b0); (try clear c25b1); (try clear c26); (try clear c27); (try clear hcz12_0); (try clear hcz12_1); (try clear hcz12_2); (try clear hcz14_0); (try clear hcz14_1); (try clear hcz14_2); (try clear hcz24_0); (try clear hcz24_1); (try clear hcz24_2); (try clear hcz28_0); (try clear hcz28_1); (try clear hcz28_2); (try clear hfz12_0); (try clear hfz12_1); (try clear hfz12_2); (try clear hfz14_0); (try clear hfz14_1); (try clear hfz14_2); (try clear hfz24_0); (try clear hfz24_1); (try clear hfz24_2); (try clear hfz28_0); (try clear hfz28_1); (try clear hfz28_2); (try clear hx236_0); (try clear hx236_1); (try clear hx237_0); (try clear hx237_1); (try clear p236); (try clear p237); (try clear q236); (try clear q237)
     obtain ⟨kq, x6_16, rfl, HA, HJ16, BK228, BK235, HI0, HK, HB⟩ := hcut
     cases kq with
     | zero => exact absurd HA.out (by simp [spec_l09DrawCut.j0])
     | succ kj16 =>
      have H := HA.out
      clear HA
      simp only [spec_l09DrawCut.j0] at H
      replace H := Option.bind_eq_some_iff.mp H
      obtain ⟨⟨t238, t239, t240⟩, A290, H⟩ := H
      try dsimp only at H
      have A29 := Aside0.mk A290
      clear A290
      replace H := Option.bind_eq_some_iff.mp H
      obtain ⟨⟨t241, t242, t243⟩, A300, H⟩ := H
      try dsimp only at H
      have A30 := Aside0.mk A300
      clear A300
      by_cases c31 : t241 = 0
      ·rw [if_pos c31] at H
       have c31b0 : (t241 == 0) = true := beq_iff_eq.mpr c31
       have c31b1 : (t241 != 0) = false := bne_eq_false_iff_eq.mpr c31
       clear c31
       obtain ⟨y244, hy244⟩ : ∃ y_ : List Int, y_ = (([0, x6_16, (-1)] : List Int)) := ⟨_, rfl⟩
       replace H : ((spec_l01Pick.f s0_0 t242 t243 y244).bind fun bt247 => (some (t229, (t232 == 0), bt247.1, bt247.2.1, bt247.2.2))) = some (r1, r2, r3, r4, r5) := by first | (rw [hy244]; with_reducible exact H) | (have H2_ := (Option.bind_some _ _).symm.trans H; rw [hy244]; with_reducible exact H2_) | (have H2_ := (Option.bind_some _ _).symm.trans H; with_reducible exact H2_) | with_reducible exact H | (rw [hy244]; exact H) | exact H
       have Ny244 := Aside0.mk hy244
       clear hy244
       replace H := Option.bind_eq_some_iff.mp H
       obtain ⟨⟨t247, t248, t249⟩, A320, H⟩ := H
       try dsimp only at H
       have A32 := Aside0.mk A320
       clear A320
       simp only [Option.some.injEq, Prod.mk.injEq] at H
       obtain ⟨rfl, rfl, rfl, rfl, rfl⟩ := H
       go_wp2_with (first | ((with_reducible refine gc_ 18 rfl ?_); refine gl_ (some 36) rfl rfl Tryz.func18 rfl #[.pointer (some ⟨g, 0, none⟩), .int .i64 (wrap64 (x6_16 - 1))] rfl ?_; (with_reducible refine (spec_l01Next.calls g s0_0 t233 t234 (wrap64 (x6_16 - 1)) t238 t239 t240 w0 _ ?side1 ?side2 A29.out).mono ?_); (case side1 => exact ix_ HI0.out); (case side2 => exact hx_ HB.out); rintro e w33 ⟨rfl, hi, hb, hk⟩; refine ⟨_, rfl, ?_⟩; replace BK228 := kb_ hk BK228 NB228_0.out; replace BK235 := kb_ hk BK235 NB235_0.out; replace HK := am_ (KeepBut.trans (kx_ HK.out) hk (.inl rfl)); replace HB := am_ hb; replace HI0 := am_ hi; (try clear hb); (try clear hb2); (try clear hk); (try clear hi); have hnb34 := NB235_228.out; have hnc34 := NB228_235.out; have hnb35 := NB235_0.out; have hnc35 := NB0_235.out; have hcz36_0 : w33.cell? ⟨gb235, 0, none⟩ = some (.int .i64 t229) := (blk_cell BK235.out 0).trans rfl; have hcz36_1 : w33.cell? ⟨gb235, 1, none⟩ = some (.bool (t232 == 0)) := (blk_cell BK235.out 1).trans rfl; have hcz36_2 : w33.cell? ⟨gb235, 2, none⟩ = some (.int .i64 0) := (blk_cell BK235.out 2).trans rfl; have hfz36_0 := blk_frozen BK235.out 0; have hfz36_1 := blk_frozen BK235.out 1; have hfz36_2 := blk_frozen BK235.out 2) | ((with_reducible refine gc_ 18 rfl ?_); refine gl_ (some 40) rfl rfl Tryz.func18 rfl #[.pointer (some ⟨g, 0, none⟩), .int .i64 24] rfl ?_; (with_reducible refine (spec_l01Next.calls g s0_0 t239 t240 24 t241 t242 t243 w0 _ ?side1 ?side2 A30.out).mono ?_); (case side1 => exact ix_ HI0.out); (case side2 => exact hx_ HB.out); rintro e w37 ⟨rfl, hi, hb, hk⟩; refine ⟨_, rfl, ?_⟩; replace BK228 := kb_ hk BK228 NB228_0.out; replace BK235 := am_ (KeepBut.blk hk (g' := gb235) (o := .cells #[.int .i64 t229, .bool (t232 == 0), .int .i64 (wrap64 (1 + t238))] 50 (0, 0)) (by (with_reducible repeat (first | refine blk_drewN ?_ _ | refine blk_drew ?_ | refine blk_alloc ?_ _)); refine blk_put (cs := #[.int .i64 t229, .bool (t232 == 0), .int .i64 0]) ?_ 2 _ rfl; (with_reducible repeat (first | refine blk_drewN ?_ _ | refine blk_drew ?_ | refine blk_alloc ?_ _)); exact BK235.out) NB235_0.out (by simp)); replace HK := am_ (KeepBut.trans (kx_ HK.out) hk (.inl rfl)); replace HB := am_ hb; replace HI0 := am_ hi; (try clear hb); (try clear hb2); (try clear hk); (try clear hi)) | ((with_reducible refine gd_ 45 rfl ?_); refine Kd.R_lit (Kd.int .i64) _ 2 ?hg (N := 45) ?hd (xs := ([0, x6_16, (-1)] : List Int)) (inner := [.int .i64 0, .int .i64 x6_16, .int .i64 (-1)]) (ok := fun _ => True) (okp := fun _ => True) ?hr ?hp (fun _ hk => hk) trivial (Below.refl _ _) (Nat.le_refl _) (by simp) ?_; (case hd => rfl); (case hg => rfl); (case hr => first | (go_simp; done) | (go_simp; rfl)); (case hp => exact (Reps.one (show Kd.M (Kd.int .i64) _ _ _ 0 [.int .i64 0] from rfl) (Reps.one (show Kd.M (Kd.int .i64) _ _ _ x6_16 [.int .i64 x6_16] from rfl) (Reps.one (show Kd.M (Kd.int .i64) _ _ _ (-1) [.int .i64 (-1)] from rfl) (Reps.none _ _))))); intro v245 w38 ho39 hb hg_ hnew_; clear hg_ hnew_; (first | rw [← Ny244.out] at ho39 | (simp only [Int.reduceToNat] at ho39; rw [← Ny244.out] at ho39)); have HO246 := am_ (Kd.R_lower ho39 (keep_size (w := w) (g := g) (row := none) (kx_ HK.out))); replace BK228 := bb_ BK228 hb; replace BK235 := bb_ BK235 hb; replace HI0 := am_ (IsS70.below (ix_ HI0.out) hb); replace HK := am_ (KeepBut.trans (kx_ HK.out) (KeepBut.of_below hb g none) (.inl rfl)); replace HB := hs_ HB hb; clear hb ho39; obtain ⟨Ao40, co40, eo40⟩ := Kd.R_slice HO246.out; subst eo40) | ((with_reducible refine gc_ 19 rfl ?_); refine gl_ (some 46) rfl rfl Tryz.func19 rfl #[.pointer (some ⟨g, 0, none⟩), .slice Ao40 y244.length co40] rfl ?_; (with_reducible refine (spec_l01Pick.calls g s0_0 t242 t243 _ _ y244 t247 t248 t249 w0 _ ?side1 ?side2 ?side3 ?side4 ?side5 A32.out).mono ?_); (case side1 => exact ix_ HI0.out); (case side2 => exact hx_ HB.out); (case side3 => repeat (first | exact (Kd.R_reads' HO246.out).2.2 | (with_reducible refine Kd.C_alloc ?_ _) | (with_reducible refine Kd.C_drewN ?_ _) | (with_reducible refine Kd.C_drew ?_))); (case side4 => exact (Kd.R_reads' HO246.out).2.1); (case side5 => exact far_slice (IsS70.own_ne HI0.out HO246.out (by decide))); rintro e w41 ⟨rfl, hi, hb, hk⟩; refine ⟨_, rfl, ?_⟩; replace BK228 := kb_ hk BK228 NB228_0.out; replace BK235 := kb_ hk BK235 NB235_0.out; replace HO246 := am_ (Kd.R_mono (Kd.R_keep (IsS70.apart (show IsS70 w0 _ g s0_0 t242 t243 from ix_ HI0.out) (rx_ HO246.out) (by decide)) hk (fun _ h => h.2)) (fun _ h => h.1)); replace HK := am_ (KeepBut.trans (kx_ HK.out) hk (.inl rfl)); replace HB := am_ hb; replace HI0 := am_ hi; (try clear hb); (try clear hb2); (try clear hk); (try clear hi); have hcz42_0 : w41.cell? ⟨gb235, 0, none⟩ = some (.int .i64 t229) := (blk_cell BK235.out 0).trans rfl; have hcz42_1 : w41.cell? ⟨gb235, 1, none⟩ = some (.bool (t232 == 0)) := (blk_cell BK235.out 1).trans rfl; have hcz42_2 : w41.cell? ⟨gb235, 2, none⟩ = some (.int .i64 (wrap64 (1 + t238))) := (blk_cell BK235.out 2).trans rfl; have hfz42_0 := blk_frozen BK235.out 0; have hfz42_1 := blk_frozen BK235.out 1; have hfz42_2 := blk_frozen BK235.out 2; have hnb43 := NB228_0.out; have hnc43 := NB0_228.out; have hcz44_0 : w41.cell? ⟨gb228, 0, none⟩ = some (.int .i64 0) := (blk_cell BK228.out 0).trans rfl; have hcz44_1 : w41.cell? ⟨gb228, 1, none⟩ = some (.bool false) := (blk_cell BK228.out 1).trans rfl; have hcz44_2 : w41.cell? ⟨gb228, 2, none⟩ = some (.int .i64 0) := (blk_cell BK228.out 2).trans rfl; have hfz44_0 := blk_frozen BK228.out 0; have hfz44_1 := blk_frozen BK228.out 1; have hfz44_2 := blk_frozen BK228.out 2))
       refine bodyPost_ret (results_cell_row rfl _ _ gb228 50 #[.int .i64 t229, .bool (t232 == 0), .int .i64 t247] (0, 0) _ rfl (by (with_reducible repeat (first | refine blk_drewN ?_ _ | refine blk_drew ?_ | refine blk_alloc ?_ _)); refine blk_put (cs := #[.int .i64 t229, .bool (t232 == 0), .int .i64 0]) ?_ 2 _ rfl; (with_reducible repeat (first | refine blk_drewN ?_ _ | refine blk_drew ?_ | refine blk_alloc ?_ _)); refine blk_put (cs := #[.int .i64 t229, .bool false, .int .i64 0]) ?_ 1 _ (by first | rfl | (rw [show (t232 == 0) = true from by assumption]; rfl) | (rw [show (t232 == 0) = false from by assumption]; rfl)); (with_reducible repeat (first | refine blk_drewN ?_ _ | refine blk_drew ?_ | refine blk_alloc ?_ _)); refine blk_put (cs := #[.int .i64 0, .bool false, .int .i64 0]) ?_ 0 _ rfl; (with_reducible repeat (first | refine blk_drewN ?_ _ | refine blk_drew ?_ | refine blk_alloc ?_ _)); refine blk_far ?_ NB228_235.out _; (with_reducible repeat (first | refine blk_drewN ?_ _ | refine blk_drew ?_ | refine blk_alloc ?_ _)); exact BK228.out) Tryz.underlying50 rfl (by kernel_rfl)) rfl ?_
       exact er_ ⟨ix_ HI0.out, hx_ HB.out, kx_ HK.out⟩
      ·rw [if_neg c31] at H
       have c31b0 : (t241 == 0) = false := beq_eq_false_iff_ne.mpr c31
       have c31b1 : (t241 != 0) = true := bne_iff_ne.mpr c31
       by_cases c45 : t241 = 1
       ·rw [if_pos c45] at H
        have c45b0 : (t241 == 1) = true := beq_iff_eq.mpr c45
        have c45b1 : (t241 != 1) = false := bne_eq_false_iff_eq.mpr c45
        clear c45
        obtain ⟨y250, hy250⟩ : ∃ y_ : List Int, y_ = (([(-1), (l1.length : Int)] : List Int)) := ⟨_, rfl⟩
        replace H : ((spec_l01Pick.f s0_0 t242 t243 y250).bind fun bt253 => (some (bt253.1, (t232 == 0), wrap64 (1 + t238), bt253.2.1, bt253.2.2))) = some (r1, r2, r3, r4, r5) := by first | (rw [hy250]; with_reducible exact H) | (have H2_ := (Option.bind_some _ _).symm.trans H; rw [hy250]; with_reducible exact H2_) | (have H2_ := (Option.bind_some _ _).symm.trans H; with_reducible exact H2_) | with_reducible exact H | (rw [hy250]; exact H) | exact H
        have Ny250 := Aside0.mk hy250
        clear hy250
        replace H := Option.bind_eq_some_iff.mp H
        obtain ⟨⟨t253, t254, t255⟩, A460, H⟩ := H
        try dsimp only at H
        have A46 := Aside0.mk A460
        clear A460
        simp only [Option.some.injEq, Prod.mk.injEq] at H
        obtain ⟨rfl, rfl, rfl, rfl, rfl⟩ := H
        go_wp2_with (first | ((with_reducible refine gc_ 18 rfl ?_); refine gl_ (some 36) rfl rfl Tryz.func18 rfl #[.pointer (some ⟨g, 0, none⟩), .int .i64 (wrap64 (x6_16 - 1))] rfl ?_; (with_reducible refine (spec_l01Next.calls g s0_0 t233 t234 (wrap64 (x6_16 - 1)) t238 t239 t240 w0 _ ?side1 ?side2 A29.out).mono ?_); (case side1 => exact ix_ HI0.out); (case side2 => exact hx_ HB.out); rintro e w47 ⟨rfl, hi, hb, hk⟩; refine ⟨_, rfl, ?_⟩; replace BK228 := kb_ hk BK228 NB228_0.out; replace BK235 := kb_ hk BK235 NB235_0.out; replace HK := am_ (KeepBut.trans (kx_ HK.out) hk (.inl rfl)); replace HB := am_ hb; replace HI0 := am_ hi; (try clear hb); (try clear hb2); (try clear hk); (try clear hi); have hnb48 := NB235_228.out; have hnc48 := NB228_235.out; have hnb49 := NB235_0.out; have hnc49 := NB0_235.out; have hcz50_0 : w47.cell? ⟨gb235, 0, none⟩ = some (.int .i64 t229) := (blk_cell BK235.out 0).trans rfl; have hcz50_1 : w47.cell? ⟨gb235, 1, none⟩ = some (.bool (t232 == 0)) := (blk_cell BK235.out 1).trans rfl; have hcz50_2 : w47.cell? ⟨gb235, 2, none⟩ = some (.int .i64 0) := (blk_cell BK235.out 2).trans rfl; have hfz50_0 := blk_frozen BK235.out 0; have hfz50_1 := blk_frozen BK235.out 1; have hfz50_2 := blk_frozen BK235.out 2) | ((with_reducible refine gc_ 18 rfl ?_); refine gl_ (some 40) rfl rfl Tryz.func18 rfl #[.pointer (some ⟨g, 0, none⟩), .int .i64 24] rfl ?_; (with_reducible refine (spec_l01Next.calls g s0_0 t239 t240 24 t241 t242 t243 w0 _ ?side1 ?side2 A30.out).mono ?_); (case side1 => exact ix_ HI0.out); (case side2 => exact hx_ HB.out); rintro e w51 ⟨rfl, hi, hb, hk⟩; refine ⟨_, rfl, ?_⟩; replace BK228 := kb_ hk BK228 NB228_0.out; replace BK235 := am_ (KeepBut.blk hk (g' := gb235) (o := .cells #[.int .i64 t229, .bool (t232 == 0), .int .i64 (wrap64 (1 + t238))] 50 (0, 0)) (by (with_reducible repeat (first | refine blk_drewN ?_ _ | refine blk_drew ?_ | refine blk_alloc ?_ _)); refine blk_put (cs := #[.int .i64 t229, .bool (t232 == 0), .int .i64 0]) ?_ 2 _ rfl; (with_reducible repeat (first | refine blk_drewN ?_ _ | refine blk_drew ?_ | refine blk_alloc ?_ _)); exact BK235.out) NB235_0.out (by simp)); replace HK := am_ (KeepBut.trans (kx_ HK.out) hk (.inl rfl)); replace HB := am_ hb; replace HI0 := am_ hi; (try clear hb); (try clear hb2); (try clear hk); (try clear hi)) | ((with_reducible refine gd_ 53 rfl ?_); refine Kd.R_lit (Kd.int .i64) _ 2 ?hg (N := 53) ?hd (xs := ([(-1), (l1.length : Int)] : List Int)) (inner := [.int .i64 (-1), .int .i64 (l1.length : Int)]) (ok := fun _ => True) (okp := fun _ => True) ?hr ?hp (fun _ hk => hk) trivial (Below.refl _ _) (Nat.le_refl _) (by simp) ?_; (case hd => rfl); (case hg => rfl); (case hr => first | (go_simp; done) | (go_simp; rfl)); (case hp => exact (Reps.one (show Kd.M (Kd.int .i64) _ _ _ (-1) [.int .i64 (-1)] from rfl) (Reps.one (show Kd.M (Kd.int .i64) _ _ _ (l1.length : Int) [.int .i64 (l1.length : Int)] from rfl) (Reps.none _ _)))); intro v251 w52 ho53 hb hg_ hnew_; clear hg_ hnew_; (first | rw [← Ny250.out] at ho53 | (simp only [Int.reduceToNat] at ho53; rw [← Ny250.out] at ho53)); have HO252 := am_ (Kd.R_lower ho53 (keep_size (w := w) (g := g) (row := none) (kx_ HK.out))); replace BK228 := bb_ BK228 hb; replace BK235 := bb_ BK235 hb; replace HI0 := am_ (IsS70.below (ix_ HI0.out) hb); replace HK := am_ (KeepBut.trans (kx_ HK.out) (KeepBut.of_below hb g none) (.inl rfl)); replace HB := hs_ HB hb; clear hb ho53; obtain ⟨Ao54, co54, eo54⟩ := Kd.R_slice HO252.out; subst eo54) | ((with_reducible refine gc_ 19 rfl ?_); refine gl_ (some 54) rfl rfl Tryz.func19 rfl #[.pointer (some ⟨g, 0, none⟩), .slice Ao54 y250.length co54] rfl ?_; (with_reducible refine (spec_l01Pick.calls g s0_0 t242 t243 _ _ y250 t253 t254 t255 w0 _ ?side1 ?side2 ?side3 ?side4 ?side5 A46.out).mono ?_); (case side1 => exact ix_ HI0.out); (case side2 => exact hx_ HB.out); (case side3 => repeat (first | exact (Kd.R_reads' HO252.out).2.2 | (with_reducible refine Kd.C_alloc ?_ _) | (with_reducible refine Kd.C_drewN ?_ _) | (with_reducible refine Kd.C_drew ?_))); (case side4 => exact (Kd.R_reads' HO252.out).2.1); (case side5 => exact far_slice (IsS70.own_ne HI0.out HO252.out (by decide))); rintro e w55 ⟨rfl, hi, hb, hk⟩; refine ⟨_, rfl, ?_⟩; replace BK228 := kb_ hk BK228 NB228_0.out; replace BK235 := kb_ hk BK235 NB235_0.out; replace HO252 := am_ (Kd.R_mono (Kd.R_keep (IsS70.apart (show IsS70 w0 _ g s0_0 t242 t243 from ix_ HI0.out) (rx_ HO252.out) (by decide)) hk (fun _ h => h.2)) (fun _ h => h.1)); replace HK := am_ (KeepBut.trans (kx_ HK.out) hk (.inl rfl)); replace HB := am_ hb; replace HI0 := am_ hi; (try clear hb); (try clear hb2); (try clear hk); (try clear hi); have hcz56_0 : w55.cell? ⟨gb235, 0, none⟩ = some (.int .i64 t229) := (blk_cell BK235.out 0).trans rfl; have hcz56_1 : w55.cell? ⟨gb235, 1, none⟩ = some (.bool (t232 == 0)) := (blk_cell BK235.out 1).trans rfl; have hcz56_2 : w55.cell? ⟨gb235, 2, none⟩ = some (.int .i64 (wrap64 (1 + t238))) := (blk_cell BK235.out 2).trans rfl; have hfz56_0 := blk_frozen BK235.out 0; have hfz56_1 := blk_frozen BK235.out 1; have hfz56_2 := blk_frozen BK235.out 2; have hnb57 := NB228_0.out; have hnc57 := NB0_228.out; have hcz58_0 : w55.cell? ⟨gb228, 0, none⟩ = some (.int .i64 0) := (blk_cell BK228.out 0).trans rfl; have hcz58_1 : w55.cell? ⟨gb228, 1, none⟩ = some (.bool false) := (blk_cell BK228.out 1).trans rfl; have hcz58_2 : w55.cell? ⟨gb228, 2, none⟩ = some (.int .i64 0) := (blk_cell BK228.out 2).trans rfl; have hfz58_0 := blk_frozen BK228.out 0; have hfz58_1 := blk_frozen BK228.out 1; have hfz58_2 := blk_frozen BK228.out 2))
        refine bodyPost_ret (results_cell_row rfl _ _ gb228 50 #[.int .i64 t253, .bool (t232 == 0), .int .i64 (wrap64 (1 + t238))] (0, 0) _ rfl (by (with_reducible repeat (first | refine blk_drewN ?_ _ | refine blk_drew ?_ | refine blk_alloc ?_ _)); refine blk_put (cs := #[.int .i64 t253, .bool (t232 == 0), .int .i64 0]) ?_ 2 _ rfl; (with_reducible repeat (first | refine blk_drewN ?_ _ | refine blk_drew ?_ | refine blk_alloc ?_ _)); refine blk_put (cs := #[.int .i64 t253, .bool false, .int .i64 0]) ?_ 1 _ (by first | rfl | (rw [show (t232 == 0) = true from by assumption]; rfl) | (rw [show (t232 == 0) = false from by assumption]; rfl)); (with_reducible repeat (first | refine blk_drewN ?_ _ | refine blk_drew ?_ | refine blk_alloc ?_ _)); refine blk_put (cs := #[.int .i64 0, .bool false, .int .i64 0]) ?_ 0 _ rfl; (with_reducible repeat (first | refine blk_drewN ?_ _ | refine blk_drew ?_ | refine blk_alloc ?_ _)); refine blk_far ?_ NB228_235.out _; (with_reducible repeat (first | refine blk_drewN ?_ _ | refine blk_drew ?_ | refine blk_alloc ?_ _)); exact BK228.out) Tryz.underlying50 rfl (by kernel_rfl)) rfl ?_
        exact er_ ⟨ix_ HI0.out, hx_ HB.out, kx_ HK.out⟩
       ·rw [if_neg c45] at H
        have c45b0 : (t241 == 1) = false := beq_eq_false_iff_ne.mpr c45
        have c45b1 : (t241 != 1) = true := bne_iff_ne.mpr c45
        simp only [Option.some.injEq, Prod.mk.injEq] at H
        obtain ⟨rfl, rfl, rfl, rfl, rfl⟩ := H
        go_wp2_with (first | ((with_reducible refine gc_ 18 rfl ?_); refine gl_ (some 36) rfl rfl Tryz.func18 rfl #[.pointer (some ⟨g, 0, none⟩), .int .i64 (wrap64 (x6_16 - 1))] rfl ?_; (with_reducible refine (spec_l01Next.calls g s0_0 t233 t234 (wrap64 (x6_16 - 1)) t238 t239 t240 w0 _ ?side1 ?side2 A29.out).mono ?_); (case side1 => exact ix_ HI0.out); (case side2 => exact hx_ HB.out); rintro e w59 ⟨rfl, hi, hb, hk⟩; refine ⟨_, rfl, ?_⟩; replace BK228 := kb_ hk BK228 NB228_0.out; replace BK235 := kb_ hk BK235 NB235_0.out; replace HK := am_ (KeepBut.trans (kx_ HK.out) hk (.inl rfl)); replace HB := am_ hb; replace HI0 := am_ hi; (try clear hb); (try clear hb2); (try clear hk); (try clear hi); have hnb60 := NB235_228.out; have hnc60 := NB228_235.out; have hnb61 := NB235_0.out; have hnc61 := NB0_235.out; have hcz62_0 : w59.cell? ⟨gb235, 0, none⟩ = some (.int .i64 t229) := (blk_cell BK235.out 0).trans rfl; have hcz62_1 : w59.cell? ⟨gb235, 1, none⟩ = some (.bool (t232 == 0)) := (blk_cell BK235.out 1).trans rfl; have hcz62_2 : w59.cell? ⟨gb235, 2, none⟩ = some (.int .i64 0) := (blk_cell BK235.out 2).trans rfl; have hfz62_0 := blk_frozen BK235.out 0; have hfz62_1 := blk_frozen BK235.out 1; have hfz62_2 := blk_frozen BK235.out 2) | ((with_reducible refine gc_ 18 rfl ?_); refine gl_ (some 40) rfl rfl Tryz.func18 rfl #[.pointer (some ⟨g, 0, none⟩), .int .i64 24] rfl ?_; (with_reducible refine (spec_l01Next.calls g s0_0 t239 t240 24 t241 t242 t243 w0 _ ?side1 ?side2 A30.out).mono ?_); (case side1 => exact ix_ HI0.out); (case side2 => exact hx_ HB.out); rintro e w63 ⟨rfl, hi, hb, hk⟩; refine ⟨_, rfl, ?_⟩; replace BK228 := kb_ hk BK228 NB228_0.out; replace BK235 := am_ (KeepBut.blk hk (g' := gb235) (o := .cells #[.int .i64 t229, .bool (t232 == 0), .int .i64 (wrap64 (1 + t238))] 50 (0, 0)) (by (with_reducible repeat (first | refine blk_drewN ?_ _ | refine blk_drew ?_ | refine blk_alloc ?_ _)); refine blk_put (cs := #[.int .i64 t229, .bool (t232 == 0), .int .i64 0]) ?_ 2 _ rfl; (with_reducible repeat (first | refine blk_drewN ?_ _ | refine blk_drew ?_ | refine blk_alloc ?_ _)); exact BK235.out) NB235_0.out (by simp)); replace HK := am_ (KeepBut.trans (kx_ HK.out) hk (.inl rfl)); replace HB := am_ hb; replace HI0 := am_ hi; (try clear hb); (try clear hb2); (try clear hk); (try clear hi); have hcz64_0 : w63.cell? ⟨gb235, 0, none⟩ = some (.int .i64 t229) := (blk_cell BK235.out 0).trans rfl; have hcz64_1 : w63.cell? ⟨gb235, 1, none⟩ = some (.bool (t232 == 0)) := (blk_cell BK235.out 1).trans rfl; have hcz64_2 : w63.cell? ⟨gb235, 2, none⟩ = some (.int .i64 (wrap64 (1 + t238))) := (blk_cell BK235.out 2).trans rfl; have hfz64_0 := blk_frozen BK235.out 0; have hfz64_1 := blk_frozen BK235.out 1; have hfz64_2 := blk_frozen BK235.out 2; have hnb65 := NB228_0.out; have hnc65 := NB0_228.out; have hcz66_0 : w63.cell? ⟨gb228, 0, none⟩ = some (.int .i64 0) := (blk_cell BK228.out 0).trans rfl; have hcz66_1 : w63.cell? ⟨gb228, 1, none⟩ = some (.bool false) := (blk_cell BK228.out 1).trans rfl; have hcz66_2 : w63.cell? ⟨gb228, 2, none⟩ = some (.int .i64 0) := (blk_cell BK228.out 2).trans rfl; have hfz66_0 := blk_frozen BK228.out 0; have hfz66_1 := blk_frozen BK228.out 1; have hfz66_2 := blk_frozen BK228.out 2))
        refine bodyPost_ret (results_cell_row rfl _ _ gb228 50 #[.int .i64 t229, .bool (t232 == 0), .int .i64 (wrap64 (1 + t238))] (0, 0) _ rfl (by (with_reducible repeat (first | refine blk_drewN ?_ _ | refine blk_drew ?_ | refine blk_alloc ?_ _)); refine blk_put (cs := #[.int .i64 t229, .bool (t232 == 0), .int .i64 0]) ?_ 2 _ rfl; (with_reducible repeat (first | refine blk_drewN ?_ _ | refine blk_drew ?_ | refine blk_alloc ?_ _)); refine blk_put (cs := #[.int .i64 t229, .bool false, .int .i64 0]) ?_ 1 _ (by first | rfl | (rw [show (t232 == 0) = true from by assumption]; rfl) | (rw [show (t232 == 0) = false from by assumption]; rfl)); (with_reducible repeat (first | refine blk_drewN ?_ _ | refine blk_drew ?_ | refine blk_alloc ?_ _)); refine blk_put (cs := #[.int .i64 0, .bool false, .int .i64 0]) ?_ 0 _ rfl; (with_reducible repeat (first | refine blk_drewN ?_ _ | refine blk_drew ?_ | refine blk_alloc ?_ _)); exact BK228.out) Tryz.underlying50 rfl (by kernel_rfl)) rfl ?_
        exact er_ ⟨ix_ HI0.out, hx_ HB.out, kx_ HK.out⟩
   ·rw [if_neg c16] at H
    exact absurd H (by simp)
  ·rw [if_neg c15] at H
   exact absurd H (by simp)

/-! ### spec_l09List: function 58 -/
def spec_l09List.l0 : Nat → List (S25) → Int → Option (Bool)
 | 0, _, _ => none
 | k + 1, x0, x3 => if x3 < (x0.length : Int) then (if 0 ≤ x3 then ((spec_IsPiece.f ((rd_T25 x0 x3).f0) ((rd_T25 x0 x3).f1)).bind fun t257 => (if t257 = true then (spec_l09List.l0 k x0 (wrap64 (x3 + 1))) else (some false))) else (none)) else (some (decide ((x0.length : Int) ≤ 80)))
def spec_l09List.f (k : Nat) (l0 : List (S25)) : Option (Bool) := spec_l09List.l0 k l0 0
theorem spec_l09List.mono_l : ∀ k, (∀ y0 y1, LeO (spec_l09List.l0 k y0 y1) (spec_l09List.l0 (k + 1) y0 y1))
 | 0 => fun _ _ r h => by simp [spec_l09List.l0] at h
 | k + 1 => by
  have ih0 := spec_l09List.mono_l k
  ·intro y0 y1
   unfold spec_l09List.l0
   repeat' first
   | (with_reducible exact ih0 _ _)
   | (with_reducible exact LeO.refl _)
   | (with_reducible exact LeO.none _)
   | (with_reducible refine LeO.ite ?_ ?_)
   | (with_reducible refine LeO.bind ?_ (fun _ => ?_))
   | exact ih0 _ _
   | exact LeO.none _
   | refine LeO.ite ?_ ?_
   | refine LeO.bind ?_ (fun _ => ?_)
theorem spec_l09List.mono : ∀ a0 k, LeO (spec_l09List.f k a0) (spec_l09List.f (k + 1) a0) := by
 intro a0 k
 have ih0 := spec_l09List.mono_l k
 unfold spec_l09List.f
 repeat' first
   | (with_reducible exact ih0 _ _)
   | (with_reducible exact LeO.refl _)
   | (with_reducible exact LeO.none _)
   | (with_reducible refine LeO.ite ?_ ?_)
   | (with_reducible refine LeO.bind ?_ (fun _ => ?_))
   | exact ih0 _ _
   | exact LeO.none _
   | refine LeO.ite ?_ ?_
   | refine LeO.bind ?_ (fun _ => ?_)
set_option maxHeartbeats 8000000 in
set_option maxRecDepth 100000 in
theorem spec_l09List.calls (k : Nat) (A0 : Option Addr) (c0 : Nat) (l0 : List (S25)) (r : Bool) (w : World) (hr0 : Kd.C k25 w A0 l0.length l0) (hc0 : l0.length ≤ c0) (h : spec_l09List.f k l0 = some r) :
  Calls Tryz.prog 58 #[.slice A0 l0.length c0] w fun e w' => e = .returned (.bool r) ∧ Below w.heap.size w w' := by
 have hu25 := Tryz.underlying25
 have HR0 := Aside0.mk hr0
 have HC0 := Aside0.mk hc0
 clear hr0 hc0
 have HB := Aside0.mk (Below.refl w.heap.size w)
 have H : (spec_l09List.l0 k l0 0) = some r := h
 clear h
 have H' := Aside0.mk H
 clear H
 go_enter Tryz.func58, Tryz.ntmps58
 go_wp2
 go_loopg [3] k (fun kq v3 w' => ∃ (x3_1 : Int), v3 = .int .i64 x3_1 ∧ Aside0 (spec_l09List.l0 kq l0 x3_1 = some r) ∧ Aside0 (kq ≤ k) ∧ Aside0 (Below w.heap.size w w'))
 case atStart => exact ⟨(0), (by first | rfl | (simp; done) | (simp [*]; done)), H', ⟨Nat.le_refl _⟩, ⟨hx_ HB.out⟩⟩
 case round =>
  clear H'
  obtain ⟨x3_1, rfl, HA, HK1, HB⟩ := hrel
  cases gk with
  | zero => exact absurd HA.out (by simp [spec_l09List.l0])
  | succ k1 =>
   have H := HA.out
   clear HA
   simp only [spec_l09List.l0] at H
   by_cases c2 : x3_1 < (l0.length : Int)
   ·rw [if_pos c2] at H
    have c2b0 : decide (x3_1 < (l0.length : Int)) = true := decide_eq_true c2
    clear c2
    by_cases c3 : 0 ≤ x3_1
    ·rw [if_pos c3] at H
     have c3b0 : decide (0 ≤ x3_1) = true := decide_eq_true c3
     clear c3
     replace H := Option.bind_eq_some_iff.mp H
     obtain ⟨t257, A40, H⟩ := H
     try dsimp only at H
     have A4 := Aside0.mk A40
     clear A40
     by_cases c5 : t257 = true
     ·subst c5
      have H1 : (spec_l09List.l0 k1 l0 (wrap64 (x3_1 + 1))) = some r := by rw [if_pos rfl] at H; exact H
      clear H
      have H := H1
      clear H1
      have H' := Aside0.mk H
      clear H
      have p256 : 0 ≤ (x3_1 : Int) := of_decide_eq_true (by first | (with_reducible assumption) | assumption)
      have q256 : x3_1 < (l0.length : Int) := of_decide_eq_true (by first | (with_reducible assumption) | assumption)
      obtain ⟨ad256, e256, hx256_0, hx256_1⟩ := at_T25 HR0.out x3_1 p256 q256
      cases e256
      replace hx256_0 := (HB.out.cell (World.block_lt_of_cell? w _ hx256_0)).trans hx256_0
      replace hx256_1 := (HB.out.cell (World.block_lt_of_cell? w _ hx256_1)).trans hx256_1
      replace p256 := eq_true p256
      replace q256 := eq_true q256
      go_wp2_with (first | ((with_reducible refine gc_ 23 rfl ?_); refine gl_ (some 14) rfl rfl Tryz.func23 rfl #[.agg #[.int .i64 ((rd_T25 l0 x3_1).f0), .int .i64 ((rd_T25 l0 x3_1).f1)]] rfl ?_; (with_reducible refine (spec_IsPiece.calls ((rd_T25 l0 x3_1).f0) ((rd_T25 l0 x3_1).f1) true _ A4.out).mono ?_); rintro e w6 ⟨rfl, hb⟩; refine ⟨_, rfl, ?_⟩; replace HB := hs_ HB hb; (try clear hb); (try clear hb2); (try clear hk); (try clear hi)))
      go_roundg k1
      case measure => have := HK1.out; omega
      case rel => exact ⟨(wrap64 (x3_1 + 1)), (by first | rfl | (simp; done) | (simp [*]; done)), H', ⟨by have := HK1.out; omega⟩, ⟨hx_ HB.out⟩⟩
     ·replace c5 := Bool.eq_false_iff.mpr c5
      subst c5
      have H1 : (some false) = some r := by rw [if_neg (show ¬ (false = true) by decide)] at H; exact H
      clear H
      have H := H1
      clear H1
      obtain rfl := Option.some.inj H
      have p256 : 0 ≤ (x3_1 : Int) := of_decide_eq_true (by first | (with_reducible assumption) | assumption)
      have q256 : x3_1 < (l0.length : Int) := of_decide_eq_true (by first | (with_reducible assumption) | assumption)
      obtain ⟨ad256, e256, hx256_0, hx256_1⟩ := at_T25 HR0.out x3_1 p256 q256
      cases e256
      replace hx256_0 := (HB.out.cell (World.block_lt_of_cell? w _ hx256_0)).trans hx256_0
      replace hx256_1 := (HB.out.cell (World.block_lt_of_cell? w _ hx256_1)).trans hx256_1
      replace p256 := eq_true p256
      replace q256 := eq_true q256
      go_wp2_with (first | ((with_reducible refine gc_ 23 rfl ?_); refine gl_ (some 14) rfl rfl Tryz.func23 rfl #[.agg #[.int .i64 ((rd_T25 l0 x3_1).f0), .int .i64 ((rd_T25 l0 x3_1).f1)]] rfl ?_; (with_reducible refine (spec_IsPiece.calls ((rd_T25 l0 x3_1).f0) ((rd_T25 l0 x3_1).f1) false _ A4.out).mono ?_); rintro e w7 ⟨rfl, hb⟩; refine ⟨_, rfl, ?_⟩; replace HB := hs_ HB hb; (try clear hb); (try clear hb2); (try clear hk); (try clear hi)))
      go_ret
      exact er_ (hx_ HB.out)
    ·rw [if_neg c3] at H
     exact absurd H (by simp)
   ·rw [if_neg c2] at H
    have c2b0 : decide (x3_1 < (l0.length : Int)) = false := decide_eq_false c2
    clear c2
    obtain rfl := Option.some.inj H
    go_wp2
    go_ret
    exact er_ (hx_ HB.out)

/-! ### spec_CanCut: function 41 -/
def spec_CanCut.j0 : Nat → List (S25) → Bool → Int → Bool → Int → Option (Bool)
 | 0, _, _, _, _, _ => none
 | k + 1, x0, x22, x259000, x259001, x259002 => if x22 = true then (some false) else (if 0 ≤ x259000 then (if x259000 < (x0.length : Int) then (if x259001 = true then ((spec_l01In.f x259002 1 (wrap64 (((rd_T25 x0 x259000).f1) - 1))).bind fun t263 => (some t263)) else ((spec_l01In.f x259002 1 (wrap64 (((rd_T25 x0 x259000).f0) - 1))).bind fun t264 => (some t264))) else (none)) else (none))
def spec_CanCut.f (k : Nat) (l0 : List (S25)) (a1_0 : Int) (a1_1 : Bool) (a1_2 : Int) : Option (Bool) := (spec_l09List.f k l0).bind fun t259 => (if t259 = true then ((spec_l01In.f a1_0 0 (wrap64 ((l0.length : Int) - 1))).bind fun t260 => (if t260 = true then (spec_CanCut.j0 k l0 ((l0.length : Int) == 80) a1_0 a1_1 a1_2) else (spec_CanCut.j0 k l0 true a1_0 a1_1 a1_2))) else (spec_CanCut.j0 k l0 true a1_0 a1_1 a1_2))
theorem spec_CanCut.mono_l : ∀ k, (∀ y0 y1 y2 y3 y4, LeO (spec_CanCut.j0 k y0 y1 y2 y3 y4) (spec_CanCut.j0 (k + 1) y0 y1 y2 y3 y4))
 | 0 => fun _ _ _ _ _ r h => by simp [spec_CanCut.j0] at h
 | k + 1 => by
  have ih0 := spec_CanCut.mono_l k
  ·intro y0 y1 y2 y3 y4
   unfold spec_CanCut.j0
   repeat' first
   | (with_reducible exact ih0 _ _ _ _ _)
   | (with_reducible exact spec_l09List.mono _ _)
   | (with_reducible exact LeO.refl _)
   | (with_reducible exact LeO.none _)
   | (with_reducible refine LeO.ite ?_ ?_)
   | (with_reducible refine LeO.bind ?_ (fun _ => ?_))
   | exact ih0 _ _ _ _ _
   | exact spec_l09List.mono _ _
   | exact LeO.none _
   | refine LeO.ite ?_ ?_
   | refine LeO.bind ?_ (fun _ => ?_)
theorem spec_CanCut.mono : ∀ a0 a1 a2 a3 k, LeO (spec_CanCut.f k a0 a1 a2 a3) (spec_CanCut.f (k + 1) a0 a1 a2 a3) := by
 intro a0 a1 a2 a3 k
 have ih0 := spec_CanCut.mono_l k
 unfold spec_CanCut.f
 repeat' first
   | (with_reducible exact ih0 _ _ _ _ _)
   | (with_reducible exact spec_l09List.mono _ _)
   | (with_reducible exact LeO.refl _)
   | (with_reducible exact LeO.none _)
   | (with_reducible refine LeO.ite ?_ ?_)
   | (with_reducible refine LeO.bind ?_ (fun _ => ?_))
   | exact ih0 _ _ _ _ _
   | exact spec_l09List.mono _ _
   | exact LeO.none _
   | refine LeO.ite ?_ ?_
   | refine LeO.bind ?_ (fun _ => ?_)
set_option maxHeartbeats 8000000 in
set_option maxRecDepth 100000 in
theorem spec_CanCut.calls (k : Nat) (A0 : Option Addr) (c0 : Nat) (l0 : List (S25)) (a1_0 : Int) (a1_1 : Bool) (a1_2 : Int) (r : Bool) (w : World) (hr0 : Kd.C k25 w A0 l0.length l0) (hc0 : l0.length ≤ c0) (h : spec_CanCut.f k l0 a1_0 a1_1 a1_2 = some r) :
  Calls Tryz.prog 41 #[.slice A0 l0.length c0, .agg #[.int .i64 a1_0, .bool a1_1, .int .i64 a1_2]] w fun e w' => e = .returned (.bool r) ∧ Below w.heap.size w w' := by
 have hu50 := Tryz.underlying50
 have HR0 := Aside0.mk hr0
 have HC0 := Aside0.mk hc0
 clear hr0 hc0
 have HB := Aside0.mk (Below.refl w.heap.size w)
 have H : ((spec_l09List.f k l0).bind fun t259 => (if t259 = true then ((spec_l01In.f a1_0 0 (wrap64 ((l0.length : Int) - 1))).bind fun t260 => (if t260 = true then (spec_CanCut.j0 k l0 ((l0.length : Int) == 80) a1_0 a1_1 a1_2) else (spec_CanCut.j0 k l0 true a1_0 a1_1 a1_2))) else (spec_CanCut.j0 k l0 true a1_0 a1_1 a1_2))) = some r := h
 clear h
 have HC3 := Aside0.mk H
 clear H
 go_enter Tryz.func41, Tryz.ntmps41
 go_upto_region 1 with (first | ((with_reducible refine gd_ 3 rfl ?_); (try (refine gate_guard (by rfl) ?_; dsimp only)); refine be_ 3 #[.int .i64 a1_0, .bool a1_1, .int .i64 a1_2] 50 rfl rfl ?_; intro gb258 hg w4 hbox hb; have BK258 := am_ hbox; have GW258 := gw_ hg HB; have GE258 := gw_ hg HB; replace HB := hs_ HB hb; clear hb hbox hg))
 (try simp only [Act.put, List.setIfInBounds_toArray, List.set_cons_zero, List.set_cons_succ])
 go_cut [22] (fun v22 wc => ∃ (kq : Nat) (x22_2 : Bool), v22 = .bool x22_2 ∧ Aside0 (spec_CanCut.j0 kq l0 x22_2 a1_0 a1_1 a1_2 = some r) ∧ Aside0 (kq ≤ k) ∧ Aside0 (wc.heap[gb258]? = some (.cells #[.int .i64 a1_0, .bool a1_1, .int .i64 a1_2] 50 (0, 0))) ∧ Aside0 (Below w.heap.size w wc))
 case first =>
  have H := HC3.out
  clear HC3
  replace H := Option.bind_eq_some_iff.mp H
  obtain ⟨t259, A50, H⟩ := H
  try dsimp only at H
  have A5 := Aside0.mk A50
  clear A50
  by_cases c6 : t259 = true
  ·subst c6
   have H1 : ((spec_l01In.f a1_0 0 (wrap64 ((l0.length : Int) - 1))).bind fun t260 => (if t260 = true then (spec_CanCut.j0 k l0 ((l0.length : Int) == 80) a1_0 a1_1 a1_2) else (spec_CanCut.j0 k l0 true a1_0 a1_1 a1_2))) = some r := by rw [if_pos rfl] at H; exact H
   clear H
   have H := H1
   clear H1
   replace H := Option.bind_eq_some_iff.mp H
   obtain ⟨t260, A70, H⟩ := H
   try dsimp only at H
   have A7 := Aside0.mk A70
   clear A70
   by_cases c8 : t260 = true
   ·subst c8
    have H1 : (spec_CanCut.j0 k l0 ((l0.length : Int) == 80) a1_0 a1_1 a1_2) = some r := by rw [if_pos rfl] at H; exact H
    clear H
    have H := H1
    clear H1
    have H' := Aside0.mk H
    clear H
    go_wp2_with (first | ((with_reducible refine gc_ 58 rfl ?_); refine gl_ (some 7) rfl rfl Tryz.func58 rfl #[.slice A0 l0.length c0] rfl ?_; (with_reducible refine (spec_l09List.calls k _ _ l0 true _ ?side1 ?side2 A5.out).mono ?_); (case side1 => repeat (first | exact (Kd.C_below HR0.out HB.out) | (with_reducible refine Kd.C_alloc ?_ _) | (with_reducible refine Kd.C_drewN ?_ _) | (with_reducible refine Kd.C_drew ?_))); (case side2 => exact HC0.out); rintro e w9 ⟨rfl, hb⟩; refine ⟨_, rfl, ?_⟩; replace BK258 := bb_ BK258 hb; replace HB := hs_ HB hb; (try clear hb); (try clear hb2); (try clear hk); (try clear hi); have hcz10_0 : w9.cell? ⟨gb258, 0, none⟩ = some (.int .i64 a1_0) := (blk_cell BK258.out 0).trans rfl; have hcz10_1 : w9.cell? ⟨gb258, 1, none⟩ = some (.bool a1_1) := (blk_cell BK258.out 1).trans rfl; have hcz10_2 : w9.cell? ⟨gb258, 2, none⟩ = some (.int .i64 a1_2) := (blk_cell BK258.out 2).trans rfl; have hfz10_0 := blk_frozen BK258.out 0; have hfz10_1 := blk_frozen BK258.out 1; have hfz10_2 := blk_frozen BK258.out 2) | (go_at_call 24; (with_reducible refine (spec_l01In.calls a1_0 0 (wrap64 ((l0.length : Int) - 1)) true _ A7.out).mono ?_); rintro e w' ⟨rfl, ⟨nd, rfl⟩⟩))
    go_meet
    case rel => exact ⟨_, (((l0.length : Int) == 80)), (by first | rfl | (simp; done) | (simp [*]; done)), H', ⟨by first | omega | exact Nat.le_refl _⟩, ⟨bx_ BK258.out⟩, ⟨hx_ HB.out⟩⟩
   ·replace c8 := Bool.eq_false_iff.mpr c8
    subst c8
    have H1 : (spec_CanCut.j0 k l0 true a1_0 a1_1 a1_2) = some r := by rw [if_neg (show ¬ (false = true) by decide)] at H; exact H
    clear H
    have H := H1
    clear H1
    have H' := Aside0.mk H
    clear H
    go_wp2_with (first | ((with_reducible refine gc_ 58 rfl ?_); refine gl_ (some 7) rfl rfl Tryz.func58 rfl #[.slice A0 l0.length c0] rfl ?_; (with_reducible refine (spec_l09List.calls k _ _ l0 true _ ?side1 ?side2 A5.out).mono ?_); (case side1 => repeat (first | exact (Kd.C_below HR0.out HB.out) | (with_reducible refine Kd.C_alloc ?_ _) | (with_reducible refine Kd.C_drewN ?_ _) | (with_reducible refine Kd.C_drew ?_))); (case side2 => exact HC0.out); rintro e w11 ⟨rfl, hb⟩; refine ⟨_, rfl, ?_⟩; replace BK258 := bb_ BK258 hb; replace HB := hs_ HB hb; (try clear hb); (try clear hb2); (try clear hk); (try clear hi); have hcz12_0 : w11.cell? ⟨gb258, 0, none⟩ = some (.int .i64 a1_0) := (blk_cell BK258.out 0).trans rfl; have hcz12_1 : w11.cell? ⟨gb258, 1, none⟩ = some (.bool a1_1) := (blk_cell BK258.out 1).trans rfl; have hcz12_2 : w11.cell? ⟨gb258, 2, none⟩ = some (.int .i64 a1_2) := (blk_cell BK258.out 2).trans rfl; have hfz12_0 := blk_frozen BK258.out 0; have hfz12_1 := blk_frozen BK258.out 1; have hfz12_2 := blk_frozen BK258.out 2) | (go_at_call 24; (with_reducible refine (spec_l01In.calls a1_0 0 (wrap64 ((l0.length : Int) - 1)) false _ A7.out).mono ?_); rintro e w' ⟨rfl, ⟨nd, rfl⟩⟩))
    go_meet
    case rel => exact ⟨_, (true), (by first | rfl | (simp; done) | (simp [*]; done)), H', ⟨by first | omega | exact Nat.le_refl _⟩, ⟨bx_ BK258.out⟩, ⟨hx_ HB.out⟩⟩
  ·replace c6 := Bool.eq_false_iff.mpr c6
   subst c6
   have H1 : (spec_CanCut.j0 k l0 true a1_0 a1_1 a1_2) = some r := by rw [if_neg (show ¬ (false = true) by decide)] at H; exact H
   clear H
   have H := H1
   clear H1
   have H' := Aside0.mk H
   clear H
   go_wp2_with (first | ((with_reducible refine gc_ 58 rfl ?_); refine gl_ (some 7) rfl rfl Tryz.func58 rfl #[.slice A0 l0.length c0] rfl ?_; (with_reducible refine (spec_l09List.calls k _ _ l0 false _ ?side1 ?side2 A5.out).mono ?_); (case side1 => repeat (first | exact (Kd.C_below HR0.out HB.out) | (with_reducible refine Kd.C_alloc ?_ _) | (with_reducible refine Kd.C_drewN ?_ _) | (with_reducible refine Kd.C_drew ?_))); (case side2 => exact HC0.out); rintro e w13 ⟨rfl, hb⟩; refine ⟨_, rfl, ?_⟩; replace BK258 := bb_ BK258 hb; replace HB := hs_ HB hb; (try clear hb); (try clear hb2); (try clear hk); (try clear hi)))
   go_meet
   case rel => exact ⟨_, (true), (by first | rfl | (simp; done) | (simp [*]; done)), H', ⟨by first | omega | exact Nat.le_refl _⟩, ⟨bx_ BK258.out⟩, ⟨hx_ HB.out⟩⟩
 case rest =>
  clear HC3
  (try clear p2); (try clear c4); (try clear c5); (try clear c6); (try clear p6); (try clear c8); (try clear hcz10_0); (try clear hcz10_1); (try clear hcz10_2); (try clear hcz12_0); (try clear hcz12_1); (try clear hcz12_2); (try clear hfz10_0); (try clear hfz10_1); (try clear hfz10_2); (try clear hfz12_0); (try clear hfz12_1); (try clear hfz12_2)
  obtain ⟨kq, x22_2, rfl, HA, HJ2, BK258, HB⟩ := hcut
  cases kq with
  | zero => exact absurd HA.out (by simp [spec_CanCut.j0])
  | succ kj2 =>
   have H := HA.out
   clear HA
   simp only [spec_CanCut.j0] at H
   by_cases c14 : x22_2 = true
   ·subst c14
    have H1 : (some false) = some r := by rw [if_pos rfl] at H; exact H
    clear H
    have H := H1
    clear H1
    obtain rfl := Option.some.inj H
    go_wp2
    go_ret
    exact er_ (hx_ HB.out)
   ·replace c14 := Bool.eq_false_iff.mpr c14
    subst c14
    have H1 : (if 0 ≤ a1_0 then (if a1_0 < (l0.length : Int) then (if a1_1 = true then ((spec_l01In.f a1_2 1 (wrap64 (((rd_T25 l0 a1_0).f1) - 1))).bind fun t263 => (some t263)) else ((spec_l01In.f a1_2 1 (wrap64 (((rd_T25 l0 a1_0).f0) - 1))).bind fun t264 => (some t264))) else (none)) else (none)) = some r := by rw [if_neg (show ¬ (false = true) by decide)] at H; exact H
    clear H
    have H := H1
    clear H1
    by_cases c15 : 0 ≤ a1_0
    ·rw [if_pos c15] at H
     have c15b0 : decide (0 ≤ a1_0) = true := decide_eq_true c15
     clear c15
     by_cases c16 : a1_0 < (l0.length : Int)
     ·rw [if_pos c16] at H
      have c16b0 : decide (a1_0 < (l0.length : Int)) = true := decide_eq_true c16
      clear c16
      by_cases c17 : a1_1 = true
      ·subst c17
       have H1 : ((spec_l01In.f a1_2 1 (wrap64 (((rd_T25 l0 a1_0).f1) - 1))).bind fun t263 => (some t263)) = some r := by rw [if_pos rfl] at H; exact H
       clear H
       have H := H1
       clear H1
       replace H := Option.bind_eq_some_iff.mp H
       obtain ⟨t263, A180, H⟩ := H
       try dsimp only at H
       have A18 := Aside0.mk A180
       clear A180
       obtain rfl := Option.some.inj H
       have hcz19_0 : wc.cell? ⟨gb258, 0, none⟩ = some (.int .i64 a1_0) := (blk_cell BK258.out 0).trans rfl
       have hcz19_1 : wc.cell? ⟨gb258, 1, none⟩ = some (.bool true) := (blk_cell BK258.out 1).trans rfl
       have hcz19_2 : wc.cell? ⟨gb258, 2, none⟩ = some (.int .i64 a1_2) := (blk_cell BK258.out 2).trans rfl
       have hfz19_0 := blk_frozen BK258.out 0
       have hfz19_1 := blk_frozen BK258.out 1
       have hfz19_2 := blk_frozen BK258.out 2
       have p261 : 0 ≤ (a1_0 : Int) := of_decide_eq_true (by first | (with_reducible assumption) | assumption)
       have q261 : a1_0 < (l0.length : Int) := of_decide_eq_true (by first | (with_reducible assumption) | assumption)
       obtain ⟨ad261, e261, hx261_0, hx261_1⟩ := at_T25 HR0.out a1_0 p261 q261
       cases e261
       replace hx261_0 := (HB.out.cell (World.block_lt_of_cell? w _ hx261_0)).trans hx261_0
       replace hx261_1 := (HB.out.cell (World.block_lt_of_cell? w _ hx261_1)).trans hx261_1
       replace p261 := eq_true p261
       replace q261 := eq_true q261
       have p262 : 0 ≤ (a1_0 : Int) := of_decide_eq_true (by first | (with_reducible assumption) | assumption)
       have q262 : a1_0 < (l0.length : Int) := of_decide_eq_true (by first | (with_reducible assumption) | assumption)
       obtain ⟨ad262, e262, hx262_0, hx262_1⟩ := at_T25 HR0.out a1_0 p262 q262
       obtain rfl : ad261 = ad262 := (by injection e262)
       replace hx262_0 := (HB.out.cell (World.block_lt_of_cell? w _ hx262_0)).trans hx262_0
       replace hx262_1 := (HB.out.cell (World.block_lt_of_cell? w _ hx262_1)).trans hx262_1
       replace p262 := eq_true p262
       replace q262 := eq_true q262
       go_wp2_with (first | ((with_reducible refine gc_ 24 rfl ?_); refine gl_ (some 41) rfl rfl Tryz.func24 rfl #[.int .i64 a1_2, .int .i64 1, .int .i64 (wrap64 (((rd_T25 l0 a1_0).f1) - 1))] rfl ?_; (with_reducible refine (spec_l01In.calls a1_2 1 (wrap64 (((rd_T25 l0 a1_0).f1) - 1)) t263 _ A18.out).mono ?_); rintro e w' ⟨rfl, ⟨nd, rfl⟩⟩; refine ⟨_, rfl, ?_⟩))
       go_ret
       exact er_ (hx_ HB.out)
      ·replace c17 := Bool.eq_false_iff.mpr c17
       subst c17
       have H1 : ((spec_l01In.f a1_2 1 (wrap64 (((rd_T25 l0 a1_0).f0) - 1))).bind fun t264 => (some t264)) = some r := by rw [if_neg (show ¬ (false = true) by decide)] at H; exact H
       clear H
       have H := H1
       clear H1
       replace H := Option.bind_eq_some_iff.mp H
       obtain ⟨t264, A200, H⟩ := H
       try dsimp only at H
       have A20 := Aside0.mk A200
       clear A200
       obtain rfl := Option.some.inj H
       have hcz21_0 : wc.cell? ⟨gb258, 0, none⟩ = some (.int .i64 a1_0) := (blk_cell BK258.out 0).trans rfl
       have hcz21_1 : wc.cell? ⟨gb258, 1, none⟩ = some (.bool false) := (blk_cell BK258.out 1).trans rfl
       have hcz21_2 : wc.cell? ⟨gb258, 2, none⟩ = some (.int .i64 a1_2) := (blk_cell BK258.out 2).trans rfl
       have hfz21_0 := blk_frozen BK258.out 0
       have hfz21_1 := blk_frozen BK258.out 1
       have hfz21_2 := blk_frozen BK258.out 2
       have p261 : 0 ≤ (a1_0 : Int) := of_decide_eq_true (by first | (with_reducible assumption) | assumption)
       have q261 : a1_0 < (l0.length : Int) := of_decide_eq_true (by first | (with_reducible assumption) | assumption)
       obtain ⟨ad261, e261, hx261_0, hx261_1⟩ := at_T25 HR0.out a1_0 p261 q261
       cases e261
       replace hx261_0 := (HB.out.cell (World.block_lt_of_cell? w _ hx261_0)).trans hx261_0
       replace hx261_1 := (HB.out.cell (World.block_lt_of_cell? w _ hx261_1)).trans hx261_1
       replace p261 := eq_true p261
       replace q261 := eq_true q261
       go_wp2_with (first | ((with_reducible refine gc_ 24 rfl ?_); refine gl_ (some 41) rfl rfl Tryz.func24 rfl #[.int .i64 a1_2, .int .i64 1, .int .i64 (wrap64 (((rd_T25 l0 a1_0).f0) - 1))] rfl ?_; (with_reducible refine (spec_l01In.calls a1_2 1 (wrap64 (((rd_T25 l0 a1_0).f0) - 1)) t264 _ A20.out).mono ?_); rintro e w' ⟨rfl, ⟨nd, rfl⟩⟩; refine ⟨_, rfl, ?_⟩))
       go_ret
       exact er_ (hx_ HB.out)
     ·rw [if_neg c16] at H
      exact absurd H (by simp)
    ·rw [if_neg c15] at H
     exact absurd H (by simp)

end Go.Proofs.YtdafddgmeidclaaGreatDoor.PFnGridCuts
