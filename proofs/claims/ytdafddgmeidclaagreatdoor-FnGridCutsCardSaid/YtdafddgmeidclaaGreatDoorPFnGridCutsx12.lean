-- Written by wip/inject.py: a contract of each function that the law reaches; those of the stand-ins are proved in this seat's Hand texts
import Derived.Test.YtdafddgmeidclaaGreatDoorPFnGridCutsx0
import Derived.Test.YtdafddgmeidclaaGreatDoorPFnGridCutsx3
import Derived.Test.YtdafddgmeidclaaGreatDoorPFnGridCutsx9
import Derived.Test.YtdafddgmeidclaaGreatDoorPFnGridCutsx11
namespace Go.Proofs.YtdafddgmeidclaaGreatDoor.PFnGridCuts
open Go.RowKit Go.Proofs.YtdafddgmeidclaaGreatDoorW.PrintWords Go.Proofs.YtdafddgmeidclaaGreatDoorW.PrintLast Go.Proofs.YtdafddgmeidclaaGreatDoorW.PrintMore
attribute [local go_sem] max2_int min2_int max_two min_two max_three min_three max_four min_four   -- for this text's walks alone
set_option linter.unusedVariables false
set_option linter.unusedSimpArgs false

/-! ### spec_l01Damage: function 29 -/
def spec_l01Damage.j0 : Nat → ByteArray → List Int → Int → Int → Option (ByteArray × Int × Int)
 | 0, _, _, _, _ => none
 | k + 1, x1, x1000, x1001, x1002 => some (x1, x1001, x1002)
def spec_l01Damage.f (k : Nat) (s0_0 : List Int) (s0_1 : Int) (s0_2 : Int) (a1 : ByteArray) : Option (ByteArray × Int × Int) := (spec_l01Next.f s0_0 s0_1 s0_2 (wrap64 ((a1.size : Int) + 1))).bind fun bt381 => ((spec_l01Next.f s0_0 bt381.2.1 bt381.2.2 8).bind fun bt384 => (if bt384.1 = 0 then (if 0 ≤ bt381.1 then (if bt381.1 ≤ (a1.size : Int) then (some (a1.extract 0 (bt381.1 : Int).toNat, bt384.2.1, bt384.2.2)) else (none)) else (none)) else (if bt384.1 = 1 then (if 0 ≤ bt381.1 then (if bt381.1 ≤ (a1.size : Int) then ((some (([(⟨#[48]⟩ : ByteArray), (⟨#[49]⟩ : ByteArray), (⟨#[32]⟩ : ByteArray), (⟨#[45]⟩ : ByteArray), (⟨#[46]⟩ : ByteArray), (⟨#[44]⟩ : ByteArray), (⟨#[10]⟩ : ByteArray), (⟨#[120]⟩ : ByteArray)] : List ByteArray) : List ByteArray)).bind fun y387 => ((spec_l01Next.f s0_0 bt384.2.1 bt384.2.2 8).bind fun bt390 => (if 0 ≤ bt390.1 then (if bt390.1 < (y387.length : Int) then (if (a1.extract 0 (bt381.1 : Int).toNat).size + (rdOf ByteArray.empty y387 bt390.1).size ≤ 9223372036854775807 then (if ((a1.extract 0 (bt381.1 : Int).toNat) ++ (rdOf ByteArray.empty y387 bt390.1)).size + (a1.extract (bt381.1 : Int).toNat a1.size).size ≤ 9223372036854775807 then (some (((a1.extract 0 (bt381.1 : Int).toNat) ++ (rdOf ByteArray.empty y387 bt390.1)) ++ (a1.extract (bt381.1 : Int).toNat a1.size), bt390.2.1, bt390.2.2)) else (none)) else (none)) else (none)) else (none)))) else (none)) else (none)) else (if bt384.1 = 2 then (if bt381.1 < (a1.size : Int) then (if 0 ≤ bt381.1 then (if bt381.1 ≤ (a1.size : Int) then (if 0 ≤ (wrap64 (bt381.1 + 1)) then (if (wrap64 (bt381.1 + 1)) ≤ (a1.size : Int) then (if (a1.extract 0 (bt381.1 : Int).toNat).size + (a1.extract ((wrap64 (bt381.1 + 1)) : Int).toNat a1.size).size ≤ 9223372036854775807 then (some ((a1.extract 0 (bt381.1 : Int).toNat) ++ (a1.extract ((wrap64 (bt381.1 + 1)) : Int).toNat a1.size), bt384.2.1, bt384.2.2)) else (none)) else (none)) else (none)) else (none)) else (none)) else (spec_l01Damage.j0 k a1 s0_0 bt384.2.1 bt384.2.2)) else (spec_l01Damage.j0 k a1 s0_0 bt384.2.1 bt384.2.2)))))
theorem spec_l01Damage.mono_l : ∀ k, (∀ y0 y1 y2 y3, LeO (spec_l01Damage.j0 k y0 y1 y2 y3) (spec_l01Damage.j0 (k + 1) y0 y1 y2 y3))
 | 0 => fun _ _ _ _ r h => by simp [spec_l01Damage.j0] at h
 | k + 1 => by
  have ih0 := spec_l01Damage.mono_l k
  ·intro y0 y1 y2 y3
   unfold spec_l01Damage.j0
   repeat' first
   | (with_reducible exact ih0 _ _ _ _)
   | (with_reducible exact LeO.refl _)
   | (with_reducible exact LeO.none _)
   | (with_reducible refine LeO.ite ?_ ?_)
   | (with_reducible refine LeO.bind ?_ (fun _ => ?_))
   | exact ih0 _ _ _ _
   | exact LeO.none _
   | refine LeO.ite ?_ ?_
   | refine LeO.bind ?_ (fun _ => ?_)
theorem spec_l01Damage.mono : ∀ a0 a1 a2 a3 k, LeO (spec_l01Damage.f k a0 a1 a2 a3) (spec_l01Damage.f (k + 1) a0 a1 a2 a3) := by
 intro a0 a1 a2 a3 k
 have ih0 := spec_l01Damage.mono_l k
 unfold spec_l01Damage.f
 repeat' first
   | (with_reducible exact ih0 _ _ _ _)
   | (with_reducible exact LeO.refl _)
   | (with_reducible exact LeO.none _)
   | (with_reducible refine LeO.ite ?_ ?_)
   | (with_reducible refine LeO.bind ?_ (fun _ => ?_))
   | exact ih0 _ _ _ _
   | exact LeO.none _
   | refine LeO.ite ?_ ?_
   | refine LeO.bind ?_ (fun _ => ?_)
def spec_l01Damage.T6 : Bool × List (List Nat × List Nat) := (true, [([], []), ([], []), ([0, 1], [0, 1]), ([], []), ([], []), ([4], [4]), ([3, 5], [3, 5]), ([6], [6]), ([2, 7], [2, 7]), ([], []), ([], []), ([9, 10], [9, 10]), ([8, 11], [8, 11]), ([12, 5, 0, 1, 2, 3, 4, 5, 6, 7, 8, 9, 10, 11, 12], [12])])
def spec_l01Damage.B6 : List Nat := [0, 0, 3, 0, 0, 16, 56, 120, 255, 0, 0, 1536, 4095, 8191]
theorem spec_l01Damage.tab6 : rtab .any (opsOf Tryz.f29 6) = spec_l01Damage.T6 := by kernel_rfl
theorem spec_l01Damage.bits6 : waitsOk spec_l01Damage.T6.2 spec_l01Damage.B6 = true := by kernel_rfl
def spec_l01Damage.T9 : Bool × List (List Nat × List Nat) := (true, [([], []), ([], []), ([0, 1], [0, 1]), ([], []), ([], []), ([4], [4]), ([3, 5], [3, 5]), ([2, 6], [2, 6]), ([7, 0, 1, 2, 3, 4, 5, 6, 7], [7])])
def spec_l01Damage.B9 : List Nat := [0, 0, 3, 0, 0, 16, 56, 127, 255]
theorem spec_l01Damage.tab9 : rtab .any (opsOf Tryz.f29 9) = spec_l01Damage.T9 := by kernel_rfl
theorem spec_l01Damage.bits9 : waitsOk spec_l01Damage.T9.2 spec_l01Damage.B9 = true := by kernel_rfl
set_option maxHeartbeats 8000000 in
set_option maxRecDepth 100000 in
theorem spec_l01Damage.calls (k : Nat) (g : Nat) (s0_0 : List Int) (s0_1 : Int) (s0_2 : Int) (a1 : ByteArray) (r1 : ByteArray) (r2 : Int) (r3 : Int) (w0 w : World) (hI : IsS70 w0 w g s0_0 s0_1 s0_2) (hB : Below w0.heap.size w0 w) (h : spec_l01Damage.f k s0_0 s0_1 s0_2 a1 = some (r1, r2, r3)) :
  Calls Tryz.prog 29 #[.pointer (some ⟨g, 0, none⟩), .string a1] w fun e w' => e = .returned (.string r1) ∧ IsS70 w0 w' g s0_0 r2 r3 ∧ Below w0.heap.size w0 w' ∧ KeepBut w w' g none := by
 have HI0 := Aside0.mk hI
 have HK := Aside0.mk (KeepBut.refl w g none)
 have HL := Aside0.mk hB.size
 clear hI
 have HW0 := Aside0.mk hB.size
 have HB := Aside0.mk hB
 clear hB
 have H : ((spec_l01Next.f s0_0 s0_1 s0_2 (wrap64 ((a1.size : Int) + 1))).bind fun bt381 => ((spec_l01Next.f s0_0 bt381.2.1 bt381.2.2 8).bind fun bt384 => (if bt384.1 = 0 then (if 0 ≤ bt381.1 then (if bt381.1 ≤ (a1.size : Int) then (some (a1.extract 0 (bt381.1 : Int).toNat, bt384.2.1, bt384.2.2)) else (none)) else (none)) else (if bt384.1 = 1 then (if 0 ≤ bt381.1 then (if bt381.1 ≤ (a1.size : Int) then ((some (([(⟨#[48]⟩ : ByteArray), (⟨#[49]⟩ : ByteArray), (⟨#[32]⟩ : ByteArray), (⟨#[45]⟩ : ByteArray), (⟨#[46]⟩ : ByteArray), (⟨#[44]⟩ : ByteArray), (⟨#[10]⟩ : ByteArray), (⟨#[120]⟩ : ByteArray)] : List ByteArray) : List ByteArray)).bind fun y387 => ((spec_l01Next.f s0_0 bt384.2.1 bt384.2.2 8).bind fun bt390 => (if 0 ≤ bt390.1 then (if bt390.1 < (y387.length : Int) then (if (a1.extract 0 (bt381.1 : Int).toNat).size + (rdOf ByteArray.empty y387 bt390.1).size ≤ 9223372036854775807 then (if ((a1.extract 0 (bt381.1 : Int).toNat) ++ (rdOf ByteArray.empty y387 bt390.1)).size + (a1.extract (bt381.1 : Int).toNat a1.size).size ≤ 9223372036854775807 then (some (((a1.extract 0 (bt381.1 : Int).toNat) ++ (rdOf ByteArray.empty y387 bt390.1)) ++ (a1.extract (bt381.1 : Int).toNat a1.size), bt390.2.1, bt390.2.2)) else (none)) else (none)) else (none)) else (none)))) else (none)) else (none)) else (if bt384.1 = 2 then (if bt381.1 < (a1.size : Int) then (if 0 ≤ bt381.1 then (if bt381.1 ≤ (a1.size : Int) then (if 0 ≤ (wrap64 (bt381.1 + 1)) then (if (wrap64 (bt381.1 + 1)) ≤ (a1.size : Int) then (if (a1.extract 0 (bt381.1 : Int).toNat).size + (a1.extract ((wrap64 (bt381.1 + 1)) : Int).toNat a1.size).size ≤ 9223372036854775807 then (some ((a1.extract 0 (bt381.1 : Int).toNat) ++ (a1.extract ((wrap64 (bt381.1 + 1)) : Int).toNat a1.size), bt384.2.1, bt384.2.2)) else (none)) else (none)) else (none)) else (none)) else (none)) else (spec_l01Damage.j0 k a1 s0_0 bt384.2.1 bt384.2.2)) else (spec_l01Damage.j0 k a1 s0_0 bt384.2.1 bt384.2.2)))))) = some (r1, r2, r3) := h
 clear h
 replace H := Option.bind_eq_some_iff.mp H
 obtain ⟨⟨t381, t382, t383⟩, A30, H⟩ := H
 try dsimp only at H
 have A3 := Aside0.mk A30
 clear A30
 replace H := Option.bind_eq_some_iff.mp H
 obtain ⟨⟨t384, t385, t386⟩, A40, H⟩ := H
 try dsimp only at H
 have A4 := Aside0.mk A40
 clear A40
 have HC5 := Aside0.mk H
 clear H
 go_enter Tryz.func29, Tryz.ntmps29
 go_upto_block 0 with (first | ((with_reducible refine gc_ 18 rfl ?_); refine gl_ (some 10) rfl rfl Tryz.func18 rfl #[.pointer (some ⟨g, 0, none⟩), .int .i64 (wrap64 ((a1.size : Int) + 1))] rfl ?_; (with_reducible refine (spec_l01Next.calls g s0_0 s0_1 s0_2 (wrap64 ((a1.size : Int) + 1)) t381 t382 t383 w0 _ ?side1 ?side2 A3.out).mono ?_); (case side1 => exact ix_ HI0.out); (case side2 => exact hx_ HB.out); rintro e w6 ⟨rfl, hi, hb, hk⟩; refine ⟨_, rfl, ?_⟩; replace HK := am_ (KeepBut.trans (kx_ HK.out) hk (.inl rfl)); replace HB := am_ hb; replace HI0 := am_ hi; (try clear hb); (try clear hb2); (try clear hk); (try clear hi)) | ((with_reducible refine gc_ 18 rfl ?_); refine gl_ (some 12) rfl rfl Tryz.func18 rfl #[.pointer (some ⟨g, 0, none⟩), .int .i64 8] rfl ?_; (with_reducible refine (spec_l01Next.calls g s0_0 t382 t383 8 t384 t385 t386 w0 _ ?side1 ?side2 A4.out).mono ?_); (case side1 => exact ix_ HI0.out); (case side2 => exact hx_ HB.out); rintro e w7 ⟨rfl, hi, hb, hk⟩; refine ⟨_, rfl, ?_⟩; replace HK := am_ (KeepBut.trans (kx_ HK.out) hk (.inl rfl)); replace HB := am_ hb; replace HI0 := am_ hi; (try clear hb); (try clear hb2); (try clear hk); (try clear hi)))
 (try simp only [Act.put, List.setIfInBounds_toArray, List.set_cons_zero, List.set_cons_succ])
 go_cut [] (fun wc => ∃ (kq : Nat) (x1001_4 : Int) (x1002_4 : Int), Aside0 (spec_l01Damage.j0 kq a1 s0_0 x1001_4 x1002_4 = some (r1, r2, r3)) ∧ Aside0 (kq ≤ k) ∧ Aside0 (IsS70 w0 wc g s0_0 x1001_4 x1002_4) ∧ Aside0 (KeepBut w wc g none) ∧ Aside0 (Below w0.heap.size w0 wc))
 case first =>
  have H := HC5.out
  clear HC5
  by_cases c8 : t384 = 0
  ·rw [if_pos c8] at H
   have c8b0 : (t384 == 0) = true := beq_iff_eq.mpr c8
   have c8b1 : (t384 != 0) = false := bne_eq_false_iff_eq.mpr c8
   clear c8
   (first | rw [c8b0] | (simp only [i64_w, i32_w]; rw [c8b0]) | skip)
   by_cases c9 : 0 ≤ t381
   ·rw [if_pos c9] at H
    have c9b0 := eq_true c9
    have c9b1 : decide (0 ≤ t381) = true := decide_eq_true c9
    clear c9
    by_cases c10 : t381 ≤ (a1.size : Int)
    ·rw [if_pos c10] at H
     have c10b0 := eq_true c10
     have c10b1 : decide (t381 ≤ (a1.size : Int)) = true := decide_eq_true c10
     clear c10
     simp only [Option.some.injEq, Prod.mk.injEq] at H
     obtain ⟨rfl, rfl, rfl⟩ := H
     go_wp2
     go_ret
     exact er_ ⟨ix_ HI0.out, hx_ HB.out, kx_ HK.out⟩
    ·rw [if_neg c10] at H
     exact absurd H (by simp)
   ·rw [if_neg c9] at H
    exact absurd H (by simp)
  ·rw [if_neg c8] at H
   have c8b0 : (t384 == 0) = false := beq_eq_false_iff_ne.mpr c8
   have c8b1 : (t384 != 0) = true := bne_iff_ne.mpr c8
   (first | rw [c8b0] | (simp only [i64_w, i32_w]; rw [c8b0]) | skip)
   by_cases c11 : t384 = 1
   ·rw [if_pos c11] at H
    have c11b0 : (t384 == 1) = true := beq_iff_eq.mpr c11
    have c11b1 : (t384 != 1) = false := bne_eq_false_iff_eq.mpr c11
    clear c11
    by_cases c12 : 0 ≤ t381
    ·rw [if_pos c12] at H
     have c12b0 := eq_true c12
     have c12b1 : decide (0 ≤ t381) = true := decide_eq_true c12
     clear c12
     by_cases c13 : t381 ≤ (a1.size : Int)
     ·rw [if_pos c13] at H
      have c13b0 := eq_true c13
      have c13b1 : decide (t381 ≤ (a1.size : Int)) = true := decide_eq_true c13
      clear c13
      obtain ⟨y387, hy387⟩ : ∃ y_ : List ByteArray, y_ = (([(⟨#[48]⟩ : ByteArray), (⟨#[49]⟩ : ByteArray), (⟨#[32]⟩ : ByteArray), (⟨#[45]⟩ : ByteArray), (⟨#[46]⟩ : ByteArray), (⟨#[44]⟩ : ByteArray), (⟨#[10]⟩ : ByteArray), (⟨#[120]⟩ : ByteArray)] : List ByteArray)) := ⟨_, rfl⟩
      replace H : ((spec_l01Next.f s0_0 t385 t386 8).bind fun bt390 => (if 0 ≤ bt390.1 then (if bt390.1 < (y387.length : Int) then (if (a1.extract 0 (t381 : Int).toNat).size + (rdOf ByteArray.empty y387 bt390.1).size ≤ 9223372036854775807 then (if ((a1.extract 0 (t381 : Int).toNat) ++ (rdOf ByteArray.empty y387 bt390.1)).size + (a1.extract (t381 : Int).toNat a1.size).size ≤ 9223372036854775807 then (some (((a1.extract 0 (t381 : Int).toNat) ++ (rdOf ByteArray.empty y387 bt390.1)) ++ (a1.extract (t381 : Int).toNat a1.size), bt390.2.1, bt390.2.2)) else (none)) else (none)) else (none)) else (none))) = some (r1, r2, r3) := by first | (rw [hy387]; with_reducible exact H) | (have H2_ := (Option.bind_some _ _).symm.trans H; rw [hy387]; with_reducible exact H2_) | (have H2_ := (Option.bind_some _ _).symm.trans H; with_reducible exact H2_) | with_reducible exact H | (rw [hy387]; exact H) | exact H
      have Ny387 := Aside0.mk hy387
      clear hy387
      replace H := Option.bind_eq_some_iff.mp H
      obtain ⟨⟨t390, t391, t392⟩, A140, H⟩ := H
      try dsimp only at H
      have A14 := Aside0.mk A140
      clear A140
      by_cases c15 : 0 ≤ t390
      ·rw [if_pos c15] at H
       have c15b0 : decide (0 ≤ t390) = true := decide_eq_true c15
       clear c15
       by_cases c16 : t390 < (y387.length : Int)
       ·rw [if_pos c16] at H
        have c16b0 : decide (t390 < (y387.length : Int)) = true := decide_eq_true c16
        clear c16
        by_cases c17 : (a1.extract 0 (t381 : Int).toNat).size + (rdOf ByteArray.empty y387 t390).size ≤ 9223372036854775807
        ·rw [if_pos c17] at H
         have c17b0 := eq_true c17
         have c17b1 : decide ((a1.extract 0 (t381 : Int).toNat).size + (rdOf ByteArray.empty y387 t390).size ≤ 9223372036854775807) = true := decide_eq_true c17
         try have c17b2 : (9223372036854775807 < (a1.extract 0 (t381 : Int).toNat).size + (rdOf ByteArray.empty y387 t390).size) = False := eq_false (Nat.not_lt.2 c17)
         have c17b4 : (9223372036854775807 < (t381 : Int).toNat + (rdOf ByteArray.empty y387 t390).size) = False := eq_false (Nat.not_lt.2 (by have e_ := c17; simp only [ByteArray.size_append, ByteArray.size_extract] at e_; (try simp only [eq_iff_iff, iff_true] at *); omega))
         have c18b0 := eq_true (of_decide_eq_true (by first | (with_reducible assumption) | assumption) : 0 ≤ t381)
         have c19b0 := eq_true (of_decide_eq_true (by first | (with_reducible assumption) | assumption) : t381 ≤ (a1.size : Int))
         by_cases c20 : ((a1.extract 0 (t381 : Int).toNat) ++ (rdOf ByteArray.empty y387 t390)).size + (a1.extract (t381 : Int).toNat a1.size).size ≤ 9223372036854775807
         ·rw [if_pos c20] at H
          have c20b0 := eq_true c20
          have c20b1 : decide (((a1.extract 0 (t381 : Int).toNat) ++ (rdOf ByteArray.empty y387 t390)).size + (a1.extract (t381 : Int).toNat a1.size).size ≤ 9223372036854775807) = true := decide_eq_true c20
          try have c20b2 : (9223372036854775807 < ((a1.extract 0 (t381 : Int).toNat) ++ (rdOf ByteArray.empty y387 t390)).size + (a1.extract (t381 : Int).toNat a1.size).size) = False := eq_false (Nat.not_lt.2 c20)
          have c20b4 : (9223372036854775807 < (t381 : Int).toNat + (rdOf ByteArray.empty y387 t390).size + (a1.size - (t381 : Int).toNat)) = False := eq_false (Nat.not_lt.2 (by have e_ := c20; simp only [ByteArray.size_append, ByteArray.size_extract] at e_; (try simp only [eq_iff_iff, iff_true] at *); omega))
          simp only [Option.some.injEq, Prod.mk.injEq] at H
          obtain ⟨rfl, rfl, rfl⟩ := H
          try go_wp2
          have pi393 : (0 ≤ (t390 : Int)) = True := eq_true (of_decide_eq_true (by first | (with_reducible assumption) | assumption))
          have qi393 : (t390 < (y387.length : Int)) = True := eq_true (of_decide_eq_true (by first | (with_reducible assumption) | assumption))
          replace HI0 := am_ (IsS70.drew HI0.out); replace HK := am_ (keep_drew HK.out); replace HB := am_ (below_drew1 HB.out)
          refine start_ (n := 14) (S := fun w' => True) (ds := []) #[false, false, false, false, false, false, false, false, false, false, false, false, false, false] (by kernel_rfl) rfl rfl trivial (fun hHeld => ?_); refine with_tabW spec_l01Damage.tab6 spec_l01Damage.bits6 (fun HT_ HW_ => ?_)
          generalize w7.drew = w21 at HI0 HK HB hHeld ⊢
          refine pu_ 0 (some 20) #[true, false, false, false, false, false, false, false, false, false, false, false, false, false] HT_ ?_
          refine pu_ 1 (some 21) #[true, true, false, false, false, false, false, false, false, false, false, false, false, false] HT_ ?_
          refine pu_ 4 (some 24) #[true, true, false, false, true, false, false, false, false, false, false, false, false, false] HT_ ?_
          refine pu_ 9 (some 29) #[true, true, false, false, true, false, false, false, false, true, false, false, false, false] HT_ ?_
          refine pu_ 10 (some 30) #[true, true, false, false, true, false, false, false, false, true, true, false, false, false] HT_ ?_
          refine inv_at [2, 3, 5, 6, 7, 8, 11, 12, 13] (fun a0_ b a w' => ∃ (v388 : Value) (adz_v388 : Addr) (m6_ : Value), a = putSel a0_ b [(2, 22, .string (a1.extract 0 (t381 : Int).toNat)), (3, 23, v388), (5, 25, .int .i64 t390), (6, 26, m6_), (7, 27, .string (rdOf ByteArray.empty y387 t390)), (8, 28, .string ((a1.extract 0 (t381 : Int).toNat) ++ (rdOf ByteArray.empty y387 t390))), (11, 31, .string (a1.extract (t381 : Int).toNat a1.size)), (12, 32, .string (((a1.extract 0 (t381 : Int).toNat) ++ (rdOf ByteArray.empty y387 t390)) ++ (a1.extract (t381 : Int).toNat a1.size))), (13, 4, .string (((a1.extract 0 (t381 : Int).toNat) ++ (rdOf ByteArray.empty y387 t390)) ++ (a1.extract (t381 : Int).toNat a1.size)))] ∧ (b 5 = false → IsS70 w0 w' g s0_0 t385 t386) ∧ (KeepBut w w' g none) ∧ (Below w0.heap.size w0 w') ∧ (b 3 = true → Kd.R Kd.string 9 w' w.heap.size (fun _ => True) v388 y387) ∧ (b 3 = true → ∃ c_, (v388 : Value) = .slice (some adz_v388) y387.length c_) ∧ (b 5 = true → IsS70 w0 w' g s0_0 t391 t392) ∧ (b 6 = true → (m6_ : Value) = .pointer (some (adz_v388.add (t390).toNat)))) HT_.out HW_.out (by kernel_rfl) (by kernel_rfl) ?_ ?_ ?_
          ·exact ⟨.bool false, ⟨0, 0, none⟩, .bool false, by simp only [putSel, Bool.false_eq_true, if_false], fun _ => HI0.out, HK.out, HB.out, fun h_ => absurd h_ (by decide), fun h_ => absurd h_ (by decide), fun h_ => absurd h_ (by decide), fun h_ => absurd h_ (by decide)⟩
          ·skip
           clear HB HI0 HK
           refine steps_cons ?_ ?_
           ·rintro b a w' ⟨v388, adz_v388, m6_, ha, Q_HI0, Q_HK, Q_HB, Q_HO389, Q_HA_HO389, Q_HI0_e5, Q_X6_⟩ hb_ hon hoff
            refine ⟨_, rfl, fun K hK => ?_⟩
            have e20 : a.tmps[20]? = some (.string a1) := by rw [ha]; exact (putSel_off rfl).trans rfl
            have e21 : a.tmps[21]? = some (.int .i64 t381) := by rw [ha]; exact (putSel_off rfl).trans rfl
            replace ha := Aside0.mk ha
            have HK := Aside0.mk Q_HK
            have HB := Aside0.mk Q_HB
            refine value_ (w1 := w') (v := .string (a1.extract 0 (t381 : Int).toNat)) (by rfl) rfl ?_ ?_
            ·go_simp
             (try simp only [i64_w])
             try rfl
            refine hK.out _ _ ⟨v388, adz_v388, m6_, (by rw [ha.out]; exact putSel_upk 0 hb_ rfl rfl rfl), Q_HI0, Q_HK, Q_HB, Q_HO389, Q_HA_HO389, Q_HI0_e5, Q_X6_⟩
           refine steps_cons ?_ ?_
           ·rintro b a w' ⟨v388, adz_v388, m6_, ha, Q_HI0, Q_HK, Q_HB, Q_HO389, Q_HA_HO389, Q_HI0_e5, Q_X6_⟩ hb_ hon hoff
            refine ⟨_, rfl, fun K hK => ?_⟩
            replace ha := Aside0.mk ha
            have HK := Aside0.mk Q_HK
            have HB := Aside0.mk Q_HB
            refine Kd.R_lit_step Kd.string _ 9 ?hg (N := 23) ?hd (xs := ([(⟨#[48]⟩ : ByteArray), (⟨#[49]⟩ : ByteArray), (⟨#[32]⟩ : ByteArray), (⟨#[45]⟩ : ByteArray), (⟨#[46]⟩ : ByteArray), (⟨#[44]⟩ : ByteArray), (⟨#[10]⟩ : ByteArray), (⟨#[120]⟩ : ByteArray)] : List ByteArray)) (inner := [.string (⟨#[48]⟩ : ByteArray), .string (⟨#[49]⟩ : ByteArray), .string (⟨#[32]⟩ : ByteArray), .string (⟨#[45]⟩ : ByteArray), .string (⟨#[46]⟩ : ByteArray), .string (⟨#[44]⟩ : ByteArray), .string (⟨#[10]⟩ : ByteArray), .string (⟨#[120]⟩ : ByteArray)]) (ok := fun _ => True) (okp := fun _ => True) ?hr ?hp (fun _ hk => hk) trivial (Below.refl _ _) (Nat.le_refl _) (by simp) ?_; (case hd => rfl); (case hg => rfl); (case hr => first | (go_simp; done) | (go_simp; rfl)); (case hp => exact (Reps.one (show Kd.M Kd.string _ _ _ (⟨#[48]⟩ : ByteArray) [.string (⟨#[48]⟩ : ByteArray)] from rfl) (Reps.one (show Kd.M Kd.string _ _ _ (⟨#[49]⟩ : ByteArray) [.string (⟨#[49]⟩ : ByteArray)] from rfl) (Reps.one (show Kd.M Kd.string _ _ _ (⟨#[32]⟩ : ByteArray) [.string (⟨#[32]⟩ : ByteArray)] from rfl) (Reps.one (show Kd.M Kd.string _ _ _ (⟨#[45]⟩ : ByteArray) [.string (⟨#[45]⟩ : ByteArray)] from rfl) (Reps.one (show Kd.M Kd.string _ _ _ (⟨#[46]⟩ : ByteArray) [.string (⟨#[46]⟩ : ByteArray)] from rfl) (Reps.one (show Kd.M Kd.string _ _ _ (⟨#[44]⟩ : ByteArray) [.string (⟨#[44]⟩ : ByteArray)] from rfl) (Reps.one (show Kd.M Kd.string _ _ _ (⟨#[10]⟩ : ByteArray) [.string (⟨#[10]⟩ : ByteArray)] from rfl) (Reps.one (show Kd.M Kd.string _ _ _ (⟨#[120]⟩ : ByteArray) [.string (⟨#[120]⟩ : ByteArray)] from rfl) (Reps.none _ _))))))))))
            intro v388 w22 ho23 hb hg_ hnew_
            clear hg_ hnew_
            (first | rw [← Ny387.out] at ho23 | (simp only [Int.reduceToNat] at ho23; rw [← Ny387.out] at ho23))
            have n0_ := Aside0.mk (Kd.R_lower ho23 (keep_size (w := w) (g := g) (row := none) (kx_ HK.out)))
            have n2_ := Aside0.mk (KeepBut.trans (kx_ HK.out) (KeepBut.of_below hb g none) (.inl rfl))
            have n3_ := Aside0.mk (below_step (hx_ HB.out) hb)
            have z_HI0 := fun (h0_ : b 5 = false) => (show IsS70 w0 w22 g s0_0 t385 t386 from by first | exact (IsS70.below (by repeat (first | (with_reducible first | exact (Q_HI0 h0_) | apply IsS70.alloc | apply IsS70.drewN | apply IsS70.drew | apply IsS70.set_1 | apply IsS70.set_2) | exact (Q_HI0 h0_))) hb))
            have z_HI0_e5 := fun (h0_ : b 5 = true) => (show IsS70 w0 w22 g s0_0 t391 t392 from by first | exact (IsS70.below (by repeat (first | (with_reducible first | exact (Q_HI0_e5 h0_) | apply IsS70.alloc | apply IsS70.drewN | apply IsS70.drew | apply IsS70.set_1 | apply IsS70.set_2) | exact (Q_HI0_e5 h0_))) hb))
            clear HK
            clear HB
            have HO389 := n0_
            have HK := n2_
            have HB := n3_
            clear n0_ n2_ n3_
            clear hb ho23
            obtain ⟨Ao24, co24, eo24⟩ := Kd.R_slice HO389.out
            subst eo24
            obtain ⟨ado24, fo24, _⟩ := Kd.at_string (Kd.R_reads' HO389.out).2.2 0 (by decide) (by rw [Ny387.out]; simp)
            cases fo24
            refine hK.out _ _ ⟨.slice (some ado24) y387.length co24, ado24, m6_, (by rw [ha.out]; exact putSel_upk 1 hb_ rfl rfl rfl), z_HI0, (kx_ HK.out), (hx_ HB.out), fun _ => (rx_ HO389.out), fun _ => ⟨_, rfl⟩, z_HI0_e5, fun h0_ => absurd ((hoff 6 (by kernel_rfl)).symm.trans h0_) (by decide)⟩
           refine steps_cons ?_ ?_
           ·rintro b a w' ⟨v388, adz_v388, m6_, ha, Q_HI0, Q_HK, Q_HB, Q_HO389, Q_HA_HO389, Q_HI0_e5, Q_X6_⟩ hb_ hon hoff
            refine ⟨_, rfl, fun K hK => ?_⟩
            have e24 : a.tmps[24]? = some (.pointer (some ⟨g, 0, none⟩)) := by rw [ha]; exact (putSel_off rfl).trans rfl
            replace ha := Aside0.mk ha
            have HI0 := Aside0.mk (Q_HI0 hb_)
            have HK := Aside0.mk Q_HK
            have HB := Aside0.mk Q_HB
            refine goes_ Tryz.func18 (by kernel_rfl) rfl #[.pointer (some ⟨g, 0, none⟩), .int .i64 8] (by rfl) rfl rfl (by first | (simp only [List.map_toArray, List.map_cons, List.map_nil, Act.eval, Array.getD_eq_getD_getElem?, Option.getD_some, e24]; done) | (simp only [List.map_toArray, List.map_cons, List.map_nil, Act.eval, Array.getD_eq_getD_getElem?, Option.getD_some, e24]; rfl)) ?_
            with_reducible refine (spec_l01Next.calls g s0_0 t385 t386 8 t390 t391 t392 w0 _ ?side1 ?side2 A14.out).mono ?_
            (case side1 => exact ix_ HI0.out)
            (case side2 => exact hx_ HB.out)
            rintro e w22 ⟨rfl, hi, hb, hk⟩
            refine ⟨_, rfl, ?_⟩
            have n0_ := Aside0.mk (KeepBut.trans (kx_ HK.out) hk (.inl rfl))
            have n1_ := Aside0.mk (hb)
            have n2_ := Aside0.mk (hi)
            have z_HO389 := fun (h0_ : b 3 = true) => (show Kd.R Kd.string 9 w22 w.heap.size (fun _ => True) v388 y387 from by first | exact (Kd.R_mono (Kd.R_keep (IsS70.apart (show IsS70 w0 _ g s0_0 t385 t386 from ix_ HI0.out) (by (with_reducible repeat (first | apply Kd.R_alloc | apply Kd.R_drewN | apply Kd.R_drew)); exact (Q_HO389 h0_)) (by decide)) hk (fun _ h => h.2)) (fun _ h => h.1)) | exact Kd.R_mono (Kd.R_mono (Kd.R_keep (IsS70.apart (show IsS70 w0 _ g s0_0 t385 t386 from ix_ HI0.out) (by (with_reducible repeat (first | apply Kd.R_alloc | apply Kd.R_drewN | apply Kd.R_drew)); exact (Q_HO389 h0_)) (by decide)) hk (fun _ h => h.2)) (fun _ h => h.1)) (fun _ h_ => by first | trivial | exact h_ | exact h_.1))
            clear HK
            clear HB
            clear HI0
            have HK := n0_
            have HB := n1_
            have HI0 := n2_
            clear n0_ n1_ n2_
            (try clear hb)
            (try clear hb2)
            (try clear hk)
            (try clear hi)
            refine hK.out _ _ ⟨v388, adz_v388, m6_, (by rw [ha.out]; exact putSel_upk 2 hb_ rfl rfl rfl), fun h0_ => absurd ((up_self b 5).symm.trans h0_) (by decide), (kx_ HK.out), (hx_ HB.out), z_HO389, Q_HA_HO389, fun _ => (ix_ HI0.out), fun h0_ => absurd ((hoff 6 (by kernel_rfl)).symm.trans h0_) (by decide)⟩
           refine steps_cons ?_ ?_
           ·rintro b a w' ⟨v388, adz_v388, m6_, ha, Q_HI0, Q_HK, Q_HB, Q_HO389, Q_HA_HO389, Q_HI0_e5, Q_X6_⟩ hb_ hon hoff
            refine ⟨_, rfl, fun K hK => ?_⟩
            have e23 : a.tmps[23]? = some (v388) := by rw [ha]; exact putSel_on (e := (3, 23, v388)) 1 rfl rfl (hon 3 (by kernel_rfl)) rfl
            have e25 : a.tmps[25]? = some (.int .i64 t390) := by rw [ha]; exact putSel_on (e := (5, 25, .int .i64 t390)) 2 rfl rfl (hon 5 (by kernel_rfl)) rfl
            replace ha := Aside0.mk ha
            have HK := Aside0.mk Q_HK
            have HB := Aside0.mk Q_HB
            have HO389 := Aside0.mk (Q_HO389 (hon 3 (by kernel_rfl)))
            have HA_HO389 := Aside0.mk (Q_HA_HO389 (hon 3 (by kernel_rfl)))
            have HI0 := Aside0.mk (Q_HI0_e5 (hon 5 (by kernel_rfl)))
            obtain ⟨c_, hv_⟩ := HA_HO389.out
            rw [hv_] at e23
            refine value_ (w1 := w') (v := .pointer (some (adz_v388.add (t390).toNat))) (by rfl) rfl ?_ ?_
            ·go_simp
             (try simp only [i64_w])
             try rfl
            refine hK.out _ _ ⟨v388, adz_v388, (.pointer (some (adz_v388.add (t390).toNat))), (by rw [ha.out]; exact putSel_upk 3 hb_ rfl rfl rfl), fun h0_ => absurd ((hon 5 (by kernel_rfl)).symm.trans h0_) (by decide), Q_HK, Q_HB, Q_HO389, Q_HA_HO389, Q_HI0_e5, fun _ => rfl⟩
           refine steps_cons ?_ ?_
           ·rintro b a w' ⟨v388, adz_v388, m6_, ha, Q_HI0, Q_HK, Q_HB, Q_HO389, Q_HA_HO389, Q_HI0_e5, Q_X6_⟩ hb_ hon hoff
            refine ⟨_, rfl, fun K hK => ?_⟩
            have e26 : a.tmps[26]? = some (m6_) := by rw [ha]; exact putSel_on (e := (6, 26, m6_)) 3 rfl rfl (hon 6 (by kernel_rfl)) rfl
            rw [Q_X6_ (hon 6 (by kernel_rfl))] at e26
            replace ha := Aside0.mk ha
            have HK := Aside0.mk Q_HK
            have HB := Aside0.mk Q_HB
            have HO389 := Aside0.mk (Q_HO389 (hon 3 (by kernel_rfl)))
            have HA_HO389 := Aside0.mk (Q_HA_HO389 (hon 3 (by kernel_rfl)))
            have HI0 := Aside0.mk (Q_HI0_e5 (hon 5 (by kernel_rfl)))
            obtain ⟨c_, hv_⟩ := HA_HO389.out
            have hF_ := HO389.out
            rw [hv_] at hF_
            obtain ⟨ad_, ea_, hx_⟩ := Kd.at_string (Kd.R_reads' hF_).2.2 t390 (of_eq_true pi393) (of_eq_true qi393)
            cases ea_
            refine value_ (w1 := w') (v := .string (rdOf ByteArray.empty y387 t390)) (by rfl) rfl ?_ ?_
            ·go_simp
             (try simp only [i64_w])
             try rfl
            refine hK.out _ _ ⟨v388, adz_v388, m6_, (by rw [ha.out]; exact putSel_upk 4 hb_ rfl rfl rfl), fun h0_ => absurd ((hon 5 (by kernel_rfl)).symm.trans h0_) (by decide), Q_HK, Q_HB, Q_HO389, Q_HA_HO389, Q_HI0_e5, Q_X6_⟩
           refine steps_cons ?_ ?_
           ·rintro b a w' ⟨v388, adz_v388, m6_, ha, Q_HI0, Q_HK, Q_HB, Q_HO389, Q_HA_HO389, Q_HI0_e5, Q_X6_⟩ hb_ hon hoff
            refine ⟨_, rfl, fun K hK => ?_⟩
            have e22 : a.tmps[22]? = some (.string (a1.extract 0 (t381 : Int).toNat)) := by rw [ha]; exact putSel_on (e := (2, 22, .string (a1.extract 0 (t381 : Int).toNat))) 0 rfl rfl (hon 2 (by kernel_rfl)) rfl
            have e27 : a.tmps[27]? = some (.string (rdOf ByteArray.empty y387 t390)) := by rw [ha]; exact putSel_on (e := (7, 27, .string (rdOf ByteArray.empty y387 t390))) 4 rfl rfl (hon 7 (by kernel_rfl)) rfl
            replace ha := Aside0.mk ha
            have HK := Aside0.mk Q_HK
            have HB := Aside0.mk Q_HB
            have HO389 := Aside0.mk (Q_HO389 (hon 3 (by kernel_rfl)))
            have HA_HO389 := Aside0.mk (Q_HA_HO389 (hon 3 (by kernel_rfl)))
            have HI0 := Aside0.mk (Q_HI0_e5 (hon 5 (by kernel_rfl)))
            refine value_ (w1 := w') (v := .string ((a1.extract 0 (t381 : Int).toNat) ++ (rdOf ByteArray.empty y387 t390))) (by rfl) rfl ?_ ?_
            ·go_simp
             (try simp only [i64_w])
             try rfl
            refine hK.out _ _ ⟨v388, adz_v388, m6_, (by rw [ha.out]; exact putSel_upk 5 hb_ rfl rfl rfl), fun h0_ => absurd ((hon 5 (by kernel_rfl)).symm.trans h0_) (by decide), Q_HK, Q_HB, Q_HO389, Q_HA_HO389, Q_HI0_e5, Q_X6_⟩
           refine steps_cons ?_ ?_
           ·rintro b a w' ⟨v388, adz_v388, m6_, ha, Q_HI0, Q_HK, Q_HB, Q_HO389, Q_HA_HO389, Q_HI0_e5, Q_X6_⟩ hb_ hon hoff
            refine ⟨_, rfl, fun K hK => ?_⟩
            have e29 : a.tmps[29]? = some (.string a1) := by rw [ha]; exact (putSel_off rfl).trans rfl
            have e30 : a.tmps[30]? = some (.int .i64 t381) := by rw [ha]; exact (putSel_off rfl).trans rfl
            replace ha := Aside0.mk ha
            have HK := Aside0.mk Q_HK
            have HB := Aside0.mk Q_HB
            refine value_ (w1 := w') (v := .string (a1.extract (t381 : Int).toNat a1.size)) (by rfl) rfl ?_ ?_
            ·go_simp
             (try simp only [i64_w])
             try rfl
            refine hK.out _ _ ⟨v388, adz_v388, m6_, (by rw [ha.out]; exact putSel_upk 6 hb_ rfl rfl rfl), Q_HI0, Q_HK, Q_HB, Q_HO389, Q_HA_HO389, Q_HI0_e5, Q_X6_⟩
           refine steps_cons ?_ ?_
           ·rintro b a w' ⟨v388, adz_v388, m6_, ha, Q_HI0, Q_HK, Q_HB, Q_HO389, Q_HA_HO389, Q_HI0_e5, Q_X6_⟩ hb_ hon hoff
            refine ⟨_, rfl, fun K hK => ?_⟩
            have e28 : a.tmps[28]? = some (.string ((a1.extract 0 (t381 : Int).toNat) ++ (rdOf ByteArray.empty y387 t390))) := by rw [ha]; exact putSel_on (e := (8, 28, .string ((a1.extract 0 (t381 : Int).toNat) ++ (rdOf ByteArray.empty y387 t390)))) 5 rfl rfl (hon 8 (by kernel_rfl)) rfl
            have e31 : a.tmps[31]? = some (.string (a1.extract (t381 : Int).toNat a1.size)) := by rw [ha]; exact putSel_on (e := (11, 31, .string (a1.extract (t381 : Int).toNat a1.size))) 6 rfl rfl (hon 11 (by kernel_rfl)) rfl
            replace ha := Aside0.mk ha
            have HK := Aside0.mk Q_HK
            have HB := Aside0.mk Q_HB
            have HO389 := Aside0.mk (Q_HO389 (hon 3 (by kernel_rfl)))
            have HA_HO389 := Aside0.mk (Q_HA_HO389 (hon 3 (by kernel_rfl)))
            have HI0 := Aside0.mk (Q_HI0_e5 (hon 5 (by kernel_rfl)))
            refine value_ (w1 := w') (v := .string (((a1.extract 0 (t381 : Int).toNat) ++ (rdOf ByteArray.empty y387 t390)) ++ (a1.extract (t381 : Int).toNat a1.size))) (by rfl) rfl ?_ ?_
            ·go_simp
             (try simp only [i64_w])
             try rfl
            refine hK.out _ _ ⟨v388, adz_v388, m6_, (by rw [ha.out]; exact putSel_upk 7 hb_ rfl rfl rfl), fun h0_ => absurd ((hon 5 (by kernel_rfl)).symm.trans h0_) (by decide), Q_HK, Q_HB, Q_HO389, Q_HA_HO389, Q_HI0_e5, Q_X6_⟩
           refine steps_cons ?_ ?_
           ·rintro b a w' ⟨v388, adz_v388, m6_, ha, Q_HI0, Q_HK, Q_HB, Q_HO389, Q_HA_HO389, Q_HI0_e5, Q_X6_⟩ hb_ hon hoff
            refine ⟨_, rfl, fun K hK => ?_⟩
            have e32 : a.tmps[32]? = some (.string (((a1.extract 0 (t381 : Int).toNat) ++ (rdOf ByteArray.empty y387 t390)) ++ (a1.extract (t381 : Int).toNat a1.size))) := by rw [ha]; exact putSel_on (e := (12, 32, .string (((a1.extract 0 (t381 : Int).toNat) ++ (rdOf ByteArray.empty y387 t390)) ++ (a1.extract (t381 : Int).toNat a1.size)))) 7 rfl rfl (hon 12 (by kernel_rfl)) rfl
            replace ha := Aside0.mk ha
            have HK := Aside0.mk Q_HK
            have HB := Aside0.mk Q_HB
            have HO389 := Aside0.mk (Q_HO389 (hon 3 (by kernel_rfl)))
            have HA_HO389 := Aside0.mk (Q_HA_HO389 (hon 3 (by kernel_rfl)))
            have HI0 := Aside0.mk (Q_HI0_e5 (hon 5 (by kernel_rfl)))
            refine value_ (w1 := w') (v := .string (((a1.extract 0 (t381 : Int).toNat) ++ (rdOf ByteArray.empty y387 t390)) ++ (a1.extract (t381 : Int).toNat a1.size))) (by rfl) rfl ?_ ?_
            ·go_simp
             (try simp only [i64_w])
             try rfl
            refine hK.out _ _ ⟨v388, adz_v388, m6_, (by rw [ha.out]; exact putSel_upk 8 hb_ rfl rfl rfl), fun h0_ => absurd ((hon 5 (by kernel_rfl)).symm.trans h0_) (by decide), Q_HK, Q_HB, Q_HO389, Q_HA_HO389, Q_HI0_e5, Q_X6_⟩
           exact steps_nil
          rintro b a w26 hall ⟨v388, adz_v388, m6_, ha, Q_HI0, Q_HK, Q_HB, Q_HO389, Q_HA_HO389, Q_HI0_e5, Q_X6_⟩
          clear HB HI0 HK
          have hb2_ := hall 2 (by kernel_rfl)
          have hb3_ := hall 3 (by kernel_rfl)
          have hb5_ := hall 5 (by kernel_rfl)
          have hb6_ := hall 6 (by kernel_rfl)
          have hb7_ := hall 7 (by kernel_rfl)
          have hb8_ := hall 8 (by kernel_rfl)
          have hb11_ := hall 11 (by kernel_rfl)
          have hb12_ := hall 12 (by kernel_rfl)
          have hb13_ := hall 13 (by kernel_rfl)
          subst ha
          obtain rfl := Q_X6_ hb6_
          simp only [putSel, hb2_, hb3_, hb5_, hb6_, hb7_, hb8_, hb11_, hb12_, hb13_, if_true, Act.put, List.setIfInBounds_toArray, List.set_cons_zero, List.set_cons_succ]
          clear Q_HI0
          have HK := Aside0.mk Q_HK
          clear Q_HK
          have HB := Aside0.mk Q_HB
          clear Q_HB
          have HO389 := Aside0.mk (Q_HO389 hb3_)
          clear Q_HO389
          have HA_HO389 := Aside0.mk (Q_HA_HO389 hb3_)
          clear Q_HA_HO389
          have HI0 := Aside0.mk (Q_HI0_e5 hb5_)
          clear Q_HI0_e5
          clear hall hb2_ hb3_ hb5_ hb6_ hb7_ hb8_ hb11_ hb12_ hb13_
          obtain ⟨co27, eo27⟩ := HA_HO389.out
          clear HA_HO389
          subst eo27
          try go_wp2
          go_ret
          exact er_ ⟨ix_ HI0.out, hx_ HB.out, kx_ HK.out⟩
         ·rw [if_neg c20] at H
          exact absurd H (by simp)
        ·rw [if_neg c17] at H
         exact absurd H (by simp)
       ·rw [if_neg c16] at H
        exact absurd H (by simp)
      ·rw [if_neg c15] at H
       exact absurd H (by simp)
     ·rw [if_neg c13] at H
      exact absurd H (by simp)
    ·rw [if_neg c12] at H
     exact absurd H (by simp)
   ·rw [if_neg c11] at H
    have c11b0 : (t384 == 1) = false := beq_eq_false_iff_ne.mpr c11
    have c11b1 : (t384 != 1) = true := bne_iff_ne.mpr c11
    by_cases c28 : t384 = 2
    ·rw [if_pos c28] at H
     have c28b0 : (t384 == 2) = true := beq_iff_eq.mpr c28
     have c28b1 : (t384 != 2) = false := bne_eq_false_iff_eq.mpr c28
     clear c28
     by_cases c29 : t381 < (a1.size : Int)
     ·rw [if_pos c29] at H
      have c29b0 : decide (t381 < (a1.size : Int)) = true := decide_eq_true c29
      clear c29
      by_cases c30 : 0 ≤ t381
      ·rw [if_pos c30] at H
       have c30b0 := eq_true c30
       have c30b1 : decide (0 ≤ t381) = true := decide_eq_true c30
       clear c30
       by_cases c31 : t381 ≤ (a1.size : Int)
       ·rw [if_pos c31] at H
        have c31b0 := eq_true c31
        have c31b1 : decide (t381 ≤ (a1.size : Int)) = true := decide_eq_true c31
        clear c31
        obtain ⟨ji32, hji32⟩ : ∃ j_ : Int, (wrap64 (t381 + 1)) = j_ := ⟨_, rfl⟩
        replace H : (if 0 ≤ (ji32) then (if (ji32) ≤ (a1.size : Int) then (if (a1.extract 0 (t381 : Int).toNat).size + (a1.extract ((ji32) : Int).toNat a1.size).size ≤ 9223372036854775807 then (some ((a1.extract 0 (t381 : Int).toNat) ++ (a1.extract ((ji32) : Int).toNat a1.size), t385, t386)) else (none)) else (none)) else (none)) = some (r1, r2, r3) := by first | (rw [hji32] at H; exact H) | (simp only [hji32] at H ⊢; exact H)
        have hji32w : (IntKind.i64.wrap (t381 + 1)) = ji32 := (i64_w _).trans hji32
        by_cases c33 : 0 ≤ (ji32)
        ·rw [if_pos c33] at H
         have c33b0 := eq_true c33
         have c33b1 : decide (0 ≤ (ji32)) = true := decide_eq_true c33
         clear c33
         by_cases c34 : (ji32) ≤ (a1.size : Int)
         ·rw [if_pos c34] at H
          have c34b0 := eq_true c34
          have c34b1 : decide ((ji32) ≤ (a1.size : Int)) = true := decide_eq_true c34
          clear c34
          by_cases c35 : (a1.extract 0 (t381 : Int).toNat).size + (a1.extract ((ji32) : Int).toNat a1.size).size ≤ 9223372036854775807
          ·rw [if_pos c35] at H
           have c35b0 := eq_true c35
           have c35b1 : decide ((a1.extract 0 (t381 : Int).toNat).size + (a1.extract ((ji32) : Int).toNat a1.size).size ≤ 9223372036854775807) = true := decide_eq_true c35
           try have c35b2 : (9223372036854775807 < (a1.extract 0 (t381 : Int).toNat).size + (a1.extract ((ji32) : Int).toNat a1.size).size) = False := eq_false (Nat.not_lt.2 c35)
           have c35b4 : (9223372036854775807 < (t381 : Int).toNat + (a1.size - ((ji32) : Int).toNat)) = False := eq_false (Nat.not_lt.2 (by have e_ := c35; simp only [ByteArray.size_append, ByteArray.size_extract] at e_; (try simp only [eq_iff_iff, iff_true] at *); omega))
           simp only [Option.some.injEq, Prod.mk.injEq] at H
           obtain ⟨rfl, rfl, rfl⟩ := H
           try go_wp2
           replace HI0 := am_ (IsS70.drew HI0.out); replace HK := am_ (keep_drew HK.out); replace HB := am_ (below_drew1 HB.out)
           refine start_ (n := 9) (S := fun w' => True) (ds := []) #[false, false, false, false, false, false, false, false, false] (by kernel_rfl) rfl rfl trivial (fun hHeld => ?_); refine with_tabW spec_l01Damage.tab9 spec_l01Damage.bits9 (fun HT_ HW_ => ?_)
           generalize w7.drew = w36 at HI0 HK HB hHeld ⊢
           refine pu_ 0 (some 39) #[true, false, false, false, false, false, false, false, false] HT_ ?_
           refine pu_ 1 (some 40) #[true, true, false, false, false, false, false, false, false] HT_ ?_
           refine pu_ 2 (some 41) #[true, true, true, false, false, false, false, false, false] HT_ ?_
           refine pu_ 3 (some 42) #[true, true, true, true, false, false, false, false, false] HT_ ?_
           refine pu_ 4 (some 43) #[true, true, true, true, true, false, false, false, false] HT_ ?_
           refine pu_ 5 (some 44) #[true, true, true, true, true, true, false, false, false] HT_ ?_
           refine pu_ 6 (some 45) #[true, true, true, true, true, true, true, false, false] HT_ ?_
           refine pu_ 7 (some 46) #[true, true, true, true, true, true, true, true, false] HT_ ?_
           refine pu_ 8 (some 4) #[true, true, true, true, true, true, true, true, true] HT_ ?_
           refine done_ (done_of HT_.out (by kernel_rfl)) ?_
           try go_wp2
           go_ret
           exact ⟨by first | rfl | (simp [errW_none, errW_some] <;> rfl) | (simp only [← hji32]; first | rfl | (simp [errW_none, errW_some] <;> rfl)) | (simp [*, errW_none, errW_some] <;> rfl), ix_ HI0.out, hx_ HB.out, kx_ HK.out⟩
          ·rw [if_neg c35] at H
           exact absurd H (by simp)
         ·rw [if_neg c34] at H
          exact absurd H (by simp)
        ·rw [if_neg c33] at H
         exact absurd H (by simp)
       ·rw [if_neg c31] at H
        exact absurd H (by simp)
      ·rw [if_neg c30] at H
       exact absurd H (by simp)
     ·rw [if_neg c29] at H
      have c29b0 : decide (t381 < (a1.size : Int)) = false := decide_eq_false c29
      clear c29
      have H' := Aside0.mk H
      clear H
      go_wp2
      go_meet
      case rel => exact ⟨_, (t385), (t386), H', ⟨by first | omega | exact Nat.le_refl _⟩, ⟨ix_ HI0.out⟩, ⟨kx_ HK.out⟩, ⟨hx_ HB.out⟩⟩
    ·rw [if_neg c28] at H
     have c28b0 : (t384 == 2) = false := beq_eq_false_iff_ne.mpr c28
     have c28b1 : (t384 != 2) = true := bne_iff_ne.mpr c28
     have H' := Aside0.mk H
     clear H
     go_wp2
     go_meet
     case rel => exact ⟨_, (t385), (t386), H', ⟨by first | omega | exact Nat.le_refl _⟩, ⟨ix_ HI0.out⟩, ⟨kx_ HK.out⟩, ⟨hx_ HB.out⟩⟩
 case rest =>
  clear HC5
  (try clear c1); (try clear c2); (try clear p2); (try clear c3); (try clear qi3); (try clear p6); (try clear c8); (try clear c8b0); (try clear c8b1); (try clear c9); (try clear c9b0); (try clear c9b1); (try clear c10); (try clear c10b0); (try clear c10b1); (try clear c11); (try clear c11b0); (try clear c11b1); (try clear c12); (try clear c12b0); (try clear c12b1); (try clear c13); (try clear c13b0); (try clear c13b1); (try clear c15); (try clear c15b0); (try clear c16); (try clear c16b0); (try clear c17); (try clear c17b0); (try clear c17b1); (try clear c17b2); (try clear c17b4); (try clear c18); (try clear c18b0); (try clear c19); (try clear c19b0); (try clear c20); (try clear c20b0); (try clear c20b1); (try clear c20b2); (try clear c20b4); (try clear c28); (try clear c28b0); (try clear c28b1); (try clear c29); (try clear c29b0); (try clear c30); (try clear c30b0); (try clear c30b1); (try clear c31); (try clear c31b0); (try clear c31b1); (try clear c33); (try clear c33b0); (try clear c33b1); (try clear c34); (try clear c34b0); (try clear c34b1); (try clear c35); (try clear c35b0); (try clear c35b1); (try clear c35b2); (try clear c35b4)
  obtain ⟨kq, x1001_4, x1002_4, HA, HJ4, HI0, HK, HB⟩ := hcut
  cases kq with
  | zero => exact absurd HA.out (by simp [spec_l01Damage.j0])
  | succ kj4 =>
   have H := HA.out
   clear HA
   simp only [spec_l01Damage.j0] at H
   simp only [Option.some.injEq, Prod.mk.injEq] at H
   obtain ⟨rfl, rfl, rfl⟩ := H
   go_wp2
   go_ret
   exact er_ ⟨ix_ HI0.out, hx_ HB.out, kx_ HK.out⟩

/-! ### spec_DrawReadProgram: function 10 -/
def spec_DrawReadProgram.f (k : Nat) (l0 : List Int) : Option (ByteArray) := (spec_l01From.f k l0).bind fun bt394 => ((spec_DrawRunCuts.f k l0).bind fun bt398 => ((spec_ProgramText.f k bt398.2.2).bind fun t404 => ((spec_l01Next.f bt394.1 bt394.2.1 bt394.2.2 3).bind fun bt405 => (if bt405.1 = 0 then ((spec_l01Damage.f k bt394.1 bt405.2.1 bt405.2.2 t404).bind fun bt408 => (some bt408.1)) else (some t404)))))
theorem spec_DrawReadProgram.mono : ∀ a0 k, LeO (spec_DrawReadProgram.f k a0) (spec_DrawReadProgram.f (k + 1) a0) := by
 intro a0 k
 unfold spec_DrawReadProgram.f
 repeat' first
   | (with_reducible exact spec_DrawRunCuts.mono _ _)
   | (with_reducible exact spec_ProgramText.mono _ _)
   | (with_reducible exact spec_l01Damage.mono _ _ _ _ _)
   | (with_reducible exact spec_l01From.mono _ _)
   | (with_reducible exact LeO.refl _)
   | (with_reducible exact LeO.none _)
   | (with_reducible refine LeO.ite ?_ ?_)
   | (with_reducible refine LeO.bind ?_ (fun _ => ?_))
   | exact spec_DrawRunCuts.mono _ _
   | exact spec_ProgramText.mono _ _
   | exact spec_l01Damage.mono _ _ _ _ _
   | exact spec_l01From.mono _ _
   | exact LeO.none _
   | refine LeO.ite ?_ ?_
   | refine LeO.bind ?_ (fun _ => ?_)
set_option maxHeartbeats 8000000 in
set_option maxRecDepth 100000 in
theorem spec_DrawReadProgram.calls (k : Nat) (A0 : Option Addr) (c0 : Nat) (l0 : List Int) (r : ByteArray) (w : World) (hr0 : Kd.C (Kd.int .u8) w A0 l0.length l0) (hc0 : l0.length ≤ c0) (h : spec_DrawReadProgram.f k l0 = some r) :
  Calls Tryz.prog 10 #[.slice A0 l0.length c0] w fun e w' => e = .returned (.string r) ∧ Below w.heap.size w w' := by
 have hu25 := Tryz.underlying25
 have HR0 := Aside0.mk hr0
 have HC0 := Aside0.mk hc0
 clear hr0 hc0
 have HB := Aside0.mk (Below.refl w.heap.size w)
 have H : ((spec_l01From.f k l0).bind fun bt394 => ((spec_DrawRunCuts.f k l0).bind fun bt398 => ((spec_ProgramText.f k bt398.2.2).bind fun t404 => ((spec_l01Next.f bt394.1 bt394.2.1 bt394.2.2 3).bind fun bt405 => (if bt405.1 = 0 then ((spec_l01Damage.f k bt394.1 bt405.2.1 bt405.2.2 t404).bind fun bt408 => (some bt408.1)) else (some t404)))))) = some r := h
 clear h
 replace H := Option.bind_eq_some_iff.mp H
 obtain ⟨⟨t394, t395, t396⟩, A20, H⟩ := H
 try dsimp only at H
 have A2 := Aside0.mk A20
 clear A20
 replace H := Option.bind_eq_some_iff.mp H
 obtain ⟨⟨t398, t399, t400⟩, A30, H⟩ := H
 try dsimp only at H
 have A3 := Aside0.mk A30
 clear A30
 replace H := Option.bind_eq_some_iff.mp H
 obtain ⟨t404, A40, H⟩ := H
 try dsimp only at H
 have A4 := Aside0.mk A40
 clear A40
 replace H := Option.bind_eq_some_iff.mp H
 obtain ⟨⟨t405, t406, t407⟩, A50, H⟩ := H
 try dsimp only at H
 have A5 := Aside0.mk A50
 clear A50
 by_cases c6 : t405 = 0
 ·rw [if_pos c6] at H
  have c6b0 : (t405 == 0) = true := beq_iff_eq.mpr c6
  have c6b1 : (t405 != 0) = false := bne_eq_false_iff_eq.mpr c6
  clear c6
  replace H := Option.bind_eq_some_iff.mp H
  obtain ⟨⟨t408, t409, t410⟩, A70, H⟩ := H
  try dsimp only at H
  have A7 := Aside0.mk A70
  clear A70
  obtain rfl := Option.some.inj H
  go_enter Tryz.func10, Tryz.ntmps10
  go_wp2_with (first | ((with_reducible refine gc_ 17 rfl ?_); refine gl_ (some 8) rfl rfl Tryz.func17 rfl #[.slice A0 l0.length c0] rfl ?_; (with_reducible refine (spec_l01From.calls k _ _ l0 t394 t395 t396 w _ ?side1 ?side2 ?side3 A2.out).mono ?_); (case side1 => exact hx_ HB.out); (case side2 => exact HR0.out); (case side3 => exact HC0.out); rintro e w8 ⟨g397, rfl, hi, hb, hb2⟩; refine ⟨_, rfl, ?_⟩; replace HB := am_ hb; have HI397 := am_ hi; (try clear hb); (try clear hb2); (try clear hk); (try clear hi)) | ((with_reducible refine gc_ 25 rfl ?_); refine gl_ (some 11) rfl rfl Tryz.func25 rfl #[.slice A0 l0.length c0] rfl ?_; (with_reducible refine (spec_DrawRunCuts.calls k _ _ l0 t398 t399 t400 _ ?side1 ?side2 A3.out).mono ?_); (case side1 => repeat (first | exact (Kd.C_below HR0.out HB.out) | (with_reducible refine Kd.C_alloc ?_ _) | (with_reducible refine Kd.C_drewN ?_ _) | (with_reducible refine Kd.C_drew ?_))); (case side2 => exact HC0.out); rintro e w9 ⟨v401, rfl, ho0, hb⟩; refine ⟨_, rfl, ?_⟩; have HO402 := am_ (Kd.R_lower ho0 (below_size (hx_ HB.out))); replace HI397 := am_ (IsS70.below (ix_ HI397.out) hb); replace HB := hs_ HB hb; (try clear hb); (try clear hb2); (try clear hk); (try clear hi); (try clear ho0)) | ((with_reducible refine gd_ 4 rfl ?_); refine be_ 4 #[.int .i64 0, .int .i64 0] 25 rfl rfl ?_; intro gb403 hg w10 hbox hb; replace HO402 := am_ (Kd.R_below (rx_ HO402.out) hb); have BK403 := am_ hbox; have GW403 := gw_ hg HB; have GE403 := gw_ hg HB; replace HB := hs_ HB hb; have NB397_403 := am_ (by rw [hg]; exact Nat.ne_of_lt (IsS70.lt (show IsS70 w _ g397 t394 t395 t396 from ix_ HI397.out)) : g397 ≠ gb403); have NB403_397 := am_ (by rw [hg]; exact Nat.ne_of_gt (IsS70.lt (show IsS70 w _ g397 t394 t395 t396 from ix_ HI397.out)) : gb403 ≠ g397); replace HI397 := am_ (IsS70.below (ix_ HI397.out) hb); clear hb hbox hg; have hnb11 := NB403_397.out; have hnc11 := NB397_403.out; have hcz12_0 : w10.cell? ⟨gb403, 0, none⟩ = some (.int .i64 0) := (blk_cell BK403.out 0).trans rfl; have hcz12_1 : w10.cell? ⟨gb403, 1, none⟩ = some (.int .i64 0) := (blk_cell BK403.out 1).trans rfl; have hfz12_0 := blk_frozen BK403.out 0; have hfz12_1 := blk_frozen BK403.out 1; obtain ⟨Ao13, co13, eo13⟩ := Kd.R_slice HO402.out; subst eo13) | ((with_reducible refine gc_ 14 rfl ?_); refine gl_ (some 15) rfl rfl Tryz.func14 rfl #[.slice Ao13 t400.length co13] rfl ?_; (with_reducible refine (spec_ProgramText.calls k _ _ t400 t404 _ ?side1 ?side2 A4.out).mono ?_); (case side1 => refine (Kd.R_reads' (e := 50) (base := w.heap.size) (ok := fun k_ => True) (n := t400.length) (c := co13) ?_).2.2; exact (by (with_reducible repeat (first | apply Kd.R_alloc | apply Kd.R_drewN | apply Kd.R_drew)); exact (Kd.R_mono (Kd.R_far (p := ⟨gb403, 1, none⟩) (Kd.R_far (p := ⟨gb403, 0, none⟩) (Kd.R_types HO402.out BK403.out (by decide)) (fun _ hk => hk.2) (.int .i64 t398)) (fun _ hk => hk.2) (.int .i64 t399)) (fun _ h_ => h_.1)))); (case side2 => exact (Kd.R_reads' HO402.out).2.1); rintro e w14 ⟨rfl, hb⟩; refine ⟨_, rfl, ?_⟩; replace HO402 := am_ (Kd.R_below (by (with_reducible repeat (first | apply Kd.R_alloc | apply Kd.R_drewN | apply Kd.R_drew)); exact (Kd.R_mono (Kd.R_far (p := ⟨gb403, 1, none⟩) (Kd.R_far (p := ⟨gb403, 0, none⟩) (Kd.R_types HO402.out BK403.out (by decide)) (fun _ hk => hk.2) (.int .i64 t398)) (fun _ hk => hk.2) (.int .i64 t399)) (fun _ h_ => h_.1))) hb); replace HI397 := am_ (IsS70.below (show IsS70 w ((w10.setCell ⟨gb403, 0, none⟩ (.int .i64 t398)).setCell ⟨gb403, 1, none⟩ (.int .i64 t399)) g397 t394 t395 t396 from ix_ HI397.out) hb); replace BK403 := am_ (blk_below (g := gb403) (o := .cells #[.int .i64 t398, .int .i64 t399] 25 (0, 0)) (by (with_reducible repeat (first | refine blk_drewN ?_ _ | refine blk_drew ?_ | refine blk_alloc ?_ _)); refine blk_put (cs := #[.int .i64 t398, .int .i64 0]) ?_ 1 _ rfl; (with_reducible repeat (first | refine blk_drewN ?_ _ | refine blk_drew ?_ | refine blk_alloc ?_ _)); refine blk_put (cs := #[.int .i64 0, .int .i64 0]) ?_ 0 _ rfl; (with_reducible repeat (first | refine blk_drewN ?_ _ | refine blk_drew ?_ | refine blk_alloc ?_ _)); exact BK403.out) hb); replace HB := hs_ HB hb; (try clear hb); (try clear hb2); (try clear hk); (try clear hi)) | ((with_reducible refine gc_ 18 rfl ?_); refine gl_ (some 17) rfl rfl Tryz.func18 rfl #[.pointer (some ⟨g397, 0, none⟩), .int .i64 3] rfl ?_; (with_reducible refine (spec_l01Next.calls g397 t394 t395 t396 3 t405 t406 t407 w _ ?side1 ?side2 A5.out).mono ?_); (case side1 => exact ix_ HI397.out); (case side2 => exact hx_ HB.out); rintro e w15 ⟨rfl, hi, hb, hk⟩; refine ⟨_, rfl, ?_⟩; replace HO402 := am_ (Kd.R_mono (Kd.R_keep (IsS70.apart (show IsS70 w _ g397 t394 t395 t396 from ix_ HI397.out) (rx_ HO402.out) (by decide)) hk (fun _ h => h.2)) (fun _ h => h.1)); replace BK403 := kb_ hk BK403 NB403_397.out; replace HB := am_ hb; replace HI397 := am_ hi; (try clear hb); (try clear hb2); (try clear hk); (try clear hi)) | ((with_reducible refine gc_ 29 rfl ?_); refine gl_ (some 21) rfl rfl Tryz.func29 rfl #[.pointer (some ⟨g397, 0, none⟩), .string t404] rfl ?_; (with_reducible refine (spec_l01Damage.calls k g397 t394 t406 t407 t404 t408 t409 t410 w _ ?side1 ?side2 A7.out).mono ?_); (case side1 => exact ix_ HI397.out); (case side2 => exact hx_ HB.out); rintro e w16 ⟨rfl, hi, hb, hk⟩; refine ⟨_, rfl, ?_⟩; replace HO402 := am_ (Kd.R_mono (Kd.R_keep (IsS70.apart (show IsS70 w _ g397 t394 t406 t407 from ix_ HI397.out) (rx_ HO402.out) (by decide)) hk (fun _ h => h.2)) (fun _ h => h.1)); replace BK403 := kb_ hk BK403 NB403_397.out; replace HB := am_ hb; replace HI397 := am_ hi; (try clear hb); (try clear hb2); (try clear hk); (try clear hi)))
  go_ret
  exact er_ (hx_ HB.out)
 ·rw [if_neg c6] at H
  have c6b0 : (t405 == 0) = false := beq_eq_false_iff_ne.mpr c6
  have c6b1 : (t405 != 0) = true := bne_iff_ne.mpr c6
  obtain rfl := Option.some.inj H
  go_enter Tryz.func10, Tryz.ntmps10
  go_wp2_with (first | ((with_reducible refine gc_ 17 rfl ?_); refine gl_ (some 8) rfl rfl Tryz.func17 rfl #[.slice A0 l0.length c0] rfl ?_; (with_reducible refine (spec_l01From.calls k _ _ l0 t394 t395 t396 w _ ?side1 ?side2 ?side3 A2.out).mono ?_); (case side1 => exact hx_ HB.out); (case side2 => exact HR0.out); (case side3 => exact HC0.out); rintro e w17 ⟨g397, rfl, hi, hb, hb2⟩; refine ⟨_, rfl, ?_⟩; replace HB := am_ hb; have HI397 := am_ hi; (try clear hb); (try clear hb2); (try clear hk); (try clear hi)) | ((with_reducible refine gc_ 25 rfl ?_); refine gl_ (some 11) rfl rfl Tryz.func25 rfl #[.slice A0 l0.length c0] rfl ?_; (with_reducible refine (spec_DrawRunCuts.calls k _ _ l0 t398 t399 t400 _ ?side1 ?side2 A3.out).mono ?_); (case side1 => repeat (first | exact (Kd.C_below HR0.out HB.out) | (with_reducible refine Kd.C_alloc ?_ _) | (with_reducible refine Kd.C_drewN ?_ _) | (with_reducible refine Kd.C_drew ?_))); (case side2 => exact HC0.out); rintro e w18 ⟨v401, rfl, ho0, hb⟩; refine ⟨_, rfl, ?_⟩; have HO402 := am_ (Kd.R_lower ho0 (below_size (hx_ HB.out))); replace HI397 := am_ (IsS70.below (ix_ HI397.out) hb); replace HB := hs_ HB hb; (try clear hb); (try clear hb2); (try clear hk); (try clear hi); (try clear ho0)) | ((with_reducible refine gd_ 4 rfl ?_); refine be_ 4 #[.int .i64 0, .int .i64 0] 25 rfl rfl ?_; intro gb403 hg w19 hbox hb; replace HO402 := am_ (Kd.R_below (rx_ HO402.out) hb); have BK403 := am_ hbox; have GW403 := gw_ hg HB; have GE403 := gw_ hg HB; replace HB := hs_ HB hb; have NB397_403 := am_ (by rw [hg]; exact Nat.ne_of_lt (IsS70.lt (show IsS70 w _ g397 t394 t395 t396 from ix_ HI397.out)) : g397 ≠ gb403); have NB403_397 := am_ (by rw [hg]; exact Nat.ne_of_gt (IsS70.lt (show IsS70 w _ g397 t394 t395 t396 from ix_ HI397.out)) : gb403 ≠ g397); replace HI397 := am_ (IsS70.below (ix_ HI397.out) hb); clear hb hbox hg; have hnb20 := NB403_397.out; have hnc20 := NB397_403.out; have hcz21_0 : w19.cell? ⟨gb403, 0, none⟩ = some (.int .i64 0) := (blk_cell BK403.out 0).trans rfl; have hcz21_1 : w19.cell? ⟨gb403, 1, none⟩ = some (.int .i64 0) := (blk_cell BK403.out 1).trans rfl; have hfz21_0 := blk_frozen BK403.out 0; have hfz21_1 := blk_frozen BK403.out 1; obtain ⟨Ao22, co22, eo22⟩ := Kd.R_slice HO402.out; subst eo22) | ((with_reducible refine gc_ 14 rfl ?_); refine gl_ (some 15) rfl rfl Tryz.func14 rfl #[.slice Ao22 t400.length co22] rfl ?_; (with_reducible refine (spec_ProgramText.calls k _ _ t400 t404 _ ?side1 ?side2 A4.out).mono ?_); (case side1 => refine (Kd.R_reads' (e := 50) (base := w.heap.size) (ok := fun k_ => True) (n := t400.length) (c := co22) ?_).2.2; exact (by (with_reducible repeat (first | apply Kd.R_alloc | apply Kd.R_drewN | apply Kd.R_drew)); exact (Kd.R_mono (Kd.R_far (p := ⟨gb403, 1, none⟩) (Kd.R_far (p := ⟨gb403, 0, none⟩) (Kd.R_types HO402.out BK403.out (by decide)) (fun _ hk => hk.2) (.int .i64 t398)) (fun _ hk => hk.2) (.int .i64 t399)) (fun _ h_ => h_.1)))); (case side2 => exact (Kd.R_reads' HO402.out).2.1); rintro e w23 ⟨rfl, hb⟩; refine ⟨_, rfl, ?_⟩; replace HO402 := am_ (Kd.R_below (by (with_reducible repeat (first | apply Kd.R_alloc | apply Kd.R_drewN | apply Kd.R_drew)); exact (Kd.R_mono (Kd.R_far (p := ⟨gb403, 1, none⟩) (Kd.R_far (p := ⟨gb403, 0, none⟩) (Kd.R_types HO402.out BK403.out (by decide)) (fun _ hk => hk.2) (.int .i64 t398)) (fun _ hk => hk.2) (.int .i64 t399)) (fun _ h_ => h_.1))) hb); replace HI397 := am_ (IsS70.below (show IsS70 w ((w19.setCell ⟨gb403, 0, none⟩ (.int .i64 t398)).setCell ⟨gb403, 1, none⟩ (.int .i64 t399)) g397 t394 t395 t396 from ix_ HI397.out) hb); replace BK403 := am_ (blk_below (g := gb403) (o := .cells #[.int .i64 t398, .int .i64 t399] 25 (0, 0)) (by (with_reducible repeat (first | refine blk_drewN ?_ _ | refine blk_drew ?_ | refine blk_alloc ?_ _)); refine blk_put (cs := #[.int .i64 t398, .int .i64 0]) ?_ 1 _ rfl; (with_reducible repeat (first | refine blk_drewN ?_ _ | refine blk_drew ?_ | refine blk_alloc ?_ _)); refine blk_put (cs := #[.int .i64 0, .int .i64 0]) ?_ 0 _ rfl; (with_reducible repeat (first | refine blk_drewN ?_ _ | refine blk_drew ?_ | refine blk_alloc ?_ _)); exact BK403.out) hb); replace HB := hs_ HB hb; (try clear hb); (try clear hb2); (try clear hk); (try clear hi)) | ((with_reducible refine gc_ 18 rfl ?_); refine gl_ (some 17) rfl rfl Tryz.func18 rfl #[.pointer (some ⟨g397, 0, none⟩), .int .i64 3] rfl ?_; (with_reducible refine (spec_l01Next.calls g397 t394 t395 t396 3 t405 t406 t407 w _ ?side1 ?side2 A5.out).mono ?_); (case side1 => exact ix_ HI397.out); (case side2 => exact hx_ HB.out); rintro e w24 ⟨rfl, hi, hb, hk⟩; refine ⟨_, rfl, ?_⟩; replace HO402 := am_ (Kd.R_mono (Kd.R_keep (IsS70.apart (show IsS70 w _ g397 t394 t395 t396 from ix_ HI397.out) (rx_ HO402.out) (by decide)) hk (fun _ h => h.2)) (fun _ h => h.1)); replace BK403 := kb_ hk BK403 NB403_397.out; replace HB := am_ hb; replace HI397 := am_ hi; (try clear hb); (try clear hb2); (try clear hk); (try clear hi)))
  go_ret
  exact er_ (hx_ HB.out)

/-! ### strings_Split: function 30 -/
def strings_Split.f (a0 : ByteArray) (a1 : ByteArray) : Option (List ByteArray) := if a0.size < 4294967281 then (if 1 ≤ a1.size then (some (HandR.pieces a0 a1)) else (none)) else (none)
set_option maxHeartbeats 8000000 in
set_option maxRecDepth 100000 in
theorem strings_Split.calls (a0 : ByteArray) (a1 : ByteArray) (r : List ByteArray) (w : World) (h : strings_Split.f a0 a1 = some r) (henv : HandR.Env w) :
  Calls Tryz.prog 30 #[.string a0, .string a1] w fun e w' => ∃ v0_ : Value, e = .returned (v0_) ∧ Kd.R Kd.string 9 w' w.heap.size (fun _ => True) v0_ r ∧ Below w.heap.size w w' := by
 unfold strings_Split.f at h
 by_cases q0 : a0.size < 4294967281
 ·rw [if_pos q0] at h
  by_cases q1 : 1 ≤ a1.size
  ·rw [if_pos q1] at h
   obtain rfl := Option.some.inj h
   exact HandR.split a0 a1 w q0 q1 henv
  ·rw [if_neg q1] at h
   exact absurd h (by simp)
 ·rw [if_neg q0] at h
  exact absurd h (by simp)

/-! ### strings_IndexAny: function 31 -/
def strings_IndexAny.f (a0 : ByteArray) (a1 : ByteArray) : Option (Int) := if a0.size < 4294967281 then (if a1.data.toList = [124, 45] then (some (Lib.indexAny a0.data.toList [124, 45])) else (none)) else (none)
set_option maxHeartbeats 8000000 in
set_option maxRecDepth 100000 in
theorem strings_IndexAny.calls (a0 : ByteArray) (a1 : ByteArray) (r : Int) (w : World) (h : strings_IndexAny.f a0 a1 = some r) :
  Calls Tryz.prog 31 #[.string a0, .string a1] w fun e w' => e = .returned (.int .i64 r) ∧ Below w.heap.size w w' := by
 unfold strings_IndexAny.f at h
 by_cases q0 : a0.size < 4294967281
 ·rw [if_pos q0] at h
  by_cases q1 : a1.data.toList = [124, 45]
  ·rw [if_pos q1] at h
   obtain rfl := Option.some.inj h
   obtain rfl : a1 = HandX.marks := by
    apply ByteArray.ext
    rw [← Array.toList_inj]
    exact q1
   exact HandX.indexAny a0 w q0
  ·rw [if_neg q1] at h
   exact absurd h (by simp)
 ·rw [if_neg q0] at h
  exact absurd h (by simp)

/-! ### impl_readDecimal: function 32 -/
def impl_readDecimal.f (a0 : ByteArray) : Option (Int × Bool) := if a0.size ≤ 1099511627776 then (some (HandR.readDec a0)) else (none)
set_option maxHeartbeats 8000000 in
set_option maxRecDepth 100000 in
theorem impl_readDecimal.calls (a0 : ByteArray) (r1 : Int) (r2 : Bool) (w : World) (h : impl_readDecimal.f a0 = some (r1, r2)) (henv : HandR.Env w) :
  Calls Tryz.prog 32 #[.string a0] w fun e w' => e = .returned (.tuple #[.int .i64 r1, .bool r2]) ∧ Below w.heap.size w w' := by
 unfold impl_readDecimal.f at h
 by_cases q0 : a0.size ≤ 1099511627776
 ·rw [if_pos q0] at h
  have k := HandR.readDecimal a0 w q0 henv
  rw [Option.some.inj h] at k
  exact k
 ·rw [if_neg q0] at h
  exact absurd h (by simp)

end Go.Proofs.YtdafddgmeidclaaGreatDoor.PFnGridCuts
