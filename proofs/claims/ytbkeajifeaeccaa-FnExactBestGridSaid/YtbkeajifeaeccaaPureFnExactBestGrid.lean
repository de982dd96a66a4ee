/- For all arguments the law FnExactBestGrid returns true, with no condition beyond the bounds that the printed statement names. -/
import Derived.Test.YtbkeajifeaeccaaPFnExactBestGridx5
namespace Go.Proofs.Ytbkeajifeaeccaa.Pure
open Go.RowKit Go.Proofs.Ytbkeajifeaeccaa.PFnExactBestGrid Go.Proofs.YtbkeajifeaeccaaW.PrintWords Go.Proofs.YtbkeajifeaeccaaW.PrintLast
set_option linter.unusedVariables false
set_option linter.unusedSimpArgs false

theorem w64 {x : Int} (h1 : -9223372036854775808 ≤ x) (h2 : x ≤ 9223372036854775807) : wrap64 x = x := by
  unfold wrap64; omega
theorem wf64 {x : Int} (h : (Lit.int .i64 x).wf = true) : -9223372036854775808 ≤ x ∧ x ≤ 9223372036854775807 := by
  simp [Lit.wf, IntKind.min, IntKind.max, IntKind.signed, IntKind.bits] at h
  omega
/-- 'a lies from b to c'. -/
def inR (a b c : Int) : Bool := decide (b ≤ a ∧ a ≤ c)
theorem inR_true {a b c : Int} (h : inR a b c = true) : b ≤ a ∧ a ≤ c := by simpa [inR] using h
theorem inR_mk {a b c : Int} (h1 : b ≤ a) (h2 : a ≤ c) : inR a b c = true := by simp [inR, h1, h2]
theorem inR_false {a b c : Int} (h : inR a b c = false) : a < b ∨ c < a := by
  have : ¬ (b ≤ a ∧ a ≤ c) := by simpa [inR] using h
  omega
theorem rd_nat (xs : List Int) (i : Nat) : rd xs (i : Int) = xs.getD i 0 := by simp [rd]
theorem mul_bd {a b A B : Int} (h0 : 0 ≤ a) (h1 : a ≤ A) (k0 : 0 ≤ b) (k1 : b ≤ B) : 0 ≤ a * b ∧ a * b ≤ A * B :=
  ⟨Int.mul_nonneg h0 k0, Int.mul_le_mul h1 k1 k0 (by omega)⟩
theorem tdiv_n {a b : Int} (h : 0 ≤ a) : Int.tdiv a b = a / b := Int.tdiv_eq_ediv_of_nonneg h
theorem tmod_n {a b : Int} (h : 0 ≤ a) : Int.tmod a b = a % b := Int.tmod_eq_emod_of_nonneg h
theorem mn_min (a b : Int) : mn a b = min a b := by unfold mn; split <;> omega
theorem mx_max (a b : Int) : mx a b = max a b := by unfold mx; split <;> omega

def isPress (w h g : Int) : Bool := inR w 1 20000 && inR h 1 20000 && inR g 0 (h - 1)
def isTrim (w h b g : Int) : Bool := inR w 1 20000 && inR h 1 20000 && inR b 0 20000 && inR g 0 20000
theorem isPress_true {w h g : Int} (p : isPress w h g = true) : (1 ≤ w ∧ w ≤ 20000) ∧ (1 ≤ h ∧ h ≤ 20000) ∧ (0 ≤ g ∧ g ≤ h - 1) := by
  simp only [isPress, Bool.and_eq_true] at p
  exact ⟨inR_true p.1.1, inR_true p.1.2, inR_true p.2⟩
theorem isTrim_true {w h b g : Int} (p : isTrim w h b g = true) : (1 ≤ w ∧ w ≤ 20000) ∧ (1 ≤ h ∧ h ≤ 20000) ∧ (0 ≤ b ∧ b ≤ 20000) ∧ (0 ≤ g ∧ g ≤ 20000) := by
  simp only [isTrim, Bool.and_eq_true] at p
  exact ⟨inR_true p.1.1.1, inR_true p.1.1.2, inR_true p.1.2, inR_true p.2⟩
/-- How many pages fit on a side. -/
def cnt (room side b g : Int) : Int := if room - 2 * b - side < 0 then 0 else 1 + (room - 2 * b - side) / (side + g)
theorem cnt_bd {room side b g : Int} (hr : room ≤ 20000) (hs : 1 ≤ side) (hb : 0 ≤ b) (hg : 0 ≤ g) : 0 ≤ cnt room side b g ∧ cnt room side b g ≤ 20000 := by
  unfold cnt
  split
  · omega
  · have h1 : 0 ≤ (room - 2 * b - side) / (side + g) := Int.ediv_nonneg (by omega) (by omega)
    have h2 : (room - 2 * b - side) / (side + g) ≤ room - 2 * b - side := Int.ediv_le_self _ (by omega)
    omega
theorem cnt_fit {room side b g : Int} (hs : 1 ≤ side) (hg : 0 ≤ g) : max 0 (Int.tdiv (room - 2 * b + g) (side + g)) = cnt room side b g := by
  unfold cnt
  split
  · rename_i h
    by_cases h0 : 0 ≤ room - 2 * b + g
    · rw [tdiv_n h0, Int.ediv_eq_zero_of_lt h0 (by omega)]; rfl
    · have h1 : Int.tdiv (room - 2 * b + g) (side + g) = - Int.tdiv (-(room - 2 * b + g)) (side + g) := by rw [Int.neg_tdiv]; omega
      rw [h1, tdiv_n (by omega)]
      have h2 : 0 ≤ (-(room - 2 * b + g)) / (side + g) := Int.ediv_nonneg (by omega) (by omega)
      omega
  · rename_i h
    have e : room - 2 * b + g = (room - 2 * b - side) + 1 * (side + g) := by omega
    have h1 : 0 ≤ (room - 2 * b - side) / (side + g) := Int.ediv_nonneg (by omega) (by omega)
    rw [tdiv_n (by omega), e, Int.add_mul_ediv_right _ _ (by omega)]
    omega
def gridM (w h gr tw th b g : Int) : Int × Int := if cnt w tw b g = 0 ∨ cnt (h - gr) th b g = 0 then (0, 0) else (cnt w tw b g, cnt (h - gr) th b g)
def gridOf (w h gr tw th b g : Int) : Int × Int × Int :=
  if (isPress w h gr && isTrim tw th b g) = true then (if cnt w tw b g = 0 ∨ cnt (h - gr) th b g = 0 then (0, 0, 4) else (cnt w tw b g, cnt (h - gr) th b g, 0)) else (0, 0, 1)
def cornerOf (w h gr tw th b g i j : Int) : Int × Int × Int :=
  if (isPress w h gr && isTrim tw th b g) = true then
    (if (inR i 0 ((gridM w h gr tw th b g).1 - 1) && inR j 0 ((gridM w h gr tw th b g).2 - 1)) = true then (b + i * (tw + g), b + j * (th + g), 0) else (0, 0, 2)) else (0, 0, 1)
def wasteArea (w h gr tw th b g : Int) : Int × Int :=
  if (gridOf w h gr tw th b g).2.2 = 0 then (w * h - (gridOf w h gr tw th b g).1 * (gridOf w h gr tw th b g).2.1 * tw * th, 0) else (0, (gridOf w h gr tw th b g).2.2)
def turnTrim (w h b g : Int) : Int × Int × Int × Int × Int := if isTrim w h b g = true then (h, w, b, g, 0) else (0, 0, 0, 0, 1)
def leastSide (a side g b x : Int) : Int := a * side + (a - 1) * g + 2 * b + x
def leastSheet (w h b g a c gr : Int) : Int × Int × Int × Bool × Int :=
  if isTrim w h b g = true then
    (if (inR a 1 20000 && inR c 1 20000 && inR gr 0 20000) = true then
      (if leastSide a w g b 0 > 20000 ∨ leastSide c h g b gr > 20000 then (0, 0, 0, false, 3) else (leastSide a w g b 0, leastSide c h g b gr, gr, true, 0))
    else (0, 0, 0, false, 2)) else (0, 0, 0, false, 1)
theorem grid_bd {w h gr tw th b g : Int} (hp : isPress w h gr = true) (ht : isTrim tw th b g = true) : (0 ≤ cnt w tw b g ∧ cnt w tw b g ≤ 20000) ∧ (0 ≤ cnt (h - gr) th b g ∧ cnt (h - gr) th b g ≤ 20000) := by
  have h1 := isPress_true hp
  have h2 := isTrim_true ht
  exact ⟨cnt_bd (by omega) (by omega) (by omega) (by omega), cnt_bd (by omega) (by omega) (by omega) (by omega)⟩
theorem waste_wrap {w h tw th a c : Int} (hw : 0 ≤ w ∧ w ≤ 20000) (hh : 0 ≤ h ∧ h ≤ 20000) (h1 : 0 ≤ tw ∧ tw ≤ 20000) (h2 : 0 ≤ th ∧ th ≤ 20000) (ha : 0 ≤ a ∧ a ≤ 20000) (hc : 0 ≤ c ∧ c ≤ 20000) :
    wrap64 (wrap64 (w * h) - wrap64 (wrap64 (wrap64 (a * c) * tw) * th)) = w * h - a * c * tw * th := by
  have b1 := mul_bd hw.1 hw.2 hh.1 hh.2
  have b2 := mul_bd ha.1 ha.2 hc.1 hc.2
  have b3 := mul_bd b2.1 b2.2 h1.1 h1.2
  have b4 := mul_bd b3.1 b3.2 h2.1 h2.2
  rw [w64 (x := w * h) (by omega) (by omega), w64 (x := a * c) (by omega) (by omega), w64 (x := a * c * tw) (by omega) (by omega), w64 (x := a * c * tw * th) (by omega) (by omega), w64 (by omega) (by omega)]
theorem corner_wrap {b i s g n : Int} (hb : 0 ≤ b ∧ b ≤ 20000) (hs : 1 ≤ s ∧ s ≤ 20000) (hg : 0 ≤ g ∧ g ≤ 20000) (hi : inR i 0 n = true) (hn : n ≤ 20000) : wrap64 (b + wrap64 (i * wrap64 (s + g))) = b + i * (s + g) := by
  have h1 := inR_true hi
  have b1 := mul_bd (a := i) (b := s + g) (A := 20000) (B := 40000) (by omega) (by omega) (by omega) (by omega)
  rw [w64 (x := s + g) (by omega) (by omega), w64 (x := i * (s + g)) (by omega) (by omega), w64 (by omega) (by omega)]
theorem least_wrap {a s g b : Int} (ha : inR a 1 20000 = true) (hs : 1 ≤ s ∧ s ≤ 20000) (hg : 0 ≤ g ∧ g ≤ 20000) (hb : 0 ≤ b ∧ b ≤ 20000) :
    wrap64 (wrap64 (wrap64 (a * s) + wrap64 (wrap64 (a - 1) * g)) + wrap64 (2 * b)) = leastSide a s g b 0 ∧ 1 ≤ leastSide a s g b 0 ∧ leastSide a s g b 0 ≤ 900000000 := by
  have h1 := inR_true ha
  have b1 := mul_bd (a := a) (b := s) (A := 20000) (B := 20000) (by omega) (by omega) (by omega) (by omega)
  have b2 := mul_bd (a := a - 1) (b := g) (A := 20000) (B := 20000) (by omega) (by omega) (by omega) (by omega)
  have b3 : 1 ≤ a * s := by have := mul_bd (a := a - 1) (b := s) (A := 20000) (B := 20000) (by omega) (by omega) (by omega) (by omega); rw [Int.sub_mul] at this; omega
  unfold leastSide
  refine ⟨?_, by omega, by omega⟩
  rw [w64 (x := a - 1) (by omega) (by omega), w64 (x := a * s) (by omega) (by omega), w64 (x := (a - 1) * g) (by omega) (by omega), w64 (x := 2 * b) (by omega) (by omega), w64 (x := a * s + (a - 1) * g) (by omega) (by omega), w64 (by omega) (by omega)]
  omega
theorem gridOf_ok {w h gr tw th b g : Int} (e : (gridOf w h gr tw th b g).2.2 = 0) : isPress w h gr = true ∧ isTrim tw th b g = true ∧ cnt w tw b g ≠ 0 ∧ cnt (h - gr) th b g ≠ 0 ∧ gridOf w h gr tw th b g = (cnt w tw b g, cnt (h - gr) th b g, 0) := by
  unfold gridOf at e ⊢
  cases hp : isPress w h gr
  · simp [hp] at e
  cases ht : isTrim tw th b g
  · simp [hp, ht] at e
  simp only [hp, ht, Bool.and_self, if_true] at e ⊢
  by_cases hx : cnt w tw b g = 0 ∨ cnt (h - gr) th b g = 0
  · rw [if_pos hx] at e; simp at e
  · rw [if_neg hx]
    exact ⟨trivial, trivial, fun h => hx (.inl h), fun h => hx (.inr h), rfl⟩
theorem gridOf_bad {w h gr tw th b g : Int} (e : (gridOf w h gr tw th b g).2.2 ≠ 0) : gridOf w h gr tw th b g = (0, 0, (gridOf w h gr tw th b g).2.2) := by
  unfold gridOf at e ⊢
  by_cases h1 : (isPress w h gr && isTrim tw th b g) = true
  · rw [if_pos h1] at e ⊢
    by_cases h2 : cnt w tw b g = 0 ∨ cnt (h - gr) th b g = 0
    · rw [if_pos h2]
    · rw [if_neg h2] at e; exact absurd rfl e
  · rw [if_neg h1]
theorem gridM_bd {w h gr tw th b g : Int} (hp : isPress w h gr = true) (ht : isTrim tw th b g = true) : (0 ≤ (gridM w h gr tw th b g).1 ∧ (gridM w h gr tw th b g).1 ≤ 20000) ∧ (0 ≤ (gridM w h gr tw th b g).2 ∧ (gridM w h gr tw th b g).2 ≤ 20000) := by
  have := grid_bd hp ht
  unfold gridM
  split
  · exact ⟨⟨by omega, by omega⟩, by omega, by omega⟩
  · exact this

def bg (up tu : Int) (gn grain : Bool) : Bool × Int × Int :=
  if (if (grain && !gn) = true then 0 else up) = 0 ∧ (if (grain && gn) = true then 0 else tu) = 0 then (false, 0, 4)
  else (decide ((if (grain && gn) = true then 0 else tu) > (if (grain && !gn) = true then 0 else up)), max (if (grain && !gn) = true then 0 else up) (if (grain && gn) = true then 0 else tu), 0)
def bestGrid (w h gr : Int) (gn : Bool) (tw th b g : Int) (grain : Bool) : Bool × Int × Int :=
  if (isPress w h gr && isTrim tw th b g) = true then bg (cnt w tw b g * cnt (h - gr) th b g) (cnt w th b g * cnt (h - gr) tw b g) gn grain else (false, 0, 1)
theorem isTrim_turn {tw th b g : Int} (h : isTrim tw th b g = true) : isTrim th tw b g = true := by
  simp only [isTrim, Bool.and_eq_true] at h ⊢
  exact ⟨⟨⟨h.1.1.2, h.1.1.1⟩, h.1.2⟩, h.2⟩
theorem gridM_prod (w h gr tw th b g : Int) : (gridM w h gr tw th b g).1 * (gridM w h gr tw th b g).2 = cnt w tw b g * cnt (h - gr) th b g := by
  unfold gridM
  split
  · rename_i e
    rcases e with e | e <;> simp [e]
  · rfl

theorem spec_l01In_eq (a b c : Int) : spec_l01In.f a b c = some (inR a b c) := by
  unfold spec_l01In.f inR
  by_cases h : a ≥ b
  · rw [if_pos h]; simp [show b ≤ a from h]
  · rw [if_neg h]; simp [show ¬ b ≤ a from h]

theorem spec_IsPress_eq (w h g : Int) (r : Bool) : spec_IsPress.f w h g r = some (isPress w h g) := by
  unfold spec_IsPress.f isPress
  simp only [spec_l01In_eq, Option.bind_some]
  cases inR w 1 20000
  · simp
  cases hh : inR h 1 20000
  · simp
  have := inR_true hh
  rw [w64 (x := h - 1) (by omega) (by omega)]
  simp

theorem spec_IsTrim_eq (w h b g : Int) : spec_IsTrim.f w h b g = some (isTrim w h b g) := by
  unfold spec_IsTrim.f isTrim
  simp only [spec_l01In_eq, Option.bind_some]
  cases inR w 1 20000 <;> cases inR h 1 20000 <;> cases inR b 0 20000 <;> simp

theorem spec_l08Count_eq (r s w h b g : Int) (hr : -20000 ≤ r ∧ r ≤ 20000) (hs : 1 ≤ s ∧ s ≤ 20000) (hb : 0 ≤ b ∧ b ≤ 20000) (hg : 0 ≤ g ∧ g ≤ 20000) : spec_l08Count.f r s w h b g = some (cnt r s b g) := by
  have hc := cnt_bd (room := r) (side := s) (b := b) (g := g) (by omega) (by omega) (by omega) (by omega)
  unfold spec_l08Count.f
  rw [w64 (x := 2 * b) (by omega) (by omega), w64 (x := r - 2 * b) (by omega) (by omega), w64 (x := r - 2 * b - s) (by omega) (by omega), w64 (x := s + g) (by omega) (by omega)]
  unfold cnt at hc ⊢
  by_cases h : r - 2 * b - s < 0
  · rw [if_pos h, if_pos h]
  · rw [if_neg h] at hc ⊢
    have h1 : 0 ≤ (r - 2 * b - s) / (s + g) := Int.ediv_nonneg (by omega) (by omega)
    rw [if_neg h, if_neg (by omega), tdiv_n (by omega), w64 (x := (r - 2 * b - s) / (s + g)) (by omega) (by omega), w64 (by omega) (by omega)]

theorem spec_l08Grid_eq (w h gr : Int) (gn : Bool) (tw th b g : Int) (hp : isPress w h gr = true) (ht : isTrim tw th b g = true) : spec_l08Grid.f w h gr gn tw th b g = some (cnt w tw b g, cnt (h - gr) th b g) := by
  have h1 := isPress_true hp
  have h2 := isTrim_true ht
  unfold spec_l08Grid.f
  rw [w64 (x := h - gr) (by omega) (by omega), spec_l08Count_eq _ _ _ _ _ _ (by omega) (by omega) (by omega) (by omega), spec_l08Count_eq _ _ _ _ _ _ (by omega) (by omega) (by omega) (by omega)]
  rfl

theorem spec_l08Turn_eq (a b c d : Int) : spec_l08Turn.f a b c d = some (b, a, c, d) := rfl

theorem spec_BestGrid_j3 (k : Nat) (up tu : Int) (x : Bool) : spec_BestGrid.j3 (k + 1) up tu x = some (if (if x = true then 0 else up) = 0 ∧ tu = 0 then (false, 0, 4) else (decide (tu > (if x = true then 0 else up)), max (if x = true then 0 else up) tu, 0)) := by
  rw [spec_BestGrid.j3]
  cases x
  · by_cases h1 : up = 0
    · by_cases h2 : tu = 0
      · simp [h1, h2]
      · simp [h1, h2, mx_max]
    · simp [h1, mx_max]
  · by_cases h2 : tu = 0
    · simp [h2]
    · simp [h2, mx_max]
theorem spec_BestGrid_tail (k : Nat) (up tu : Int) (gn grain : Bool) (a b c : Int) : (if grain = true then spec_BestGrid.j1 (k + 3) grain up tu gn a b c gn else spec_BestGrid.j1 (k + 3) grain up tu false a b c gn) = some (bg up tu gn grain) := by
  cases grain
  · simp only [Bool.false_eq_true, if_false, spec_BestGrid.j1, spec_BestGrid.j2, spec_BestGrid_j3, bg, Bool.false_and]
  · cases gn
    · simp only [if_true, Bool.false_eq_true, if_false, spec_BestGrid.j1, spec_BestGrid.j2, spec_BestGrid_j3, bg, Bool.true_and, Bool.not_false]
    · simp only [if_true, Bool.false_eq_true, if_false, spec_BestGrid.j1, spec_BestGrid.j2, spec_BestGrid_j3, bg, Bool.true_and, Bool.not_true]
theorem spec_BestGrid_eq (k : Nat) (w h gr : Int) (gn : Bool) (tw th b g : Int) (grain : Bool) : spec_BestGrid.f (k + 4) w h gr gn tw th b g grain = some (bestGrid w h gr gn tw th b g grain) := by
  unfold spec_BestGrid.f bestGrid
  simp only [spec_IsPress_eq, spec_IsTrim_eq, Option.bind_some]
  cases hp : isPress w h gr
  · simp [spec_BestGrid.j0]
  cases ht : isTrim tw th b g
  · simp [spec_BestGrid.j0]
  have ht2 := isTrim_turn ht
  have b1 := grid_bd hp ht
  have b2 := grid_bd hp ht2
  have m1 := mul_bd b1.1.1 b1.1.2 b1.2.1 b1.2.2
  have m2 := mul_bd b2.1.1 b2.1.2 b2.2.1 b2.2.2
  simp only [if_true, Bool.and_self, Bool.not_true, spec_BestGrid.j0, Bool.false_eq_true, if_false, spec_l08Grid_eq w h gr gn tw th b g hp ht, spec_l08Turn_eq, spec_l08Grid_eq w h gr gn th tw b g hp ht2, Option.bind_some]
  rw [w64 (x := cnt w tw b g * cnt (h - gr) th b g) (by omega) (by omega), w64 (x := cnt w th b g * cnt (h - gr) tw b g) (by omega) (by omega)]
  exact spec_BestGrid_tail k _ _ gn grain w h gr

theorem laws_toPress_eq (a b c : Int) (d : Bool) : laws_toPress.f a b c d = some (a, b, c, d) := rfl

theorem laws_toTrim_eq (a b c d : Int) : laws_toTrim.f a b c d = some (a, b, c, d) := rfl

theorem impl_inRange_eq (a b c : Int) : impl_inRange.f a b c = some (inR a b c) := by
  unfold impl_inRange.f inR
  by_cases h : b ≤ a
  · rw [if_pos h]; simp [h]
  · rw [if_neg h]; simp [h]

theorem impl_IsPress_eq (w h g : Int) (r : Bool) : impl_IsPress.f w h g r = some (isPress w h g) := by
  unfold impl_IsPress.f isPress
  simp only [impl_inRange_eq, Option.bind_some]
  cases inR w 1 20000
  · simp
  cases hh : inR h 1 20000
  · simp
  have := inR_true hh
  rw [w64 (x := h - 1) (by omega) (by omega)]
  simp

theorem impl_IsTrim_eq (w h b g : Int) : impl_IsTrim.f w h b g = some (isTrim w h b g) := by
  unfold impl_IsTrim.f isTrim
  simp only [impl_inRange_eq, Option.bind_some]
  cases inR w 1 20000 <;> cases inR h 1 20000 <;> cases inR b 0 20000 <;> simp

theorem impl_fitting_eq (r s w h b g : Int) (hr : -20000 ≤ r ∧ r ≤ 20000) (hs : 1 ≤ s ∧ s ≤ 20000) (hb : 0 ≤ b ∧ b ≤ 20000) (hg : 0 ≤ g ∧ g ≤ 20000) : impl_fitting.f r s w h b g = some (cnt r s b g) := by
  unfold impl_fitting.f
  have hc := cnt_bd (room := r) (side := s) (b := b) (g := g) (by omega) (by omega) (by omega) (by omega)
  have hf := cnt_fit (room := r) (side := s) (b := b) (g := g) (by omega) (by omega)
  have hlo : -80000 ≤ Int.tdiv (r - 2 * b + g) (s + g) := by
    by_cases h0 : 0 ≤ r - 2 * b + g
    · rw [tdiv_n h0]; have := Int.ediv_nonneg h0 (show 0 ≤ s + g by omega); omega
    · have h1 : Int.tdiv (r - 2 * b + g) (s + g) = - Int.tdiv (-(r - 2 * b + g)) (s + g) := by rw [Int.neg_tdiv]; omega
      rw [h1, tdiv_n (by omega)]
      have h2 : (-(r - 2 * b + g)) / (s + g) ≤ -(r - 2 * b + g) := Int.ediv_le_self _ (by omega)
      omega
  rw [w64 (x := 2 * b) (by omega) (by omega), w64 (x := r - 2 * b) (by omega) (by omega), w64 (x := r - 2 * b + g) (by omega) (by omega), w64 (x := s + g) (by omega) (by omega), if_neg (by omega), w64 (by omega) (by omega), mx_max, hf]

theorem impl_grid_eq (w h gr : Int) (gn : Bool) (tw th b g : Int) (hp : isPress w h gr = true) (ht : isTrim tw th b g = true) : impl_grid.f w h gr gn tw th b g = some (gridM w h gr tw th b g) := by
  have h1 := isPress_true hp
  have h2 := isTrim_true ht
  unfold impl_grid.f gridM
  rw [w64 (x := h - gr) (by omega) (by omega), impl_fitting_eq _ _ _ _ _ _ (by omega) (by omega) (by omega) (by omega), impl_fitting_eq _ _ _ _ _ _ (by omega) (by omega) (by omega) (by omega)]
  simp only [Option.bind_some]
  by_cases ha : cnt w tw b g = 0
  · rw [if_pos ha, if_pos (.inl ha)]
  · by_cases hc : cnt (h - gr) th b g = 0
    · rw [if_neg ha, if_pos hc, if_pos (.inr hc)]
    · rw [if_neg ha, if_neg hc, if_neg (fun h => h.elim ha hc)]

theorem impl_turnedTrim_eq (a b c d : Int) : impl_turnedTrim.f a b c d = some (b, a, c, d) := rfl

theorem impl_BestGrid_j3 (k : Nat) (up tu : Int) (x : Bool) : impl_BestGrid.j3 (k + 1) up tu x = some (if (if x = true then 0 else up) = 0 ∧ tu = 0 then (false, 0, 4) else (decide (tu > (if x = true then 0 else up)), max (if x = true then 0 else up) tu, 0)) := by
  rw [impl_BestGrid.j3]
  cases x
  · by_cases h1 : up = 0
    · by_cases h2 : tu = 0
      · simp [h1, h2]
      · simp [h1, h2, mx_max]
    · simp [h1, mx_max]
  · by_cases h2 : tu = 0
    · simp [h2]
    · simp [h2, mx_max]
theorem impl_BestGrid_tail (k : Nat) (up tu : Int) (gn grain : Bool) (a b c : Int) : (if grain = true then impl_BestGrid.j1 (k + 3) grain up tu gn a b c gn else impl_BestGrid.j1 (k + 3) grain up tu false a b c gn) = some (bg up tu gn grain) := by
  cases grain
  · simp only [Bool.false_eq_true, if_false, impl_BestGrid.j1, impl_BestGrid.j2, impl_BestGrid_j3, bg, Bool.false_and]
  · cases gn
    · simp only [if_true, Bool.false_eq_true, if_false, impl_BestGrid.j1, impl_BestGrid.j2, impl_BestGrid_j3, bg, Bool.true_and, Bool.not_false]
    · simp only [if_true, Bool.false_eq_true, if_false, impl_BestGrid.j1, impl_BestGrid.j2, impl_BestGrid_j3, bg, Bool.true_and, Bool.not_true]
theorem impl_BestGrid_eq (k : Nat) (w h gr : Int) (gn : Bool) (tw th b g : Int) (grain : Bool) : impl_BestGrid.f (k + 4) w h gr gn tw th b g grain = some (bestGrid w h gr gn tw th b g grain) := by
  unfold impl_BestGrid.f bestGrid
  simp only [impl_IsPress_eq, impl_IsTrim_eq, Option.bind_some]
  cases hp : isPress w h gr
  · simp [impl_BestGrid.j0]
  cases ht : isTrim tw th b g
  · simp [impl_BestGrid.j0]
  have ht2 := isTrim_turn ht
  have b1 := grid_bd hp ht
  have b2 := grid_bd hp ht2
  have m1 := mul_bd b1.1.1 b1.1.2 b1.2.1 b1.2.2
  have m2 := mul_bd b2.1.1 b2.1.2 b2.2.1 b2.2.2
  simp only [if_true, Bool.and_self, Bool.not_true, impl_BestGrid.j0, Bool.false_eq_true, if_false, impl_grid_eq w h gr gn tw th b g hp ht, impl_turnedTrim_eq, impl_grid_eq w h gr gn th tw b g hp ht2, Option.bind_some, gridM_prod]
  rw [w64 (x := cnt w tw b g * cnt (h - gr) th b g) (by omega) (by omega), w64 (x := cnt w th b g * cnt (h - gr) tw b g) (by omega) (by omega)]
  exact impl_BestGrid_tail k _ _ gn grain w h gr

theorem FnExactBestGrid : ∀ (a0_0 : Int) (a0_1 : Int) (a0_2 : Int) (a0_3 : Bool) (a1_0 : Int) (a1_1 : Int) (a1_2 : Int) (a1_3 : Int) (a2 : Bool), (Lit.int .i64 a0_0).wf = true → (Lit.int .i64 a0_1).wf = true → (Lit.int .i64 a0_2).wf = true → (Lit.int .i64 a1_0).wf = true → (Lit.int .i64 a1_1).wf = true → (Lit.int .i64 a1_2).wf = true → (Lit.int .i64 a1_3).wf = true → ∃ k, laws_FnExactBestGrid.f k a0_0 a0_1 a0_2 a0_3 a1_0 a1_1 a1_2 a1_3 a2 = some true := by
  intro a b c d w x y z e _ _ _ _ _ _ _
  refine ⟨4, ?_⟩
  unfold laws_FnExactBestGrid.f
  simp only [laws_toTrim_eq, laws_toPress_eq, spec_BestGrid_eq 0, impl_BestGrid_eq 0, Option.bind_some, bne_self_eq_false, Bool.false_eq_true, if_false, if_true]

end Go.Proofs.Ytbkeajifeaeccaa.Pure
