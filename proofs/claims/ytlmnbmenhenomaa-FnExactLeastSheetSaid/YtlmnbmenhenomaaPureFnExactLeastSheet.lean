/- For all arguments the law FnExactLeastSheet returns true, with no condition beyond the bounds that the printed statement names. -/
import Derived.Test.YtlmnbmenhenomaaPFnExactLeastSheetx2
namespace Go.Proofs.Ytlmnbmenhenomaa.Pure
open Go.RowKit Go.Proofs.Ytlmnbmenhenomaa.PFnExactLeastSheet Go.Proofs.YtlmnbmenhenomaaW.PrintWords Go.Proofs.YtlmnbmenhenomaaW.PrintLast
set_option linter.unusedVariables false
set_option linter.unusedSimpArgs false

theorem w64 {x : Int} (h1 : -9223372036854775808 ≤ x) (h2 : x ≤ 9223372036854775807) : wrap64 x = x := by
  unfold wrap64; omega
theorem wf64 {x : Int} (h : (Lit.int .i64 x).wf = true) : -9223372036854775808 ≤ x ∧ x ≤ 9223372036854775807 := by
  simp [Lit.wf, IntKind.min, IntKind.max, IntKind.signed, IntKind.bits] at h
  omega
/-- 'a lies from b to c'. -/
def inR (a b c : Int) : Bool := decide (b ≤ a ∧ a ≤ c)
theorem inR_true {a b c : Int} (h : inR a b c = true) : b ≤ a ∧ a ≤ c := by simpa [inR] using h
theorem inR_mk {a b c : Int} (h1 : b ≤ a) (h2 : a ≤ c) : inR a b c = true := by simp [inR, h1, h2]
theorem inR_false {a b c : Int} (h : inR a b c = false) : a < b ∨ c < a := by
  have : ¬ (b ≤ a ∧ a ≤ c) := by simpa [inR] using h
  omega
theorem rd_nat (xs : List Int) (i : Nat) : rd xs (i : Int) = xs.getD i 0 := by simp [rd]
theorem mul_bd {a b A B : Int} (h0 : 0 ≤ a) (h1 : a ≤ A) (k0 : 0 ≤ b) (k1 : b ≤ B) : 0 ≤ a * b ∧ a * b ≤ A * B :=
  ⟨Int.mul_nonneg h0 k0, Int.mul_le_mul h1 k1 k0 (by omega)⟩
theorem tdiv_n {a b : Int} (h : 0 ≤ a) : Int.tdiv a b = a / b := Int.tdiv_eq_ediv_of_nonneg h
theorem tmod_n {a b : Int} (h : 0 ≤ a) : Int.tmod a b = a % b := Int.tmod_eq_emod_of_nonneg h
theorem mn_min (a b : Int) : mn a b = min a b := by unfold mn; split <;> omega
theorem mx_max (a b : Int) : mx a b = max a b := by unfold mx; split <;> omega

def isPress (w h g : Int) : Bool := inR w 1 20000 && inR h 1 20000 && inR g 0 (h - 1)
def isTrim (w h b g : Int) : Bool := inR w 1 20000 && inR h 1 20000 && inR b 0 20000 && inR g 0 20000
theorem isPress_true {w h g : Int} (p : isPress w h g = true) : (1 ≤ w ∧ w ≤ 20000) ∧ (1 ≤ h ∧ h ≤ 20000) ∧ (0 ≤ g ∧ g ≤ h - 1) := by
  simp only [isPress, Bool.and_eq_true] at p
  exact ⟨inR_true p.1.1, inR_true p.1.2, inR_true p.2⟩
theorem isTrim_true {w h b g : Int} (p : isTrim w h b g = true) : (1 ≤ w ∧ w ≤ 20000) ∧ (1 ≤ h ∧ h ≤ 20000) ∧ (0 ≤ b ∧ b ≤ 20000) ∧ (0 ≤ g ∧ g ≤ 20000) := by
  simp only [isTrim, Bool.and_eq_true] at p
  exact ⟨inR_true p.1.1.1, inR_true p.1.1.2, inR_true p.1.2, inR_true p.2⟩
/-- How many pages fit on a side. -/
def cnt (room side b g : Int) : Int := if room - 2 * b - side < 0 then 0 else 1 + (room - 2 * b - side) / (side + g)
theorem cnt_bd {room side b g : Int} (hr : room ≤ 20000) (hs : 1 ≤ side) (hb : 0 ≤ b) (hg : 0 ≤ g) : 0 ≤ cnt room side b g ∧ cnt room side b g ≤ 20000 := by
  unfold cnt
  split
  · omega
  · have h1 : 0 ≤ (room - 2 * b - side) / (side + g) := Int.ediv_nonneg (by omega) (by omega)
    have h2 : (room - 2 * b - side) / (side + g) ≤ room - 2 * b - side := Int.ediv_le_self _ (by omega)
    omega
theorem cnt_fit {room side b g : Int} (hs : 1 ≤ side) (hg : 0 ≤ g) : max 0 (Int.tdiv (room - 2 * b + g) (side + g)) = cnt room side b g := by
  unfold cnt
  split
  · rename_i h
    by_cases h0 : 0 ≤ room - 2 * b + g
    · rw [tdiv_n h0, Int.ediv_eq_zero_of_lt h0 (by omega)]; rfl
    · have h1 : Int.tdiv (room - 2 * b + g) (side + g) = - Int.tdiv (-(room - 2 * b + g)) (side + g) := by rw [Int.neg_tdiv]; omega
      rw [h1, tdiv_n (by omega)]
      have h2 : 0 ≤ (-(room - 2 * b + g)) / (side + g) := Int.ediv_nonneg (by omega) (by omega)
      omega
  · rename_i h
    have e : room - 2 * b + g = (room - 2 * b - side) + 1 * (side + g) := by omega
    have h1 : 0 ≤ (room - 2 * b - side) / (side + g) := Int.ediv_nonneg (by omega) (by omega)
    rw [tdiv_n (by omega), e, Int.add_mul_ediv_right _ _ (by omega)]
    omega
def gridM (w h gr tw th b g : Int) : Int × Int := if cnt w tw b g = 0 ∨ cnt (h - gr) th b g = 0 then (0, 0) else (cnt w tw b g, cnt (h - gr) th b g)
def gridOf (w h gr tw th b g : Int) : Int × Int × Int :=
  if (isPress w h gr && isTrim tw th b g) = true then (if cnt w tw b g = 0 ∨ cnt (h - gr) th b g = 0 then (0, 0, 4) else (cnt w tw b g, cnt (h - gr) th b g, 0)) else (0, 0, 1)
def cornerOf (w h gr tw th b g i j : Int) : Int × Int × Int :=
  if (isPress w h gr && isTrim tw th b g) = true then
    (if (inR i 0 ((gridM w h gr tw th b g).1 - 1) && inR j 0 ((gridM w h gr tw th b g).2 - 1)) = true then (b + i * (tw + g), b + j * (th + g), 0) else (0, 0, 2)) else (0, 0, 1)
def wasteArea (w h gr tw th b g : Int) : Int × Int :=
  if (gridOf w h gr tw th b g).2.2 = 0 then (w * h - (gridOf w h gr tw th b g).1 * (gridOf w h gr tw th b g).2.1 * tw * th, 0) else (0, (gridOf w h gr tw th b g).2.2)
def turnTrim (w h b g : Int) : Int × Int × Int × Int × Int := if isTrim w h b g = true then (h, w, b, g, 0) else (0, 0, 0, 0, 1)
def leastSide (a side g b x : Int) : Int := a * side + (a - 1) * g + 2 * b + x
def leastSheet (w h b g a c gr : Int) : Int × Int × Int × Bool × Int :=
  if isTrim w h b g = true then
    (if (inR a 1 20000 && inR c 1 20000 && inR gr 0 20000) = true then
      (if leastSide a w g b 0 > 20000 ∨ leastSide c h g b gr > 20000 then (0, 0, 0, false, 3) else (leastSide a w g b 0, leastSide c h g b gr, gr, true, 0))
    else (0, 0, 0, false, 2)) else (0, 0, 0, false, 1)
theorem grid_bd {w h gr tw th b g : Int} (hp : isPress w h gr = true) (ht : isTrim tw th b g = true) : (0 ≤ cnt w tw b g ∧ cnt w tw b g ≤ 20000) ∧ (0 ≤ cnt (h - gr) th b g ∧ cnt (h - gr) th b g ≤ 20000) := by
  have h1 := isPress_true hp
  have h2 := isTrim_true ht
  exact ⟨cnt_bd (by omega) (by omega) (by omega) (by omega), cnt_bd (by omega) (by omega) (by omega) (by omega)⟩
theorem waste_wrap {w h tw th a c : Int} (hw : 0 ≤ w ∧ w ≤ 20000) (hh : 0 ≤ h ∧ h ≤ 20000) (h1 : 0 ≤ tw ∧ tw ≤ 20000) (h2 : 0 ≤ th ∧ th ≤ 20000) (ha : 0 ≤ a ∧ a ≤ 20000) (hc : 0 ≤ c ∧ c ≤ 20000) :
    wrap64 (wrap64 (w * h) - wrap64 (wrap64 (wrap64 (a * c) * tw) * th)) = w * h - a * c * tw * th := by
  have b1 := mul_bd hw.1 hw.2 hh.1 hh.2
  have b2 := mul_bd ha.1 ha.2 hc.1 hc.2
  have b3 := mul_bd b2.1 b2.2 h1.1 h1.2
  have b4 := mul_bd b3.1 b3.2 h2.1 h2.2
  rw [w64 (x := w * h) (by omega) (by omega), w64 (x := a * c) (by omega) (by omega), w64 (x := a * c * tw) (by omega) (by omega), w64 (x := a * c * tw * th) (by omega) (by omega), w64 (by omega) (by omega)]
theorem corner_wrap {b i s g n : Int} (hb : 0 ≤ b ∧ b ≤ 20000) (hs : 1 ≤ s ∧ s ≤ 20000) (hg : 0 ≤ g ∧ g ≤ 20000) (hi : inR i 0 n = true) (hn : n ≤ 20000) : wrap64 (b + wrap64 (i * wrap64 (s + g))) = b + i * (s + g) := by
  have h1 := inR_true hi
  have b1 := mul_bd (a := i) (b := s + g) (A := 20000) (B := 40000) (by omega) (by omega) (by omega) (by omega)
  rw [w64 (x := s + g) (by omega) (by omega), w64 (x := i * (s + g)) (by omega) (by omega), w64 (by omega) (by omega)]
theorem least_wrap {a s g b : Int} (ha : inR a 1 20000 = true) (hs : 1 ≤ s ∧ s ≤ 20000) (hg : 0 ≤ g ∧ g ≤ 20000) (hb : 0 ≤ b ∧ b ≤ 20000) :
    wrap64 (wrap64 (wrap64 (a * s) + wrap64 (wrap64 (a - 1) * g)) + wrap64 (2 * b)) = leastSide a s g b 0 ∧ 1 ≤ leastSide a s g b 0 ∧ leastSide a s g b 0 ≤ 900000000 := by
  have h1 := inR_true ha
  have b1 := mul_bd (a := a) (b := s) (A := 20000) (B := 20000) (by omega) (by omega) (by omega) (by omega)
  have b2 := mul_bd (a := a - 1) (b := g) (A := 20000) (B := 20000) (by omega) (by omega) (by omega) (by omega)
  have b3 : 1 ≤ a * s := by have := mul_bd (a := a - 1) (b := s) (A := 20000) (B := 20000) (by omega) (by omega) (by omega) (by omega); rw [Int.sub_mul] at this; omega
  unfold leastSide
  refine ⟨?_, by omega, by omega⟩
  rw [w64 (x := a - 1) (by omega) (by omega), w64 (x := a * s) (by omega) (by omega), w64 (x := (a - 1) * g) (by omega) (by omega), w64 (x := 2 * b) (by omega) (by omega), w64 (x := a * s + (a - 1) * g) (by omega) (by omega), w64 (by omega) (by omega)]
  omega

theorem laws_toTrim_eq (a b c d : Int) : laws_toTrim.f a b c d = some (a, b, c, d) := rfl

theorem spec_l01In_eq (a b c : Int) : spec_l01In.f a b c = some (inR a b c) := by
  unfold spec_l01In.f inR
  by_cases h : a ≥ b
  · rw [if_pos h]; simp [show b ≤ a from h]
  · rw [if_neg h]; simp [show ¬ b ≤ a from h]

theorem spec_IsTrim_eq (w h b g : Int) : spec_IsTrim.f w h b g = some (isTrim w h b g) := by
  unfold spec_IsTrim.f isTrim
  simp only [spec_l01In_eq, Option.bind_some]
  cases inR w 1 20000 <;> cases inR h 1 20000 <;> cases inR b 0 20000 <;> simp

theorem spec_IsPress_eq (w h g : Int) (r : Bool) : spec_IsPress.f w h g r = some (isPress w h g) := by
  unfold spec_IsPress.f isPress
  simp only [spec_l01In_eq, Option.bind_some]
  cases inR w 1 20000
  · simp
  cases hh : inR h 1 20000
  · simp
  have := inR_true hh
  rw [w64 (x := h - 1) (by omega) (by omega)]
  simp

theorem spec_LeastSheet_eq (k : Nat) (w h b g a c gr : Int) : spec_LeastSheet.f (k + 1) w h b g a c gr = some (leastSheet w h b g a c gr) := by
  unfold spec_LeastSheet.f leastSheet
  simp only [spec_IsTrim_eq, spec_l01In_eq, Option.bind_some]
  cases ht : isTrim w h b g
  · simp
  cases ha : inR a 1 20000
  · simp [spec_LeastSheet.j0]
  cases hc : inR c 1 20000
  · simp [spec_LeastSheet.j0]
  cases hg : inR gr 0 20000
  · simp [spec_LeastSheet.j0]
  have h2 := isTrim_true ht
  have h3 := inR_true hg
  obtain ⟨e1, l1, u1⟩ := least_wrap (s := w) (g := g) (b := b) ha (by omega) (by omega) (by omega)
  obtain ⟨e2, l2, u2⟩ := least_wrap (s := h) (g := g) (b := b) hc (by omega) (by omega) (by omega)
  have e3 : leastSide c h g b 0 + gr = leastSide c h g b gr := by unfold leastSide; omega
  simp only [if_true, Bool.and_self, Bool.not_true, spec_LeastSheet.j0, Bool.false_eq_true, if_false, e1, e2, spec_IsPress_eq, Option.bind_some]
  rw [w64 (x := leastSide c h g b 0 + gr) (by omega) (by omega), e3]
  by_cases hx : leastSide a w g b 0 > 20000 ∨ leastSide c h g b gr > 20000
  · rw [if_pos hx, if_neg]
    intro hp
    have := isPress_true hp
    omega
  · rw [if_neg hx, if_pos]
    unfold isPress
    rw [inR_mk (by omega) (by omega), inR_mk (by omega) (by omega), inR_mk (by omega) (by omega)]
    rfl

theorem impl_inRange_eq (a b c : Int) : impl_inRange.f a b c = some (inR a b c) := by
  unfold impl_inRange.f inR
  by_cases h : b ≤ a
  · rw [if_pos h]; simp [h]
  · rw [if_neg h]; simp [h]

theorem impl_IsTrim_eq (w h b g : Int) : impl_IsTrim.f w h b g = some (isTrim w h b g) := by
  unfold impl_IsTrim.f isTrim
  simp only [impl_inRange_eq, Option.bind_some]
  cases inR w 1 20000 <;> cases inR h 1 20000 <;> cases inR b 0 20000 <;> simp

theorem impl_LeastSheet_eq (k : Nat) (w h b g a c gr : Int) : impl_LeastSheet.f (k + 1) w h b g a c gr = some (leastSheet w h b g a c gr) := by
  unfold impl_LeastSheet.f leastSheet
  simp only [impl_IsTrim_eq, impl_inRange_eq, Option.bind_some]
  cases ht : isTrim w h b g
  · simp
  cases ha : inR a 1 20000
  · simp [impl_LeastSheet.j0]
  cases hc : inR c 1 20000
  · simp [impl_LeastSheet.j0]
  cases hg : inR gr 0 20000
  · simp [impl_LeastSheet.j0]
  have h2 := isTrim_true ht
  have h3 := inR_true hg
  obtain ⟨e1, l1, u1⟩ := least_wrap (s := w) (g := g) (b := b) ha (by omega) (by omega) (by omega)
  obtain ⟨e2, l2, u2⟩ := least_wrap (s := h) (g := g) (b := b) hc (by omega) (by omega) (by omega)
  have e3 : leastSide c h g b 0 + gr = leastSide c h g b gr := by unfold leastSide; omega
  simp only [if_true, Bool.and_self, Bool.not_true, impl_LeastSheet.j0, Bool.false_eq_true, if_false, e1, e2]
  rw [w64 (x := leastSide c h g b 0 + gr) (by omega) (by omega), e3]
  by_cases hx : leastSide a w g b 0 > 20000
  · rw [if_pos hx, if_pos (.inl hx)]
  · by_cases hy : leastSide c h g b gr > 20000
    · rw [if_neg hx, if_pos hy, if_pos (.inr hy)]
    · rw [if_neg hx, if_neg hy, if_neg (by omega)]

theorem laws_eqPress_self (a b c : Int) (d : Bool) : laws_eqPress.f a b c d a b c d = some true := by
  unfold laws_eqPress.f; simp

theorem FnExactLeastSheet : ∀ (a0_0 : Int) (a0_1 : Int) (a0_2 : Int) (a0_3 : Int) (a1 : Int) (a2 : Int) (a3 : Int), (Lit.int .i64 a0_0).wf = true → (Lit.int .i64 a0_1).wf = true → (Lit.int .i64 a0_2).wf = true → (Lit.int .i64 a0_3).wf = true → (Lit.int .i64 a1).wf = true → (Lit.int .i64 a2).wf = true → (Lit.int .i64 a3).wf = true → ∃ k, laws_FnExactLeastSheet.f k a0_0 a0_1 a0_2 a0_3 a1 a2 a3 = some true := by
  intro a b c d x y z _ _ _ _ _ _ _
  refine ⟨1, ?_⟩
  unfold laws_FnExactLeastSheet.f
  simp only [laws_toTrim_eq, spec_LeastSheet_eq 0, impl_LeastSheet_eq 0, laws_eqPress_self, Option.bind_some, if_true]

end Go.Proofs.Ytlmnbmenhenomaa.Pure
