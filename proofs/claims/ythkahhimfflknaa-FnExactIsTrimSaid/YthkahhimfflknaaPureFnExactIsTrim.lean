/- For all arguments the law FnExactIsTrim returns true, with no condition beyond the bounds that the printed statement names. -/
import Derived.Test.YthkahhimfflknaaPFnExactIsTrimx1
namespace Go.Proofs.Ythkahhimfflknaa.Pure
open Go.RowKit Go.Proofs.Ythkahhimfflknaa.PFnExactIsTrim Go.Proofs.YthkahhimfflknaaW.PrintWords Go.Proofs.YthkahhimfflknaaW.PrintLast
set_option linter.unusedVariables false
set_option linter.unusedSimpArgs false

theorem w64 {x : Int} (h1 : -9223372036854775808 ≤ x) (h2 : x ≤ 9223372036854775807) : wrap64 x = x := by
  unfold wrap64; omega
theorem wf64 {x : Int} (h : (Lit.int .i64 x).wf = true) : -9223372036854775808 ≤ x ∧ x ≤ 9223372036854775807 := by
  simp [Lit.wf, IntKind.min, IntKind.max, IntKind.signed, IntKind.bits] at h
  omega
/-- 'a lies from b to c'. -/
def inR (a b c : Int) : Bool := decide (b ≤ a ∧ a ≤ c)
theorem inR_true {a b c : Int} (h : inR a b c = true) : b ≤ a ∧ a ≤ c := by simpa [inR] using h
theorem inR_mk {a b c : Int} (h1 : b ≤ a) (h2 : a ≤ c) : inR a b c = true := by simp [inR, h1, h2]
theorem inR_false {a b c : Int} (h : inR a b c = false) : a < b ∨ c < a := by
  have : ¬ (b ≤ a ∧ a ≤ c) := by simpa [inR] using h
  omega
theorem rd_nat (xs : List Int) (i : Nat) : rd xs (i : Int) = xs.getD i 0 := by simp [rd]
theorem mul_bd {a b A B : Int} (h0 : 0 ≤ a) (h1 : a ≤ A) (k0 : 0 ≤ b) (k1 : b ≤ B) : 0 ≤ a * b ∧ a * b ≤ A * B :=
  ⟨Int.mul_nonneg h0 k0, Int.mul_le_mul h1 k1 k0 (by omega)⟩
theorem tdiv_n {a b : Int} (h : 0 ≤ a) : Int.tdiv a b = a / b := Int.tdiv_eq_ediv_of_nonneg h
theorem tmod_n {a b : Int} (h : 0 ≤ a) : Int.tmod a b = a % b := Int.tmod_eq_emod_of_nonneg h
theorem mn_min (a b : Int) : mn a b = min a b := by unfold mn; split <;> omega
theorem mx_max (a b : Int) : mx a b = max a b := by unfold mx; split <;> omega

def isPress (w h g : Int) : Bool := inR w 1 20000 && inR h 1 20000 && inR g 0 (h - 1)
def isTrim (w h b g : Int) : Bool := inR w 1 20000 && inR h 1 20000 && inR b 0 20000 && inR g 0 20000

theorem spec_l01In_eq (a b c : Int) : spec_l01In.f a b c = some (inR a b c) := by
  unfold spec_l01In.f inR
  by_cases h : a ≥ b
  · rw [if_pos h]; simp [show b ≤ a from h]
  · rw [if_neg h]; simp [show ¬ b ≤ a from h]

theorem spec_IsTrim_eq (w h b g : Int) : spec_IsTrim.f w h b g = some (isTrim w h b g) := by
  unfold spec_IsTrim.f isTrim
  simp only [spec_l01In_eq, Option.bind_some]
  cases inR w 1 20000 <;> cases inR h 1 20000 <;> cases inR b 0 20000 <;> simp

theorem laws_toTrim_eq (a b c d : Int) : laws_toTrim.f a b c d = some (a, b, c, d) := rfl

theorem impl_inRange_eq (a b c : Int) : impl_inRange.f a b c = some (inR a b c) := by
  unfold impl_inRange.f inR
  by_cases h : b ≤ a
  · rw [if_pos h]; simp [h]
  · rw [if_neg h]; simp [h]

theorem impl_IsTrim_eq (w h b g : Int) : impl_IsTrim.f w h b g = some (isTrim w h b g) := by
  unfold impl_IsTrim.f isTrim
  simp only [impl_inRange_eq, Option.bind_some]
  cases inR w 1 20000 <;> cases inR h 1 20000 <;> cases inR b 0 20000 <;> simp

theorem FnExactIsTrim : ∀ (a0_0 : Int) (a0_1 : Int) (a0_2 : Int) (a0_3 : Int), (Lit.int .i64 a0_0).wf = true → (Lit.int .i64 a0_1).wf = true → (Lit.int .i64 a0_2).wf = true → (Lit.int .i64 a0_3).wf = true → laws_FnExactIsTrim.f a0_0 a0_1 a0_2 a0_3 = some true := by
  intro a b c d _ _ _ _
  unfold laws_FnExactIsTrim.f
  simp only [laws_toTrim_eq, spec_IsTrim_eq, impl_IsTrim_eq, Option.bind_some, bne_self_eq_false, Bool.false_eq_true, if_false]

end Go.Proofs.Ythkahhimfflknaa.Pure
