/- For all arguments the law FnExactSignatureCount returns true, with no condition beyond the bounds that the printed statement names. -/
import Derived.Test.YthkahhimfflknaaPFnExactSignatureCountx1
namespace Go.Proofs.Ythkahhimfflknaa.Pure
open Go.RowKit Go.Proofs.Ythkahhimfflknaa.PFnExactSignatureCount Go.Proofs.YthkahhimfflknaaW.PrintWords Go.Proofs.YthkahhimfflknaaW.PrintLast
set_option linter.unusedVariables false
set_option linter.unusedSimpArgs false

theorem w64 {x : Int} (h1 : -9223372036854775808 ≤ x) (h2 : x ≤ 9223372036854775807) : wrap64 x = x := by
  unfold wrap64; omega
theorem wf64 {x : Int} (h : (Lit.int .i64 x).wf = true) : -9223372036854775808 ≤ x ∧ x ≤ 9223372036854775807 := by
  simp [Lit.wf, IntKind.min, IntKind.max, IntKind.signed, IntKind.bits] at h
  omega
/-- 'a lies from b to c'. -/
def inR (a b c : Int) : Bool := decide (b ≤ a ∧ a ≤ c)
theorem inR_true {a b c : Int} (h : inR a b c = true) : b ≤ a ∧ a ≤ c := by simpa [inR] using h
theorem inR_mk {a b c : Int} (h1 : b ≤ a) (h2 : a ≤ c) : inR a b c = true := by simp [inR, h1, h2]
theorem inR_false {a b c : Int} (h : inR a b c = false) : a < b ∨ c < a := by
  have : ¬ (b ≤ a ∧ a ≤ c) := by simpa [inR] using h
  omega
theorem rd_nat (xs : List Int) (i : Nat) : rd xs (i : Int) = xs.getD i 0 := by simp [rd]
theorem mul_bd {a b A B : Int} (h0 : 0 ≤ a) (h1 : a ≤ A) (k0 : 0 ≤ b) (k1 : b ≤ B) : 0 ≤ a * b ∧ a * b ≤ A * B :=
  ⟨Int.mul_nonneg h0 k0, Int.mul_le_mul h1 k1 k0 (by omega)⟩
theorem tdiv_n {a b : Int} (h : 0 ≤ a) : Int.tdiv a b = a / b := Int.tdiv_eq_ediv_of_nonneg h
theorem tmod_n {a b : Int} (h : 0 ≤ a) : Int.tmod a b = a % b := Int.tmod_eq_emod_of_nonneg h
theorem mn_min (a b : Int) : mn a b = min a b := by unfold mn; split <;> omega
theorem mx_max (a b : Int) : mx a b = max a b := by unfold mx; split <;> omega

def isUnit (u : Int) : Bool := u == 4 || u == 8 || u == 16 || u == 32 || u == 64 || u == 128
theorem isUnit_true {u : Int} (h : isUnit u = true) : u = 4 ∨ u = 8 ∨ u = 16 ∨ u = 32 ∨ u = 64 ∨ u = 128 := by
  simp only [isUnit, Bool.or_eq_true, beq_iff_eq] at h
  omega
def sigOf (p u g : Int) : Int × Int × Int := if (inR p 1 4096 && isUnit u && inR g 1 p) = true then ((g - 1) / u, (g - 1) % u + 1, 0) else (0, 0, 2)
def sigCount (p u : Int) : Int × Int := if (inR p 1 4096 && isUnit u) = true then ((p + u - 1) / u, 0) else (0, 2)
def four (n k : Int) : List Int := [4 * n - 2 * k, 2 * k + 1, 2 * k + 2, 4 * n - 2 * k - 1]
def nestedPages (n k : Int) : List Int × Int := if (inR n 1 64 && inR k 0 (n - 1)) = true then (four n k, 0) else ([], 2)
def sheetOf (n p : Int) : Int := (min p (4 * n + 1 - p) - 1) / 2
def placeIn (n k p : Int) : Int := if 4 * n - 2 * k = p then 0 else if 2 * k + 1 = p then 1 else if 2 * k + 2 = p then 2 else 3
def nestedPlace (n p : Int) : Int × Int × Int := if (inR n 1 64 && inR p 1 (4 * n)) = true then (sheetOf n p, placeIn n (sheetOf n p) p, 0) else (0, 0, 2)
theorem unit_bits (a : Int) (h1 : 4 ≤ a) (h2 : a ≤ 128) : ((Go.bits .and .i64 a (wrap64 (a - 1))) == 0) = isUnit a := by
  obtain ⟨n, rfl⟩ : ∃ n : Nat, a = n := ⟨a.toNat, by omega⟩
  have h : ∀ n : Nat, n < 129 → 4 ≤ n → ((Go.bits .and .i64 (n : Int) (wrap64 ((n : Int) - 1))) == 0) = isUnit n := by decide +kernel
  exact h n (by omega) (by omega)

theorem spec_l01Ceil_eq (a b : Int) (h0 : 0 ≤ a) (h1 : a ≤ 4611686018427387904) (k0 : 1 ≤ b) (k1 : b ≤ 4611686018427387903) : spec_l01Ceil.f a b = some ((a + b - 1) / b) := by
  unfold spec_l01Ceil.f
  have h3 : 0 ≤ (a + b - 1) / b := Int.ediv_nonneg (by omega) (by omega)
  have h4 : (a + b - 1) / b ≤ a + b - 1 := Int.ediv_le_self _ (by omega)
  rw [if_neg (by omega), w64 (x := a + b) (by omega) (by omega), w64 (x := a + b - 1) (by omega) (by omega), tdiv_n (by omega), w64 (by omega) (by omega)]

theorem spec_l01In_eq (a b c : Int) : spec_l01In.f a b c = some (inR a b c) := by
  unfold spec_l01In.f inR
  by_cases h : a ≥ b
  · rw [if_pos h]; simp [show b ≤ a from h]
  · rw [if_neg h]; simp [show ¬ b ≤ a from h]

theorem spec_l01Has_l0 (xs : List Int) (x : Int) (hl : xs.length ≤ 9223372036854775806) : ∀ (d k i : Nat), i + d = xs.length → d < k → spec_l01Has.l0 k xs x (i : Int) = some ((xs.drop i).contains x) := by
  intro d
  induction d with
  | zero =>
    intro k i h hk
    obtain ⟨k, rfl⟩ : ∃ m, k = m + 1 := ⟨k - 1, by omega⟩
    rw [spec_l01Has.l0, if_neg (by omega), List.drop_of_length_le (by omega)]
    rfl
  | succ d ih =>
    intro k i h hk
    obtain ⟨k, rfl⟩ : ∃ m, k = m + 1 := ⟨k - 1, by omega⟩
    have hi : i < xs.length := by omega
    have e : xs.drop i = xs[i] :: xs.drop (i + 1) := List.drop_eq_getElem_cons hi
    have e2 : xs.getD i 0 = xs[i] := by simp [List.getD_eq_getElem?_getD, List.getElem?_eq_getElem hi]
    have e3 := ih k (i + 1) (by omega) (by omega)
    rw [spec_l01Has.l0, if_pos (by omega), if_pos (by omega), rd_nat, e2, e, List.contains_cons]
    by_cases hx : xs[i] = x
    · rw [if_pos hx]; simp [hx]
    · rw [if_neg hx, w64 (by omega) (by omega)]
      have e4 : (x == xs[i]) = false := beq_eq_false_iff_ne.mpr (fun h => hx h.symm)
      rw [e4, Bool.false_or]
      exact e3
theorem spec_l01Has_eq (xs : List Int) (x : Int) (k : Nat) (hl : xs.length ≤ 9223372036854775806) (hk : xs.length < k) : spec_l01Has.f k xs x = some (xs.contains x) := by
  unfold spec_l01Has.f
  exact spec_l01Has_l0 xs x hl xs.length k 0 (by omega) hk

theorem spec_IsUnit_eq (k : Nat) (a : Int) (hk : 6 < k) : spec_IsUnit.f k a = some (isUnit a) := by
  unfold spec_IsUnit.f
  rw [spec_l01Has_eq _ _ _ (by show (6 : Nat) ≤ 9223372036854775806; omega) (by show (6 : Nat) < k; omega)]
  simp only [Option.bind_some, isUnit, List.contains_cons, List.contains_nil, Bool.or_false, Bool.or_assoc]

theorem spec_l06Fits_eq (k : Nat) (p u : Int) (hk : 6 < k) : spec_l06Fits.f k p u = some (inR p 1 4096 && isUnit u) := by
  unfold spec_l06Fits.f
  simp only [spec_l01In_eq, spec_IsUnit_eq k u hk, Option.bind_some]
  cases inR p 1 4096 <;> rfl

theorem spec_SignatureCount_eq (k : Nat) (p u : Int) (hk : 6 < k) : spec_SignatureCount.f k p u = some (sigCount p u) := by
  unfold spec_SignatureCount.f sigCount
  simp only [spec_l06Fits_eq k p u hk, Option.bind_some]
  cases hp : inR p 1 4096
  · simp
  cases hu : isUnit u
  · simp
  have h1 := inR_true hp
  have h2 := isUnit_true hu
  simp only [Bool.and_self, if_true]
  rw [spec_l01Ceil_eq p u (by omega) (by omega) (by omega) (by omega)]
  rfl

theorem impl_inRange_eq (a b c : Int) : impl_inRange.f a b c = some (inR a b c) := by
  unfold impl_inRange.f inR
  by_cases h : b ≤ a
  · rw [if_pos h]; simp [h]
  · rw [if_neg h]; simp [h]

theorem impl_isPages_eq (a : Int) : impl_isPages.f a = some (inR a 1 4096) := by
  unfold impl_isPages.f; rw [impl_inRange_eq]; rfl

theorem impl_IsUnit_eq (a : Int) : impl_IsUnit.f a = some (isUnit a) := by
  unfold impl_IsUnit.f
  simp only [impl_inRange_eq, Option.bind_some]
  cases h : inR a 4 128
  · have := inR_false h
    have h2 : isUnit a = false := by
      cases h3 : isUnit a
      · rfl
      · have := isUnit_true h3; omega
    simp [h2]
  · have := inR_true h
    simp only [if_true]
    rw [unit_bits a (by omega) (by omega)]

theorem impl_padded_eq (p u : Int) (hp : inR p 1 4096 = true) (hu : isUnit u = true) : impl_padded.f p u = some ((p + u - 1) / u * u) := by
  have h1 := inR_true hp
  have h2 := isUnit_true hu
  unfold impl_padded.f
  rw [if_neg (by omega), w64 (x := p + u) (by omega) (by omega), w64 (x := p + u - 1) (by omega) (by omega), tdiv_n (by omega)]
  have h3 : 0 ≤ (p + u - 1) / u ∧ (p + u - 1) / u ≤ 4224 ∧ (p + u - 1) / u * u ≤ 4224 ∧ 0 ≤ (p + u - 1) / u * u := by
    rcases h2 with rfl | rfl | rfl | rfl | rfl | rfl <;> omega
  rw [w64 (x := (p + u - 1) / u) (by omega) (by omega), w64 (by omega) (by omega)]

theorem impl_SignatureCount_eq (p u : Int) : impl_SignatureCount.f p u = some (sigCount p u) := by
  unfold impl_SignatureCount.f sigCount
  simp only [impl_isPages_eq, impl_IsUnit_eq, Option.bind_some]
  cases hp : inR p 1 4096
  · simp
  cases hu : isUnit u
  · simp
  have h1 := inR_true hp
  have h2 := isUnit_true hu
  simp only [Bool.and_self, if_true]
  rw [impl_padded_eq p u hp hu]
  simp only [Option.bind_some]
  rw [if_neg (by omega)]
  rcases h2 with rfl | rfl | rfl | rfl | rfl | rfl <;> rw [tdiv_n (by omega), Int.mul_ediv_cancel _ (by omega), w64 (by omega) (by omega)]

theorem FnExactSignatureCount : laws_FnExactSignatureCount.Pure := by
  intro a b _ _
  refine ⟨7, ?_⟩
  unfold laws_FnExactSignatureCount.f
  simp only [spec_SignatureCount_eq 7 a b (by omega), impl_SignatureCount_eq, Option.bind_some, if_true]

end Go.Proofs.Ythkahhimfflknaa.Pure
