/- For all arguments the law FnExactThicknessRange returns true, with no condition beyond the bounds that the printed statement names. -/
import Derived.Test.YtlmnbmenhenomaaPFnExactThicknessRangex1
namespace Go.Proofs.Ytlmnbmenhenomaa.Pure
open Go.RowKit Go.Proofs.Ytlmnbmenhenomaa.PFnExactThicknessRange Go.Proofs.YtlmnbmenhenomaaW.PrintWords Go.Proofs.YtlmnbmenhenomaaW.PrintLast
set_option linter.unusedVariables false
set_option linter.unusedSimpArgs false

theorem w64 {x : Int} (h1 : -9223372036854775808 ≤ x) (h2 : x ≤ 9223372036854775807) : wrap64 x = x := by
  unfold wrap64; omega
theorem wf64 {x : Int} (h : (Lit.int .i64 x).wf = true) : -9223372036854775808 ≤ x ∧ x ≤ 9223372036854775807 := by
  simp [Lit.wf, IntKind.min, IntKind.max, IntKind.signed, IntKind.bits] at h
  omega
/-- 'a lies from b to c'. -/
def inR (a b c : Int) : Bool := decide (b ≤ a ∧ a ≤ c)
theorem inR_true {a b c : Int} (h : inR a b c = true) : b ≤ a ∧ a ≤ c := by simpa [inR] using h
theorem inR_mk {a b c : Int} (h1 : b ≤ a) (h2 : a ≤ c) : inR a b c = true := by simp [inR, h1, h2]
theorem inR_false {a b c : Int} (h : inR a b c = false) : a < b ∨ c < a := by
  have : ¬ (b ≤ a ∧ a ≤ c) := by simpa [inR] using h
  omega
theorem rd_nat (xs : List Int) (i : Nat) : rd xs (i : Int) = xs.getD i 0 := by simp [rd]
theorem mul_bd {a b A B : Int} (h0 : 0 ≤ a) (h1 : a ≤ A) (k0 : 0 ≤ b) (k1 : b ≤ B) : 0 ≤ a * b ∧ a * b ≤ A * B :=
  ⟨Int.mul_nonneg h0 k0, Int.mul_le_mul h1 k1 k0 (by omega)⟩
theorem tdiv_n {a b : Int} (h : 0 ≤ a) : Int.tdiv a b = a / b := Int.tdiv_eq_ediv_of_nonneg h
theorem tmod_n {a b : Int} (h : 0 ≤ a) : Int.tmod a b = a % b := Int.tmod_eq_emod_of_nonneg h
theorem mn_min (a b : Int) : mn a b = min a b := by unfold mn; split <;> omega
theorem mx_max (a b : Int) : mx a b = max a b := by unfold mx; split <;> omega

def creepOf (n k t : Int) : Int × Int := if (inR n 1 64 && inR k 0 (n - 1) && inR t 1 2000) = true then (k * t, 0) else (0, 2)
def trimLoss (n t : Int) : Int × Int := if (inR n 1 64 && inR t 1 2000) = true then ((n - 1) * t, 0) else (0, 2)
def mostNested (t l : Int) : Int × Int := if (inR t 1 2000 && inR l 0 1000000000) = true then (min 64 (l / t + 1), 0) else (0, 2)
def blockT (p t : Int) : Int × Int := if (inR p 1 4096 && inR t 1 2000) = true then ((p + 1) / 2 * t, 0) else (0, 2)
def spineW (p t g : Int) : Int × Int := if (inR p 1 4096 && inR t 1 2000 && inR g 0 2000) = true then (((p + 1) / 2 * t + g + 99) / 100, 0) else (0, 2)
theorem block_bd {p t : Int} (hp : inR p 1 4096 = true) (ht : inR t 1 2000 = true) : 0 ≤ (p + 1) / 2 * t ∧ (p + 1) / 2 * t ≤ 4096000 := by
  have h1 := inR_true hp
  have h2 := inR_true ht
  exact mul_bd (A := 2048) (B := 2000) (by omega) (by omega) (by omega) (by omega)
theorem block_wrap {p t : Int} (hp : inR p 1 4096 = true) (ht : inR t 1 2000 = true) : wrap64 (wrap64 (Int.tdiv (wrap64 (p + 1)) 2) * t) = (p + 1) / 2 * t := by
  have h1 := inR_true hp
  have h3 := block_bd hp ht
  rw [w64 (x := p + 1) (by omega) (by omega), tdiv_n (by omega), w64 (x := (p + 1) / 2) (by omega) (by omega), w64 (by omega) (by omega)]

/-- The least and the greatest thickness with a width, from t on, d of them; lo 0: none yet. -/
def thr (p b : Int) : Nat → Int → Int → Int → Int × Int × Int
  | 0, lo, hi, _ => if lo = 0 then (0, 0, 4) else (lo, hi, 0)
  | d + 1, lo, hi, t => if ((p + 1) / 2 * t + 99) / 100 = b then (if lo = 0 then thr p b d t t (t + 1) else thr p b d lo t (t + 1)) else thr p b d lo hi (t + 1)
def thickRange (p b : Int) : Int × Int × Int := if (inR p 1 4096 && inR b 0 1000000000) = true then thr p b 2000 0 0 1 else (0, 0, 2)

theorem spec_l01In_eq (a b c : Int) : spec_l01In.f a b c = some (inR a b c) := by
  unfold spec_l01In.f inR
  by_cases h : a ≥ b
  · rw [if_pos h]; simp [show b ≤ a from h]
  · rw [if_neg h]; simp [show ¬ b ≤ a from h]

theorem spec_l01Ceil_eq (a b : Int) (h0 : 0 ≤ a) (h1 : a ≤ 4611686018427387904) (k0 : 1 ≤ b) (k1 : b ≤ 4611686018427387903) : spec_l01Ceil.f a b = some ((a + b - 1) / b) := by
  unfold spec_l01Ceil.f
  have h3 : 0 ≤ (a + b - 1) / b := Int.ediv_nonneg (by omega) (by omega)
  have h4 : (a + b - 1) / b ≤ a + b - 1 := Int.ediv_le_self _ (by omega)
  rw [if_neg (by omega), w64 (x := a + b) (by omega) (by omega), w64 (x := a + b - 1) (by omega) (by omega), tdiv_n (by omega), w64 (by omega) (by omega)]

theorem spec_l07Block_eq (p t : Int) (hp : inR p 1 4096 = true) (ht : inR t 1 2000 = true) : spec_l07Block.f p t = some ((p + 1) / 2 * t) := by
  unfold spec_l07Block.f; rw [block_wrap hp ht]

theorem spec_ThicknessRange_l0 (p b : Int) (hp : inR p 1 4096 = true) : ∀ (d k : Nat) (lo hi t : Int), 1 ≤ t → t + d = 2001 → d < k → spec_ThicknessRange.l0 k p b lo hi t = some (thr p b d lo hi t) := by
  intro d
  induction d with
  | zero =>
    intro k lo hi t h0 h hk
    obtain ⟨k, rfl⟩ : ∃ m, k = m + 1 := ⟨k - 1, by omega⟩
    rw [spec_ThicknessRange.l0, if_neg (by omega), thr]
    split <;> rfl
  | succ d ih =>
    intro k lo hi t h0 h hk
    obtain ⟨k, rfl⟩ : ∃ m, k = m + 1 := ⟨k - 1, by omega⟩
    have ht : inR t 1 2000 = true := inR_mk (by omega) (by omega)
    have hb := block_bd hp ht
    rw [spec_ThicknessRange.l0, if_pos (by omega), spec_l07Block_eq p t hp ht]
    simp only [Option.bind_some]
    rw [spec_l01Ceil_eq _ _ (by omega) (by omega) (by omega) (by omega), w64 (x := t + 1) (by omega) (by omega), thr, show (p + 1) / 2 * t + 100 - 1 = (p + 1) / 2 * t + 99 by omega]
    simp only [Option.bind_some]
    split
    · split
      · exact ih k t t (t + 1) (by omega) (by omega) (by omega)
      · exact ih k lo t (t + 1) (by omega) (by omega) (by omega)
    · exact ih k lo hi (t + 1) (by omega) (by omega) (by omega)
theorem spec_ThicknessRange_eq (k : Nat) (p b : Int) (hk : 2002 < k) : spec_ThicknessRange.f k p b = some (thickRange p b) := by
  obtain ⟨k, rfl⟩ : ∃ m, k = m + 1 := ⟨k - 1, by omega⟩
  unfold spec_ThicknessRange.f thickRange
  simp only [spec_l01In_eq, Option.bind_some]
  cases hp : inR p 1 4096
  · simp [spec_ThicknessRange.j0]
  cases hb : inR b 0 1000000000
  · simp [spec_ThicknessRange.j0]
  simp only [if_true, Bool.and_self, Bool.not_true, spec_ThicknessRange.j0, Bool.false_eq_true, if_false]
  exact spec_ThicknessRange_l0 p b hp 2000 k 0 0 1 (by omega) (by omega) (by omega)

theorem impl_inRange_eq (a b c : Int) : impl_inRange.f a b c = some (inR a b c) := by
  unfold impl_inRange.f inR
  by_cases h : b ≤ a
  · rw [if_pos h]; simp [h]
  · rw [if_neg h]; simp [h]

theorem impl_isPages_eq (a : Int) : impl_isPages.f a = some (inR a 1 4096) := by
  unfold impl_isPages.f; rw [impl_inRange_eq]; rfl

theorem impl_isLength_eq (a : Int) : impl_isLength.f a = some (inR a 0 1000000000) := by
  unfold impl_isLength.f; rw [impl_inRange_eq]; rfl

theorem impl_isThickness_eq (a : Int) : impl_isThickness.f a = some (inR a 1 2000) := by
  unfold impl_isThickness.f; rw [impl_inRange_eq]; rfl

theorem impl_block_eq (p t : Int) (hp : inR p 1 4096 = true) (ht : inR t 1 2000 = true) : impl_block.f p t = some ((p + 1) / 2 * t) := by
  unfold impl_block.f; rw [block_wrap hp ht]

theorem impl_SpineWidth_eq (p t g : Int) : impl_SpineWidth.f p t g = some (spineW p t g) := by
  unfold impl_SpineWidth.f spineW
  simp only [impl_isPages_eq, impl_isThickness_eq, impl_inRange_eq, Option.bind_some]
  cases hp : inR p 1 4096
  · simp
  cases ht : inR t 1 2000
  · simp
  cases hg : inR g 0 2000
  · simp
  have h1 := block_bd hp ht
  have h2 := inR_true hg
  simp only [Bool.and_self, if_true, impl_block_eq p t hp ht, Option.bind_some]
  rw [w64 (x := (p + 1) / 2 * t + g) (by omega) (by omega), w64 (x := (p + 1) / 2 * t + g + 99) (by omega) (by omega), tdiv_n (by omega), w64 (by omega) (by omega)]

theorem impl_ThicknessRange_l0 (p b : Int) (hp : inR p 1 4096 = true) : ∀ (d k : Nat) (lo hi t : Int), 1 ≤ t → t + d = 2001 → d < k → impl_ThicknessRange.l0 k p b lo hi t = some (thr p b d lo hi t) := by
  intro d
  induction d with
  | zero =>
    intro k lo hi t h0 h hk
    obtain ⟨k, rfl⟩ : ∃ m, k = m + 1 := ⟨k - 1, by omega⟩
    rw [impl_ThicknessRange.l0, if_neg (by omega), thr]
    split <;> rfl
  | succ d ih =>
    intro k lo hi t h0 h hk
    obtain ⟨k, rfl⟩ : ∃ m, k = m + 1 := ⟨k - 1, by omega⟩
    have ht : inR t 1 2000 = true := inR_mk (by omega) (by omega)
    have e : spineW p t 0 = (((p + 1) / 2 * t + 99) / 100, 0) := by
      unfold spineW
      rw [hp, ht, show inR 0 0 2000 = true from rfl]
      simp
    rw [impl_ThicknessRange.l0, if_pos (by omega), impl_SpineWidth_eq, e]
    simp only [Option.bind_some]
    rw [w64 (x := t + 1) (by omega) (by omega), thr]
    split
    · split
      · exact ih k t t (t + 1) (by omega) (by omega) (by omega)
      · exact ih k lo t (t + 1) (by omega) (by omega) (by omega)
    · exact ih k lo hi (t + 1) (by omega) (by omega) (by omega)
theorem impl_ThicknessRange_eq (k : Nat) (p b : Int) (hk : 2002 < k) : impl_ThicknessRange.f k p b = some (thickRange p b) := by
  obtain ⟨k, rfl⟩ : ∃ m, k = m + 1 := ⟨k - 1, by omega⟩
  unfold impl_ThicknessRange.f thickRange
  simp only [impl_isPages_eq, impl_isLength_eq, Option.bind_some]
  cases hp : inR p 1 4096
  · simp [impl_ThicknessRange.j0]
  cases hb : inR b 0 1000000000
  · simp [impl_ThicknessRange.j0]
  simp only [if_true, Bool.and_self, Bool.not_true, impl_ThicknessRange.j0, Bool.false_eq_true, if_false]
  exact impl_ThicknessRange_l0 p b hp 2000 k 0 0 1 (by omega) (by omega) (by omega)

theorem FnExactThicknessRange : laws_FnExactThicknessRange.Pure := by
  intro a b _ _
  refine ⟨2003, ?_⟩
  unfold laws_FnExactThicknessRange.f
  simp only [spec_ThicknessRange_eq 2003 a b (by omega), impl_ThicknessRange_eq 2003 a b (by omega), Option.bind_some, if_true]

end Go.Proofs.Ytlmnbmenhenomaa.Pure
