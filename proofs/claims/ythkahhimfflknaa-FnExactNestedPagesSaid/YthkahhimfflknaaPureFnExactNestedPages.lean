/- For all arguments the law FnExactNestedPages returns true, with no condition beyond the bounds that the printed statement names. -/
import Derived.Test.YthkahhimfflknaaPFnExactNestedPagesx2
namespace Go.Proofs.Ythkahhimfflknaa.Pure
open Go.RowKit Go.Proofs.Ythkahhimfflknaa.PFnExactNestedPages Go.Proofs.YthkahhimfflknaaW.PrintWords Go.Proofs.YthkahhimfflknaaW.PrintLast
set_option linter.unusedVariables false
set_option linter.unusedSimpArgs false

theorem w64 {x : Int} (h1 : -9223372036854775808 ≤ x) (h2 : x ≤ 9223372036854775807) : wrap64 x = x := by
  unfold wrap64; omega
theorem wf64 {x : Int} (h : (Lit.int .i64 x).wf = true) : -9223372036854775808 ≤ x ∧ x ≤ 9223372036854775807 := by
  simp [Lit.wf, IntKind.min, IntKind.max, IntKind.signed, IntKind.bits] at h
  omega
/-- 'a lies from b to c'. -/
def inR (a b c : Int) : Bool := decide (b ≤ a ∧ a ≤ c)
theorem inR_true {a b c : Int} (h : inR a b c = true) : b ≤ a ∧ a ≤ c := by simpa [inR] using h
theorem inR_mk {a b c : Int} (h1 : b ≤ a) (h2 : a ≤ c) : inR a b c = true := by simp [inR, h1, h2]
theorem inR_false {a b c : Int} (h : inR a b c = false) : a < b ∨ c < a := by
  have : ¬ (b ≤ a ∧ a ≤ c) := by simpa [inR] using h
  omega
theorem rd_nat (xs : List Int) (i : Nat) : rd xs (i : Int) = xs.getD i 0 := by simp [rd]
theorem mul_bd {a b A B : Int} (h0 : 0 ≤ a) (h1 : a ≤ A) (k0 : 0 ≤ b) (k1 : b ≤ B) : 0 ≤ a * b ∧ a * b ≤ A * B :=
  ⟨Int.mul_nonneg h0 k0, Int.mul_le_mul h1 k1 k0 (by omega)⟩
theorem tdiv_n {a b : Int} (h : 0 ≤ a) : Int.tdiv a b = a / b := Int.tdiv_eq_ediv_of_nonneg h
theorem tmod_n {a b : Int} (h : 0 ≤ a) : Int.tmod a b = a % b := Int.tmod_eq_emod_of_nonneg h
theorem mn_min (a b : Int) : mn a b = min a b := by unfold mn; split <;> omega
theorem mx_max (a b : Int) : mx a b = max a b := by unfold mx; split <;> omega

def isUnit (u : Int) : Bool := u == 4 || u == 8 || u == 16 || u == 32 || u == 64 || u == 128
theorem isUnit_true {u : Int} (h : isUnit u = true) : u = 4 ∨ u = 8 ∨ u = 16 ∨ u = 32 ∨ u = 64 ∨ u = 128 := by
  simp only [isUnit, Bool.or_eq_true, beq_iff_eq] at h
  omega
def sigOf (p u g : Int) : Int × Int × Int := if (inR p 1 4096 && isUnit u && inR g 1 p) = true then ((g - 1) / u, (g - 1) % u + 1, 0) else (0, 0, 2)
def sigCount (p u : Int) : Int × Int := if (inR p 1 4096 && isUnit u) = true then ((p + u - 1) / u, 0) else (0, 2)
def four (n k : Int) : List Int := [4 * n - 2 * k, 2 * k + 1, 2 * k + 2, 4 * n - 2 * k - 1]
def nestedPages (n k : Int) : List Int × Int := if (inR n 1 64 && inR k 0 (n - 1)) = true then (four n k, 0) else ([], 2)
def sheetOf (n p : Int) : Int := (min p (4 * n + 1 - p) - 1) / 2
def placeIn (n k p : Int) : Int := if 4 * n - 2 * k = p then 0 else if 2 * k + 1 = p then 1 else if 2 * k + 2 = p then 2 else 3
def nestedPlace (n p : Int) : Int × Int × Int := if (inR n 1 64 && inR p 1 (4 * n)) = true then (sheetOf n p, placeIn n (sheetOf n p) p, 0) else (0, 0, 2)
theorem unit_bits (a : Int) (h1 : 4 ≤ a) (h2 : a ≤ 128) : ((Go.bits .and .i64 a (wrap64 (a - 1))) == 0) = isUnit a := by
  obtain ⟨n, rfl⟩ : ∃ n : Nat, a = n := ⟨a.toNat, by omega⟩
  have h : ∀ n : Nat, n < 129 → 4 ≤ n → ((Go.bits .and .i64 (n : Int) (wrap64 ((n : Int) - 1))) == 0) = isUnit n := by decide +kernel
  exact h n (by omega) (by omega)

theorem spec_l01In_eq (a b c : Int) : spec_l01In.f a b c = some (inR a b c) := by
  unfold spec_l01In.f inR
  by_cases h : a ≥ b
  · rw [if_pos h]; simp [show b ≤ a from h]
  · rw [if_neg h]; simp [show ¬ b ≤ a from h]

theorem four_wrap {n k : Int} (hn : inR n 1 64 = true) (hk : inR k 0 (n - 1) = true) : [wrap64 (wrap64 (4 * n) - wrap64 (2 * k)), wrap64 (wrap64 (2 * k) + 1), wrap64 (wrap64 (2 * k) + 2), wrap64 (wrap64 (wrap64 (4 * n) - wrap64 (2 * k)) - 1)] = four n k := by
  have h1 := inR_true hn
  have h2 := inR_true hk
  rw [w64 (x := 4 * n) (by omega) (by omega), w64 (x := 2 * k) (by omega) (by omega), w64 (x := 4 * n - 2 * k) (by omega) (by omega), w64 (x := 2 * k + 1) (by omega) (by omega), w64 (x := 2 * k + 2) (by omega) (by omega), w64 (by omega) (by omega)]
  rfl
theorem spec_l06Four_eq (n k : Int) (hn : inR n 1 64 = true) (hk : inR k 0 (n - 1) = true) : spec_l06Four.f n k = some (four n k) := by
  unfold spec_l06Four.f; rw [four_wrap hn hk]

theorem spec_NestedPages_eq (n k : Int) : spec_NestedPages.f n k = some (nestedPages n k) := by
  unfold spec_NestedPages.f nestedPages
  simp only [spec_l01In_eq, Option.bind_some]
  cases hn : inR n 1 64
  · simp
  have h1 := inR_true hn
  rw [w64 (x := n - 1) (by omega) (by omega)]
  cases hk : inR k 0 (n - 1)
  · simp
  simp only [Bool.and_self, if_true, spec_l06Four_eq n k hn hk, Option.bind_some]

theorem impl_inRange_eq (a b c : Int) : impl_inRange.f a b c = some (inR a b c) := by
  unfold impl_inRange.f inR
  by_cases h : b ≤ a
  · rw [if_pos h]; simp [h]
  · rw [if_neg h]; simp [h]

theorem impl_isNest_eq (a : Int) : impl_isNest.f a = some (inR a 1 64) := by
  unfold impl_isNest.f; rw [impl_inRange_eq]; rfl

theorem impl_nestedPages_eq (n k : Int) (hn : inR n 1 64 = true) (hk : inR k 0 (n - 1) = true) : impl_nestedPages.f n k = some (four n k) := by
  unfold impl_nestedPages.f; rw [four_wrap hn hk]

theorem impl_NestedPages_eq (n k : Int) : impl_NestedPages.f n k = some (nestedPages n k) := by
  unfold impl_NestedPages.f nestedPages
  simp only [impl_isNest_eq, impl_inRange_eq, Option.bind_some]
  cases hn : inR n 1 64
  · simp
  have h1 := inR_true hn
  rw [w64 (x := n - 1) (by omega) (by omega)]
  cases hk : inR k 0 (n - 1)
  · simp
  simp only [Bool.and_self, if_true, impl_nestedPages_eq n k hn hk, Option.bind_some]

theorem laws_eqInt64S_l0 (xs : List Int) (hl : xs.length ≤ 9223372036854775806) : ∀ (d k i : Nat), i + d = xs.length → d < k → laws_eqInt64S.l0 k xs xs (i : Int) = some true := by
  intro d
  induction d with
  | zero =>
    intro k i h hk
    obtain ⟨k, rfl⟩ : ∃ m, k = m + 1 := ⟨k - 1, by omega⟩
    rw [laws_eqInt64S.l0, if_neg (by omega)]
  | succ d ih =>
    intro k i h hk
    obtain ⟨k, rfl⟩ : ∃ m, k = m + 1 := ⟨k - 1, by omega⟩
    rw [laws_eqInt64S.l0, if_pos (by omega), if_pos (by omega), if_pos (by omega), if_pos rfl, w64 (by omega) (by omega)]
    exact ih k (i + 1) (by omega) (by omega)
theorem laws_eqInt64S_eq (xs : List Int) (k : Nat) (hl : xs.length ≤ 9223372036854775806) (hk : xs.length < k) : laws_eqInt64S.f k xs xs = some true := by
  unfold laws_eqInt64S.f
  rw [if_pos rfl]
  exact laws_eqInt64S_l0 xs hl xs.length k 0 (by omega) hk

theorem laws_markInt64S_l0 (n : Nat) (hn : n ≤ 9223372036854775806) : ∀ (d k i : Nat) (ys : List Int), ys.length = n → i + d = n → d < k →
    ∃ zs : List Int, laws_markInt64S.l0 k ys ((i : Int) + 1) (i : Int) = some ((n : Int) + 1, zs) ∧ zs.length = n ∧ (∀ j, j < i → zs.getD j 0 = ys.getD j 0) ∧ (∀ j, i ≤ j → j < n → zs.getD j 0 = (j : Int) + 1) := by
  intro d
  induction d with
  | zero =>
    intro k i ys hy h hk
    obtain ⟨k, rfl⟩ : ∃ m, k = m + 1 := ⟨k - 1, by omega⟩
    have e : i = n := by omega
    subst e
    refine ⟨ys, ?_, hy, fun _ _ => rfl, fun j h1 h2 => by omega⟩
    rw [laws_markInt64S.l0, if_neg (by omega)]
  | succ d ih =>
    intro k i ys hy h hk
    obtain ⟨k, rfl⟩ : ∃ m, k = m + 1 := ⟨k - 1, by omega⟩
    obtain ⟨zs, h1, h2, h3, h4⟩ := ih k (i + 1) (ys.set i ((i : Int) + 1)) (by simpa using hy) (by omega) (by omega)
    refine ⟨zs, ?_, h2, fun j hj => ?_, fun j hj1 hj2 => ?_⟩
    · rw [laws_markInt64S.l0, if_pos (by omega), if_pos (by omega), w64 (by omega) (by omega), w64 (by omega) (by omega), Int.toNat_natCast]
      have e : ((i + 1 : Nat) : Int) = (i : Int) + 1 := by omega
      rw [e] at h1
      exact h1
    · rw [h3 j (by omega)]
      simp only [List.getD_eq_getElem?_getD]
      rw [List.getElem?_set_ne (by omega)]
    · by_cases e : j = i
      · subst e
        rw [h3 j (by omega)]
        simp only [List.getD_eq_getElem?_getD]
        rw [List.getElem?_set_self (by omega)]
        rfl
      · exact h4 j (by omega) hj2

theorem laws_heldInt64S_l0 (n : Nat) (hn : n ≤ 9223372036854775806) (zs : List Int) (hz : zs.length = n) (hv : ∀ j, j < n → zs.getD j 0 = (j : Int) + 1) : ∀ (d k i : Nat), i + d = n → d < k →
    laws_heldInt64S.l0 k zs ((i : Int) + 1) (i : Int) = some ((n : Int) + 1) := by
  intro d
  induction d with
  | zero =>
    intro k i h hk
    obtain ⟨k, rfl⟩ : ∃ m, k = m + 1 := ⟨k - 1, by omega⟩
    have e : i = n := by omega
    subst e
    rw [laws_heldInt64S.l0, if_neg (by omega)]
  | succ d ih =>
    intro k i h hk
    obtain ⟨k, rfl⟩ : ∃ m, k = m + 1 := ⟨k - 1, by omega⟩
    have := ih k (i + 1) (by omega) (by omega)
    have e : ((i + 1 : Nat) : Int) = (i : Int) + 1 := by omega
    rw [e] at this
    rw [laws_heldInt64S.l0, if_pos (by omega), if_pos (by omega), if_pos (by rw [rd_nat, hv i (by omega)]), w64 (by omega) (by omega), w64 (by omega) (by omega)]
    exact this
/-- What was marked is held. -/
theorem marks_held (xs : List Int) (hn : xs.length ≤ 9223372036854775806) (k : Nat) (hk : xs.length < k) :
    ∃ zs : List Int, laws_markInt64S.f k xs 1 = some ((xs.length : Int) + 1, zs) ∧ zs.length = xs.length ∧ (∀ k', xs.length < k' → laws_heldInt64S.f k' zs 1 = some ((xs.length : Int) + 1)) := by
  obtain ⟨zs, h1, h2, _, h4⟩ := laws_markInt64S_l0 xs.length hn xs.length k 0 xs rfl (by omega) hk
  exact ⟨zs, h1, h2, fun k' hk' => laws_heldInt64S_l0 xs.length hn zs h2 (fun j hj => h4 j (by omega) hj) xs.length k' 0 (by omega) hk'⟩

theorem FnExactNestedPages : laws_FnExactNestedPages.Pure := by
  intro a b _ _
  have hl : (nestedPages a b).1.length ≤ 4 := by unfold nestedPages; split <;> simp [four]
  obtain ⟨zs, hm, hz, hh⟩ := marks_held (nestedPages a b).1 (by omega) 8 (by omega)
  refine ⟨9, ?_⟩
  have h0 : ¬ (((nestedPages a b).1.length : Int) + 1 < 0) := by omega
  simp (disch := omega) only [laws_FnExactNestedPages.f, laws_FnExactNestedPages.j0, laws_FnExactNestedPages.j1, spec_NestedPages_eq, impl_NestedPages_eq, laws_eqInt64S_eq, hm, hh, Option.bind_some, bne_self_eq_false, if_true, if_neg h0, Bool.false_eq_true, if_false]

end Go.Proofs.Ythkahhimfflknaa.Pure
