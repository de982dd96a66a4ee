/- For all arguments the law FnExactNestedPlace returns true, with no condition beyond the bounds that the printed statement names. -/
import Derived.Test.YthkahhimfflknaaPFnExactNestedPlacex1
namespace Go.Proofs.Ythkahhimfflknaa.Pure
open Go.RowKit Go.Proofs.Ythkahhimfflknaa.PFnExactNestedPlace Go.Proofs.YthkahhimfflknaaW.PrintWords Go.Proofs.YthkahhimfflknaaW.PrintLast
set_option linter.unusedVariables false
set_option linter.unusedSimpArgs false

theorem w64 {x : Int} (h1 : -9223372036854775808 ≤ x) (h2 : x ≤ 9223372036854775807) : wrap64 x = x := by
  unfold wrap64; omega
theorem wf64 {x : Int} (h : (Lit.int .i64 x).wf = true) : -9223372036854775808 ≤ x ∧ x ≤ 9223372036854775807 := by
  simp [Lit.wf, IntKind.min, IntKind.max, IntKind.signed, IntKind.bits] at h
  omega
/-- 'a lies from b to c'. -/
def inR (a b c : Int) : Bool := decide (b ≤ a ∧ a ≤ c)
theorem inR_true {a b c : Int} (h : inR a b c = true) : b ≤ a ∧ a ≤ c := by simpa [inR] using h
theorem inR_mk {a b c : Int} (h1 : b ≤ a) (h2 : a ≤ c) : inR a b c = true := by simp [inR, h1, h2]
theorem inR_false {a b c : Int} (h : inR a b c = false) : a < b ∨ c < a := by
  have : ¬ (b ≤ a ∧ a ≤ c) := by simpa [inR] using h
  omega
theorem rd_nat (xs : List Int) (i : Nat) : rd xs (i : Int) = xs.getD i 0 := by simp [rd]
theorem mul_bd {a b A B : Int} (h0 : 0 ≤ a) (h1 : a ≤ A) (k0 : 0 ≤ b) (k1 : b ≤ B) : 0 ≤ a * b ∧ a * b ≤ A * B :=
  ⟨Int.mul_nonneg h0 k0, Int.mul_le_mul h1 k1 k0 (by omega)⟩
theorem tdiv_n {a b : Int} (h : 0 ≤ a) : Int.tdiv a b = a / b := Int.tdiv_eq_ediv_of_nonneg h
theorem tmod_n {a b : Int} (h : 0 ≤ a) : Int.tmod a b = a % b := Int.tmod_eq_emod_of_nonneg h
theorem mn_min (a b : Int) : mn a b = min a b := by unfold mn; split <;> omega
theorem mx_max (a b : Int) : mx a b = max a b := by unfold mx; split <;> omega

def isUnit (u : Int) : Bool := u == 4 || u == 8 || u == 16 || u == 32 || u == 64 || u == 128
theorem isUnit_true {u : Int} (h : isUnit u = true) : u = 4 ∨ u = 8 ∨ u = 16 ∨ u = 32 ∨ u = 64 ∨ u = 128 := by
  simp only [isUnit, Bool.or_eq_true, beq_iff_eq] at h
  omega
def sigOf (p u g : Int) : Int × Int × Int := if (inR p 1 4096 && isUnit u && inR g 1 p) = true then ((g - 1) / u, (g - 1) % u + 1, 0) else (0, 0, 2)
def sigCount (p u : Int) : Int × Int := if (inR p 1 4096 && isUnit u) = true then ((p + u - 1) / u, 0) else (0, 2)
def four (n k : Int) : List Int := [4 * n - 2 * k, 2 * k + 1, 2 * k + 2, 4 * n - 2 * k - 1]
def nestedPages (n k : Int) : List Int × Int := if (inR n 1 64 && inR k 0 (n - 1)) = true then (four n k, 0) else ([], 2)
def sheetOf (n p : Int) : Int := (min p (4 * n + 1 - p) - 1) / 2
def placeIn (n k p : Int) : Int := if 4 * n - 2 * k = p then 0 else if 2 * k + 1 = p then 1 else if 2 * k + 2 = p then 2 else 3
def nestedPlace (n p : Int) : Int × Int × Int := if (inR n 1 64 && inR p 1 (4 * n)) = true then (sheetOf n p, placeIn n (sheetOf n p) p, 0) else (0, 0, 2)
theorem unit_bits (a : Int) (h1 : 4 ≤ a) (h2 : a ≤ 128) : ((Go.bits .and .i64 a (wrap64 (a - 1))) == 0) = isUnit a := by
  obtain ⟨n, rfl⟩ : ∃ n : Nat, a = n := ⟨a.toNat, by omega⟩
  have h : ∀ n : Nat, n < 129 → 4 ≤ n → ((Go.bits .and .i64 (n : Int) (wrap64 ((n : Int) - 1))) == 0) = isUnit n := by decide +kernel
  exact h n (by omega) (by omega)

/-- The place of the first x in a list, counted from i on, or -1. -/
def idxFrom : List Int → Int → Nat → Int
  | [], _, _ => -1
  | y :: ys, x, i => if x = y then (i : Int) else idxFrom ys x (i + 1)

theorem sheet_bd {n p : Int} (hn : inR n 1 64 = true) (hp : inR p 1 (4 * n) = true) : 0 ≤ sheetOf n p ∧ sheetOf n p ≤ n - 1 ∧
    (4 * n - 2 * sheetOf n p = p ∨ 2 * sheetOf n p + 1 = p ∨ 2 * sheetOf n p + 2 = p ∨ 4 * n - 2 * sheetOf n p - 1 = p) ∧
    ∀ s, 0 ≤ s → s < sheetOf n p → 4 * n - 2 * s ≠ p ∧ 2 * s + 1 ≠ p ∧ 2 * s + 2 ≠ p ∧ 4 * n - 2 * s - 1 ≠ p := by
  have h1 := inR_true hn
  have h2 := inR_true hp
  unfold sheetOf
  refine ⟨by omega, by omega, by omega, fun s h3 h4 => ?_⟩
  omega

theorem spec_l01In_eq (a b c : Int) : spec_l01In.f a b c = some (inR a b c) := by
  unfold spec_l01In.f inR
  by_cases h : a ≥ b
  · rw [if_pos h]; simp [show b ≤ a from h]
  · rw [if_neg h]; simp [show ¬ b ≤ a from h]

theorem four_wrap {n k : Int} (hn : inR n 1 64 = true) (hk : inR k 0 (n - 1) = true) : [wrap64 (wrap64 (4 * n) - wrap64 (2 * k)), wrap64 (wrap64 (2 * k) + 1), wrap64 (wrap64 (2 * k) + 2), wrap64 (wrap64 (wrap64 (4 * n) - wrap64 (2 * k)) - 1)] = four n k := by
  have h1 := inR_true hn
  have h2 := inR_true hk
  rw [w64 (x := 4 * n) (by omega) (by omega), w64 (x := 2 * k) (by omega) (by omega), w64 (x := 4 * n - 2 * k) (by omega) (by omega), w64 (x := 2 * k + 1) (by omega) (by omega), w64 (x := 2 * k + 2) (by omega) (by omega), w64 (by omega) (by omega)]
  rfl
theorem spec_l06Four_eq (n k : Int) (hn : inR n 1 64 = true) (hk : inR k 0 (n - 1) = true) : spec_l06Four.f n k = some (four n k) := by
  unfold spec_l06Four.f; rw [four_wrap hn hk]

theorem spec_NestedPlace_l1 (k : Nat) (n p s : Int) : spec_NestedPlace.l1 (k + 5) n p s (four n s) 0 =
    if 4 * n - 2 * s = p then some (s, 0, 0) else if 2 * s + 1 = p then some (s, 1, 0) else if 2 * s + 2 = p then some (s, 2, 0) else if 4 * n - 2 * s - 1 = p then some (s, 3, 0) else spec_NestedPlace.l0 k n p (wrap64 (s + 1)) := by
  have w1 : wrap64 (0 + 1) = 1 := by unfold wrap64; omega
  have w2 : wrap64 (1 + 1) = 2 := by unfold wrap64; omega
  have w3 : wrap64 (2 + 1) = 3 := by unfold wrap64; omega
  have w4 : wrap64 (3 + 1) = 4 := by unfold wrap64; omega
  have r0 : rd (four n s) 0 = 4 * n - 2 * s := rfl
  have r1 : rd (four n s) 1 = 2 * s + 1 := rfl
  have r2 : rd (four n s) 2 = 2 * s + 2 := rfl
  have r3 : rd (four n s) 3 = 4 * n - 2 * s - 1 := rfl
  have hl : ((four n s).length : Int) = 4 := rfl
  have step : ∀ (k : Nat) (j : Int), 0 ≤ j → j < 4 → spec_NestedPlace.l1 (k + 1) n p s (four n s) j = if rd (four n s) j = p then some (s, j, 0) else spec_NestedPlace.l1 k n p s (four n s) (wrap64 (j + 1)) := by
    intro k j h0 h1
    rw [spec_NestedPlace.l1, if_pos h1, if_pos h0, if_pos (by omega)]
  rw [step _ 0 (by omega) (by omega), r0, w1, step _ 1 (by omega) (by omega), r1, w2, step _ 2 (by omega) (by omega), r2, w3, step _ 3 (by omega) (by omega), r3, w4]
  have last : spec_NestedPlace.l1 (k + 1) n p s (four n s) 4 = spec_NestedPlace.l0 k n p (wrap64 (s + 1)) := by
    rw [spec_NestedPlace.l1, if_neg (by omega)]
  rw [last]
theorem spec_NestedPlace_l0 (n p : Int) (hn : inR n 1 64 = true) (hp : inR p 1 (4 * n) = true) : ∀ (d k : Nat) (i : Int), 0 ≤ i → i + d = sheetOf n p → 6 * d + 7 ≤ k → spec_NestedPlace.l0 k n p i = some (sheetOf n p, placeIn n (sheetOf n p) p, 0) := by
  have h1 := inR_true hn
  obtain ⟨b0, b1, b2, b3⟩ := sheet_bd hn hp
  intro d
  induction d with
  | zero =>
    intro k i h0 h hk
    obtain ⟨k, rfl⟩ : ∃ m, k = m + 5 + 1 := ⟨k - 6, by omega⟩
    have e : i = sheetOf n p := by omega
    subst e
    rw [spec_NestedPlace.l0, if_pos (by omega), spec_l06Four_eq n _ hn (inR_mk b0 b1)]
    simp only [Option.bind_some, spec_NestedPlace_l1, placeIn]
    repeat' split
    all_goals first | rfl | (exfalso; omega)
  | succ d ih =>
    intro k i h0 h hk
    obtain ⟨k, rfl⟩ : ∃ m, k = m + 5 + 1 := ⟨k - 6, by omega⟩
    obtain ⟨c1, c2, c3, c4⟩ := b3 i h0 (by omega)
    rw [spec_NestedPlace.l0, if_pos (by omega), spec_l06Four_eq n _ hn (inR_mk h0 (by omega))]
    simp only [Option.bind_some, spec_NestedPlace_l1]
    rw [if_neg c1, if_neg c2, if_neg c3, if_neg c4, w64 (by omega) (by omega)]
    exact ih k (i + 1) (by omega) (by omega) (by omega)
theorem spec_NestedPlace_eq (k : Nat) (n p : Int) (hk : 400 < k) : spec_NestedPlace.f k n p = some (nestedPlace n p) := by
  obtain ⟨k, rfl⟩ : ∃ m, k = m + 1 := ⟨k - 1, by omega⟩
  unfold spec_NestedPlace.f nestedPlace
  simp only [spec_l01In_eq, Option.bind_some]
  cases hn : inR n 1 64
  · simp [spec_NestedPlace.j0]
  have h1 := inR_true hn
  rw [w64 (x := 4 * n) (by omega) (by omega)]
  cases hp : inR p 1 (4 * n)
  · simp [spec_NestedPlace.j0]
  obtain ⟨b0, b1, b2, b3⟩ := sheet_bd hn hp
  simp only [if_true, Bool.not_true, spec_NestedPlace.j0, Bool.false_eq_true, if_false, Bool.and_self]
  exact spec_NestedPlace_l0 n p hn hp (sheetOf n p).toNat k 0 (by omega) (by omega) (by omega)

theorem impl_inRange_eq (a b c : Int) : impl_inRange.f a b c = some (inR a b c) := by
  unfold impl_inRange.f inR
  by_cases h : b ≤ a
  · rw [if_pos h]; simp [h]
  · rw [if_neg h]; simp [h]

theorem impl_isNest_eq (a : Int) : impl_isNest.f a = some (inR a 1 64) := by
  unfold impl_isNest.f; rw [impl_inRange_eq]; rfl

theorem slices_Index_int64_int64_l0 (xs : List Int) (x : Int) (hl : xs.length ≤ 9223372036854775806) : ∀ (d k i : Nat), i + d = xs.length → d < k → slices_Index_int64_int64.l0 k xs x (xs.length : Int) (i : Int) = some (idxFrom (xs.drop i) x i) := by
  intro d
  induction d with
  | zero =>
    intro k i h hk
    obtain ⟨k, rfl⟩ : ∃ m, k = m + 1 := ⟨k - 1, by omega⟩
    rw [slices_Index_int64_int64.l0, if_neg (by omega), List.drop_of_length_le (by omega)]
    rfl
  | succ d ih =>
    intro k i h hk
    obtain ⟨k, rfl⟩ : ∃ m, k = m + 1 := ⟨k - 1, by omega⟩
    have hi : i < xs.length := by omega
    have e : xs.drop i = xs[i] :: xs.drop (i + 1) := List.drop_eq_getElem_cons hi
    have e2 : xs.getD i 0 = xs[i] := by simp [List.getD_eq_getElem?_getD, List.getElem?_eq_getElem hi]
    have e3 := ih k (i + 1) (by omega) (by omega)
    rw [slices_Index_int64_int64.l0, if_pos (by omega), if_pos (by omega), if_pos (by omega), rd_nat, e2, e, idxFrom]
    by_cases hx : x = xs[i]
    · rw [if_pos hx, if_pos hx]
    · rw [if_neg hx, if_neg hx, w64 (by omega) (by omega)]
      exact e3
theorem slices_Index_int64_int64_eq (xs : List Int) (x : Int) (k : Nat) (hl : xs.length ≤ 9223372036854775806) (hk : xs.length < k) : slices_Index_int64_int64.f k xs x = some (idxFrom xs x 0) := by
  unfold slices_Index_int64_int64.f
  exact slices_Index_int64_int64_l0 xs x hl xs.length k 0 (by omega) hk

theorem impl_nestedPages_eq (n k : Int) (hn : inR n 1 64 = true) (hk : inR k 0 (n - 1) = true) : impl_nestedPages.f n k = some (four n k) := by
  unfold impl_nestedPages.f; rw [four_wrap hn hk]

theorem impl_NestedPlace_eq (k : Nat) (n p : Int) (hk : 6 < k) : impl_NestedPlace.f k n p = some (nestedPlace n p) := by
  obtain ⟨k, rfl⟩ : ∃ m, k = m + 1 := ⟨k - 1, by omega⟩
  unfold impl_NestedPlace.f nestedPlace
  simp only [impl_isNest_eq, impl_inRange_eq, Option.bind_some]
  cases hn : inR n 1 64
  · simp [impl_NestedPlace.j0]
  have h1 := inR_true hn
  rw [w64 (x := 4 * n) (by omega) (by omega)]
  cases hp : inR p 1 (4 * n)
  · simp [impl_NestedPlace.j0]
  have h2 := inR_true hp
  obtain ⟨b0, b1, b2, _⟩ := sheet_bd hn hp
  have hk2 : inR (sheetOf n p) 0 (n - 1) = true := inR_mk b0 b1
  have e : wrap64 (Int.tdiv (wrap64 (mn p (wrap64 (wrap64 (wrap64 (4 * n) + 1) - p)) - 1)) 2) = sheetOf n p := by
    unfold sheetOf
    rw [w64 (x := 4 * n) (by omega) (by omega), w64 (x := 4 * n + 1) (by omega) (by omega), w64 (x := 4 * n + 1 - p) (by omega) (by omega), mn_min, w64 (x := min p (4 * n + 1 - p) - 1) (by omega) (by omega), tdiv_n (by omega), w64 (by omega) (by omega)]
  simp only [if_true, Bool.not_true, impl_NestedPlace.j0, Bool.false_eq_true, if_false, Bool.and_self, e, impl_nestedPages_eq n _ hn hk2, Option.bind_some]
  rw [slices_Index_int64_int64_eq _ _ _ (by show (4 : Nat) ≤ 9223372036854775806; omega) (by show (4 : Nat) < k; omega)]
  simp only [Option.bind_some, four, idxFrom, placeIn]
  have e2 : idxFrom [4 * n - 2 * sheetOf n p, 2 * sheetOf n p + 1, 2 * sheetOf n p + 2, 4 * n - 2 * sheetOf n p - 1] p 0 = placeIn n (sheetOf n p) p := by
    simp only [idxFrom, placeIn]
    repeat' split
    all_goals first | rfl | (exfalso; omega)
  simp only [idxFrom, placeIn] at e2
  rw [e2]

theorem FnExactNestedPlace : laws_FnExactNestedPlace.Pure := by
  intro a b _ _
  refine ⟨401, ?_⟩
  unfold laws_FnExactNestedPlace.f
  simp only [spec_NestedPlace_eq 401 a b (by omega), impl_NestedPlace_eq 401 a b (by omega), Option.bind_some, if_true]

end Go.Proofs.Ythkahhimfflknaa.Pure
