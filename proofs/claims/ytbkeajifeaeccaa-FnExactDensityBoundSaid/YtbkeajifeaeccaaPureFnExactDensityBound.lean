/- For all arguments the law FnExactDensityBound returns true, with no condition beyond the bounds that the printed statement names. -/
import Derived.Test.YtbkeajifeaeccaaPFnExactDensityBoundx2
namespace Go.Proofs.Ytbkeajifeaeccaa.Pure
open Go.RowKit Go.Proofs.Ytbkeajifeaeccaa.PFnExactDensityBound Go.Proofs.YtbkeajifeaeccaaW.PrintWords Go.Proofs.YtbkeajifeaeccaaW.PrintLast
set_option linter.unusedVariables false
set_option linter.unusedSimpArgs false

theorem w64 {x : Int} (h1 : -9223372036854775808 ≤ x) (h2 : x ≤ 9223372036854775807) : wrap64 x = x := by
  unfold wrap64; omega
theorem wf64 {x : Int} (h : (Lit.int .i64 x).wf = true) : -9223372036854775808 ≤ x ∧ x ≤ 9223372036854775807 := by
  simp [Lit.wf, IntKind.min, IntKind.max, IntKind.signed, IntKind.bits] at h
  omega
/-- 'a lies from b to c'. -/
def inR (a b c : Int) : Bool := decide (b ≤ a ∧ a ≤ c)
theorem inR_true {a b c : Int} (h : inR a b c = true) : b ≤ a ∧ a ≤ c := by simpa [inR] using h
theorem inR_mk {a b c : Int} (h1 : b ≤ a) (h2 : a ≤ c) : inR a b c = true := by simp [inR, h1, h2]
theorem inR_false {a b c : Int} (h : inR a b c = false) : a < b ∨ c < a := by
  have : ¬ (b ≤ a ∧ a ≤ c) := by simpa [inR] using h
  omega
theorem rd_nat (xs : List Int) (i : Nat) : rd xs (i : Int) = xs.getD i 0 := by simp [rd]
theorem mul_bd {a b A B : Int} (h0 : 0 ≤ a) (h1 : a ≤ A) (k0 : 0 ≤ b) (k1 : b ≤ B) : 0 ≤ a * b ∧ a * b ≤ A * B :=
  ⟨Int.mul_nonneg h0 k0, Int.mul_le_mul h1 k1 k0 (by omega)⟩
theorem tdiv_n {a b : Int} (h : 0 ≤ a) : Int.tdiv a b = a / b := Int.tdiv_eq_ediv_of_nonneg h
theorem tmod_n {a b : Int} (h : 0 ≤ a) : Int.tmod a b = a % b := Int.tmod_eq_emod_of_nonneg h
theorem mn_min (a b : Int) : mn a b = min a b := by unfold mn; split <;> omega
theorem mx_max (a b : Int) : mx a b = max a b := by unfold mx; split <;> omega

theorem rdIKind (xs : List S98) (i : Nat) (h : i < xs.length) : rd_T98 xs (i : Int) = xs[i] := by simp [rd_T98, List.getD_eq_getElem?_getD, List.getElem?_eq_getElem h]
theorem dropIKind (xs : List S98) (i : Nat) (h : i < xs.length) : xs.drop i = xs[i] :: xs.drop (i + 1) := List.drop_eq_getElem_cons h

def isKind (w h v : Int) : Bool := (inR w 1 40 && inR h 1 40) && inR v 0 1000
def isCat (l : List S98) : Bool := inR (l.length : Int) 1 6 && l.all fun x => isKind x.f0 x.f1 x.f2

def tableCode (w h : Int) (l : List S98) : Int := if isCat l = true then (if (inR w 1 40 && inR h 1 40) = true then 0 else 2) else 1
def dens (w h : Int) (a : Int) (l : List S98) : Int := l.foldl (fun a x => mx a (wrap64 (Int.tdiv (wrap64 (wrap64 (w * h) * x.f2)) (wrap64 (x.f0 * x.f1))))) a
def densityBound (w h : Int) (l : List S98) : Int × Int := if tableCode w h l = 0 then (dens w h 0 l, 0) else (0, tableCode w h l)
theorem kind_area {l : List S98} (h : isCat l = true) (i : Nat) (hi : i < l.length) : l.length ≤ 6 ∧ wrap64 (l[i].f0 * l[i].f1) ≠ 0 := by
  simp only [isCat, Bool.and_eq_true, List.all_eq_true, isKind] at h
  have h1 := inR_true h.1
  have h2 := h.2 l[i] (List.getElem_mem hi)
  have h3 := inR_true h2.1.1
  have h4 := inR_true h2.1.2
  have h5 := mul_bd (a := l[i].f0 - 1) (b := l[i].f1) (A := 40) (B := 40) (by omega) (by omega) (by omega) (by omega)
  have h6 := mul_bd (a := l[i].f0) (b := l[i].f1) (A := 40) (B := 40) (by omega) (by omega) (by omega) (by omega)
  rw [Int.sub_mul] at h5
  refine ⟨by omega, ?_⟩
  rw [w64 (by omega) (by omega)]
  omega
theorem tableCode_cat {w h : Int} {l : List S98} (e : tableCode w h l = 0) : isCat l = true := by
  unfold tableCode at e
  cases hc : isCat l
  · simp [hc] at e
  · rfl

theorem laws_szKindS_eq (l : List S100) (h : l.length ≤ 9223372036854775807) : laws_szKindS.f l 1048576 = some (if (l.length : Int) > 1048576 then -1 else 1048576 - (l.length : Int)) := by
  unfold laws_szKindS.f
  rw [w64 (by omega) (by omega)]
  by_cases h1 : (l.length : Int) > 1048576
  · rw [if_pos (by omega), if_pos h1]
  · rw [if_neg (by omega), if_neg h1]

theorem spec_l01In_eq (a b c : Int) : spec_l01In.f a b c = some (inR a b c) := by
  unfold spec_l01In.f inR
  by_cases h : a ≥ b
  · rw [if_pos h]; simp [show b ≤ a from h]
  · rw [if_neg h]; simp [show ¬ b ≤ a from h]

theorem spec_l12Sheet_eq (a b : Int) : spec_l12Sheet.f a b = some (inR a 1 40 && inR b 1 40) := by
  unfold spec_l12Sheet.f
  simp only [spec_l01In_eq, Option.bind_some]
  cases inR a 1 40 <;> rfl

theorem spec_IsCatalogue_l0 (xs : List S98) (hl : xs.length ≤ 9223372036854775806) : ∀ (d k i : Nat), i + d = xs.length → d < k → spec_IsCatalogue.l0 k xs (i : Int) = some ((xs.drop i).all (fun x => isKind x.f0 x.f1 x.f2) && inR (xs.length : Int) 1 6) := by
  intro d
  induction d with
  | zero =>
    intro k i h hk
    obtain ⟨k, rfl⟩ : ∃ m, k = m + 1 := ⟨k - 1, by omega⟩
    rw [spec_IsCatalogue.l0, if_neg (by omega), List.drop_of_length_le (by omega)]
    simp only [List.all_nil, Bool.true_and, inR]
    by_cases h1 : (xs.length : Int) ≥ 1
    · rw [if_pos h1]; simp [show (1 : Int) ≤ xs.length from h1]
    · rw [if_neg h1]; simp [show ¬ (1 : Int) ≤ xs.length from h1]
  | succ d ih =>
    intro k i h hk
    obtain ⟨k, rfl⟩ : ∃ m, k = m + 1 := ⟨k - 1, by omega⟩
    have hlt : i < xs.length := by omega
    have e3 := ih k (i + 1) (by omega) (by omega)
    rw [spec_IsCatalogue.l0, if_pos (by omega), if_pos (by omega), rdIKind xs i hlt, spec_l12Sheet_eq, spec_l01In_eq, dropIKind xs i hlt, w64 (by omega) (by omega)]
    simp only [Option.bind_some, List.all_cons, isKind]
    cases hx : (inR xs[i].f0 1 40 && inR xs[i].f1 1 40)
    · simp
    · cases hy : inR xs[i].f2 0 1000
      · simp
      · simp only [if_true, Bool.true_and, Bool.and_self]
        exact e3
theorem spec_IsCatalogue_eq (xs : List S98) (k : Nat) (hl : xs.length ≤ 9223372036854775806) (hk : xs.length < k) : spec_IsCatalogue.f k xs = some (isCat xs) := by
  unfold spec_IsCatalogue.f isCat
  have := spec_IsCatalogue_l0 xs hl xs.length k 0 (by omega) hk
  rw [List.drop_zero, Bool.and_comm] at this
  exact this

theorem spec_l12Code_eq (w h : Int) (l : List S98) (k : Nat) (hl : l.length ≤ 9223372036854775806) (hk : l.length < k) : spec_l12Code.f k w h l = some (tableCode w h l) := by
  unfold spec_l12Code.f tableCode
  simp only [spec_IsCatalogue_eq l k hl hk, spec_l12Sheet_eq, Option.bind_some]
  cases isCat l
  · simp
  · cases (inR w 1 40 && inR h 1 40) <;> simp

theorem spec_DensityBound_l0 (w h : Int) (l : List S98) (hc : isCat l = true) (hl : l.length ≤ 9223372036854775806) : ∀ (d k i : Nat) (a : Int), i + d = l.length → d < k → spec_DensityBound.l0 k w h l a (i : Int) = some (dens w h a (l.drop i), 0) := by
  intro d
  induction d with
  | zero =>
    intro k i a h0 hk
    obtain ⟨k, rfl⟩ : ∃ m, k = m + 1 := ⟨k - 1, by omega⟩
    rw [spec_DensityBound.l0, if_neg (by omega), List.drop_of_length_le (by omega)]
    rfl
  | succ d ih =>
    intro k i a h0 hk
    obtain ⟨k, rfl⟩ : ∃ m, k = m + 1 := ⟨k - 1, by omega⟩
    have hlt : i < l.length := by omega
    rw [spec_DensityBound.l0, if_pos (by omega), if_pos (by omega), rdIKind l i hlt, dropIKind l i hlt, if_neg (kind_area hc i hlt).2, w64 (x := (i : Int) + 1) (by omega) (by omega)]
    exact ih k (i + 1) _ (by omega) (by omega)
theorem spec_DensityBound_eq (w h : Int) (l : List S98) (k : Nat) (hl : l.length ≤ 9223372036854775806) (hk : l.length < k) : spec_DensityBound.f k w h l = some (densityBound w h l) := by
  unfold spec_DensityBound.f densityBound
  simp only [spec_l12Code_eq w h l k hl hk, Option.bind_some]
  by_cases e : tableCode w h l = 0
  · rw [if_pos e, if_pos e]
    exact spec_DensityBound_l0 w h l (tableCode_cat e) hl l.length k 0 0 (by omega) (by omega)
  · rw [if_neg e, if_neg e]

theorem laws_toKind_eq (x0 : Int) (x1 : Int) (x2 : Int) : laws_toKind.f x0 x1 x2 = some (x0, x1, x2) := rfl

def convKind (l : List S100) : List S98 := l.map fun x => ⟨x.f0, x.f1, x.f2⟩
theorem convKind_len (l : List S100) : (convKind l).length = l.length := by simp [convKind]
theorem laws_toKindS_l0 (xs : List S100) (hl : xs.length ≤ 1099511627776) : ∀ (d k i : Nat) (ys : List S98), ys.length = xs.length → i + d = xs.length → (∀ j, j < i → ys[j]? = (convKind xs)[j]?) → d < k → laws_toKindS.l0 k xs ys (i : Int) = some (convKind xs) := by
  intro d
  induction d with
  | zero =>
    intro k i ys hy h hj hk
    obtain ⟨k, rfl⟩ : ∃ m, k = m + 1 := ⟨k - 1, by omega⟩
    rw [laws_toKindS.l0, if_neg (by omega)]
    congr 1
    apply List.ext_getElem?
    intro j
    by_cases h1 : j < i
    · exact hj j h1
    · rw [List.getElem?_eq_none (by omega), List.getElem?_eq_none (by rw [convKind_len]; omega)]
  | succ d ih =>
    intro k i ys hy h hj hk
    obtain ⟨k, rfl⟩ : ∃ m, k = m + 1 := ⟨k - 1, by omega⟩
    have hlt : i < xs.length := by omega
    have e2 : rd_T100 xs (i : Int) = xs[i] := by simp [rd_T100, List.getD_eq_getElem?_getD, List.getElem?_eq_getElem hlt]
    rw [laws_toKindS.l0, if_pos (by omega), if_pos (by omega), laws_toKind_eq, e2]
    simp only [Option.bind_some]
    rw [if_pos (by omega), w64 (by omega) (by omega), Int.toNat_natCast]
    refine ih k (i + 1) _ (by rw [List.length_set]; exact hy) (by omega) (fun j hjl => ?_) (by omega)
    by_cases e : j = i
    · subst e
      rw [List.getElem?_set_self (by omega)]
      simp [convKind, List.getElem?_eq_getElem hlt]
    · rw [List.getElem?_set_ne (by omega)]
      exact hj j (by omega)
theorem laws_toKindS_eq (xs : List S100) (k : Nat) (hl : xs.length ≤ 1048576) (hk : xs.length < k) : laws_toKindS.f k xs = some (convKind xs) := by
  unfold laws_toKindS.f
  rw [if_pos (by omega), if_pos (by omega)]
  exact laws_toKindS_l0 xs (by omega) xs.length k 0 _ (by simp) (by omega) (fun j hj => absurd hj (Nat.not_lt_zero _)) hk

theorem impl_inRange_eq (a b c : Int) : impl_inRange.f a b c = some (inR a b c) := by
  unfold impl_inRange.f inR
  by_cases h : b ≤ a
  · rw [if_pos h]; simp [h]
  · rw [if_neg h]; simp [h]

theorem impl_IsCatalogue_eq (l : List S98) : impl_IsCatalogue.f l = some (isCat l) := rfl

theorem impl_checkTable_eq (w h : Int) (l : List S98) : impl_checkTable.f w h l = some (tableCode w h l) := by
  unfold impl_checkTable.f tableCode
  simp only [impl_IsCatalogue_eq, impl_inRange_eq, Option.bind_some]
  cases isCat l
  · simp
  · cases inR w 1 40
    · simp
    · cases inR h 1 40 <;> simp

theorem impl_DensityBound_l0 (w h : Int) (l : List S98) (hc : isCat l = true) (hl : l.length ≤ 9223372036854775806) : ∀ (d k i : Nat) (a : Int), i + d = l.length → d < k → impl_DensityBound.l0 k w h a l (l.length : Int) (i : Int) = some (dens w h a (l.drop i), 0) := by
  intro d
  induction d with
  | zero =>
    intro k i a h0 hk
    obtain ⟨k, rfl⟩ : ∃ m, k = m + 1 := ⟨k - 1, by omega⟩
    rw [impl_DensityBound.l0, if_neg (by omega), List.drop_of_length_le (by omega)]
    rfl
  | succ d ih =>
    intro k i a h0 hk
    obtain ⟨k, rfl⟩ : ∃ m, k = m + 1 := ⟨k - 1, by omega⟩
    have hlt : i < l.length := by omega
    rw [impl_DensityBound.l0, if_pos (by omega), if_pos (by omega), if_pos (by omega), rdIKind l i hlt, dropIKind l i hlt, if_neg (kind_area hc i hlt).2, w64 (x := (i : Int) + 1) (by omega) (by omega)]
    exact ih k (i + 1) _ (by omega) (by omega)
theorem impl_DensityBound_eq (w h : Int) (l : List S98) (k : Nat) (hl : l.length ≤ 9223372036854775806) (hk : l.length < k) : impl_DensityBound.f k w h l = some (densityBound w h l) := by
  unfold impl_DensityBound.f densityBound
  simp only [impl_checkTable_eq w h l, Option.bind_some]
  by_cases e : tableCode w h l = 0
  · rw [if_pos e, if_pos e]
    exact impl_DensityBound_l0 w h l (tableCode_cat e) hl l.length k 0 0 (by omega) (by omega)
  · rw [if_neg e, if_neg e]

theorem laws_eqKind_self (x0 : Int) (x1 : Int) (x2 : Int) : laws_eqKind.f x0 x1 x2 x0 x1 x2 = some true := by
  unfold laws_eqKind.f; simp

theorem laws_eqKindS_l0 (xs : List S98) (hl : xs.length ≤ 9223372036854775806) : ∀ (d k i : Nat), i + d = xs.length → d < k → laws_eqKindS.l0 k xs xs (i : Int) = some true := by
  intro d
  induction d with
  | zero =>
    intro k i h hk
    obtain ⟨k, rfl⟩ : ∃ m, k = m + 1 := ⟨k - 1, by omega⟩
    rw [laws_eqKindS.l0, if_neg (by omega)]
  | succ d ih =>
    intro k i h hk
    obtain ⟨k, rfl⟩ : ∃ m, k = m + 1 := ⟨k - 1, by omega⟩
    rw [laws_eqKindS.l0, if_pos (by omega), if_pos (by omega), if_pos (by omega), laws_eqKind_self]
    simp only [Option.bind_some, if_true]
    rw [w64 (by omega) (by omega)]
    exact ih k (i + 1) (by omega) (by omega)
theorem laws_eqKindS_eq (xs : List S98) (k : Nat) (hl : xs.length ≤ 9223372036854775806) (hk : xs.length < k) : laws_eqKindS.f k xs xs = some true := by
  unfold laws_eqKindS.f
  rw [if_pos rfl]
  exact laws_eqKindS_l0 xs hl xs.length k 0 (by omega) hk

theorem FnExactDensityBound : ∀ (a0 : Int) (a1 : Int) (l2 : List S100), (Lit.int .i64 a0).wf = true → (Lit.int .i64 a1).wf = true → l2.length ≤ maxLen → (∀ x ∈ l2, (Lit.int .i64 x.f0).wf = true ∧ (Lit.int .i64 x.f1).wf = true ∧ (Lit.int .i64 x.f2).wf = true) → ∃ k, laws_FnExactDensityBound.f k a0 a1 l2 = some true := by
  intro a b l _ _ hl _
  unfold maxLen at hl
  by_cases hbig : (l.length : Int) > 1048576
  · exact ⟨1, by unfold laws_FnExactDensityBound.f; rw [laws_szKindS_eq l (by omega), if_pos hbig]; rfl⟩
  refine ⟨l.length + 100, ?_⟩
  have hn : ¬ (1048576 - (l.length : Int) < 0) := by omega
  have hc := convKind_len l
  simp (disch := omega) only [laws_FnExactDensityBound.f, laws_FnExactDensityBound.j0, laws_szKindS_eq, if_neg hbig, if_neg hn, laws_toKindS_eq, spec_DensityBound_eq, impl_DensityBound_eq, laws_eqKindS_eq, Option.bind_some, bne_self_eq_false, Bool.false_eq_true, if_false, if_true]

end Go.Proofs.Ytbkeajifeaeccaa.Pure
