/- For all arguments the law FnExactIsCatalogue returns true, with no condition beyond the bounds that the printed statement names. -/
import Derived.Test.YtlmnbmenhenomaaPFnExactIsCataloguex2
namespace Go.Proofs.Ytlmnbmenhenomaa.Pure
open Go.RowKit Go.Proofs.Ytlmnbmenhenomaa.PFnExactIsCatalogue Go.Proofs.YtlmnbmenhenomaaW.PrintWords Go.Proofs.YtlmnbmenhenomaaW.PrintLast
set_option linter.unusedVariables false
set_option linter.unusedSimpArgs false

theorem w64 {x : Int} (h1 : -9223372036854775808 ≤ x) (h2 : x ≤ 9223372036854775807) : wrap64 x = x := by
  unfold wrap64; omega
theorem wf64 {x : Int} (h : (Lit.int .i64 x).wf = true) : -9223372036854775808 ≤ x ∧ x ≤ 9223372036854775807 := by
  simp [Lit.wf, IntKind.min, IntKind.max, IntKind.signed, IntKind.bits] at h
  omega
/-- 'a lies from b to c'. -/
def inR (a b c : Int) : Bool := decide (b ≤ a ∧ a ≤ c)
theorem inR_true {a b c : Int} (h : inR a b c = true) : b ≤ a ∧ a ≤ c := by simpa [inR] using h
theorem inR_mk {a b c : Int} (h1 : b ≤ a) (h2 : a ≤ c) : inR a b c = true := by simp [inR, h1, h2]
theorem inR_false {a b c : Int} (h : inR a b c = false) : a < b ∨ c < a := by
  have : ¬ (b ≤ a ∧ a ≤ c) := by simpa [inR] using h
  omega
theorem rd_nat (xs : List Int) (i : Nat) : rd xs (i : Int) = xs.getD i 0 := by simp [rd]
theorem mul_bd {a b A B : Int} (h0 : 0 ≤ a) (h1 : a ≤ A) (k0 : 0 ≤ b) (k1 : b ≤ B) : 0 ≤ a * b ∧ a * b ≤ A * B :=
  ⟨Int.mul_nonneg h0 k0, Int.mul_le_mul h1 k1 k0 (by omega)⟩
theorem tdiv_n {a b : Int} (h : 0 ≤ a) : Int.tdiv a b = a / b := Int.tdiv_eq_ediv_of_nonneg h
theorem tmod_n {a b : Int} (h : 0 ≤ a) : Int.tmod a b = a % b := Int.tmod_eq_emod_of_nonneg h
theorem mn_min (a b : Int) : mn a b = min a b := by unfold mn; split <;> omega
theorem mx_max (a b : Int) : mx a b = max a b := by unfold mx; split <;> omega

theorem rdIKind (xs : List S82) (i : Nat) (h : i < xs.length) : rd_T82 xs (i : Int) = xs[i] := by simp [rd_T82, List.getD_eq_getElem?_getD, List.getElem?_eq_getElem h]
theorem dropIKind (xs : List S82) (i : Nat) (h : i < xs.length) : xs.drop i = xs[i] :: xs.drop (i + 1) := List.drop_eq_getElem_cons h

def isKind (w h v : Int) : Bool := (inR w 1 40 && inR h 1 40) && inR v 0 1000
def isCat (l : List S82) : Bool := inR (l.length : Int) 1 6 && l.all fun x => isKind x.f0 x.f1 x.f2

theorem laws_szKindS_eq (l : List S84) (h : l.length ≤ 9223372036854775807) : laws_szKindS.f l 1048576 = some (if (l.length : Int) > 1048576 then -1 else 1048576 - (l.length : Int)) := by
  unfold laws_szKindS.f
  rw [w64 (by omega) (by omega)]
  by_cases h1 : (l.length : Int) > 1048576
  · rw [if_pos (by omega), if_pos h1]
  · rw [if_neg (by omega), if_neg h1]

theorem spec_l01In_eq (a b c : Int) : spec_l01In.f a b c = some (inR a b c) := by
  unfold spec_l01In.f inR
  by_cases h : a ≥ b
  · rw [if_pos h]; simp [show b ≤ a from h]
  · rw [if_neg h]; simp [show ¬ b ≤ a from h]

theorem spec_l12Sheet_eq (a b : Int) : spec_l12Sheet.f a b = some (inR a 1 40 && inR b 1 40) := by
  unfold spec_l12Sheet.f
  simp only [spec_l01In_eq, Option.bind_some]
  cases inR a 1 40 <;> rfl

theorem spec_IsCatalogue_l0 (xs : List S82) (hl : xs.length ≤ 9223372036854775806) : ∀ (d k i : Nat), i + d = xs.length → d < k → spec_IsCatalogue.l0 k xs (i : Int) = some ((xs.drop i).all (fun x => isKind x.f0 x.f1 x.f2) && inR (xs.length : Int) 1 6) := by
  intro d
  induction d with
  | zero =>
    intro k i h hk
    obtain ⟨k, rfl⟩ : ∃ m, k = m + 1 := ⟨k - 1, by omega⟩
    rw [spec_IsCatalogue.l0, if_neg (by omega), List.drop_of_length_le (by omega)]
    simp only [List.all_nil, Bool.true_and, inR]
    by_cases h1 : (xs.length : Int) ≥ 1
    · rw [if_pos h1]; simp [show (1 : Int) ≤ xs.length from h1]
    · rw [if_neg h1]; simp [show ¬ (1 : Int) ≤ xs.length from h1]
  | succ d ih =>
    intro k i h hk
    obtain ⟨k, rfl⟩ : ∃ m, k = m + 1 := ⟨k - 1, by omega⟩
    have hlt : i < xs.length := by omega
    have e3 := ih k (i + 1) (by omega) (by omega)
    rw [spec_IsCatalogue.l0, if_pos (by omega), if_pos (by omega), rdIKind xs i hlt, spec_l12Sheet_eq, spec_l01In_eq, dropIKind xs i hlt, w64 (by omega) (by omega)]
    simp only [Option.bind_some, List.all_cons, isKind]
    cases hx : (inR xs[i].f0 1 40 && inR xs[i].f1 1 40)
    · simp
    · cases hy : inR xs[i].f2 0 1000
      · simp
      · simp only [if_true, Bool.true_and, Bool.and_self]
        exact e3
theorem spec_IsCatalogue_eq (xs : List S82) (k : Nat) (hl : xs.length ≤ 9223372036854775806) (hk : xs.length < k) : spec_IsCatalogue.f k xs = some (isCat xs) := by
  unfold spec_IsCatalogue.f isCat
  have := spec_IsCatalogue_l0 xs hl xs.length k 0 (by omega) hk
  rw [List.drop_zero, Bool.and_comm] at this
  exact this

theorem laws_toKind_eq (x0 : Int) (x1 : Int) (x2 : Int) : laws_toKind.f x0 x1 x2 = some (x0, x1, x2) := rfl

def convKind (l : List S84) : List S82 := l.map fun x => ⟨x.f0, x.f1, x.f2⟩
theorem convKind_len (l : List S84) : (convKind l).length = l.length := by simp [convKind]
theorem laws_toKindS_l0 (xs : List S84) (hl : xs.length ≤ 1099511627776) : ∀ (d k i : Nat) (ys : List S82), ys.length = xs.length → i + d = xs.length → (∀ j, j < i → ys[j]? = (convKind xs)[j]?) → d < k → laws_toKindS.l0 k xs ys (i : Int) = some (convKind xs) := by
  intro d
  induction d with
  | zero =>
    intro k i ys hy h hj hk
    obtain ⟨k, rfl⟩ : ∃ m, k = m + 1 := ⟨k - 1, by omega⟩
    rw [laws_toKindS.l0, if_neg (by omega)]
    congr 1
    apply List.ext_getElem?
    intro j
    by_cases h1 : j < i
    · exact hj j h1
    · rw [List.getElem?_eq_none (by omega), List.getElem?_eq_none (by rw [convKind_len]; omega)]
  | succ d ih =>
    intro k i ys hy h hj hk
    obtain ⟨k, rfl⟩ : ∃ m, k = m + 1 := ⟨k - 1, by omega⟩
    have hlt : i < xs.length := by omega
    have e2 : rd_T84 xs (i : Int) = xs[i] := by simp [rd_T84, List.getD_eq_getElem?_getD, List.getElem?_eq_getElem hlt]
    rw [laws_toKindS.l0, if_pos (by omega), if_pos (by omega), laws_toKind_eq, e2]
    simp only [Option.bind_some]
    rw [if_pos (by omega), w64 (by omega) (by omega), Int.toNat_natCast]
    refine ih k (i + 1) _ (by rw [List.length_set]; exact hy) (by omega) (fun j hjl => ?_) (by omega)
    by_cases e : j = i
    · subst e
      rw [List.getElem?_set_self (by omega)]
      simp [convKind, List.getElem?_eq_getElem hlt]
    · rw [List.getElem?_set_ne (by omega)]
      exact hj j (by omega)
theorem laws_toKindS_eq (xs : List S84) (k : Nat) (hl : xs.length ≤ 1048576) (hk : xs.length < k) : laws_toKindS.f k xs = some (convKind xs) := by
  unfold laws_toKindS.f
  rw [if_pos (by omega), if_pos (by omega)]
  exact laws_toKindS_l0 xs (by omega) xs.length k 0 _ (by simp) (by omega) (fun j hj => absurd hj (Nat.not_lt_zero _)) hk

theorem impl_inRange_eq (a b c : Int) : impl_inRange.f a b c = some (inR a b c) := by
  unfold impl_inRange.f inR
  by_cases h : b ≤ a
  · rw [if_pos h]; simp [h]
  · rw [if_neg h]; simp [h]

theorem impl_IsCatalogue_eq (l : List S82) : impl_IsCatalogue.f l = some (isCat l) := rfl

theorem laws_eqKind_self (x0 : Int) (x1 : Int) (x2 : Int) : laws_eqKind.f x0 x1 x2 x0 x1 x2 = some true := by
  unfold laws_eqKind.f; simp

theorem laws_eqKindS_l0 (xs : List S82) (hl : xs.length ≤ 9223372036854775806) : ∀ (d k i : Nat), i + d = xs.length → d < k → laws_eqKindS.l0 k xs xs (i : Int) = some true := by
  intro d
  induction d with
  | zero =>
    intro k i h hk
    obtain ⟨k, rfl⟩ : ∃ m, k = m + 1 := ⟨k - 1, by omega⟩
    rw [laws_eqKindS.l0, if_neg (by omega)]
  | succ d ih =>
    intro k i h hk
    obtain ⟨k, rfl⟩ : ∃ m, k = m + 1 := ⟨k - 1, by omega⟩
    rw [laws_eqKindS.l0, if_pos (by omega), if_pos (by omega), if_pos (by omega), laws_eqKind_self]
    simp only [Option.bind_some, if_true]
    rw [w64 (by omega) (by omega)]
    exact ih k (i + 1) (by omega) (by omega)
theorem laws_eqKindS_eq (xs : List S82) (k : Nat) (hl : xs.length ≤ 9223372036854775806) (hk : xs.length < k) : laws_eqKindS.f k xs xs = some true := by
  unfold laws_eqKindS.f
  rw [if_pos rfl]
  exact laws_eqKindS_l0 xs hl xs.length k 0 (by omega) hk

theorem FnExactIsCatalogue : ∀ (l0 : List S84), l0.length ≤ maxLen → (∀ x ∈ l0, (Lit.int .i64 x.f0).wf = true ∧ (Lit.int .i64 x.f1).wf = true ∧ (Lit.int .i64 x.f2).wf = true) → ∃ k, laws_FnExactIsCatalogue.f k l0 = some true := by
  intro l hl _
  unfold maxLen at hl
  by_cases hbig : (l.length : Int) > 1048576
  · exact ⟨1, by unfold laws_FnExactIsCatalogue.f; rw [laws_szKindS_eq l (by omega), if_pos hbig]; rfl⟩
  refine ⟨l.length + 100, ?_⟩
  have hn : ¬ (1048576 - (l.length : Int) < 0) := by omega
  have hc := convKind_len l
  simp (disch := omega) only [laws_FnExactIsCatalogue.f, laws_szKindS_eq, if_neg hbig, if_neg hn, laws_toKindS_eq, spec_IsCatalogue_eq, impl_IsCatalogue_eq, laws_eqKindS_eq, Option.bind_some, bne_self_eq_false, Bool.false_eq_true, if_false, if_true]

end Go.Proofs.Ytlmnbmenhenomaa.Pure
