/- For all arguments the law FnExactMarginsFor returns true, with no condition beyond the bounds that the printed statement names. -/
import Derived.Test.YtlmnbmenhenomaaPFnExactMarginsForx2
namespace Go.Proofs.Ytlmnbmenhenomaa.Pure
open Go.RowKit Go.Proofs.Ytlmnbmenhenomaa.PFnExactMarginsFor Go.Proofs.YtlmnbmenhenomaaW.PrintWords Go.Proofs.YtlmnbmenhenomaaW.PrintLast
set_option linter.unusedVariables false
set_option linter.unusedSimpArgs false

theorem w64 {x : Int} (h1 : -9223372036854775808 ≤ x) (h2 : x ≤ 9223372036854775807) : wrap64 x = x := by
  unfold wrap64; omega
theorem wf64 {x : Int} (h : (Lit.int .i64 x).wf = true) : -9223372036854775808 ≤ x ∧ x ≤ 9223372036854775807 := by
  simp [Lit.wf, IntKind.min, IntKind.max, IntKind.signed, IntKind.bits] at h
  omega
/-- 'a lies from b to c'. -/
def inR (a b c : Int) : Bool := decide (b ≤ a ∧ a ≤ c)
theorem inR_true {a b c : Int} (h : inR a b c = true) : b ≤ a ∧ a ≤ c := by simpa [inR] using h
theorem inR_mk {a b c : Int} (h1 : b ≤ a) (h2 : a ≤ c) : inR a b c = true := by simp [inR, h1, h2]
theorem inR_false {a b c : Int} (h : inR a b c = false) : a < b ∨ c < a := by
  have : ¬ (b ≤ a ∧ a ≤ c) := by simpa [inR] using h
  omega
theorem rd_nat (xs : List Int) (i : Nat) : rd xs (i : Int) = xs.getD i 0 := by simp [rd]
theorem mul_bd {a b A B : Int} (h0 : 0 ≤ a) (h1 : a ≤ A) (k0 : 0 ≤ b) (k1 : b ≤ B) : 0 ≤ a * b ∧ a * b ≤ A * B :=
  ⟨Int.mul_nonneg h0 k0, Int.mul_le_mul h1 k1 k0 (by omega)⟩
theorem tdiv_n {a b : Int} (h : 0 ≤ a) : Int.tdiv a b = a / b := Int.tdiv_eq_ediv_of_nonneg h
theorem tmod_n {a b : Int} (h : 0 ≤ a) : Int.tmod a b = a % b := Int.tmod_eq_emod_of_nonneg h
theorem mn_min (a b : Int) : mn a b = min a b := by unfold mn; split <;> omega
theorem mx_max (a b : Int) : mx a b = max a b := by unfold mx; split <;> omega

def creepOf (n k t : Int) : Int × Int := if (inR n 1 64 && inR k 0 (n - 1) && inR t 1 2000) = true then (k * t, 0) else (0, 2)
def trimLoss (n t : Int) : Int × Int := if (inR n 1 64 && inR t 1 2000) = true then ((n - 1) * t, 0) else (0, 2)
def mostNested (t l : Int) : Int × Int := if (inR t 1 2000 && inR l 0 1000000000) = true then (min 64 (l / t + 1), 0) else (0, 2)
def blockT (p t : Int) : Int × Int := if (inR p 1 4096 && inR t 1 2000) = true then ((p + 1) / 2 * t, 0) else (0, 2)
def spineW (p t g : Int) : Int × Int := if (inR p 1 4096 && inR t 1 2000 && inR g 0 2000) = true then (((p + 1) / 2 * t + g + 99) / 100, 0) else (0, 2)
theorem block_bd {p t : Int} (hp : inR p 1 4096 = true) (ht : inR t 1 2000 = true) : 0 ≤ (p + 1) / 2 * t ∧ (p + 1) / 2 * t ≤ 4096000 := by
  have h1 := inR_true hp
  have h2 := inR_true ht
  exact mul_bd (A := 2048) (B := 2000) (by omega) (by omega) (by omega) (by omega)
theorem block_wrap {p t : Int} (hp : inR p 1 4096 = true) (ht : inR t 1 2000 = true) : wrap64 (wrap64 (Int.tdiv (wrap64 (p + 1)) 2) * t) = (p + 1) / 2 * t := by
  have h1 := inR_true hp
  have h3 := block_bd hp ht
  rw [w64 (x := p + 1) (by omega) (by omega), tdiv_n (by omega), w64 (x := (p + 1) / 2) (by omega) (by omega), w64 (by omega) (by omega)]

def creep1 (k t : Int) : Int := (k * t + 50) / 100
def creeps (n : Nat) (t : Int) : List Int := (List.range n).map fun j : Nat => creep1 (j : Int) t
theorem creeps_succ (n : Nat) (t : Int) : creeps (n + 1) t = creeps n t ++ [creep1 (n : Int) t] := by simp [creeps, List.range_succ]
theorem creeps_len (n : Nat) (t : Int) : (creeps n t).length = n := by simp [creeps]
def creepTenths (n t : Int) : List Int × Int := if (inR n 1 64 && inR t 1 2000) = true then (creeps n.toNat t, 0) else ([], 2)
theorem creep1_bd {k t : Int} (h0 : 0 ≤ k) (h1 : k ≤ 64) (ht : inR t 1 2000 = true) : 0 ≤ k * t ∧ k * t ≤ 128000 ∧ 0 ≤ creep1 k t ∧ creep1 k t ≤ 1281 := by
  have h2 := inR_true ht
  have b1 := mul_bd (a := k) (b := t) (A := 64) (B := 2000) (by omega) (by omega) (by omega) (by omega)
  unfold creep1
  omega
/-- The margins from sheet i on, d of them, behind those that are there. -/
def marg (m t : Int) : Nat → Int → List Int → List Int × Int
  | 0, _, l => (l, 0)
  | d + 1, i, l => if m - creep1 i t < 0 then ([], 5) else marg m t d (i + 1) (l ++ [m - creep1 i t])
def marginsFor (n t m : Int) : List Int × Int := if (inR n 1 64 && inR t 1 2000 && inR m 0 1000000000) = true then marg m t n.toNat 0 [] else ([], 2)
theorem marg_len (m t : Int) : ∀ (d : Nat) (i : Int) (l : List Int), (marg m t d i l).1.length ≤ l.length + d := by
  intro d
  induction d with
  | zero => intro i l; simp [marg]
  | succ d ih =>
    intro i l
    rw [marg]
    split
    · simp
    · have := ih (i + 1) (l ++ [m - creep1 i t])
      simp only [List.length_append, List.length_singleton] at this
      omega
theorem marginsFor_len (n t m : Int) : (marginsFor n t m).1.length ≤ 64 := by
  unfold marginsFor
  split
  · rename_i h
    simp only [Bool.and_eq_true] at h
    have h1 := inR_true h.1.1
    have := marg_len m t n.toNat 0 []
    simp only [List.length_nil] at this
    omega
  · simp
theorem creepTenths_len (n t : Int) : (creepTenths n t).1.length ≤ 64 := by
  unfold creepTenths
  split
  · rename_i h
    simp only [Bool.and_eq_true] at h
    have h1 := inR_true h.1
    rw [creeps_len]
    omega
  · simp

theorem laws_eqInt64S_l0 (xs : List Int) (hl : xs.length ≤ 9223372036854775806) : ∀ (d k i : Nat), i + d = xs.length → d < k → laws_eqInt64S.l0 k xs xs (i : Int) = some true := by
  intro d
  induction d with
  | zero =>
    intro k i h hk
    obtain ⟨k, rfl⟩ : ∃ m, k = m + 1 := ⟨k - 1, by omega⟩
    rw [laws_eqInt64S.l0, if_neg (by omega)]
  | succ d ih =>
    intro k i h hk
    obtain ⟨k, rfl⟩ : ∃ m, k = m + 1 := ⟨k - 1, by omega⟩
    rw [laws_eqInt64S.l0, if_pos (by omega), if_pos (by omega), if_pos (by omega), if_pos rfl, w64 (by omega) (by omega)]
    exact ih k (i + 1) (by omega) (by omega)
theorem laws_eqInt64S_eq (xs : List Int) (k : Nat) (hl : xs.length ≤ 9223372036854775806) (hk : xs.length < k) : laws_eqInt64S.f k xs xs = some true := by
  unfold laws_eqInt64S.f
  rw [if_pos rfl]
  exact laws_eqInt64S_l0 xs hl xs.length k 0 (by omega) hk

theorem laws_markInt64S_l0 (n : Nat) (hn : n ≤ 9223372036854775806) : ∀ (d k i : Nat) (ys : List Int), ys.length = n → i + d = n → d < k →
    ∃ zs : List Int, laws_markInt64S.l0 k ys ((i : Int) + 1) (i : Int) = some ((n : Int) + 1, zs) ∧ zs.length = n ∧ (∀ j, j < i → zs.getD j 0 = ys.getD j 0) ∧ (∀ j, i ≤ j → j < n → zs.getD j 0 = (j : Int) + 1) := by
  intro d
  induction d with
  | zero =>
    intro k i ys hy h hk
    obtain ⟨k, rfl⟩ : ∃ m, k = m + 1 := ⟨k - 1, by omega⟩
    have e : i = n := by omega
    subst e
    refine ⟨ys, ?_, hy, fun _ _ => rfl, fun j h1 h2 => by omega⟩
    rw [laws_markInt64S.l0, if_neg (by omega)]
  | succ d ih =>
    intro k i ys hy h hk
    obtain ⟨k, rfl⟩ : ∃ m, k = m + 1 := ⟨k - 1, by omega⟩
    obtain ⟨zs, h1, h2, h3, h4⟩ := ih k (i + 1) (ys.set i ((i : Int) + 1)) (by simpa using hy) (by omega) (by omega)
    refine ⟨zs, ?_, h2, fun j hj => ?_, fun j hj1 hj2 => ?_⟩
    · rw [laws_markInt64S.l0, if_pos (by omega), if_pos (by omega), w64 (by omega) (by omega), w64 (by omega) (by omega), Int.toNat_natCast]
      have e : ((i + 1 : Nat) : Int) = (i : Int) + 1 := by omega
      rw [e] at h1
      exact h1
    · rw [h3 j (by omega)]
      simp only [List.getD_eq_getElem?_getD]
      rw [List.getElem?_set_ne (by omega)]
    · by_cases e : j = i
      · subst e
        rw [h3 j (by omega)]
        simp only [List.getD_eq_getElem?_getD]
        rw [List.getElem?_set_self (by omega)]
        rfl
      · exact h4 j (by omega) hj2

theorem laws_heldInt64S_l0 (n : Nat) (hn : n ≤ 9223372036854775806) (zs : List Int) (hz : zs.length = n) (hv : ∀ j, j < n → zs.getD j 0 = (j : Int) + 1) : ∀ (d k i : Nat), i + d = n → d < k →
    laws_heldInt64S.l0 k zs ((i : Int) + 1) (i : Int) = some ((n : Int) + 1) := by
  intro d
  induction d with
  | zero =>
    intro k i h hk
    obtain ⟨k, rfl⟩ : ∃ m, k = m + 1 := ⟨k - 1, by omega⟩
    have e : i = n := by omega
    subst e
    rw [laws_heldInt64S.l0, if_neg (by omega)]
  | succ d ih =>
    intro k i h hk
    obtain ⟨k, rfl⟩ : ∃ m, k = m + 1 := ⟨k - 1, by omega⟩
    have := ih k (i + 1) (by omega) (by omega)
    have e : ((i + 1 : Nat) : Int) = (i : Int) + 1 := by omega
    rw [e] at this
    rw [laws_heldInt64S.l0, if_pos (by omega), if_pos (by omega), if_pos (by rw [rd_nat, hv i (by omega)]), w64 (by omega) (by omega), w64 (by omega) (by omega)]
    exact this
/-- What was marked is held. -/
theorem marks_held (xs : List Int) (hn : xs.length ≤ 9223372036854775806) (k : Nat) (hk : xs.length < k) :
    ∃ zs : List Int, laws_markInt64S.f k xs 1 = some ((xs.length : Int) + 1, zs) ∧ zs.length = xs.length ∧ (∀ k', xs.length < k' → laws_heldInt64S.f k' zs 1 = some ((xs.length : Int) + 1)) := by
  obtain ⟨zs, h1, h2, _, h4⟩ := laws_markInt64S_l0 xs.length hn xs.length k 0 xs rfl (by omega) hk
  exact ⟨zs, h1, h2, fun k' hk' => laws_heldInt64S_l0 xs.length hn zs h2 (fun j hj => h4 j (by omega) hj) xs.length k' 0 (by omega) hk'⟩

theorem spec_l01In_eq (a b c : Int) : spec_l01In.f a b c = some (inR a b c) := by
  unfold spec_l01In.f inR
  by_cases h : a ≥ b
  · rw [if_pos h]; simp [show b ≤ a from h]
  · rw [if_neg h]; simp [show ¬ b ≤ a from h]

theorem spec_l07Fits_eq (a b : Int) : spec_l07Fits.f a b = some (inR a 1 64 && inR b 1 2000) := by
  unfold spec_l07Fits.f
  simp only [spec_l01In_eq, Option.bind_some]
  cases inR a 1 64 <;> rfl

theorem spec_l07Tenths_eq (k t : Int) (h0 : 0 ≤ k) (h1 : k ≤ 64) (ht : inR t 1 2000 = true) : spec_l07Tenths.f (wrap64 (k * t)) = some (creep1 k t) := by
  have hb := creep1_bd h0 h1 ht
  unfold spec_l07Tenths.f
  rw [w64 (x := k * t) (by omega) (by omega), w64 (x := k * t + 50) (by omega) (by omega), tdiv_n (by omega)]
  unfold creep1 at hb ⊢
  rw [w64 (by omega) (by omega)]

theorem spec_MarginsFor_l0 (n t m : Int) (hn : inR n 1 64 = true) (ht : inR t 1 2000 = true) (hm : inR m 0 1000000000 = true) : ∀ (d k i : Nat) (l : List Int), (i : Int) + d = n → d < k → l.length = i → spec_MarginsFor.l0 k n t m l (i : Int) = some (marg m t d (i : Int) l) := by
  have h1 := inR_true hn
  have h2 := inR_true hm
  intro d
  induction d with
  | zero =>
    intro k i l h hk hl
    obtain ⟨k, rfl⟩ : ∃ m, k = m + 1 := ⟨k - 1, by omega⟩
    rw [spec_MarginsFor.l0, if_neg (by omega), marg]
  | succ d ih =>
    intro k i l h hk hl
    obtain ⟨k, rfl⟩ : ∃ m, k = m + 1 := ⟨k - 1, by omega⟩
    have hb := creep1_bd (k := (i : Int)) (by omega) (by omega) ht
    rw [spec_MarginsFor.l0, if_pos (by omega), spec_l07Tenths_eq _ _ (by omega) (by omega) ht]
    simp only [Option.bind_some]
    rw [w64 (x := m - creep1 (i : Int) t) (by omega) (by omega), marg]
    split
    · rfl
    · rw [if_pos (by omega), w64 (by omega) (by omega)]
      exact ih k (i + 1) _ (by omega) (by omega) (by simp [hl])
theorem spec_MarginsFor_eq (k : Nat) (n t m : Int) (hk : 65 < k) : spec_MarginsFor.f k n t m = some (marginsFor n t m) := by
  obtain ⟨k, rfl⟩ : ∃ m, k = m + 1 := ⟨k - 1, by omega⟩
  unfold spec_MarginsFor.f marginsFor
  simp only [spec_l07Fits_eq, spec_l01In_eq, Option.bind_some]
  cases hn : inR n 1 64
  · simp [spec_MarginsFor.j0]
  cases ht : inR t 1 2000
  · simp [spec_MarginsFor.j0]
  cases hm : inR m 0 1000000000
  · simp [spec_MarginsFor.j0]
  have h1 := inR_true hn
  simp only [if_true, Bool.and_self, Bool.not_true, spec_MarginsFor.j0, Bool.false_eq_true, if_false]
  exact spec_MarginsFor_l0 n t m hn ht hm n.toNat k 0 [] (by omega) (by omega) rfl

theorem impl_inRange_eq (a b c : Int) : impl_inRange.f a b c = some (inR a b c) := by
  unfold impl_inRange.f inR
  by_cases h : b ≤ a
  · rw [if_pos h]; simp [h]
  · rw [if_neg h]; simp [h]

theorem impl_isLength_eq (a : Int) : impl_isLength.f a = some (inR a 0 1000000000) := by
  unfold impl_isLength.f; rw [impl_inRange_eq]; rfl

theorem impl_isNest_eq (a : Int) : impl_isNest.f a = some (inR a 1 64) := by
  unfold impl_isNest.f; rw [impl_inRange_eq]; rfl

theorem impl_isThickness_eq (a : Int) : impl_isThickness.f a = some (inR a 1 2000) := by
  unfold impl_isThickness.f; rw [impl_inRange_eq]; rfl

theorem impl_creepTenths_l0 (n t : Int) (hn : inR n 1 64 = true) (ht : inR t 1 2000 = true) : ∀ (d k i : Nat), (i : Int) + d = n → d < k → impl_creepTenths.l0 k t (creeps i t) n (i : Int) = some (creeps n.toNat t) := by
  have h1 := inR_true hn
  intro d
  induction d with
  | zero =>
    intro k i h hk
    obtain ⟨k, rfl⟩ : ∃ m, k = m + 1 := ⟨k - 1, by omega⟩
    rw [impl_creepTenths.l0, if_neg (by omega), show i = n.toNat by omega]
  | succ d ih =>
    intro k i h hk
    obtain ⟨k, rfl⟩ : ∃ m, k = m + 1 := ⟨k - 1, by omega⟩
    have hb := creep1_bd (k := (i : Int)) (by omega) (by omega) ht
    have e : wrap64 (Int.tdiv (wrap64 (wrap64 ((i : Int) * t) + 50)) 100) = creep1 (i : Int) t := by
      rw [w64 (x := (i : Int) * t) (by omega) (by omega), w64 (x := (i : Int) * t + 50) (by omega) (by omega), tdiv_n (by omega)]
      unfold creep1 at hb ⊢
      rw [w64 (by omega) (by omega)]
    rw [impl_creepTenths.l0, if_pos (by omega), if_pos (by rw [creeps_len]; omega), e, w64 (by omega) (by omega), ← creeps_succ]
    exact ih k (i + 1) (by omega) (by omega)
theorem impl_creepTenths_eq (k : Nat) (n t : Int) (hn : inR n 1 64 = true) (ht : inR t 1 2000 = true) (hk : 64 < k) : impl_creepTenths.f k n t = some (creeps n.toNat t) := by
  have h1 := inR_true hn
  exact impl_creepTenths_l0 n t hn ht n.toNat k 0 (by omega) (by omega)

theorem impl_MarginsFor_l0 (n t m : Int) (hn : inR n 1 64 = true) (ht : inR t 1 2000 = true) (hm : inR m 0 1000000000 = true) : ∀ (d k i : Nat) (l : List Int), (i : Int) + d = n → d < k → l.length = i → impl_MarginsFor.l0 k m l (creeps n.toNat t) n (i : Int) = some (marg m t d (i : Int) l) := by
  have h1 := inR_true hn
  have h2 := inR_true hm
  intro d
  induction d with
  | zero =>
    intro k i l h hk hl
    obtain ⟨k, rfl⟩ : ∃ m, k = m + 1 := ⟨k - 1, by omega⟩
    rw [impl_MarginsFor.l0, if_neg (by omega), marg]
  | succ d ih =>
    intro k i l h hk hl
    obtain ⟨k, rfl⟩ : ∃ m, k = m + 1 := ⟨k - 1, by omega⟩
    have hb := creep1_bd (k := (i : Int)) (by omega) (by omega) ht
    have e : rd (creeps n.toNat t) (i : Int) = creep1 (i : Int) t := by
      rw [rd_nat, creeps, List.getD_eq_getElem?_getD, List.getElem?_map, List.getElem?_range (by omega)]
      rfl
    rw [impl_MarginsFor.l0, if_pos (by omega), if_pos (by omega), if_pos (by rw [creeps_len]; omega), e, marg]
    by_cases hc : creep1 (i : Int) t > m
    · rw [if_pos hc, if_pos (by omega)]
    · rw [if_neg hc, if_pos (by omega), if_neg (by omega), w64 (x := m - creep1 (i : Int) t) (by omega) (by omega), w64 (by omega) (by omega)]
      exact ih k (i + 1) _ (by omega) (by omega) (by simp [hl])
theorem impl_MarginsFor_eq (k : Nat) (n t m : Int) (hk : 65 < k) : impl_MarginsFor.f k n t m = some (marginsFor n t m) := by
  obtain ⟨k, rfl⟩ : ∃ m, k = m + 1 := ⟨k - 1, by omega⟩
  unfold impl_MarginsFor.f marginsFor
  simp only [impl_isNest_eq, impl_isThickness_eq, impl_isLength_eq, Option.bind_some]
  cases hn : inR n 1 64
  · simp [impl_MarginsFor.j0]
  cases ht : inR t 1 2000
  · simp [impl_MarginsFor.j0]
  cases hm : inR m 0 1000000000
  · simp [impl_MarginsFor.j0]
  have h1 := inR_true hn
  simp only [if_true, Bool.and_self, Bool.not_true, impl_MarginsFor.j0, Bool.false_eq_true, if_false, impl_creepTenths_eq k n t hn ht (by omega), Option.bind_some, creeps_len]
  rw [show ((n.toNat : Nat) : Int) = n by omega]
  exact impl_MarginsFor_l0 n t m hn ht hm n.toNat k 0 [] (by omega) (by omega) rfl

theorem FnExactMarginsFor : laws_FnExactMarginsFor.Pure := by
  intro a b c _ _ _
  have hl := marginsFor_len a b c
  obtain ⟨zs, hm, hz, hh⟩ := marks_held (marginsFor a b c).1 (by omega) 69 (by omega)
  refine ⟨70, ?_⟩
  have h0 : ¬ (((marginsFor a b c).1.length : Int) + 1 < 0) := by omega
  simp (disch := omega) only [laws_FnExactMarginsFor.f, laws_FnExactMarginsFor.j0, laws_FnExactMarginsFor.j1, spec_MarginsFor_eq, impl_MarginsFor_eq, laws_eqInt64S_eq, hm, hh, Option.bind_some, bne_self_eq_false, if_true, if_neg h0, Bool.false_eq_true, if_false]

end Go.Proofs.Ytlmnbmenhenomaa.Pure
