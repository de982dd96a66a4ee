/- For all arguments the law FnExactRollBound returns true, with no condition beyond the bounds that the printed statement names. -/
import Derived.Test.YtbkeajifeaeccaaPFnExactRollBoundx2
namespace Go.Proofs.Ytbkeajifeaeccaa.Pure
open Go.RowKit Go.Proofs.Ytbkeajifeaeccaa.PFnExactRollBound Go.Proofs.YtbkeajifeaeccaaW.PrintWords Go.Proofs.YtbkeajifeaeccaaW.PrintLast
set_option linter.unusedVariables false
set_option linter.unusedSimpArgs false

theorem w64 {x : Int} (h1 : -9223372036854775808 ≤ x) (h2 : x ≤ 9223372036854775807) : wrap64 x = x := by
  unfold wrap64; omega
theorem wf64 {x : Int} (h : (Lit.int .i64 x).wf = true) : -9223372036854775808 ≤ x ∧ x ≤ 9223372036854775807 := by
  simp [Lit.wf, IntKind.min, IntKind.max, IntKind.signed, IntKind.bits] at h
  omega
/-- 'a lies from b to c'. -/
def inR (a b c : Int) : Bool := decide (b ≤ a ∧ a ≤ c)
theorem inR_true {a b c : Int} (h : inR a b c = true) : b ≤ a ∧ a ≤ c := by simpa [inR] using h
theorem inR_mk {a b c : Int} (h1 : b ≤ a) (h2 : a ≤ c) : inR a b c = true := by simp [inR, h1, h2]
theorem inR_false {a b c : Int} (h : inR a b c = false) : a < b ∨ c < a := by
  have : ¬ (b ≤ a ∧ a ≤ c) := by simpa [inR] using h
  omega
theorem rd_nat (xs : List Int) (i : Nat) : rd xs (i : Int) = xs.getD i 0 := by simp [rd]
theorem mul_bd {a b A B : Int} (h0 : 0 ≤ a) (h1 : a ≤ A) (k0 : 0 ≤ b) (k1 : b ≤ B) : 0 ≤ a * b ∧ a * b ≤ A * B :=
  ⟨Int.mul_nonneg h0 k0, Int.mul_le_mul h1 k1 k0 (by omega)⟩
theorem tdiv_n {a b : Int} (h : 0 ≤ a) : Int.tdiv a b = a / b := Int.tdiv_eq_ediv_of_nonneg h
theorem tmod_n {a b : Int} (h : 0 ≤ a) : Int.tmod a b = a % b := Int.tmod_eq_emod_of_nonneg h
theorem mn_min (a b : Int) : mn a b = min a b := by unfold mn; split <;> omega
theorem mx_max (a b : Int) : mx a b = max a b := by unfold mx; split <;> omega

def allR (xs : List Int) (lo hi : Int) : Bool := xs.all fun x => inR x lo hi
theorem allR_mem {xs : List Int} {lo hi : Int} (h : allR xs lo hi = true) : ∀ x ∈ xs, lo ≤ x ∧ x ≤ hi := fun x hx => inR_true (List.all_eq_true.1 h x hx)
theorem drop_get (xs : List Int) (i : Nat) (hi : i < xs.length) : xs.drop i = xs[i] :: xs.drop (i + 1) := List.drop_eq_getElem_cons hi
theorem rd_get (xs : List Int) (i : Nat) (hi : i < xs.length) : rd xs (i : Int) = xs[i] := by rw [rd_nat, List.getD_eq_getElem?_getD, List.getElem?_eq_getElem hi]; rfl
/-- The sum, as the program adds it up. -/
def wsum (a : Int) (xs : List Int) : Int := xs.foldl (fun a x => wrap64 (a + x)) a
theorem wsum_cons (a x : Int) (xs : List Int) : wsum a (x :: xs) = wsum (wrap64 (a + x)) xs := rfl
theorem wsum_eq : ∀ (xs : List Int) (a : Int), (∀ x ∈ xs, 0 ≤ x ∧ x ≤ 1000000) → 0 ≤ a → a + xs.length * 1000000 ≤ 4611686018427387904 → wsum a xs = a + xs.sum ∧ 0 ≤ xs.sum ∧ xs.sum ≤ xs.length * 1000000
  | [], a, _, h0, _ => ⟨by simp [wsum], by simp, by simp⟩
  | x :: xs, a, h, h0, hb => by
    have hx := h x (by simp)
    simp only [List.length_cons] at hb ⊢
    obtain ⟨e, l, u⟩ := wsum_eq xs (a + x) (fun y hy => h y (by simp [hy])) (by omega) (by omega)
    rw [wsum_cons, w64 (by omega) (by omega), e, List.sum_cons]
    exact ⟨by omega, by omega, by omega⟩

def rollTask (roll : Int) (s : List Int) : Bool := inR roll 1 100000 && (decide ((s.length : Int) ≤ 12) && allR s 1 roll)
theorem rollTask_true {roll : Int} {s : List Int} (h : rollTask roll s = true) : (1 ≤ roll ∧ roll ≤ 100000) ∧ s.length ≤ 12 ∧ ∀ x ∈ s, 1 ≤ x ∧ x ≤ roll := by
  simp only [rollTask, Bool.and_eq_true, decide_eq_true_eq] at h
  exact ⟨inR_true h.1, by omega, allR_mem h.2.2⟩
theorem roll_sum {roll : Int} {s : List Int} (h : rollTask roll s = true) : wsum 0 s = s.sum ∧ 0 ≤ s.sum ∧ s.sum ≤ 12000000 := by
  obtain ⟨h1, h2, h3⟩ := rollTask_true h
  obtain ⟨e, l, u⟩ := wsum_eq s 0 (fun x hx => by have := h3 x hx; omega) (by omega) (by omega)
  exact ⟨by omega, l, by omega⟩
/-- How many strips are longer than half a roll. -/
def longs (roll : Int) : List Int → Int
  | [] => 0
  | x :: xs => (if 2 * x > roll then 1 else 0) + longs roll xs
theorem longs_bd (roll : Int) : ∀ xs : List Int, 0 ≤ longs roll xs ∧ longs roll xs ≤ xs.length
  | [] => by simp [longs]
  | x :: xs => by
    have := longs_bd roll xs
    simp only [longs, List.length_cons]
    split <;> omega
def rollBound (roll : Int) (s : List Int) : Int × Int := if rollTask roll s = true then (max (longs roll s) ((s.sum + roll - 1) / roll), 0) else (0, 1)

theorem spec_l01In_eq (a b c : Int) : spec_l01In.f a b c = some (inR a b c) := by
  unfold spec_l01In.f inR
  by_cases h : a ≥ b
  · rw [if_pos h]; simp [show b ≤ a from h]
  · rw [if_neg h]; simp [show ¬ b ≤ a from h]

theorem spec_l01Within_l0 (xs : List Int) (m lo hi : Int) (hl : xs.length ≤ 9223372036854775806) : ∀ (d k i : Nat), i + d = xs.length → d < k → spec_l01Within.l0 k xs m lo hi (i : Int) = some (allR (xs.drop i) lo hi && decide ((xs.length : Int) ≤ m)) := by
  intro d
  induction d with
  | zero =>
    intro k i h hk
    obtain ⟨k, rfl⟩ : ∃ m, k = m + 1 := ⟨k - 1, by omega⟩
    rw [spec_l01Within.l0, if_neg (by omega), List.drop_of_length_le (by omega)]
    rfl
  | succ d ih =>
    intro k i h hk
    obtain ⟨k, rfl⟩ : ∃ m, k = m + 1 := ⟨k - 1, by omega⟩
    have hlt : i < xs.length := by omega
    have e3 := ih k (i + 1) (by omega) (by omega)
    rw [spec_l01Within.l0, if_pos (by omega), if_pos (by omega), rd_get xs i hlt, spec_l01In_eq, drop_get xs i hlt, w64 (by omega) (by omega)]
    simp only [Option.bind_some, allR, List.all_cons]
    cases hx : inR xs[i] lo hi
    · simp
    · simp only [if_true, Bool.true_and]
      exact e3
theorem spec_l01Within_eq (xs : List Int) (m lo hi : Int) (k : Nat) (hl : xs.length ≤ 9223372036854775806) (hk : xs.length < k) : spec_l01Within.f k xs m lo hi = some (allR xs lo hi && decide ((xs.length : Int) ≤ m)) := by
  unfold spec_l01Within.f
  exact spec_l01Within_l0 xs m lo hi hl xs.length k 0 (by omega) hk

theorem spec_IsRollTask_eq (roll : Int) (s : List Int) (k : Nat) (hl : s.length ≤ 9223372036854775806) (hk : s.length < k) : spec_IsRollTask.f k roll s = some (rollTask roll s) := by
  unfold spec_IsRollTask.f rollTask
  simp only [spec_l01In_eq, spec_l01Within_eq s _ _ _ k hl hk, Option.bind_some]
  cases inR roll 1 100000 <;> simp [Bool.and_comm]

theorem spec_l01Ceil_eq (a b : Int) (h0 : 0 ≤ a) (h1 : a ≤ 4611686018427387904) (k0 : 1 ≤ b) (k1 : b ≤ 4611686018427387903) : spec_l01Ceil.f a b = some ((a + b - 1) / b) := by
  unfold spec_l01Ceil.f
  have h3 : 0 ≤ (a + b - 1) / b := Int.ediv_nonneg (by omega) (by omega)
  have h4 : (a + b - 1) / b ≤ a + b - 1 := Int.ediv_le_self _ (by omega)
  rw [if_neg (by omega), w64 (x := a + b) (by omega) (by omega), w64 (x := a + b - 1) (by omega) (by omega), tdiv_n (by omega), w64 (by omega) (by omega)]

theorem spec_l01Sum_l0 (xs : List Int) (hl : xs.length ≤ 9223372036854775806) : ∀ (d k i : Nat) (a : Int), i + d = xs.length → d < k → spec_l01Sum.l0 k xs a (i : Int) = some (wsum a (xs.drop i)) := by
  intro d
  induction d with
  | zero =>
    intro k i a h hk
    obtain ⟨k, rfl⟩ : ∃ m, k = m + 1 := ⟨k - 1, by omega⟩
    rw [spec_l01Sum.l0, if_neg (by omega), List.drop_of_length_le (by omega)]
    rfl
  | succ d ih =>
    intro k i a h hk
    obtain ⟨k, rfl⟩ : ∃ m, k = m + 1 := ⟨k - 1, by omega⟩
    have hi : i < xs.length := by omega
    rw [spec_l01Sum.l0, if_pos (by omega), if_pos (by omega), rd_get xs i hi, drop_get xs i hi, w64 (x := (i : Int) + 1) (by omega) (by omega), wsum_cons]
    exact ih k (i + 1) _ (by omega) (by omega)
theorem spec_l01Sum_eq (xs : List Int) (k : Nat) (hl : xs.length ≤ 9223372036854775806) (hk : xs.length < k) : spec_l01Sum.f k xs = some (wsum 0 xs) := by
  unfold spec_l01Sum.f
  exact spec_l01Sum_l0 xs hl xs.length k 0 0 (by omega) hk

theorem spec_RollBound_l0 (roll : Int) (s : List Int) (h : rollTask roll s = true) : ∀ (d k i : Nat) (c : Int), i + d = s.length → d + 14 < k → 0 ≤ c → c ≤ i → spec_RollBound.l0 k roll s c (i : Int) = some (max (c + longs roll (s.drop i)) ((s.sum + roll - 1) / roll), 0) := by
  obtain ⟨h1, h2, h3⟩ := rollTask_true h
  obtain ⟨e, l, u⟩ := roll_sum h
  intro d
  induction d with
  | zero =>
    intro k i c hi hk h0 hc
    obtain ⟨k, rfl⟩ : ∃ m, k = m + 1 := ⟨k - 1, by omega⟩
    rw [spec_RollBound.l0, if_neg (by omega), List.drop_of_length_le (by omega), spec_l01Sum_eq s k (by omega) (by omega), e]
    simp only [Option.bind_some]
    rw [spec_l01Ceil_eq _ _ (by omega) (by omega) (by omega) (by omega)]
    simp only [Option.bind_some, longs, Int.add_zero, mx_max]
  | succ d ih =>
    intro k i c hi hk h0 hc
    obtain ⟨k, rfl⟩ : ∃ m, k = m + 1 := ⟨k - 1, by omega⟩
    have hlt : i < s.length := by omega
    have hx := h3 s[i] (List.getElem_mem hlt)
    rw [spec_RollBound.l0, if_pos (by omega), if_pos (by omega), rd_get s i hlt, drop_get s i hlt, w64 (x := 2 * s[i]) (by omega) (by omega), w64 (x := (i : Int) + 1) (by omega) (by omega), longs]
    by_cases hg : 2 * s[i] > roll
    · rw [if_pos hg, if_pos hg, w64 (by omega) (by omega)]
      have := ih k (i + 1) (c + 1) (by omega) (by omega) (by omega) (by omega)
      rw [show ((i + 1 : Nat) : Int) = (i : Int) + 1 by omega] at this
      rw [this, Int.add_assoc]
    · rw [if_neg hg, if_neg hg]
      have := ih k (i + 1) c (by omega) (by omega) (by omega) (by omega)
      rw [show ((i + 1 : Nat) : Int) = (i : Int) + 1 by omega] at this
      rw [this, Int.zero_add]
theorem spec_RollBound_eq (roll : Int) (s : List Int) (k : Nat) (hl : s.length ≤ 9223372036854775806) (hk : s.length + 20 < k) : spec_RollBound.f k roll s = some (rollBound roll s) := by
  unfold spec_RollBound.f rollBound
  simp only [spec_IsRollTask_eq roll s k hl (by omega), Option.bind_some]
  cases h : rollTask roll s
  · simp
  · have := spec_RollBound_l0 roll s h s.length k 0 0 (by omega) (by omega) (by omega) (by omega)
    simp only [if_true]
    rw [List.drop_zero, Int.zero_add] at this
    exact this

theorem laws_toInt64S_l0 (xs : List Int) (hl : xs.length ≤ 35184372088832) : ∀ (d k i : Nat) (ys : List Int), ys.length = xs.length → i + d = xs.length → (∀ j, j < i → ys[j]? = xs[j]?) → d < k → laws_toInt64S.l0 k xs ys (i : Int) = some xs := by
  intro d
  induction d with
  | zero =>
    intro k i ys hy h hj hk
    obtain ⟨k, rfl⟩ : ∃ m, k = m + 1 := ⟨k - 1, by omega⟩
    rw [laws_toInt64S.l0, if_neg (by omega)]
    congr 1
    apply List.ext_getElem?
    intro j
    by_cases h1 : j < i
    · exact hj j h1
    · rw [List.getElem?_eq_none (by omega), List.getElem?_eq_none (by omega)]
  | succ d ih =>
    intro k i ys hy h hj hk
    obtain ⟨k, rfl⟩ : ∃ m, k = m + 1 := ⟨k - 1, by omega⟩
    have hi : i < xs.length := by omega
    have e2 : rd xs (i : Int) = xs[i] := by rw [rd_nat, List.getD_eq_getElem?_getD, List.getElem?_eq_getElem hi]; rfl
    rw [laws_toInt64S.l0, if_pos (by omega), if_pos (by omega), if_pos (by omega), w64 (by omega) (by omega), Int.toNat_natCast, e2]
    refine ih k (i + 1) _ (by rw [List.length_set]; exact hy) (by omega) (fun j hlt => ?_) (by omega)
    by_cases e : j = i
    · subst e
      rw [List.getElem?_set_self (by omega), List.getElem?_eq_getElem hi]
    · rw [List.getElem?_set_ne (by omega)]
      exact hj j (by omega)
theorem laws_toInt64S_eq (xs : List Int) (k : Nat) (hl : xs.length ≤ 35184372088832) (hk : xs.length < k) : laws_toInt64S.f k xs = some xs := by
  unfold laws_toInt64S.f
  rw [if_pos (by omega), if_pos (by omega)]
  exact laws_toInt64S_l0 xs hl xs.length k 0 _ (by simp) (by omega) (fun j hj => absurd hj (Nat.not_lt_zero _)) hk

theorem impl_inRange_eq (a b c : Int) : impl_inRange.f a b c = some (inR a b c) := by
  unfold impl_inRange.f inR
  by_cases h : b ≤ a
  · rw [if_pos h]; simp [h]
  · rw [if_neg h]; simp [h]

theorem impl_allIn_eq (xs : List Int) (lo hi : Int) : impl_allIn.f xs lo hi = some (allR xs lo hi) := rfl

theorem impl_IsRollTask_eq (roll : Int) (s : List Int) : impl_IsRollTask.f roll s = some (rollTask roll s) := by
  unfold impl_IsRollTask.f rollTask
  simp only [impl_inRange_eq, impl_allIn_eq, Option.bind_some]
  cases inR roll 1 100000
  · simp
  · by_cases h : (s.length : Int) ≤ 12
    · simp [h]
    · simp [h]

theorem impl_toInt_eq (b : Bool) : impl_toInt.f b = some (if b = true then 1 else 0) := by
  unfold impl_toInt.f; cases b <;> rfl

theorem impl_sumOf_l0 (xs : List Int) (hl : xs.length ≤ 9223372036854775806) : ∀ (d k i : Nat) (a : Int), i + d = xs.length → d < k → impl_sumOf.l0 k a xs (xs.length : Int) (i : Int) = some (wsum a (xs.drop i)) := by
  intro d
  induction d with
  | zero =>
    intro k i a h hk
    obtain ⟨k, rfl⟩ : ∃ m, k = m + 1 := ⟨k - 1, by omega⟩
    rw [impl_sumOf.l0, if_neg (by omega), List.drop_of_length_le (by omega)]
    rfl
  | succ d ih =>
    intro k i a h hk
    obtain ⟨k, rfl⟩ : ∃ m, k = m + 1 := ⟨k - 1, by omega⟩
    have hi : i < xs.length := by omega
    rw [impl_sumOf.l0, if_pos (by omega), if_pos (by omega), if_pos (by omega), rd_get xs i hi, drop_get xs i hi, w64 (x := (i : Int) + 1) (by omega) (by omega), wsum_cons]
    exact ih k (i + 1) _ (by omega) (by omega)
theorem impl_sumOf_eq (xs : List Int) (k : Nat) (hl : xs.length ≤ 9223372036854775806) (hk : xs.length < k) : impl_sumOf.f k xs = some (wsum 0 xs) := by
  unfold impl_sumOf.f
  exact impl_sumOf_l0 xs hl xs.length k 0 0 (by omega) hk

theorem impl_RollBound_l0 (roll : Int) (s : List Int) (h : rollTask roll s = true) : ∀ (d k i : Nat) (c : Int), i + d = s.length → d + 14 < k → 0 ≤ c → c ≤ i → impl_RollBound.l0 k roll s c s (s.length : Int) (i : Int) = some (max (c + longs roll (s.drop i)) ((s.sum + roll - 1) / roll), 0) := by
  obtain ⟨h1, h2, h3⟩ := rollTask_true h
  obtain ⟨e, l, u⟩ := roll_sum h
  intro d
  induction d with
  | zero =>
    intro k i c hi hk h0 hc
    obtain ⟨k, rfl⟩ : ∃ m, k = m + 1 := ⟨k - 1, by omega⟩
    rw [impl_RollBound.l0, if_neg (by omega), List.drop_of_length_le (by omega), impl_sumOf_eq s k (by omega) (by omega), e]
    simp only [Option.bind_some]
    have h4 : 0 ≤ (s.sum + roll - 1) / roll := Int.ediv_nonneg (by omega) (by omega)
    have h5 : (s.sum + roll - 1) / roll ≤ s.sum + roll - 1 := Int.ediv_le_self _ (by omega)
    rw [if_neg (by omega), w64 (x := s.sum + roll) (by omega) (by omega), w64 (x := s.sum + roll - 1) (by omega) (by omega), tdiv_n (by omega), w64 (by omega) (by omega), mx_max]
    simp only [longs, Int.add_zero]
  | succ d ih =>
    intro k i c hi hk h0 hc
    obtain ⟨k, rfl⟩ : ∃ m, k = m + 1 := ⟨k - 1, by omega⟩
    have hlt : i < s.length := by omega
    have hx := h3 s[i] (List.getElem_mem hlt)
    rw [impl_RollBound.l0, if_pos (by omega), if_pos (by omega), if_pos (by omega), rd_get s i hlt, drop_get s i hlt, w64 (x := 2 * s[i]) (by omega) (by omega), w64 (x := (i : Int) + 1) (by omega) (by omega), longs, impl_toInt_eq]
    simp only [Option.bind_some, decide_eq_true_eq]
    by_cases hg : 2 * s[i] > roll
    · rw [if_pos hg, w64 (by omega) (by omega)]
      have := ih k (i + 1) (c + 1) (by omega) (by omega) (by omega) (by omega)
      rw [show ((i + 1 : Nat) : Int) = (i : Int) + 1 by omega] at this
      rw [this, Int.add_assoc]
    · rw [if_neg hg, w64 (by omega) (by omega), Int.add_zero]
      have := ih k (i + 1) c (by omega) (by omega) (by omega) (by omega)
      rw [show ((i + 1 : Nat) : Int) = (i : Int) + 1 by omega] at this
      rw [this, Int.zero_add]
theorem impl_RollBound_eq (roll : Int) (s : List Int) (k : Nat) (hk : s.length + 20 < k) : impl_RollBound.f k roll s = some (rollBound roll s) := by
  unfold impl_RollBound.f rollBound
  simp only [impl_IsRollTask_eq roll s, Option.bind_some]
  cases h : rollTask roll s
  · simp
  · have := impl_RollBound_l0 roll s h s.length k 0 0 (by omega) (by omega) (by omega) (by omega)
    simp only [if_true]
    rw [List.drop_zero, Int.zero_add] at this
    exact this

theorem laws_eqInt64S_l0 (xs : List Int) (hl : xs.length ≤ 9223372036854775806) : ∀ (d k i : Nat), i + d = xs.length → d < k → laws_eqInt64S.l0 k xs xs (i : Int) = some true := by
  intro d
  induction d with
  | zero =>
    intro k i h hk
    obtain ⟨k, rfl⟩ : ∃ m, k = m + 1 := ⟨k - 1, by omega⟩
    rw [laws_eqInt64S.l0, if_neg (by omega)]
  | succ d ih =>
    intro k i h hk
    obtain ⟨k, rfl⟩ : ∃ m, k = m + 1 := ⟨k - 1, by omega⟩
    rw [laws_eqInt64S.l0, if_pos (by omega), if_pos (by omega), if_pos (by omega), if_pos rfl, w64 (by omega) (by omega)]
    exact ih k (i + 1) (by omega) (by omega)
theorem laws_eqInt64S_eq (xs : List Int) (k : Nat) (hl : xs.length ≤ 9223372036854775806) (hk : xs.length < k) : laws_eqInt64S.f k xs xs = some true := by
  unfold laws_eqInt64S.f
  rw [if_pos rfl]
  exact laws_eqInt64S_l0 xs hl xs.length k 0 (by omega) hk

theorem FnExactRollBound : laws_FnExactRollBound.Pure := by
  intro a l _ _ _ _
  by_cases hbig : (l.length : Int) > 1048576
  · exact ⟨1, by unfold laws_FnExactRollBound.f; rw [if_pos hbig]⟩
  refine ⟨l.length + 100, ?_⟩
  simp (disch := omega) only [laws_FnExactRollBound.f, laws_FnExactRollBound.j0, if_neg hbig, laws_toInt64S_eq, spec_RollBound_eq, impl_RollBound_eq, laws_eqInt64S_eq, Option.bind_some, bne_self_eq_false, Bool.false_eq_true, if_false, if_true]

end Go.Proofs.Ytbkeajifeaeccaa.Pure
