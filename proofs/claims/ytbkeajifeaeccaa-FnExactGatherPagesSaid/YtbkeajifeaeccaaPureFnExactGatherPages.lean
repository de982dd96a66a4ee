/- For all arguments the law FnExactGatherPages returns true, with no condition beyond the bounds that the printed statement names. -/
import Derived.Test.YtbkeajifeaeccaaPFnExactGatherPagesx4
namespace Go.Proofs.Ytbkeajifeaeccaa.Pure
open Go.RowKit Go.Proofs.Ytbkeajifeaeccaa.PFnExactGatherPages Go.Proofs.YtbkeajifeaeccaaW.PrintWords Go.Proofs.YtbkeajifeaeccaaW.PrintLast
set_option linter.unusedVariables false
set_option linter.unusedSimpArgs false

theorem w64 {x : Int} (h1 : -9223372036854775808 ≤ x) (h2 : x ≤ 9223372036854775807) : wrap64 x = x := by
  unfold wrap64; omega
theorem wf64 {x : Int} (h : (Lit.int .i64 x).wf = true) : -9223372036854775808 ≤ x ∧ x ≤ 9223372036854775807 := by
  simp [Lit.wf, IntKind.min, IntKind.max, IntKind.signed, IntKind.bits] at h
  omega
/-- 'a lies from b to c'. -/
def inR (a b c : Int) : Bool := decide (b ≤ a ∧ a ≤ c)
theorem inR_true {a b c : Int} (h : inR a b c = true) : b ≤ a ∧ a ≤ c := by simpa [inR] using h
theorem inR_mk {a b c : Int} (h1 : b ≤ a) (h2 : a ≤ c) : inR a b c = true := by simp [inR, h1, h2]
theorem inR_false {a b c : Int} (h : inR a b c = false) : a < b ∨ c < a := by
  have : ¬ (b ≤ a ∧ a ≤ c) := by simpa [inR] using h
  omega
theorem rd_nat (xs : List Int) (i : Nat) : rd xs (i : Int) = xs.getD i 0 := by simp [rd]
theorem mul_bd {a b A B : Int} (h0 : 0 ≤ a) (h1 : a ≤ A) (k0 : 0 ≤ b) (k1 : b ≤ B) : 0 ≤ a * b ∧ a * b ≤ A * B :=
  ⟨Int.mul_nonneg h0 k0, Int.mul_le_mul h1 k1 k0 (by omega)⟩
theorem tdiv_n {a b : Int} (h : 0 ≤ a) : Int.tdiv a b = a / b := Int.tdiv_eq_ediv_of_nonneg h
theorem tmod_n {a b : Int} (h : 0 ≤ a) : Int.tmod a b = a % b := Int.tmod_eq_emod_of_nonneg h
theorem mn_min (a b : Int) : mn a b = min a b := by unfold mn; split <;> omega
theorem mx_max (a b : Int) : mx a b = max a b := by unfold mx; split <;> omega

def isUnit (u : Int) : Bool := u == 4 || u == 8 || u == 16 || u == 32 || u == 64 || u == 128
theorem isUnit_true {u : Int} (h : isUnit u = true) : u = 4 ∨ u = 8 ∨ u = 16 ∨ u = 32 ∨ u = 64 ∨ u = 128 := by
  simp only [isUnit, Bool.or_eq_true, beq_iff_eq] at h
  omega
def sigOf (p u g : Int) : Int × Int × Int := if (inR p 1 4096 && isUnit u && inR g 1 p) = true then ((g - 1) / u, (g - 1) % u + 1, 0) else (0, 0, 2)
def sigCount (p u : Int) : Int × Int := if (inR p 1 4096 && isUnit u) = true then ((p + u - 1) / u, 0) else (0, 2)
def four (n k : Int) : List Int := [4 * n - 2 * k, 2 * k + 1, 2 * k + 2, 4 * n - 2 * k - 1]
def nestedPages (n k : Int) : List Int × Int := if (inR n 1 64 && inR k 0 (n - 1)) = true then (four n k, 0) else ([], 2)
def sheetOf (n p : Int) : Int := (min p (4 * n + 1 - p) - 1) / 2
def placeIn (n k p : Int) : Int := if 4 * n - 2 * k = p then 0 else if 2 * k + 1 = p then 1 else if 2 * k + 2 = p then 2 else 3
def nestedPlace (n p : Int) : Int × Int × Int := if (inR n 1 64 && inR p 1 (4 * n)) = true then (sheetOf n p, placeIn n (sheetOf n p) p, 0) else (0, 0, 2)
theorem unit_bits (a : Int) (h1 : 4 ≤ a) (h2 : a ≤ 128) : ((Go.bits .and .i64 a (wrap64 (a - 1))) == 0) = isUnit a := by
  obtain ⟨n, rfl⟩ : ∃ n : Nat, a = n := ⟨a.toNat, by omega⟩
  have h : ∀ n : Nat, n < 129 → 4 ≤ n → ((Go.bits .and .i64 (n : Int) (wrap64 ((n : Int) - 1))) == 0) = isUnit n := by decide +kernel
  exact h n (by omega) (by omega)

def allR (xs : List Int) (lo hi : Int) : Bool := xs.all fun x => inR x lo hi
theorem allR_mem {xs : List Int} {lo hi : Int} (h : allR xs lo hi = true) : ∀ x ∈ xs, lo ≤ x ∧ x ≤ hi := fun x hx => inR_true (List.all_eq_true.1 h x hx)
theorem drop_get (xs : List Int) (i : Nat) (hi : i < xs.length) : xs.drop i = xs[i] :: xs.drop (i + 1) := List.drop_eq_getElem_cons hi
theorem rd_get (xs : List Int) (i : Nat) (hi : i < xs.length) : rd xs (i : Int) = xs[i] := by rw [rd_nat, List.getD_eq_getElem?_getD, List.getElem?_eq_getElem hi]; rfl
/-- The sum, as the program adds it up. -/
def wsum (a : Int) (xs : List Int) : Int := xs.foldl (fun a x => wrap64 (a + x)) a
theorem wsum_cons (a x : Int) (xs : List Int) : wsum a (x :: xs) = wsum (wrap64 (a + x)) xs := rfl
theorem wsum_eq : ∀ (xs : List Int) (a : Int), (∀ x ∈ xs, 0 ≤ x ∧ x ≤ 1000000) → 0 ≤ a → a + xs.length * 1000000 ≤ 4611686018427387904 → wsum a xs = a + xs.sum ∧ 0 ≤ xs.sum ∧ xs.sum ≤ xs.length * 1000000
  | [], a, _, h0, _ => ⟨by simp [wsum], by simp, by simp⟩
  | x :: xs, a, h, h0, hb => by
    have hx := h x (by simp)
    simp only [List.length_cons] at hb ⊢
    obtain ⟨e, l, u⟩ := wsum_eq xs (a + x) (fun y hy => h y (by simp [hy])) (by omega) (by omega)
    rw [wsum_cons, w64 (by omega) (by omega), e, List.sum_cons]
    exact ⟨by omega, by omega, by omega⟩

/-- What is left is an order's, behind what is done. -/
def ord (n : Int) : List Int → List Int → Bool
  | _, [] => true
  | done, x :: xs => inR x 0 (n - 1) && (!done.contains x && ord n (done ++ [x]) xs)
def isOrder (l : List Int) : Bool := decide (l.length ≤ 64) && ord l.length [] l
theorem ord_mem (n : Int) : ∀ (xs done : List Int), ord n done xs = true → ∀ x ∈ xs, 0 ≤ x ∧ x ≤ n - 1
  | [], _, _, x, hx => by simp at hx
  | y :: ys, done, h, x, hx => by
    simp only [ord, Bool.and_eq_true] at h
    rcases List.mem_cons.1 hx with e | e
    · rw [e]; exact inR_true h.1
    · exact ord_mem n ys _ h.2.2 x e
theorem isOrder_true {l : List Int} (h : isOrder l = true) : l.length ≤ 64 ∧ ∀ x ∈ l, 0 ≤ x ∧ x ≤ (l.length : Int) - 1 := by
  simp only [isOrder, Bool.and_eq_true, decide_eq_true_eq] at h
  exact ⟨h.1, ord_mem _ _ _ h.2⟩

def gpage (pages x : Int) : Int := if x > pages then 0 else x
def gsig (pages base : Int) : Nat → Int → List Int → List Int
  | 0, _, acc => acc
  | d + 1, j, acc => gsig pages base d (j + 1) (acc ++ [gpage pages (base + j + 1)])
def gath (pages unit : Int) : List Int → List Int → List Int
  | [], acc => acc
  | o :: os, acc => gath pages unit os (gsig pages (o * unit) unit.toNat 0 acc)
theorem gsig_len (pages base : Int) : ∀ (d : Nat) (j : Int) (acc : List Int), (gsig pages base d j acc).length = acc.length + d
  | 0, _, _ => rfl
  | d + 1, j, acc => by rw [gsig, gsig_len pages base d]; simp; omega
theorem gath_len (pages unit : Int) : ∀ (os acc : List Int), (gath pages unit os acc).length = acc.length + os.length * unit.toNat
  | [], acc => by simp [gath]
  | o :: os, acc => by rw [gath, gath_len pages unit os, gsig_len, List.length_cons, Nat.succ_mul]; omega
def gatherPages (pages unit : Int) (order : List Int) : List Int × Int :=
  if (inR pages 1 4096 && isUnit unit && (isOrder order && ((order.length : Int) == (pages + unit - 1) / unit))) = true then (gath pages unit order [], 0) else ([], 2)
theorem gatherPages_len (pages unit : Int) (order : List Int) : (gatherPages pages unit order).1.length ≤ 8192 := by
  unfold gatherPages
  split
  · rename_i h
    simp only [Bool.and_eq_true] at h
    have h1 := isUnit_true h.1.2
    have h2 := isOrder_true h.2.1
    rw [gath_len]
    have : order.length * unit.toNat ≤ 64 * 128 := Nat.mul_le_mul h2.1 (by omega)
    simp only [List.length_nil]
    omega
  · simp

theorem laws_toInt64S_l0 (xs : List Int) (hl : xs.length ≤ 35184372088832) : ∀ (d k i : Nat) (ys : List Int), ys.length = xs.length → i + d = xs.length → (∀ j, j < i → ys[j]? = xs[j]?) → d < k → laws_toInt64S.l0 k xs ys (i : Int) = some xs := by
  intro d
  induction d with
  | zero =>
    intro k i ys hy h hj hk
    obtain ⟨k, rfl⟩ : ∃ m, k = m + 1 := ⟨k - 1, by omega⟩
    rw [laws_toInt64S.l0, if_neg (by omega)]
    congr 1
    apply List.ext_getElem?
    intro j
    by_cases h1 : j < i
    · exact hj j h1
    · rw [List.getElem?_eq_none (by omega), List.getElem?_eq_none (by omega)]
  | succ d ih =>
    intro k i ys hy h hj hk
    obtain ⟨k, rfl⟩ : ∃ m, k = m + 1 := ⟨k - 1, by omega⟩
    have hi : i < xs.length := by omega
    have e2 : rd xs (i : Int) = xs[i] := by rw [rd_nat, List.getD_eq_getElem?_getD, List.getElem?_eq_getElem hi]; rfl
    rw [laws_toInt64S.l0, if_pos (by omega), if_pos (by omega), if_pos (by omega), w64 (by omega) (by omega), Int.toNat_natCast, e2]
    refine ih k (i + 1) _ (by rw [List.length_set]; exact hy) (by omega) (fun j hlt => ?_) (by omega)
    by_cases e : j = i
    · subst e
      rw [List.getElem?_set_self (by omega), List.getElem?_eq_getElem hi]
    · rw [List.getElem?_set_ne (by omega)]
      exact hj j (by omega)
theorem laws_toInt64S_eq (xs : List Int) (k : Nat) (hl : xs.length ≤ 35184372088832) (hk : xs.length < k) : laws_toInt64S.f k xs = some xs := by
  unfold laws_toInt64S.f
  rw [if_pos (by omega), if_pos (by omega)]
  exact laws_toInt64S_l0 xs hl xs.length k 0 _ (by simp) (by omega) (fun j hj => absurd hj (Nat.not_lt_zero _)) hk

theorem laws_eqInt64S_l0 (xs : List Int) (hl : xs.length ≤ 9223372036854775806) : ∀ (d k i : Nat), i + d = xs.length → d < k → laws_eqInt64S.l0 k xs xs (i : Int) = some true := by
  intro d
  induction d with
  | zero =>
    intro k i h hk
    obtain ⟨k, rfl⟩ : ∃ m, k = m + 1 := ⟨k - 1, by omega⟩
    rw [laws_eqInt64S.l0, if_neg (by omega)]
  | succ d ih =>
    intro k i h hk
    obtain ⟨k, rfl⟩ : ∃ m, k = m + 1 := ⟨k - 1, by omega⟩
    rw [laws_eqInt64S.l0, if_pos (by omega), if_pos (by omega), if_pos (by omega), if_pos rfl, w64 (by omega) (by omega)]
    exact ih k (i + 1) (by omega) (by omega)
theorem laws_eqInt64S_eq (xs : List Int) (k : Nat) (hl : xs.length ≤ 9223372036854775806) (hk : xs.length < k) : laws_eqInt64S.f k xs xs = some true := by
  unfold laws_eqInt64S.f
  rw [if_pos rfl]
  exact laws_eqInt64S_l0 xs hl xs.length k 0 (by omega) hk

theorem laws_markInt64S_l0 (n : Nat) (hn : n ≤ 9223372036854775806) : ∀ (d k i : Nat) (ys : List Int), ys.length = n → i + d = n → d < k →
    ∃ zs : List Int, laws_markInt64S.l0 k ys ((i : Int) + 1) (i : Int) = some ((n : Int) + 1, zs) ∧ zs.length = n ∧ (∀ j, j < i → zs.getD j 0 = ys.getD j 0) ∧ (∀ j, i ≤ j → j < n → zs.getD j 0 = (j : Int) + 1) := by
  intro d
  induction d with
  | zero =>
    intro k i ys hy h hk
    obtain ⟨k, rfl⟩ : ∃ m, k = m + 1 := ⟨k - 1, by omega⟩
    have e : i = n := by omega
    subst e
    refine ⟨ys, ?_, hy, fun _ _ => rfl, fun j h1 h2 => by omega⟩
    rw [laws_markInt64S.l0, if_neg (by omega)]
  | succ d ih =>
    intro k i ys hy h hk
    obtain ⟨k, rfl⟩ : ∃ m, k = m + 1 := ⟨k - 1, by omega⟩
    obtain ⟨zs, h1, h2, h3, h4⟩ := ih k (i + 1) (ys.set i ((i : Int) + 1)) (by simpa using hy) (by omega) (by omega)
    refine ⟨zs, ?_, h2, fun j hj => ?_, fun j hj1 hj2 => ?_⟩
    · rw [laws_markInt64S.l0, if_pos (by omega), if_pos (by omega), w64 (by omega) (by omega), w64 (by omega) (by omega), Int.toNat_natCast]
      have e : ((i + 1 : Nat) : Int) = (i : Int) + 1 := by omega
      rw [e] at h1
      exact h1
    · rw [h3 j (by omega)]
      simp only [List.getD_eq_getElem?_getD]
      rw [List.getElem?_set_ne (by omega)]
    · by_cases e : j = i
      · subst e
        rw [h3 j (by omega)]
        simp only [List.getD_eq_getElem?_getD]
        rw [List.getElem?_set_self (by omega)]
        rfl
      · exact h4 j (by omega) hj2

theorem laws_heldInt64S_l0 (n : Nat) (hn : n ≤ 9223372036854775806) (zs : List Int) (hz : zs.length = n) (hv : ∀ j, j < n → zs.getD j 0 = (j : Int) + 1) : ∀ (d k i : Nat), i + d = n → d < k →
    laws_heldInt64S.l0 k zs ((i : Int) + 1) (i : Int) = some ((n : Int) + 1) := by
  intro d
  induction d with
  | zero =>
    intro k i h hk
    obtain ⟨k, rfl⟩ : ∃ m, k = m + 1 := ⟨k - 1, by omega⟩
    have e : i = n := by omega
    subst e
    rw [laws_heldInt64S.l0, if_neg (by omega)]
  | succ d ih =>
    intro k i h hk
    obtain ⟨k, rfl⟩ : ∃ m, k = m + 1 := ⟨k - 1, by omega⟩
    have := ih k (i + 1) (by omega) (by omega)
    have e : ((i + 1 : Nat) : Int) = (i : Int) + 1 := by omega
    rw [e] at this
    rw [laws_heldInt64S.l0, if_pos (by omega), if_pos (by omega), if_pos (by rw [rd_nat, hv i (by omega)]), w64 (by omega) (by omega), w64 (by omega) (by omega)]
    exact this
/-- What was marked is held. -/
theorem marks_held (xs : List Int) (hn : xs.length ≤ 9223372036854775806) (k : Nat) (hk : xs.length < k) :
    ∃ zs : List Int, laws_markInt64S.f k xs 1 = some ((xs.length : Int) + 1, zs) ∧ zs.length = xs.length ∧ (∀ k', xs.length < k' → laws_heldInt64S.f k' zs 1 = some ((xs.length : Int) + 1)) := by
  obtain ⟨zs, h1, h2, _, h4⟩ := laws_markInt64S_l0 xs.length hn xs.length k 0 xs rfl (by omega) hk
  exact ⟨zs, h1, h2, fun k' hk' => laws_heldInt64S_l0 xs.length hn zs h2 (fun j hj => h4 j (by omega) hj) xs.length k' 0 (by omega) hk'⟩

theorem spec_l01Ceil_eq (a b : Int) (h0 : 0 ≤ a) (h1 : a ≤ 4611686018427387904) (k0 : 1 ≤ b) (k1 : b ≤ 4611686018427387903) : spec_l01Ceil.f a b = some ((a + b - 1) / b) := by
  unfold spec_l01Ceil.f
  have h3 : 0 ≤ (a + b - 1) / b := Int.ediv_nonneg (by omega) (by omega)
  have h4 : (a + b - 1) / b ≤ a + b - 1 := Int.ediv_le_self _ (by omega)
  rw [if_neg (by omega), w64 (x := a + b) (by omega) (by omega), w64 (x := a + b - 1) (by omega) (by omega), tdiv_n (by omega), w64 (by omega) (by omega)]

theorem spec_l01In_eq (a b c : Int) : spec_l01In.f a b c = some (inR a b c) := by
  unfold spec_l01In.f inR
  by_cases h : a ≥ b
  · rw [if_pos h]; simp [show b ≤ a from h]
  · rw [if_neg h]; simp [show ¬ b ≤ a from h]

theorem spec_l01Has_l0 (xs : List Int) (x : Int) (hl : xs.length ≤ 9223372036854775806) : ∀ (d k i : Nat), i + d = xs.length → d < k → spec_l01Has.l0 k xs x (i : Int) = some ((xs.drop i).contains x) := by
  intro d
  induction d with
  | zero =>
    intro k i h hk
    obtain ⟨k, rfl⟩ : ∃ m, k = m + 1 := ⟨k - 1, by omega⟩
    rw [spec_l01Has.l0, if_neg (by omega), List.drop_of_length_le (by omega)]
    rfl
  | succ d ih =>
    intro k i h hk
    obtain ⟨k, rfl⟩ : ∃ m, k = m + 1 := ⟨k - 1, by omega⟩
    have hi : i < xs.length := by omega
    have e : xs.drop i = xs[i] :: xs.drop (i + 1) := List.drop_eq_getElem_cons hi
    have e2 : xs.getD i 0 = xs[i] := by simp [List.getD_eq_getElem?_getD, List.getElem?_eq_getElem hi]
    have e3 := ih k (i + 1) (by omega) (by omega)
    rw [spec_l01Has.l0, if_pos (by omega), if_pos (by omega), rd_nat, e2, e, List.contains_cons]
    by_cases hx : xs[i] = x
    · rw [if_pos hx]; simp [hx]
    · rw [if_neg hx, w64 (by omega) (by omega)]
      have e4 : (x == xs[i]) = false := beq_eq_false_iff_ne.mpr (fun h => hx h.symm)
      rw [e4, Bool.false_or]
      exact e3
theorem spec_l01Has_eq (xs : List Int) (x : Int) (k : Nat) (hl : xs.length ≤ 9223372036854775806) (hk : xs.length < k) : spec_l01Has.f k xs x = some (xs.contains x) := by
  unfold spec_l01Has.f
  exact spec_l01Has_l0 xs x hl xs.length k 0 (by omega) hk

theorem spec_IsUnit_eq (k : Nat) (a : Int) (hk : 6 < k) : spec_IsUnit.f k a = some (isUnit a) := by
  unfold spec_IsUnit.f
  rw [spec_l01Has_eq _ _ _ (by show (6 : Nat) ≤ 9223372036854775806; omega) (by show (6 : Nat) < k; omega)]
  simp only [Option.bind_some, isUnit, List.contains_cons, List.contains_nil, Bool.or_false, Bool.or_assoc]

theorem spec_l06Fits_eq (k : Nat) (p u : Int) (hk : 6 < k) : spec_l06Fits.f k p u = some (inR p 1 4096 && isUnit u) := by
  unfold spec_l06Fits.f
  simp only [spec_l01In_eq, spec_IsUnit_eq k u hk, Option.bind_some]
  cases inR p 1 4096 <;> rfl

theorem spec_IsOrder_l0 (xs : List Int) (hl : xs.length ≤ 1048576) : ∀ (d k i : Nat), i + d = xs.length → xs.length + d + 2 < k → spec_IsOrder.l0 k xs (i : Int) = some (ord xs.length (xs.take i) (xs.drop i) && decide (xs.length ≤ 64)) := by
  intro d
  induction d with
  | zero =>
    intro k i h hk
    obtain ⟨k, rfl⟩ : ∃ m, k = m + 1 := ⟨k - 1, by omega⟩
    have e : decide ((xs.length : Int) ≤ 64) = decide (xs.length ≤ 64) := by rw [decide_eq_decide]; omega
    rw [spec_IsOrder.l0, if_neg (by omega), List.drop_of_length_le (by omega), ord, e]
    rfl
  | succ d ih =>
    intro k i h hk
    obtain ⟨k, rfl⟩ : ∃ m, k = m + 1 := ⟨k - 1, by omega⟩
    have h1 : i < xs.length := by omega
    rw [spec_IsOrder.l0, if_pos (by omega), if_pos (by omega), rd_get xs i h1, spec_l01In_eq, w64 (x := (xs.length : Int) - 1) (by omega) (by omega), drop_get xs i h1, ord]
    simp only [Option.bind_some]
    cases e : inR xs[i] 0 ((xs.length : Int) - 1)
    · simp
    · simp only [if_true]
      rw [if_pos (by omega), Int.toNat_natCast, spec_l01Has_eq (xs.take i) xs[i] k (by rw [List.length_take]; omega) (by rw [List.length_take]; omega)]
      simp only [Option.bind_some, Bool.true_and]
      cases e2 : (xs.take i).contains xs[i]
      · simp only [Bool.false_eq_true, if_false, Bool.not_false, Bool.true_and]
        rw [w64 (by omega) (by omega), ← List.take_succ_eq_append_getElem h1]
        exact ih k (i + 1) (by omega) (by omega)
      · simp
theorem spec_IsOrder_eq (xs : List Int) (k : Nat) (hl : xs.length ≤ 1048576) (hk : 2 * xs.length + 2 < k) : spec_IsOrder.f k xs = some (isOrder xs) := by
  unfold spec_IsOrder.f isOrder
  have := spec_IsOrder_l0 xs hl xs.length k 0 (by omega) (by omega)
  rw [List.take_zero, List.drop_zero, Bool.and_comm] at this
  exact this

theorem spec_GatherPages_l1 (pages unit : Int) (order : List Int) (hu : 4 ≤ unit ∧ unit ≤ 128) (i : Nat) (hi : i < order.length) (ho : 0 ≤ order[i] ∧ order[i] ≤ 63) (hol : order.length ≤ 64) (r : Option (List Int × Int)) (m : Nat) (acc2 : List Int) (hn : ∀ k, m ≤ k → spec_GatherPages.l0 k pages unit order acc2 ((i : Int) + 1) = r) :
    ∀ (d k : Nat) (j : Int) (acc : List Int), 0 ≤ j → j + d = unit → m + d + 1 ≤ k → acc.length + d ≤ 100000 → gsig pages (order[i] * unit) d j acc = acc2 → spec_GatherPages.l1 k pages unit order acc (i : Int) (order[i] * unit + j + 1) = r := by
  have b := mul_bd (a := order[i]) (b := unit) (A := 63) (B := 128) (by omega) (by omega) (by omega) (by omega)
  intro d
  induction d with
  | zero =>
    intro k j acc h0 h hk hl he
    obtain ⟨k, rfl⟩ : ∃ m, k = m + 1 := ⟨k - 1, by omega⟩
    rw [spec_GatherPages.l1, if_pos (by omega), if_pos (by omega), rd_get order i hi, w64 (x := order[i] * unit) (by omega) (by omega), w64 (x := order[i] * unit + unit) (by omega) (by omega), if_neg (by omega), w64 (x := (i : Int) + 1) (by omega) (by omega)]
    rw [gsig] at he
    rw [he]
    exact hn k (by omega)
  | succ d ih =>
    intro k j acc h0 h hk hl he
    obtain ⟨k, rfl⟩ : ∃ m, k = m + 1 := ⟨k - 1, by omega⟩
    rw [gsig] at he
    rw [spec_GatherPages.l1, if_pos (by omega), if_pos (by omega), rd_get order i hi, w64 (x := order[i] * unit) (by omega) (by omega), w64 (x := order[i] * unit + unit) (by omega) (by omega), if_pos (by omega), w64 (x := order[i] * unit + j + 1 + 1) (by omega) (by omega)]
    have next := ih k (j + 1) _ (by omega) (by omega) (by omega) (by simp only [List.length_append, List.length_cons, List.length_nil]; omega) he
    rw [show order[i] * unit + (j + 1) + 1 = order[i] * unit + j + 1 + 1 by omega] at next
    unfold gpage at next
    by_cases e : order[i] * unit + j + 1 > pages
    · rw [if_pos e] at next
      rw [if_pos e, if_pos (by omega)]
      exact next
    · rw [if_neg e] at next
      rw [if_neg e, if_pos (by omega)]
      exact next
theorem spec_GatherPages_l0 (pages unit : Int) (order : List Int) (hu : 4 ≤ unit ∧ unit ≤ 128) (ho : ∀ x ∈ order, 0 ≤ x ∧ x ≤ 63) (hol : order.length ≤ 64) : ∀ (d k i : Nat) (acc : List Int), i + d = order.length → d * (unit.toNat + 3) + 1 ≤ k → acc.length + d * (unit.toNat + 3) ≤ 100000 → spec_GatherPages.l0 k pages unit order acc (i : Int) = some (gath pages unit (order.drop i) acc, 0) := by
  intro d
  induction d with
  | zero =>
    intro k i acc h hk hl
    obtain ⟨k, rfl⟩ : ∃ m, k = m + 1 := ⟨k - 1, by omega⟩
    rw [spec_GatherPages.l0, if_neg (by omega), List.drop_of_length_le (by omega), gath]
  | succ d ih =>
    intro k i acc h hk hl
    rw [Nat.succ_mul] at hk hl
    obtain ⟨k, rfl⟩ : ∃ m, k = m + 1 := ⟨k - 1, by omega⟩
    have h1 : i < order.length := by omega
    have h2 := ho order[i] (List.getElem_mem h1)
    have b := mul_bd (a := order[i]) (b := unit) (A := 63) (B := 128) (by omega) (by omega) (by omega) (by omega)
    rw [spec_GatherPages.l0, if_pos (by omega), if_pos (by omega), rd_get order i h1, drop_get order i h1, gath, w64 (x := order[i] * unit) (by omega) (by omega), w64 (x := order[i] * unit + 1) (by omega) (by omega)]
    have := spec_GatherPages_l1 pages unit order hu i h1 h2 hol _ (d * (unit.toNat + 3) + 1) (gsig pages (order[i] * unit) unit.toNat 0 acc) (fun k hk => ih k (i + 1) _ (by omega) hk (by rw [gsig_len]; omega)) unit.toNat k 0 acc (by omega) (by omega) (by omega) (by omega) rfl
    rw [Int.add_zero] at this
    exact this
theorem spec_GatherPages_eq (pages unit : Int) (order : List Int) (k : Nat) (hl : order.length ≤ 1048576) (hk : 2 * order.length + 10000 < k) : spec_GatherPages.f k pages unit order = some (gatherPages pages unit order) := by
  obtain ⟨k, rfl⟩ : ∃ m, k = m + 1 := ⟨k - 1, by omega⟩
  unfold spec_GatherPages.f gatherPages
  simp only [spec_l06Fits_eq (k + 1) pages unit (by omega), Option.bind_some]
  cases hp : inR pages 1 4096
  · simp [spec_GatherPages.j0]
  cases hu : isUnit unit
  · simp [spec_GatherPages.j0]
  have h1 := inR_true hp
  have h2 := isUnit_true hu
  simp only [if_true, Bool.and_self, Bool.true_and, spec_IsOrder_eq order (k + 1) hl (by omega), Option.bind_some]
  cases ho : isOrder order
  · simp [spec_GatherPages.j0]
  have h3 := isOrder_true ho
  simp only [if_true, Bool.true_and]
  rw [spec_l01Ceil_eq pages unit (by omega) (by omega) (by omega) (by omega)]
  simp only [Option.bind_some, spec_GatherPages.j0]
  by_cases e : (order.length : Int) = (pages + unit - 1) / unit
  · have e2 : ((order.length : Int) != (pages + unit - 1) / unit) = false := bne_eq_false_iff_eq.mpr e
    have e3 : ((order.length : Int) == (pages + unit - 1) / unit) = true := beq_iff_eq.mpr e
    rw [e2, e3, if_neg (by simp), if_pos rfl]
    have hb : order.length * (unit.toNat + 3) ≤ 64 * 131 := Nat.mul_le_mul h3.1 (by omega)
    exact spec_GatherPages_l0 pages unit order (by omega) (fun x hx => by have := h3.2 x hx; omega) h3.1 order.length k 0 [] (by omega) (by omega) (by simp only [List.length_nil]; omega)
  · have e2 : ((order.length : Int) != (pages + unit - 1) / unit) = true := bne_iff_ne.mpr e
    have e3 : ((order.length : Int) == (pages + unit - 1) / unit) = false := beq_eq_false_iff_ne.mpr e
    rw [e2, e3, if_pos rfl, if_neg (by simp)]

theorem impl_inRange_eq (a b c : Int) : impl_inRange.f a b c = some (inR a b c) := by
  unfold impl_inRange.f inR
  by_cases h : b ≤ a
  · rw [if_pos h]; simp [h]
  · rw [if_neg h]; simp [h]

theorem impl_isPages_eq (a : Int) : impl_isPages.f a = some (inR a 1 4096) := by
  unfold impl_isPages.f; rw [impl_inRange_eq]; rfl

theorem impl_IsUnit_eq (a : Int) : impl_IsUnit.f a = some (isUnit a) := by
  unfold impl_IsUnit.f
  simp only [impl_inRange_eq, Option.bind_some]
  cases h : inR a 4 128
  · have := inR_false h
    have h2 : isUnit a = false := by
      cases h3 : isUnit a
      · rfl
      · have := isUnit_true h3; omega
    simp [h2]
  · have := inR_true h
    simp only [if_true]
    rw [unit_bits a (by omega) (by omega)]

theorem impl_padded_eq (p u : Int) (hp : inR p 1 4096 = true) (hu : isUnit u = true) : impl_padded.f p u = some ((p + u - 1) / u * u) := by
  have h1 := inR_true hp
  have h2 := isUnit_true hu
  unfold impl_padded.f
  rw [if_neg (by omega), w64 (x := p + u) (by omega) (by omega), w64 (x := p + u - 1) (by omega) (by omega), tdiv_n (by omega)]
  have h3 : 0 ≤ (p + u - 1) / u ∧ (p + u - 1) / u ≤ 4224 ∧ (p + u - 1) / u * u ≤ 4224 ∧ 0 ≤ (p + u - 1) / u * u := by
    rcases h2 with rfl | rfl | rfl | rfl | rfl | rfl <;> omega
  rw [w64 (x := (p + u - 1) / u) (by omega) (by omega), w64 (by omega) (by omega)]

theorem impl_SignatureCount_eq (p u : Int) : impl_SignatureCount.f p u = some (sigCount p u) := by
  unfold impl_SignatureCount.f sigCount
  simp only [impl_isPages_eq, impl_IsUnit_eq, Option.bind_some]
  cases hp : inR p 1 4096
  · simp
  cases hu : isUnit u
  · simp
  have h1 := inR_true hp
  have h2 := isUnit_true hu
  simp only [Bool.and_self, if_true]
  rw [impl_padded_eq p u hp hu]
  simp only [Option.bind_some]
  rw [if_neg (by omega)]
  rcases h2 with rfl | rfl | rfl | rfl | rfl | rfl <;> rw [tdiv_n (by omega), Int.mul_ediv_cancel _ (by omega), w64 (by omega) (by omega)]

theorem impl_length_int64_eq (xs : List Int) : impl_length_int64.f xs = some (xs.length : Int) := rfl

theorem impl_IsOrder_l0 (xs : List Int) (hl : xs.length ≤ 64) : ∀ (d k i : Nat) (seen : List Bool), i + d = xs.length → d < k → seen.length = xs.length → (∀ v : Nat, v < xs.length → seen[v]? = some ((xs.take i).contains (v : Int))) →
    impl_IsOrder.l0 k xs seen xs (xs.length : Int) (i : Int) = some (ord xs.length (xs.take i) (xs.drop i)) := by
  intro d
  induction d with
  | zero =>
    intro k i seen h hk hs hv
    obtain ⟨k, rfl⟩ : ∃ m, k = m + 1 := ⟨k - 1, by omega⟩
    rw [impl_IsOrder.l0, if_neg (by omega), List.drop_of_length_le (by omega), ord]
  | succ d ih =>
    intro k i seen h hk hs hv
    obtain ⟨k, rfl⟩ : ∃ m, k = m + 1 := ⟨k - 1, by omega⟩
    have h1 : i < xs.length := by omega
    rw [impl_IsOrder.l0, if_pos (by omega), if_pos (by omega), if_pos (by omega), impl_length_int64_eq, rd_get xs i h1, drop_get xs i h1, ord]
    simp only [Option.bind_some]
    rw [impl_inRange_eq, w64 (x := (xs.length : Int) - 1) (by omega) (by omega)]
    simp only [Option.bind_some]
    cases e : inR xs[i] 0 ((xs.length : Int) - 1)
    · simp
    · have h2 := inR_true e
      obtain ⟨v, hxv⟩ : ∃ v : Nat, xs[i] = v := ⟨xs[i].toNat, by omega⟩
      have hvl : v < xs.length := by omega
      have h3 : rdOf false seen xs[i] = (xs.take i).contains xs[i] := by
        unfold rdOf
        rw [hxv, Int.toNat_natCast, List.getD_eq_getElem?_getD, hv v hvl]
        rfl
      simp only [if_true]
      rw [if_pos h2.1, if_pos (by omega), h3]
      simp only [Bool.true_and]
      cases e2 : (xs.take i).contains xs[i]
      · simp only [Bool.false_eq_true, if_false, Bool.not_false, Bool.true_and]
        rw [w64 (by omega) (by omega), ← List.take_succ_eq_append_getElem h1]
        refine ih k (i + 1) _ (by omega) (by omega) (by rw [List.length_set]; exact hs) (fun u hu => ?_)
        rw [hxv, Int.toNat_natCast, List.take_succ_eq_append_getElem h1, hxv]
        by_cases e3 : v = u
        · subst e3
          rw [List.getElem?_set_self (by omega)]
          simp
        · rw [List.getElem?_set_ne e3, hv u hu]
          have e4 : (u : Int) ≠ (v : Int) := by omega
          simp [List.contains_eq_mem, e4]
      · simp
theorem impl_IsOrder_eq (xs : List Int) (k : Nat) (hk : 66 < k) : impl_IsOrder.f k xs = some (isOrder xs) := by
  unfold impl_IsOrder.f isOrder
  by_cases h : (xs.length : Int) > 64
  · rw [if_pos h, decide_eq_false (show ¬ xs.length ≤ 64 by omega)]; rfl
  · rw [if_neg h, decide_eq_true (show xs.length ≤ 64 by omega), if_pos (by omega), if_pos (by omega), Int.toNat_natCast, Bool.true_and]
    have := impl_IsOrder_l0 xs (by omega) xs.length k 0 (List.replicate xs.length false) (by omega) (by omega) (by simp) (fun v hv => by
      rw [List.getElem?_replicate, if_pos hv]; simp)
    rw [List.take_zero, List.drop_zero] at this
    exact this

theorem impl_GatherPages_l1 (pages unit : Int) (order : List Int) (hu : 4 ≤ unit ∧ unit ≤ 128) (i : Nat) (o : Int) (ho : 0 ≤ o ∧ o ≤ 63) (hol : i < 64) (r : Option (List Int × Int)) (m : Nat) (acc2 : List Int) (hn : ∀ k, m ≤ k → impl_GatherPages.l0 k pages unit acc2 order (order.length : Int) ((i : Int) + 1) = r) :
    ∀ (d k : Nat) (j : Int) (acc : List Int), 0 ≤ j → j + d = unit → m + d + 1 ≤ k → acc.length + d ≤ 100000 → gsig pages (o * unit) d j acc = acc2 → impl_GatherPages.l1 k pages unit acc o order (order.length : Int) (i : Int) unit j = r := by
  have b := mul_bd (a := o) (b := unit) (A := 63) (B := 128) (by omega) (by omega) (by omega) (by omega)
  intro d
  induction d with
  | zero =>
    intro k j acc h0 h hk hl he
    obtain ⟨k, rfl⟩ : ∃ m, k = m + 1 := ⟨k - 1, by omega⟩
    rw [impl_GatherPages.l1, if_neg (by omega), w64 (x := (i : Int) + 1) (by omega) (by omega)]
    rw [gsig] at he
    rw [he]
    exact hn k (by omega)
  | succ d ih =>
    intro k j acc h0 h hk hl he
    obtain ⟨k, rfl⟩ : ∃ m, k = m + 1 := ⟨k - 1, by omega⟩
    rw [gsig] at he
    rw [impl_GatherPages.l1, if_pos (by omega), w64 (x := o * unit) (by omega) (by omega), w64 (x := o * unit + j) (by omega) (by omega), w64 (x := o * unit + j + 1) (by omega) (by omega), w64 (x := j + 1) (by omega) (by omega)]
    have next := ih k (j + 1) _ (by omega) (by omega) (by omega) (by simp only [List.length_append, List.length_cons, List.length_nil]; omega) he
    unfold gpage at next
    by_cases e : o * unit + j + 1 > pages
    · rw [if_pos e] at next
      rw [if_pos e, if_pos (by omega)]
      exact next
    · rw [if_neg e] at next
      rw [if_neg e, if_pos (by omega)]
      exact next
theorem impl_GatherPages_l0 (pages unit : Int) (order : List Int) (hu : 4 ≤ unit ∧ unit ≤ 128) (ho : ∀ x ∈ order, 0 ≤ x ∧ x ≤ 63) (hol : order.length ≤ 64) : ∀ (d k i : Nat) (acc : List Int), i + d = order.length → d * (unit.toNat + 3) + 1 ≤ k → acc.length + d * (unit.toNat + 3) ≤ 100000 → impl_GatherPages.l0 k pages unit acc order (order.length : Int) (i : Int) = some (gath pages unit (order.drop i) acc, 0) := by
  intro d
  induction d with
  | zero =>
    intro k i acc h hk hl
    obtain ⟨k, rfl⟩ : ∃ m, k = m + 1 := ⟨k - 1, by omega⟩
    rw [impl_GatherPages.l0, if_neg (by omega), List.drop_of_length_le (by omega), gath]
  | succ d ih =>
    intro k i acc h hk hl
    rw [Nat.succ_mul] at hk hl
    obtain ⟨k, rfl⟩ : ∃ m, k = m + 1 := ⟨k - 1, by omega⟩
    have h1 : i < order.length := by omega
    have h2 := ho order[i] (List.getElem_mem h1)
    rw [impl_GatherPages.l0, if_pos (by omega), if_pos (by omega), if_pos (by omega), rd_get order i h1, drop_get order i h1, gath]
    exact impl_GatherPages_l1 pages unit order hu i order[i] h2 (by omega) _ (d * (unit.toNat + 3) + 1) (gsig pages (order[i] * unit) unit.toNat 0 acc) (fun k hk => ih k (i + 1) _ (by omega) hk (by rw [gsig_len]; omega)) unit.toNat k 0 acc (by omega) (by omega) (by omega) (by omega) rfl
theorem impl_GatherPages_eq (pages unit : Int) (order : List Int) (k : Nat) (hk : 10000 < k) : impl_GatherPages.f k pages unit order = some (gatherPages pages unit order) := by
  obtain ⟨k, rfl⟩ : ∃ m, k = m + 1 := ⟨k - 1, by omega⟩
  unfold impl_GatherPages.f gatherPages
  simp only [impl_SignatureCount_eq, sigCount, Option.bind_some]
  cases hp : inR pages 1 4096
  · simp
  cases hu : isUnit unit
  · simp
  have h1 := inR_true hp
  have h2 := isUnit_true hu
  simp only [if_true, Bool.and_self, Bool.true_and, impl_IsOrder_eq order (k + 1) (by omega), Option.bind_some]
  cases ho : isOrder order
  · simp [impl_GatherPages.j0]
  have h3 := isOrder_true ho
  simp only [if_true, Bool.true_and, impl_length_int64_eq, Option.bind_some, impl_GatherPages.j0]
  by_cases e : (order.length : Int) = (pages + unit - 1) / unit
  · have e2 : ((order.length : Int) != (pages + unit - 1) / unit) = false := bne_eq_false_iff_eq.mpr e
    have e3 : ((order.length : Int) == (pages + unit - 1) / unit) = true := beq_iff_eq.mpr e
    rw [e2, e3, if_neg (by simp), if_pos rfl]
    have hb : order.length * (unit.toNat + 3) ≤ 64 * 131 := Nat.mul_le_mul h3.1 (by omega)
    exact impl_GatherPages_l0 pages unit order (by omega) (fun x hx => by have := h3.2 x hx; omega) h3.1 order.length k 0 [] (by omega) (by omega) (by simp only [List.length_nil]; omega)
  · have e2 : ((order.length : Int) != (pages + unit - 1) / unit) = true := bne_iff_ne.mpr e
    have e3 : ((order.length : Int) == (pages + unit - 1) / unit) = false := beq_eq_false_iff_ne.mpr e
    rw [e2, e3, if_pos rfl, if_neg (by simp)]

theorem FnExactGatherPages : laws_FnExactGatherPages.Pure := by
  intro a b l _ _ _ _ _
  by_cases hbig : (l.length : Int) > 1048576
  · exact ⟨1, by unfold laws_FnExactGatherPages.f; rw [if_pos hbig]⟩
  have hl := gatherPages_len a b l
  obtain ⟨ys, hm2, hz2, hh2⟩ := marks_held l (by omega) (2 * l.length + 19999) (by omega)
  obtain ⟨zs, hm, hz, hh⟩ := marks_held (gatherPages a b l).1 (by omega) (2 * l.length + 19998) (by omega)
  have h0 : ¬ (((gatherPages a b l).1.length : Int) + 1 < 0) := by omega
  have h1 : ¬ ((l.length : Int) + 1 < 0) := by omega
  refine ⟨2 * l.length + 20000, ?_⟩
  simp (disch := omega) only [laws_FnExactGatherPages.f, if_neg hbig, laws_toInt64S_eq, spec_GatherPages_eq, impl_GatherPages_eq, laws_eqInt64S_eq, Option.bind_some, bne_self_eq_false, if_true]
  simp (disch := omega) only [laws_FnExactGatherPages.j0, laws_toInt64S_eq, laws_eqInt64S_eq, hm2, if_neg h1, Option.bind_some, bne_self_eq_false, Bool.false_eq_true, if_false, if_true]
  simp (disch := omega) only [laws_FnExactGatherPages.j1, laws_toInt64S_eq, impl_GatherPages_eq, laws_eqInt64S_eq, hm, hh, if_neg h0, Option.bind_some, bne_self_eq_false, Bool.false_eq_true, if_false, if_true]
  simp (disch := omega) only [laws_FnExactGatherPages.j2, hh, if_neg h0, Option.bind_some, Bool.false_eq_true, if_false, if_true]

end Go.Proofs.Ytbkeajifeaeccaa.Pure
