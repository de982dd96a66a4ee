/- For all arguments the law FnExactGridCuts returns true, with no condition beyond the bounds that the printed statement names. -/
import Derived.Test.YtbkeajifeaeccaaPFnExactGridCutsx5
namespace Go.Proofs.Ytbkeajifeaeccaa.Pure
open Go.RowKit Go.Proofs.Ytbkeajifeaeccaa.PFnExactGridCuts Go.Proofs.YtbkeajifeaeccaaW.PrintWords Go.Proofs.YtbkeajifeaeccaaW.PrintLast
set_option linter.unusedVariables false
set_option linter.unusedSimpArgs false

theorem w64 {x : Int} (h1 : -9223372036854775808 ≤ x) (h2 : x ≤ 9223372036854775807) : wrap64 x = x := by
  unfold wrap64; omega
theorem wf64 {x : Int} (h : (Lit.int .i64 x).wf = true) : -9223372036854775808 ≤ x ∧ x ≤ 9223372036854775807 := by
  simp [Lit.wf, IntKind.min, IntKind.max, IntKind.signed, IntKind.bits] at h
  omega
/-- 'a lies from b to c'. -/
def inR (a b c : Int) : Bool := decide (b ≤ a ∧ a ≤ c)
theorem inR_true {a b c : Int} (h : inR a b c = true) : b ≤ a ∧ a ≤ c := by simpa [inR] using h
theorem inR_mk {a b c : Int} (h1 : b ≤ a) (h2 : a ≤ c) : inR a b c = true := by simp [inR, h1, h2]
theorem inR_false {a b c : Int} (h : inR a b c = false) : a < b ∨ c < a := by
  have : ¬ (b ≤ a ∧ a ≤ c) := by simpa [inR] using h
  omega
theorem rd_nat (xs : List Int) (i : Nat) : rd xs (i : Int) = xs.getD i 0 := by simp [rd]
theorem mul_bd {a b A B : Int} (h0 : 0 ≤ a) (h1 : a ≤ A) (k0 : 0 ≤ b) (k1 : b ≤ B) : 0 ≤ a * b ∧ a * b ≤ A * B :=
  ⟨Int.mul_nonneg h0 k0, Int.mul_le_mul h1 k1 k0 (by omega)⟩
theorem tdiv_n {a b : Int} (h : 0 ≤ a) : Int.tdiv a b = a / b := Int.tdiv_eq_ediv_of_nonneg h
theorem tmod_n {a b : Int} (h : 0 ≤ a) : Int.tmod a b = a % b := Int.tmod_eq_emod_of_nonneg h
theorem mn_min (a b : Int) : mn a b = min a b := by unfold mn; split <;> omega
theorem mx_max (a b : Int) : mx a b = max a b := by unfold mx; split <;> omega

def isPiece (a b : Int) : Bool := inR a 1 20000 && inR b 1 20000

theorem rdICut (xs : List S53) (i : Nat) (h : i < xs.length) : rd_T53 xs (i : Int) = xs[i] := by simp [rd_T53, List.getD_eq_getElem?_getD, List.getElem?_eq_getElem h]
theorem dropICut (xs : List S53) (i : Nat) (h : i < xs.length) : xs.drop i = xs[i] :: xs.drop (i + 1) := List.drop_eq_getElem_cons h

def g2 (rows i qh : Int) : Nat → Int → List S53 → List S53
  | 0, _, acc => acc
  | d + 1, j, acc => g2 rows i qh d (j + 1) (acc ++ [⟨i * (rows + 1) + j, true, qh⟩])
def g1 (rows qh : Int) : Nat → Int → List S53 → List S53
  | 0, _, acc => acc
  | d + 1, i, acc => g1 rows qh d (i + 1) (g2 rows i qh rows.toNat 0 acc)
def g0 (qw : Int) : Nat → Int → List S53 → List S53
  | 0, _, acc => acc
  | d + 1, i, acc => g0 qw d (i + 1) (acc ++ [⟨i, false, qw⟩])
theorem g2_len (rows i qh : Int) : ∀ (d : Nat) (j : Int) (acc : List S53), (g2 rows i qh d j acc).length = acc.length + d
  | 0, _, _ => rfl
  | d + 1, j, acc => by rw [g2, g2_len rows i qh d]; simp; omega
theorem g1_len (rows qh : Int) : ∀ (d : Nat) (i : Int) (acc : List S53), (g1 rows qh d i acc).length = acc.length + d * rows.toNat
  | 0, _, _ => by simp [g1]
  | d + 1, i, acc => by rw [g1, g1_len rows qh d, g2_len, Nat.succ_mul]; omega
theorem g0_len (qw : Int) : ∀ (d : Nat) (i : Int) (acc : List S53), (g0 qw d i acc).length = acc.length + d
  | 0, _, _ => rfl
  | d + 1, i, acc => by rw [g0, g0_len qw d]; simp; omega
def colsOf (a pw qw : Int) : Int := if a * qw < pw then a - 1 + 1 else a - 1
def gridCuts (pw ph a c qw qh : Int) : List S53 × Int :=
  if (isPiece pw ph && isPiece qw qh) = true then
    (if (inR a 1 80 && inR c 1 80) = true then
      (if colsOf a pw qw + a * colsOf c ph qh > 79 then ([], 3) else
        (if a * qw > pw ∨ c * qh > ph then ([], 5) else (g1 (colsOf c ph qh) qh a.toNat 0 (g0 qw (colsOf a pw qw).toNat 0 []), 0)))
    else ([], 2))
  else ([], 1)
theorem colsOf_bd {a pw qw : Int} (h : inR a 1 80 = true) : 0 ≤ colsOf a pw qw ∧ colsOf a pw qw ≤ 80 := by
  have := inR_true h
  unfold colsOf
  split <;> omega
theorem isPiece_true {a b : Int} (h : isPiece a b = true) : (1 ≤ a ∧ a ≤ 20000) ∧ (1 ≤ b ∧ b ≤ 20000) := by
  simp only [isPiece, Bool.and_eq_true] at h
  exact ⟨inR_true h.1, inR_true h.2⟩
theorem gridCuts_len (pw ph a c qw qh : Int) : (gridCuts pw ph a c qw qh).1.length ≤ 79 := by
  unfold gridCuts
  split
  · split
    · split
      · simp
      · rename_i h2 h3
        split
        · simp
        · simp only [Bool.and_eq_true] at h2
          have b1 := colsOf_bd (pw := pw) (qw := qw) h2.1
          have b2 := colsOf_bd (pw := ph) (qw := qh) h2.2
          have h4 := inR_true h2.1
          rw [g1_len, g0_len]
          have e : ((a.toNat * (colsOf c ph qh).toNat : Nat) : Int) = a * colsOf c ph qh := by
            rw [Int.natCast_mul, Int.toNat_of_nonneg (by omega), Int.toNat_of_nonneg b2.1]
          simp only [List.length_nil]
          omega
    · simp
  · simp

theorem laws_toPiece_eq (x0 : Int) (x1 : Int) : laws_toPiece.f x0 x1 = some (x0, x1) := rfl

theorem spec_l01In_eq (a b c : Int) : spec_l01In.f a b c = some (inR a b c) := by
  unfold spec_l01In.f inR
  by_cases h : a ≥ b
  · rw [if_pos h]; simp [show b ≤ a from h]
  · rw [if_neg h]; simp [show ¬ b ≤ a from h]

theorem spec_IsPiece_eq (a b : Int) : spec_IsPiece.f a b = some (isPiece a b) := by
  unfold spec_IsPiece.f isPiece
  simp only [spec_l01In_eq, Option.bind_some]
  cases inR a 1 20000 <;> rfl

theorem spec_GridCuts_l2 (a rows qw qh : Int) (hr : 0 ≤ rows ∧ rows ≤ 80) (ha : 1 ≤ a ∧ a ≤ 80) (r : Option (List S53 × Int)) (i : Int) (hi : 0 ≤ i ∧ i < a) (m : Nat) (acc2 : List S53) (hn : ∀ k, m ≤ k → spec_GridCuts.l1 k a rows acc2 (i + 1) qw qh = r) :
    ∀ (d k : Nat) (j : Int) (acc : List S53), 0 ≤ j → j + d = rows → m + d + 1 ≤ k → acc.length + d ≤ 100000 → g2 rows i qh d j acc = acc2 → spec_GridCuts.l2 k a rows acc i j qw qh = r := by
  intro d
  induction d with
  | zero =>
    intro k j acc h0 h hk hl he
    obtain ⟨k, rfl⟩ : ∃ m, k = m + 1 := ⟨k - 1, by omega⟩
    rw [spec_GridCuts.l2, if_neg (by omega), w64 (x := i + 1) (by omega) (by omega)]
    rw [g2] at he
    rw [he]
    exact hn k (by omega)
  | succ d ih =>
    intro k j acc h0 h hk hl he
    obtain ⟨k, rfl⟩ : ∃ m, k = m + 1 := ⟨k - 1, by omega⟩
    have b := mul_bd (a := i) (b := rows + 1) (A := 80) (B := 81) (by omega) (by omega) (by omega) (by omega)
    rw [spec_GridCuts.l2, if_pos (by omega), if_pos (by omega), w64 (x := rows + 1) (by omega) (by omega), w64 (x := i * (rows + 1)) (by omega) (by omega), w64 (x := i * (rows + 1) + j) (by omega) (by omega), w64 (x := j + 1) (by omega) (by omega)]
    rw [g2] at he
    exact ih k (j + 1) _ (by omega) (by omega) (by omega) (by simp only [List.length_append, List.length_cons, List.length_nil]; omega) he
theorem spec_GridCuts_l1 (a rows qw qh : Int) (hr : 0 ≤ rows ∧ rows ≤ 80) (ha : 1 ≤ a ∧ a ≤ 80) : ∀ (d k : Nat) (i : Int) (acc : List S53), 0 ≤ i → i + d = a → d * (rows.toNat + 3) + 1 ≤ k → acc.length + d * (rows.toNat + 3) ≤ 100000 → spec_GridCuts.l1 k a rows acc i qw qh = some (g1 rows qh d i acc, 0) := by
  intro d
  induction d with
  | zero =>
    intro k i acc h0 h hk hl
    obtain ⟨k, rfl⟩ : ∃ m, k = m + 1 := ⟨k - 1, by omega⟩
    rw [spec_GridCuts.l1, if_neg (by omega), g1]
  | succ d ih =>
    intro k i acc h0 h hk hl
    rw [Nat.succ_mul] at hk hl
    obtain ⟨k, rfl⟩ : ∃ m, k = m + 1 := ⟨k - 1, by omega⟩
    rw [spec_GridCuts.l1, if_pos (by omega), g1]
    refine spec_GridCuts_l2 a rows qw qh hr ha _ i (by omega) (d * (rows.toNat + 3) + 1) (g2 rows i qh rows.toNat 0 acc) (fun k hk => ?_) rows.toNat k 0 acc (by omega) (by omega) (by omega) (by omega) rfl
    exact ih k (i + 1) _ (by omega) (by omega) hk (by rw [g2_len]; omega)
theorem spec_GridCuts_l0 (a cols rows qw qh : Int) (hc : 0 ≤ cols ∧ cols ≤ 80) (hr : 0 ≤ rows ∧ rows ≤ 80) (ha : 1 ≤ a ∧ a ≤ 80) : ∀ (d k : Nat) (i : Int) (acc : List S53), 0 ≤ i → i + d = cols → 7000 + d ≤ k → acc.length + d ≤ 100 → spec_GridCuts.l0 k a cols rows acc i qw qh = some (g1 rows qh a.toNat 0 (g0 qw d i acc), 0) := by
  have hb : a.toNat * (rows.toNat + 3) ≤ 80 * 83 := Nat.mul_le_mul (by omega) (by omega)
  intro d
  induction d with
  | zero =>
    intro k i acc h0 h hk hl
    obtain ⟨k, rfl⟩ : ∃ m, k = m + 1 := ⟨k - 1, by omega⟩
    rw [spec_GridCuts.l0, if_neg (by omega), g0]
    exact spec_GridCuts_l1 a rows qw qh hr ha a.toNat k 0 acc (by omega) (by omega) (by omega) (by omega)
  | succ d ih =>
    intro k i acc h0 h hk hl
    obtain ⟨k, rfl⟩ : ∃ m, k = m + 1 := ⟨k - 1, by omega⟩
    rw [spec_GridCuts.l0, if_pos (by omega), if_pos (by omega), w64 (x := i + 1) (by omega) (by omega), g0]
    exact ih k (i + 1) _ (by omega) (by omega) (by omega) (by simp only [List.length_append, List.length_cons, List.length_nil]; omega)
theorem spec_GridCuts_eq (k : Nat) (pw ph a c qw qh : Int) (hk : 7200 ≤ k) : spec_GridCuts.f k pw ph a c qw qh = some (gridCuts pw ph a c qw qh) := by
  obtain ⟨k, rfl⟩ : ∃ m, k = m + 3 := ⟨k - 3, by omega⟩
  unfold spec_GridCuts.f gridCuts
  simp only [spec_IsPiece_eq, Option.bind_some]
  cases hp : isPiece pw ph
  · simp [spec_GridCuts.j0]
  cases hq : isPiece qw qh
  · simp [spec_GridCuts.j0]
  simp only [if_true, Bool.and_self, Bool.not_true, spec_GridCuts.j0, Bool.false_eq_true, if_false, spec_l01In_eq, Option.bind_some]
  cases ha : inR a 1 80
  · simp
  cases hc : inR c 1 80
  · simp
  have h1 := inR_true ha
  have h2 := inR_true hc
  have h3 := isPiece_true hp
  have h4 := isPiece_true hq
  have m1 := mul_bd (a := a) (b := qw) (A := 80) (B := 20000) (by omega) (by omega) (by omega) (by omega)
  have m2 := mul_bd (a := c) (b := qh) (A := 80) (B := 20000) (by omega) (by omega) (by omega) (by omega)
  have b1 := colsOf_bd (pw := pw) (qw := qw) ha
  have b2 := colsOf_bd (pw := ph) (qw := qh) hc
  have m3 := mul_bd (a := a) (b := colsOf c ph qh) (A := 80) (B := 80) (by omega) (by omega) (by omega) (by omega)
  rw [w64 (x := a * qw) (by omega) (by omega), w64 (x := a - 1) (by omega) (by omega), w64 (x := c - 1) (by omega) (by omega), w64 (x := a - 1 + 1) (by omega) (by omega)]
  have e1 : (if a * qw < pw then spec_GridCuts.j1 (k + 2) a c (a - 1 + 1) (c - 1) pw ph qw qh else spec_GridCuts.j1 (k + 2) a c (a - 1) (c - 1) pw ph qw qh) = spec_GridCuts.j1 (k + 2) a c (colsOf a pw qw) (c - 1) pw ph qw qh := by
    unfold colsOf; split <;> rfl
  simp only [if_true, Bool.and_self]
  rw [e1, spec_GridCuts.j1, w64 (x := c * qh) (by omega) (by omega), w64 (x := c - 1 + 1) (by omega) (by omega)]
  have e2 : (if c * qh < ph then spec_GridCuts.j2 (k + 1) a c (colsOf a pw qw) (c - 1 + 1) pw ph qw qh else spec_GridCuts.j2 (k + 1) a c (colsOf a pw qw) (c - 1) pw ph qw qh) = spec_GridCuts.j2 (k + 1) a c (colsOf a pw qw) (colsOf c ph qh) pw ph qw qh := by
    rw [show colsOf c ph qh = if c * qh < ph then c - 1 + 1 else c - 1 from rfl]; split <;> rfl
  rw [e2, spec_GridCuts.j2, w64 (x := a * colsOf c ph qh) (by omega) (by omega), w64 (x := colsOf a pw qw + a * colsOf c ph qh) (by omega) (by omega), w64 (x := a * qw) (by omega) (by omega), w64 (x := c * qh) (by omega) (by omega)]
  by_cases g : colsOf a pw qw + a * colsOf c ph qh > 79
  · rw [if_pos g, if_pos g]
  · rw [if_neg g, if_neg g]
    by_cases x : a * qw > pw
    · rw [if_pos x, if_pos (.inl x)]
    · by_cases y : c * qh > ph
      · rw [if_neg x, if_pos y, if_pos (.inr y)]
      · rw [if_neg x, if_neg y, if_neg (fun h => h.elim x y)]
        exact spec_GridCuts_l0 a _ _ qw qh b1 b2 h1 (colsOf a pw qw).toNat k 0 [] (by omega) (by omega) (by omega) (by simp only [List.length_nil]; omega)

theorem impl_toInt_eq (b : Bool) : impl_toInt.f b = some (if b = true then 1 else 0) := by
  unfold impl_toInt.f; cases b <;> rfl

theorem impl_inRange_eq (a b c : Int) : impl_inRange.f a b c = some (inR a b c) := by
  unfold impl_inRange.f inR
  by_cases h : b ≤ a
  · rw [if_pos h]; simp [h]
  · rw [if_neg h]; simp [h]

theorem impl_IsPiece_eq (a b : Int) : impl_IsPiece.f a b = some (isPiece a b) := by
  unfold impl_IsPiece.f isPiece
  simp only [impl_inRange_eq, Option.bind_some]
  cases inR a 1 20000 <;> rfl

theorem impl_GridCuts_l2 (a rows qw qh : Int) (hr : 0 ≤ rows ∧ rows ≤ 80) (ha : 1 ≤ a ∧ a ≤ 80) (r : Option (List S53 × Int)) (i : Int) (hi : 0 ≤ i ∧ i < a) (m : Nat) (acc2 : List S53) (hn : ∀ k, m ≤ k → impl_GridCuts.l1 k rows acc2 a (i + 1) qw qh = r) :
    ∀ (d k : Nat) (j : Int) (acc : List S53), 0 ≤ j → j + d = rows → m + d + 1 ≤ k → acc.length + d ≤ 100000 → g2 rows i qh d j acc = acc2 → impl_GridCuts.l2 k rows acc i a i rows j qw qh = r := by
  intro d
  induction d with
  | zero =>
    intro k j acc h0 h hk hl he
    obtain ⟨k, rfl⟩ : ∃ m, k = m + 1 := ⟨k - 1, by omega⟩
    rw [impl_GridCuts.l2, if_neg (by omega), w64 (x := i + 1) (by omega) (by omega)]
    rw [g2] at he
    rw [he]
    exact hn k (by omega)
  | succ d ih =>
    intro k j acc h0 h hk hl he
    obtain ⟨k, rfl⟩ : ∃ m, k = m + 1 := ⟨k - 1, by omega⟩
    have b := mul_bd (a := i) (b := rows + 1) (A := 80) (B := 81) (by omega) (by omega) (by omega) (by omega)
    rw [impl_GridCuts.l2, if_pos (by omega), if_pos (by omega), w64 (x := rows + 1) (by omega) (by omega), w64 (x := i * (rows + 1)) (by omega) (by omega), w64 (x := i * (rows + 1) + j) (by omega) (by omega), w64 (x := j + 1) (by omega) (by omega)]
    rw [g2] at he
    exact ih k (j + 1) _ (by omega) (by omega) (by omega) (by simp only [List.length_append, List.length_cons, List.length_nil]; omega) he
theorem impl_GridCuts_l1 (a rows qw qh : Int) (hr : 0 ≤ rows ∧ rows ≤ 80) (ha : 1 ≤ a ∧ a ≤ 80) : ∀ (d k : Nat) (i : Int) (acc : List S53), 0 ≤ i → i + d = a → d * (rows.toNat + 3) + 1 ≤ k → acc.length + d * (rows.toNat + 3) ≤ 100000 → impl_GridCuts.l1 k rows acc a i qw qh = some (g1 rows qh d i acc, 0) := by
  intro d
  induction d with
  | zero =>
    intro k i acc h0 h hk hl
    obtain ⟨k, rfl⟩ : ∃ m, k = m + 1 := ⟨k - 1, by omega⟩
    rw [impl_GridCuts.l1, if_neg (by omega), g1]
  | succ d ih =>
    intro k i acc h0 h hk hl
    rw [Nat.succ_mul] at hk hl
    obtain ⟨k, rfl⟩ : ∃ m, k = m + 1 := ⟨k - 1, by omega⟩
    rw [impl_GridCuts.l1, if_pos (by omega), g1]
    refine impl_GridCuts_l2 a rows qw qh hr ha _ i (by omega) (d * (rows.toNat + 3) + 1) (g2 rows i qh rows.toNat 0 acc) (fun k hk => ?_) rows.toNat k 0 acc (by omega) (by omega) (by omega) (by omega) rfl
    exact ih k (i + 1) _ (by omega) (by omega) hk (by rw [g2_len]; omega)
theorem impl_GridCuts_l0 (a cols rows qw qh : Int) (hc : 0 ≤ cols ∧ cols ≤ 80) (hr : 0 ≤ rows ∧ rows ≤ 80) (ha : 1 ≤ a ∧ a ≤ 80) : ∀ (d k : Nat) (i : Int) (acc : List S53), 0 ≤ i → i + d = cols → 7000 + d ≤ k → acc.length + d ≤ 100 → impl_GridCuts.l0 k a rows acc cols i qw qh = some (g1 rows qh a.toNat 0 (g0 qw d i acc), 0) := by
  have hb : a.toNat * (rows.toNat + 3) ≤ 80 * 83 := Nat.mul_le_mul (by omega) (by omega)
  intro d
  induction d with
  | zero =>
    intro k i acc h0 h hk hl
    obtain ⟨k, rfl⟩ : ∃ m, k = m + 1 := ⟨k - 1, by omega⟩
    rw [impl_GridCuts.l0, if_neg (by omega), g0]
    exact impl_GridCuts_l1 a rows qw qh hr ha a.toNat k 0 acc (by omega) (by omega) (by omega) (by omega)
  | succ d ih =>
    intro k i acc h0 h hk hl
    obtain ⟨k, rfl⟩ : ∃ m, k = m + 1 := ⟨k - 1, by omega⟩
    rw [impl_GridCuts.l0, if_pos (by omega), if_pos (by omega), w64 (x := i + 1) (by omega) (by omega), g0]
    exact ih k (i + 1) _ (by omega) (by omega) (by omega) (by simp only [List.length_append, List.length_cons, List.length_nil]; omega)
theorem impl_GridCuts_eq (k : Nat) (pw ph a c qw qh : Int) (hk : 7200 ≤ k) : impl_GridCuts.f k pw ph a c qw qh = some (gridCuts pw ph a c qw qh) := by
  obtain ⟨k, rfl⟩ : ∃ m, k = m + 1 := ⟨k - 1, by omega⟩
  unfold impl_GridCuts.f gridCuts
  simp only [impl_IsPiece_eq, Option.bind_some]
  cases hp : isPiece pw ph
  · simp [impl_GridCuts.j0]
  cases hq : isPiece qw qh
  · simp [impl_GridCuts.j0]
  simp only [if_true, Bool.and_self, Bool.not_true, impl_GridCuts.j0, Bool.false_eq_true, if_false, impl_inRange_eq, impl_toInt_eq, Option.bind_some, decide_eq_true_eq]
  cases ha : inR a 1 80
  · simp
  cases hc : inR c 1 80
  · simp
  have h1 := inR_true ha
  have h2 := inR_true hc
  have h3 := isPiece_true hp
  have h4 := isPiece_true hq
  have m1 := mul_bd (a := a) (b := qw) (A := 80) (B := 20000) (by omega) (by omega) (by omega) (by omega)
  have m2 := mul_bd (a := c) (b := qh) (A := 80) (B := 20000) (by omega) (by omega) (by omega) (by omega)
  have b1 := colsOf_bd (pw := pw) (qw := qw) ha
  have b2 := colsOf_bd (pw := ph) (qw := qh) hc
  have m3 := mul_bd (a := a) (b := colsOf c ph qh) (A := 80) (B := 80) (by omega) (by omega) (by omega) (by omega)
  rw [w64 (x := a * qw) (by omega) (by omega), w64 (x := c * qh) (by omega) (by omega), w64 (x := a - 1) (by omega) (by omega), w64 (x := c - 1) (by omega) (by omega)]
  have e1 : wrap64 (a - 1 + if pw > a * qw then 1 else 0) = colsOf a pw qw := by
    unfold colsOf at b1 ⊢
    by_cases x : a * qw < pw
    · rw [if_pos x] at b1 ⊢; rw [if_pos x, w64 (by omega) (by omega)]
    · rw [if_neg x] at b1 ⊢; rw [if_neg x, w64 (by omega) (by omega)]; omega
  have e2 : wrap64 (c - 1 + if ph > c * qh then 1 else 0) = colsOf c ph qh := by
    unfold colsOf at b2 ⊢
    by_cases x : c * qh < ph
    · rw [if_pos x] at b2 ⊢; rw [if_pos x, w64 (by omega) (by omega)]
    · rw [if_neg x] at b2 ⊢; rw [if_neg x, w64 (by omega) (by omega)]; omega
  simp only [if_true, Bool.and_self, e1, e2]
  rw [w64 (x := a * colsOf c ph qh) (by omega) (by omega), w64 (x := colsOf a pw qw + a * colsOf c ph qh) (by omega) (by omega)]
  by_cases g : colsOf a pw qw + a * colsOf c ph qh > 79
  · rw [if_pos g, if_pos g]
  · rw [if_neg g, if_neg g]
    by_cases x : pw < a * qw
    · rw [if_pos x, if_pos (.inl x)]
    · by_cases y : ph < c * qh
      · rw [if_neg x, if_pos y, if_pos (.inr y)]
      · rw [if_neg x, if_neg y, if_neg (fun h => h.elim x y)]
        exact impl_GridCuts_l0 a _ _ qw qh b1 b2 h1 (colsOf a pw qw).toNat k 0 [] (by omega) (by omega) (by omega) (by simp only [List.length_nil]; omega)

theorem laws_eqCut_self (x0 : Int) (x1 : Bool) (x2 : Int) : laws_eqCut.f x0 x1 x2 x0 x1 x2 = some true := by
  unfold laws_eqCut.f; simp

theorem laws_eqCutS_l0 (xs : List S53) (hl : xs.length ≤ 9223372036854775806) : ∀ (d k i : Nat), i + d = xs.length → d < k → laws_eqCutS.l0 k xs xs (i : Int) = some true := by
  intro d
  induction d with
  | zero =>
    intro k i h hk
    obtain ⟨k, rfl⟩ : ∃ m, k = m + 1 := ⟨k - 1, by omega⟩
    rw [laws_eqCutS.l0, if_neg (by omega)]
  | succ d ih =>
    intro k i h hk
    obtain ⟨k, rfl⟩ : ∃ m, k = m + 1 := ⟨k - 1, by omega⟩
    rw [laws_eqCutS.l0, if_pos (by omega), if_pos (by omega), if_pos (by omega), laws_eqCut_self]
    simp only [Option.bind_some, if_true]
    rw [w64 (by omega) (by omega)]
    exact ih k (i + 1) (by omega) (by omega)
theorem laws_eqCutS_eq (xs : List S53) (k : Nat) (hl : xs.length ≤ 9223372036854775806) (hk : xs.length < k) : laws_eqCutS.f k xs xs = some true := by
  unfold laws_eqCutS.f
  rw [if_pos rfl]
  exact laws_eqCutS_l0 xs hl xs.length k 0 (by omega) hk

theorem laws_markCutS_l0 (n : Nat) (hn : n ≤ 1048576) : ∀ (d k i : Nat) (ys : List S53), ys.length = n → i + d = n → d < k →
    ∃ zs : List S53, laws_markCutS.l0 k ys (3 * (i : Int) + 1) (i : Int) = some (3 * (n : Int) + 1, zs) ∧ zs.length = n ∧ (∀ j, j < i → zs[j]? = ys[j]?) ∧ (∀ j, i ≤ j → j < n → zs[j]? = some ⟨3 * (j : Int) + 1, (Int.tmod (3 * (j : Int) + 2) 3) == 0, 3 * (j : Int) + 3⟩) := by
  intro d
  induction d with
  | zero =>
    intro k i ys hy h hk
    obtain ⟨k, rfl⟩ : ∃ m, k = m + 1 := ⟨k - 1, by omega⟩
    have e : i = n := by omega
    subst e
    refine ⟨ys, ?_, hy, fun _ _ => rfl, fun j h1 h2 => by omega⟩
    rw [laws_markCutS.l0, if_neg (by omega)]
  | succ d ih =>
    intro k i ys hy h hk
    obtain ⟨k, rfl⟩ : ∃ m, k = m + 1 := ⟨k - 1, by omega⟩
    have hlt : i < ys.length := by omega
    obtain ⟨zs, h1, h2, h3, h4⟩ := ih k (i + 1) (ys.set i ⟨3 * (i : Int) + 1, (Int.tmod (3 * (i : Int) + 2) 3) == 0, 3 * (i : Int) + 3⟩) (by simpa using hy) (by omega) (by omega)
    refine ⟨zs, ?_, h2, fun j hj => ?_, fun j hj1 hj2 => ?_⟩
    · have e1 : rd_T53 (ys.set i ⟨3 * (i : Int) + 1, (rd_T53 ys (i : Int)).f1, (rd_T53 ys (i : Int)).f2⟩) (i : Int) = ⟨3 * (i : Int) + 1, (rd_T53 ys (i : Int)).f1, (rd_T53 ys (i : Int)).f2⟩ := by
        simp [rd_T53, List.getD_eq_getElem?_getD, List.getElem?_set_self hlt]
      have e2 : ∀ x : S53, rd_T53 (ys.set i x) (i : Int) = x := by
        intro x
        simp [rd_T53, List.getD_eq_getElem?_getD, List.getElem?_set_self hlt]
      rw [laws_markCutS.l0, if_pos (by omega), if_pos (by omega)]
      simp only [Option.bind_some, Int.toNat_natCast, e2, List.set_set]
      rw [w64 (x := 3 * (i : Int) + 1 + 1) (by omega) (by omega), w64 (x := 3 * (i : Int) + 1 + 1 + 1) (by omega) (by omega), w64 (x := 3 * (i : Int) + 1 + 1 + 1 + 1) (by omega) (by omega), w64 (x := (i : Int) + 1) (by omega) (by omega)]
      rw [show ((i + 1 : Nat) : Int) = (i : Int) + 1 by omega, show 3 * ((i : Int) + 1) + 1 = 3 * (i : Int) + 1 + 1 + 1 + 1 by omega] at h1
      rw [show 3 * (i : Int) + 1 + 1 + 1 = 3 * (i : Int) + 3 by omega, show 3 * (i : Int) + 1 + 1 = 3 * (i : Int) + 2 by omega]
      rw [show 3 * (i : Int) + 1 + 1 + 1 + 1 = 3 * (i : Int) + 3 + 1 by omega] at h1
      exact h1
    · rw [h3 j (by omega), List.getElem?_set_ne (by omega)]
    · by_cases e : j = i
      · subst e
        rw [h3 j (by omega), List.getElem?_set_self hlt]
      · exact h4 j (by omega) hj2

theorem laws_heldCutS_l0 (n : Nat) (hn : n ≤ 1048576) (zs : List S53) (hz : zs.length = n) (hv : ∀ j, j < n → zs[j]? = some ⟨3 * (j : Int) + 1, (Int.tmod (3 * (j : Int) + 2) 3) == 0, 3 * (j : Int) + 3⟩) : ∀ (d k i : Nat), i + d = n → d < k →
    laws_heldCutS.l0 k zs (3 * (i : Int) + 1) (i : Int) = some (3 * (n : Int) + 1) := by
  intro d
  induction d with
  | zero =>
    intro k i h hk
    obtain ⟨k, rfl⟩ : ∃ m, k = m + 1 := ⟨k - 1, by omega⟩
    have e : i = n := by omega
    subst e
    rw [laws_heldCutS.l0, if_neg (by omega)]
  | succ d ih =>
    intro k i h hk
    obtain ⟨k, rfl⟩ : ∃ m, k = m + 1 := ⟨k - 1, by omega⟩
    have h1 := ih k (i + 1) (by omega) (by omega)
    have e2 : rd_T53 zs (i : Int) = ⟨3 * (i : Int) + 1, (Int.tmod (3 * (i : Int) + 2) 3) == 0, 3 * (i : Int) + 3⟩ := by
      simp [rd_T53, List.getD_eq_getElem?_getD, hv i (by omega)]
    rw [show ((i + 1 : Nat) : Int) = (i : Int) + 1 by omega, show 3 * ((i : Int) + 1) + 1 = 3 * (i : Int) + 3 + 1 by omega] at h1
    rw [laws_heldCutS.l0, if_pos (by omega), if_pos (by omega), e2]
    simp only
    rw [if_pos trivial, w64 (x := 3 * (i : Int) + 1 + 1) (by omega) (by omega), show 3 * (i : Int) + 1 + 1 = 3 * (i : Int) + 2 by omega, if_neg (by simp), w64 (x := 3 * (i : Int) + 2 + 1) (by omega) (by omega), show 3 * (i : Int) + 2 + 1 = 3 * (i : Int) + 3 by omega, if_pos rfl, w64 (x := 3 * (i : Int) + 3 + 1) (by omega) (by omega), w64 (x := (i : Int) + 1) (by omega) (by omega)]
    exact h1
theorem marks_heldCut (xs : List S53) (hn : xs.length ≤ 1048576) (k : Nat) (hk : xs.length < k) :
    ∃ zs : List S53, laws_markCutS.f k xs 1 = some (3 * (xs.length : Int) + 1, zs) ∧ zs.length = xs.length ∧ (∀ k', xs.length < k' → laws_heldCutS.f k' zs 1 = some (3 * (xs.length : Int) + 1)) := by
  obtain ⟨zs, h1, h2, _, h4⟩ := laws_markCutS_l0 xs.length hn xs.length k 0 xs rfl (by omega) hk
  exact ⟨zs, h1, h2, fun k' hk' => laws_heldCutS_l0 xs.length hn zs h2 (fun j hj => h4 j (by omega) hj) xs.length k' 0 (by omega) hk'⟩

theorem FnExactGridCuts : ∀ (a0_0 : Int) (a0_1 : Int) (a1 : Int) (a2 : Int) (a3_0 : Int) (a3_1 : Int), (Lit.int .i64 a0_0).wf = true → (Lit.int .i64 a0_1).wf = true → (Lit.int .i64 a1).wf = true → (Lit.int .i64 a2).wf = true → (Lit.int .i64 a3_0).wf = true → (Lit.int .i64 a3_1).wf = true → ∃ k, laws_FnExactGridCuts.f k a0_0 a0_1 a1 a2 a3_0 a3_1 = some true := by
  intro a b c d e f _ _ _ _ _ _
  have hl := gridCuts_len a b c d e f
  obtain ⟨zs, hm, hz, hh⟩ := marks_heldCut (gridCuts a b c d e f).1 (by omega) 7999 (by omega)
  have h0 : ¬ (3 * ((gridCuts a b c d e f).1.length : Int) + 1 < 0) := by omega
  refine ⟨8000, ?_⟩
  simp (disch := omega) only [laws_FnExactGridCuts.f, laws_toPiece_eq, spec_GridCuts_eq, impl_GridCuts_eq, laws_eqCutS_eq, Option.bind_some, bne_self_eq_false, if_true]
  simp (disch := omega) only [laws_FnExactGridCuts.j0, laws_toPiece_eq, impl_GridCuts_eq, laws_eqCutS_eq, hm, hh, if_neg h0, Option.bind_some, bne_self_eq_false, Bool.false_eq_true, if_false, if_true]
  simp (disch := omega) only [laws_FnExactGridCuts.j1, hh, if_neg h0, Option.bind_some, Bool.false_eq_true, if_false, if_true]

end Go.Proofs.Ytbkeajifeaeccaa.Pure
