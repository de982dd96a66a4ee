/- For all arguments the law FnExactCountPieces returns true, with no condition beyond the bounds that the printed statement names. -/
import Derived.Test.YtbkeajifeaeccaaPFnExactCountPiecesx4
namespace Go.Proofs.Ytbkeajifeaeccaa.Pure
open Go.RowKit Go.Proofs.Ytbkeajifeaeccaa.PFnExactCountPieces Go.Proofs.YtbkeajifeaeccaaW.PrintWords Go.Proofs.YtbkeajifeaeccaaW.PrintLast
set_option linter.unusedVariables false
set_option linter.unusedSimpArgs false

theorem w64 {x : Int} (h1 : -9223372036854775808 ≤ x) (h2 : x ≤ 9223372036854775807) : wrap64 x = x := by
  unfold wrap64; omega
theorem wf64 {x : Int} (h : (Lit.int .i64 x).wf = true) : -9223372036854775808 ≤ x ∧ x ≤ 9223372036854775807 := by
  simp [Lit.wf, IntKind.min, IntKind.max, IntKind.signed, IntKind.bits] at h
  omega
/-- 'a lies from b to c'. -/
def inR (a b c : Int) : Bool := decide (b ≤ a ∧ a ≤ c)
theorem inR_true {a b c : Int} (h : inR a b c = true) : b ≤ a ∧ a ≤ c := by simpa [inR] using h
theorem inR_mk {a b c : Int} (h1 : b ≤ a) (h2 : a ≤ c) : inR a b c = true := by simp [inR, h1, h2]
theorem inR_false {a b c : Int} (h : inR a b c = false) : a < b ∨ c < a := by
  have : ¬ (b ≤ a ∧ a ≤ c) := by simpa [inR] using h
  omega
theorem rd_nat (xs : List Int) (i : Nat) : rd xs (i : Int) = xs.getD i 0 := by simp [rd]
theorem mul_bd {a b A B : Int} (h0 : 0 ≤ a) (h1 : a ≤ A) (k0 : 0 ≤ b) (k1 : b ≤ B) : 0 ≤ a * b ∧ a * b ≤ A * B :=
  ⟨Int.mul_nonneg h0 k0, Int.mul_le_mul h1 k1 k0 (by omega)⟩
theorem tdiv_n {a b : Int} (h : 0 ≤ a) : Int.tdiv a b = a / b := Int.tdiv_eq_ediv_of_nonneg h
theorem tmod_n {a b : Int} (h : 0 ≤ a) : Int.tmod a b = a % b := Int.tmod_eq_emod_of_nonneg h
theorem mn_min (a b : Int) : mn a b = min a b := by unfold mn; split <;> omega
theorem mx_max (a b : Int) : mx a b = max a b := by unfold mx; split <;> omega

def isPiece (a b : Int) : Bool := inR a 1 20000 && inR b 1 20000

theorem rdIPiece (xs : List S46) (i : Nat) (h : i < xs.length) : rd_T46 xs (i : Int) = xs[i] := by simp [rd_T46, List.getD_eq_getElem?_getD, List.getElem?_eq_getElem h]
theorem dropIPiece (xs : List S46) (i : Nat) (h : i < xs.length) : xs.drop i = xs[i] :: xs.drop (i + 1) := List.drop_eq_getElem_cons h

def arePieces (l : List S46) : Bool := decide (l.length ≤ 80) && l.all fun x => isPiece x.f0 x.f1
theorem arePieces_true {l : List S46} (h : arePieces l = true) : l.length ≤ 80 ∧ ∀ x ∈ l, (1 ≤ x.f0 ∧ x.f0 ≤ 20000) ∧ (1 ≤ x.f1 ∧ x.f1 ≤ 20000) := by
  simp only [arePieces, Bool.and_eq_true, decide_eq_true_eq, List.all_eq_true, isPiece] at h
  exact ⟨h.1, fun x hx => ⟨inR_true (h.2 x hx).1, inR_true (h.2 x hx).2⟩⟩
/-- The area, as the program adds it up. -/
def warea (a : Int) (l : List S46) : Int := l.foldl (fun a x => wrap64 (a + wrap64 (x.f0 * x.f1))) a
def areaOf (l : List S46) : Int × Int := if arePieces l = true then (warea 0 l, 0) else (0, 1)

def cntP (a b : Int) : List S46 → Int
  | [] => 0
  | x :: xs => (if (x.f0 == a && (x.f1 == b)) = true then 1 else 0) + cntP a b xs
def countPieces (l : List S46) (a b : Int) : Int × Int := if (arePieces l && isPiece a b) = true then (cntP a b l, 0) else (0, 1)

theorem laws_szPieceS_eq (l : List S41) (h : l.length ≤ 9223372036854775807) : laws_szPieceS.f l 1048576 = some (if (l.length : Int) > 1048576 then -1 else 1048576 - (l.length : Int)) := by
  unfold laws_szPieceS.f
  rw [w64 (by omega) (by omega)]
  by_cases h1 : (l.length : Int) > 1048576
  · rw [if_pos (by omega), if_pos h1]
  · rw [if_neg (by omega), if_neg h1]

theorem spec_l01In_eq (a b c : Int) : spec_l01In.f a b c = some (inR a b c) := by
  unfold spec_l01In.f inR
  by_cases h : a ≥ b
  · rw [if_pos h]; simp [show b ≤ a from h]
  · rw [if_neg h]; simp [show ¬ b ≤ a from h]

theorem spec_IsPiece_eq (a b : Int) : spec_IsPiece.f a b = some (isPiece a b) := by
  unfold spec_IsPiece.f isPiece
  simp only [spec_l01In_eq, Option.bind_some]
  cases inR a 1 20000 <;> rfl

theorem spec_l09List_l0 (xs : List S46) (hl : xs.length ≤ 9223372036854775806) : ∀ (d k i : Nat), i + d = xs.length → d < k → spec_l09List.l0 k xs (i : Int) = some ((xs.drop i).all (fun x => isPiece x.f0 x.f1) && decide (xs.length ≤ 80)) := by
  intro d
  induction d with
  | zero =>
    intro k i h hk
    obtain ⟨k, rfl⟩ : ∃ m, k = m + 1 := ⟨k - 1, by omega⟩
    rw [spec_l09List.l0, if_neg (by omega), List.drop_of_length_le (by omega)]
    have e : decide ((xs.length : Int) ≤ 80) = decide (xs.length ≤ 80) := by rw [decide_eq_decide]; omega
    rw [e]
    rfl
  | succ d ih =>
    intro k i h hk
    obtain ⟨k, rfl⟩ : ∃ m, k = m + 1 := ⟨k - 1, by omega⟩
    have hlt : i < xs.length := by omega
    have e3 := ih k (i + 1) (by omega) (by omega)
    rw [spec_l09List.l0, if_pos (by omega), if_pos (by omega), rdIPiece xs i hlt, spec_IsPiece_eq, dropIPiece xs i hlt, w64 (by omega) (by omega)]
    simp only [Option.bind_some, List.all_cons]
    cases hx : isPiece xs[i].f0 xs[i].f1
    · simp
    · simp only [if_true, Bool.true_and]
      exact e3
theorem spec_l09List_eq (xs : List S46) (k : Nat) (hl : xs.length ≤ 9223372036854775806) (hk : xs.length < k) : spec_l09List.f k xs = some (arePieces xs) := by
  unfold spec_l09List.f arePieces
  have := spec_l09List_l0 xs hl xs.length k 0 (by omega) hk
  rw [List.drop_zero, Bool.and_comm] at this
  exact this

theorem spec_CountPieces_l0 (xs : List S46) (a b : Int) (hl : xs.length ≤ 80) : ∀ (d k i : Nat) (c : Int), i + d = xs.length → d < k → 0 ≤ c → c ≤ i → spec_CountPieces.l0 k xs c (i : Int) a b = some (c + cntP a b (xs.drop i), 0) := by
  intro d
  induction d with
  | zero =>
    intro k i c h hk h0 hc
    obtain ⟨k, rfl⟩ : ∃ m, k = m + 1 := ⟨k - 1, by omega⟩
    rw [spec_CountPieces.l0, if_neg (by omega), List.drop_of_length_le (by omega), cntP, Int.add_zero]
  | succ d ih =>
    intro k i c h hk h0 hc
    obtain ⟨k, rfl⟩ : ∃ m, k = m + 1 := ⟨k - 1, by omega⟩
    have hlt : i < xs.length := by omega
    rw [spec_CountPieces.l0, if_pos (by omega), if_pos (by omega), rdIPiece xs i hlt, dropIPiece xs i hlt, w64 (x := (i : Int) + 1) (by omega) (by omega), cntP]
    by_cases hx : (xs[i].f0 == a && (xs[i].f1 == b)) = true
    · rw [if_pos hx, if_pos hx, w64 (by omega) (by omega)]
      have := ih k (i + 1) (c + 1) (by omega) (by omega) (by omega) (by omega)
      rw [show ((i + 1 : Nat) : Int) = (i : Int) + 1 by omega] at this
      rw [this, Int.add_assoc]
    · rw [if_neg hx, if_neg hx]
      have := ih k (i + 1) c (by omega) (by omega) (by omega) (by omega)
      rw [show ((i + 1 : Nat) : Int) = (i : Int) + 1 by omega] at this
      rw [this, Int.zero_add]
theorem spec_CountPieces_eq (xs : List S46) (a b : Int) (k : Nat) (hl : xs.length ≤ 9223372036854775806) (hk : xs.length + 1 < k) : spec_CountPieces.f k xs a b = some (countPieces xs a b) := by
  obtain ⟨k, rfl⟩ : ∃ m, k = m + 1 := ⟨k - 1, by omega⟩
  unfold spec_CountPieces.f countPieces
  simp only [spec_l09List_eq xs (k + 1) hl (by omega), spec_IsPiece_eq, Option.bind_some]
  cases h : arePieces xs
  · simp [spec_CountPieces.j0]
  cases h2 : isPiece a b
  · simp [spec_CountPieces.j0]
  simp only [if_true, Bool.and_self, Bool.not_true, spec_CountPieces.j0, Bool.false_eq_true, if_false]
  have := spec_CountPieces_l0 xs a b (arePieces_true h).1 xs.length k 0 0 (by omega) (by omega) (by omega) (by omega)
  rw [List.drop_zero, Int.zero_add] at this
  exact this

theorem laws_toPiece_eq (x0 : Int) (x1 : Int) : laws_toPiece.f x0 x1 = some (x0, x1) := rfl

def convPiece (l : List S41) : List S46 := l.map fun x => ⟨x.f0, x.f1⟩
theorem convPiece_len (l : List S41) : (convPiece l).length = l.length := by simp [convPiece]
theorem laws_toPieceS_l0 (xs : List S41) (hl : xs.length ≤ 1099511627776) : ∀ (d k i : Nat) (ys : List S46), ys.length = xs.length → i + d = xs.length → (∀ j, j < i → ys[j]? = (convPiece xs)[j]?) → d < k → laws_toPieceS.l0 k xs ys (i : Int) = some (convPiece xs) := by
  intro d
  induction d with
  | zero =>
    intro k i ys hy h hj hk
    obtain ⟨k, rfl⟩ : ∃ m, k = m + 1 := ⟨k - 1, by omega⟩
    rw [laws_toPieceS.l0, if_neg (by omega)]
    congr 1
    apply List.ext_getElem?
    intro j
    by_cases h1 : j < i
    · exact hj j h1
    · rw [List.getElem?_eq_none (by omega), List.getElem?_eq_none (by rw [convPiece_len]; omega)]
  | succ d ih =>
    intro k i ys hy h hj hk
    obtain ⟨k, rfl⟩ : ∃ m, k = m + 1 := ⟨k - 1, by omega⟩
    have hlt : i < xs.length := by omega
    have e2 : rd_T41 xs (i : Int) = xs[i] := by simp [rd_T41, List.getD_eq_getElem?_getD, List.getElem?_eq_getElem hlt]
    rw [laws_toPieceS.l0, if_pos (by omega), if_pos (by omega), laws_toPiece_eq, e2]
    simp only [Option.bind_some]
    rw [if_pos (by omega), w64 (by omega) (by omega), Int.toNat_natCast]
    refine ih k (i + 1) _ (by rw [List.length_set]; exact hy) (by omega) (fun j hjl => ?_) (by omega)
    by_cases e : j = i
    · subst e
      rw [List.getElem?_set_self (by omega)]
      simp [convPiece, List.getElem?_eq_getElem hlt]
    · rw [List.getElem?_set_ne (by omega)]
      exact hj j (by omega)
theorem laws_toPieceS_eq (xs : List S41) (k : Nat) (hl : xs.length ≤ 1048576) (hk : xs.length < k) : laws_toPieceS.f k xs = some (convPiece xs) := by
  unfold laws_toPieceS.f
  rw [if_pos (by omega), if_pos (by omega)]
  exact laws_toPieceS_l0 xs (by omega) xs.length k 0 _ (by simp) (by omega) (fun j hj => absurd hj (Nat.not_lt_zero _)) hk

theorem impl_toInt_eq (b : Bool) : impl_toInt.f b = some (if b = true then 1 else 0) := by
  unfold impl_toInt.f; cases b <;> rfl

theorem impl_arePieces_eq (l : List S46) : impl_arePieces.f l = some (arePieces l) := rfl

theorem impl_inRange_eq (a b c : Int) : impl_inRange.f a b c = some (inR a b c) := by
  unfold impl_inRange.f inR
  by_cases h : b ≤ a
  · rw [if_pos h]; simp [h]
  · rw [if_neg h]; simp [h]

theorem impl_IsPiece_eq (a b : Int) : impl_IsPiece.f a b = some (isPiece a b) := by
  unfold impl_IsPiece.f isPiece
  simp only [impl_inRange_eq, Option.bind_some]
  cases inR a 1 20000 <;> rfl

theorem impl_CountPieces_l0 (xs : List S46) (a b : Int) (hl : xs.length ≤ 80) : ∀ (d k i : Nat) (c : Int), i + d = xs.length → d < k → 0 ≤ c → c ≤ i → impl_CountPieces.l0 k c xs (xs.length : Int) (i : Int) a b = some (c + cntP a b (xs.drop i), 0) := by
  intro d
  induction d with
  | zero =>
    intro k i c h hk h0 hc
    obtain ⟨k, rfl⟩ : ∃ m, k = m + 1 := ⟨k - 1, by omega⟩
    rw [impl_CountPieces.l0, if_neg (by omega), List.drop_of_length_le (by omega), cntP, Int.add_zero]
  | succ d ih =>
    intro k i c h hk h0 hc
    obtain ⟨k, rfl⟩ : ∃ m, k = m + 1 := ⟨k - 1, by omega⟩
    have hlt : i < xs.length := by omega
    rw [impl_CountPieces.l0, if_pos (by omega), if_pos (by omega), if_pos (by omega), rdIPiece xs i hlt, dropIPiece xs i hlt, w64 (x := (i : Int) + 1) (by omega) (by omega), cntP, impl_toInt_eq]
    simp only [Option.bind_some]
    by_cases hx : (xs[i].f0 == a && (xs[i].f1 == b)) = true
    · rw [if_pos hx, w64 (by omega) (by omega)]
      have := ih k (i + 1) (c + 1) (by omega) (by omega) (by omega) (by omega)
      rw [show ((i + 1 : Nat) : Int) = (i : Int) + 1 by omega] at this
      rw [this, Int.add_assoc]
    · rw [if_neg hx, w64 (by omega) (by omega), Int.add_zero]
      have := ih k (i + 1) c (by omega) (by omega) (by omega) (by omega)
      rw [show ((i + 1 : Nat) : Int) = (i : Int) + 1 by omega] at this
      rw [this, Int.zero_add]
theorem impl_CountPieces_eq (xs : List S46) (a b : Int) (k : Nat) (hl : xs.length ≤ 9223372036854775806) (hk : xs.length + 1 < k) : impl_CountPieces.f k xs a b = some (countPieces xs a b) := by
  obtain ⟨k, rfl⟩ : ∃ m, k = m + 1 := ⟨k - 1, by omega⟩
  unfold impl_CountPieces.f countPieces
  simp only [impl_arePieces_eq, impl_IsPiece_eq, Option.bind_some]
  cases h : arePieces xs
  · simp [impl_CountPieces.j0]
  cases h2 : isPiece a b
  · simp [impl_CountPieces.j0]
  simp only [if_true, Bool.and_self, Bool.not_true, impl_CountPieces.j0, Bool.false_eq_true, if_false]
  have := impl_CountPieces_l0 xs a b (arePieces_true h).1 xs.length k 0 0 (by omega) (by omega) (by omega) (by omega)
  rw [List.drop_zero, Int.zero_add] at this
  exact this

theorem laws_eqPiece_self (x0 : Int) (x1 : Int) : laws_eqPiece.f x0 x1 x0 x1 = some true := by
  unfold laws_eqPiece.f; simp

theorem laws_eqPieceS_l0 (xs : List S46) (hl : xs.length ≤ 9223372036854775806) : ∀ (d k i : Nat), i + d = xs.length → d < k → laws_eqPieceS.l0 k xs xs (i : Int) = some true := by
  intro d
  induction d with
  | zero =>
    intro k i h hk
    obtain ⟨k, rfl⟩ : ∃ m, k = m + 1 := ⟨k - 1, by omega⟩
    rw [laws_eqPieceS.l0, if_neg (by omega)]
  | succ d ih =>
    intro k i h hk
    obtain ⟨k, rfl⟩ : ∃ m, k = m + 1 := ⟨k - 1, by omega⟩
    rw [laws_eqPieceS.l0, if_pos (by omega), if_pos (by omega), if_pos (by omega), laws_eqPiece_self]
    simp only [Option.bind_some, if_true]
    rw [w64 (by omega) (by omega)]
    exact ih k (i + 1) (by omega) (by omega)
theorem laws_eqPieceS_eq (xs : List S46) (k : Nat) (hl : xs.length ≤ 9223372036854775806) (hk : xs.length < k) : laws_eqPieceS.f k xs xs = some true := by
  unfold laws_eqPieceS.f
  rw [if_pos rfl]
  exact laws_eqPieceS_l0 xs hl xs.length k 0 (by omega) hk

theorem FnExactCountPieces : ∀ (l0 : List S41) (a1_0 : Int) (a1_1 : Int), l0.length ≤ maxLen → (∀ x ∈ l0, (Lit.int .i64 x.f0).wf = true ∧ (Lit.int .i64 x.f1).wf = true) → (Lit.int .i64 a1_0).wf = true → (Lit.int .i64 a1_1).wf = true → ∃ k, laws_FnExactCountPieces.f k l0 a1_0 a1_1 = some true := by
  intro l a b hl _ _ _
  unfold maxLen at hl
  by_cases hbig : (l.length : Int) > 1048576
  · exact ⟨1, by unfold laws_FnExactCountPieces.f; rw [laws_szPieceS_eq l (by omega), if_pos hbig]; rfl⟩
  refine ⟨l.length + 100, ?_⟩
  have hn : ¬ (1048576 - (l.length : Int) < 0) := by omega
  have hc := convPiece_len l
  simp (disch := omega) only [laws_FnExactCountPieces.f, laws_FnExactCountPieces.j0, laws_szPieceS_eq, if_neg hbig, if_neg hn, laws_toPieceS_eq, laws_toPiece_eq, spec_CountPieces_eq, impl_CountPieces_eq, laws_eqPieceS_eq, Option.bind_some, bne_self_eq_false, Bool.false_eq_true, if_false, if_true]

end Go.Proofs.Ytbkeajifeaeccaa.Pure
