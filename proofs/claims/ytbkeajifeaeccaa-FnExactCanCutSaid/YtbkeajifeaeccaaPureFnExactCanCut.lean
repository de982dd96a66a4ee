/- For all arguments the law FnExactCanCut returns true, with no condition beyond the bounds that the printed statement names. -/
import Derived.Test.YtbkeajifeaeccaaPFnExactCanCutx3
namespace Go.Proofs.Ytbkeajifeaeccaa.Pure
open Go.RowKit Go.Proofs.Ytbkeajifeaeccaa.PFnExactCanCut Go.Proofs.YtbkeajifeaeccaaW.PrintWords Go.Proofs.YtbkeajifeaeccaaW.PrintLast
set_option linter.unusedVariables false
set_option linter.unusedSimpArgs false

theorem w64 {x : Int} (h1 : -9223372036854775808 ≤ x) (h2 : x ≤ 9223372036854775807) : wrap64 x = x := by
  unfold wrap64; omega
theorem wf64 {x : Int} (h : (Lit.int .i64 x).wf = true) : -9223372036854775808 ≤ x ∧ x ≤ 9223372036854775807 := by
  simp [Lit.wf, IntKind.min, IntKind.max, IntKind.signed, IntKind.bits] at h
  omega
/-- 'a lies from b to c'. -/
def inR (a b c : Int) : Bool := decide (b ≤ a ∧ a ≤ c)
theorem inR_true {a b c : Int} (h : inR a b c = true) : b ≤ a ∧ a ≤ c := by simpa [inR] using h
theorem inR_mk {a b c : Int} (h1 : b ≤ a) (h2 : a ≤ c) : inR a b c = true := by simp [inR, h1, h2]
theorem inR_false {a b c : Int} (h : inR a b c = false) : a < b ∨ c < a := by
  have : ¬ (b ≤ a ∧ a ≤ c) := by simpa [inR] using h
  omega
theorem rd_nat (xs : List Int) (i : Nat) : rd xs (i : Int) = xs.getD i 0 := by simp [rd]
theorem mul_bd {a b A B : Int} (h0 : 0 ≤ a) (h1 : a ≤ A) (k0 : 0 ≤ b) (k1 : b ≤ B) : 0 ≤ a * b ∧ a * b ≤ A * B :=
  ⟨Int.mul_nonneg h0 k0, Int.mul_le_mul h1 k1 k0 (by omega)⟩
theorem tdiv_n {a b : Int} (h : 0 ≤ a) : Int.tdiv a b = a / b := Int.tdiv_eq_ediv_of_nonneg h
theorem tmod_n {a b : Int} (h : 0 ≤ a) : Int.tmod a b = a % b := Int.tmod_eq_emod_of_nonneg h
theorem mn_min (a b : Int) : mn a b = min a b := by unfold mn; split <;> omega
theorem mx_max (a b : Int) : mx a b = max a b := by unfold mx; split <;> omega

theorem rdIPiece (xs : List S46) (i : Nat) (h : i < xs.length) : rd_T46 xs (i : Int) = xs[i] := by simp [rd_T46, List.getD_eq_getElem?_getD, List.getElem?_eq_getElem h]
theorem dropIPiece (xs : List S46) (i : Nat) (h : i < xs.length) : xs.drop i = xs[i] :: xs.drop (i + 1) := List.drop_eq_getElem_cons h

def isPiece (a b : Int) : Bool := inR a 1 20000 && inR b 1 20000

def arePieces (l : List S46) : Bool := decide (l.length ≤ 80) && l.all fun x => isPiece x.f0 x.f1
theorem arePieces_true {l : List S46} (h : arePieces l = true) : l.length ≤ 80 ∧ ∀ x ∈ l, (1 ≤ x.f0 ∧ x.f0 ≤ 20000) ∧ (1 ≤ x.f1 ∧ x.f1 ≤ 20000) := by
  simp only [arePieces, Bool.and_eq_true, decide_eq_true_eq, List.all_eq_true, isPiece] at h
  exact ⟨h.1, fun x hx => ⟨inR_true (h.2 x hx).1, inR_true (h.2 x hx).2⟩⟩
/-- The area, as the program adds it up. -/
def warea (a : Int) (l : List S46) : Int := l.foldl (fun a x => wrap64 (a + wrap64 (x.f0 * x.f1))) a
def areaOf (l : List S46) : Int × Int := if arePieces l = true then (warea 0 l, 0) else (0, 1)

def sideOf (l : List S46) (i : Int) (acr : Bool) : Int := if acr = true then (rd_T46 l i).f1 else (rd_T46 l i).f0
def possible (l : List S46) (i : Int) (acr : Bool) (at_ : Int) : Bool := inR i 0 ((l.length : Int) - 1) && (decide (l.length < 80) && inR at_ 1 (sideOf l i acr - 1))
theorem sideOf_bd {l : List S46} {i : Int} {acr : Bool} (h : arePieces l = true) (hi : inR i 0 ((l.length : Int) - 1) = true) : 1 ≤ sideOf l i acr ∧ sideOf l i acr ≤ 20000 := by
  have h1 := inR_true hi
  obtain ⟨n, rfl⟩ : ∃ n : Nat, i = n := ⟨i.toNat, by omega⟩
  have hlt : n < l.length := by omega
  have h2 := (arePieces_true h).2 l[n] (List.getElem_mem hlt)
  unfold sideOf
  rw [rdIPiece l n hlt]
  split
  · exact h2.2
  · exact h2.1

theorem laws_szPieceS_eq (l : List S41) (h : l.length ≤ 9223372036854775807) : laws_szPieceS.f l 1048576 = some (if (l.length : Int) > 1048576 then -1 else 1048576 - (l.length : Int)) := by
  unfold laws_szPieceS.f
  rw [w64 (by omega) (by omega)]
  by_cases h1 : (l.length : Int) > 1048576
  · rw [if_pos (by omega), if_pos h1]
  · rw [if_neg (by omega), if_neg h1]

theorem laws_toPiece_eq (x0 : Int) (x1 : Int) : laws_toPiece.f x0 x1 = some (x0, x1) := rfl

def convPiece (l : List S41) : List S46 := l.map fun x => ⟨x.f0, x.f1⟩
theorem convPiece_len (l : List S41) : (convPiece l).length = l.length := by simp [convPiece]
theorem laws_toPieceS_l0 (xs : List S41) (hl : xs.length ≤ 1099511627776) : ∀ (d k i : Nat) (ys : List S46), ys.length = xs.length → i + d = xs.length → (∀ j, j < i → ys[j]? = (convPiece xs)[j]?) → d < k → laws_toPieceS.l0 k xs ys (i : Int) = some (convPiece xs) := by
  intro d
  induction d with
  | zero =>
    intro k i ys hy h hj hk
    obtain ⟨k, rfl⟩ : ∃ m, k = m + 1 := ⟨k - 1, by omega⟩
    rw [laws_toPieceS.l0, if_neg (by omega)]
    congr 1
    apply List.ext_getElem?
    intro j
    by_cases h1 : j < i
    · exact hj j h1
    · rw [List.getElem?_eq_none (by omega), List.getElem?_eq_none (by rw [convPiece_len]; omega)]
  | succ d ih =>
    intro k i ys hy h hj hk
    obtain ⟨k, rfl⟩ : ∃ m, k = m + 1 := ⟨k - 1, by omega⟩
    have hlt : i < xs.length := by omega
    have e2 : rd_T41 xs (i : Int) = xs[i] := by simp [rd_T41, List.getD_eq_getElem?_getD, List.getElem?_eq_getElem hlt]
    rw [laws_toPieceS.l0, if_pos (by omega), if_pos (by omega), laws_toPiece_eq, e2]
    simp only [Option.bind_some]
    rw [if_pos (by omega), w64 (by omega) (by omega), Int.toNat_natCast]
    refine ih k (i + 1) _ (by rw [List.length_set]; exact hy) (by omega) (fun j hjl => ?_) (by omega)
    by_cases e : j = i
    · subst e
      rw [List.getElem?_set_self (by omega)]
      simp [convPiece, List.getElem?_eq_getElem hlt]
    · rw [List.getElem?_set_ne (by omega)]
      exact hj j (by omega)
theorem laws_toPieceS_eq (xs : List S41) (k : Nat) (hl : xs.length ≤ 1048576) (hk : xs.length < k) : laws_toPieceS.f k xs = some (convPiece xs) := by
  unfold laws_toPieceS.f
  rw [if_pos (by omega), if_pos (by omega)]
  exact laws_toPieceS_l0 xs (by omega) xs.length k 0 _ (by simp) (by omega) (fun j hj => absurd hj (Nat.not_lt_zero _)) hk

theorem laws_eqPiece_self (x0 : Int) (x1 : Int) : laws_eqPiece.f x0 x1 x0 x1 = some true := by
  unfold laws_eqPiece.f; simp

theorem laws_eqPieceS_l0 (xs : List S46) (hl : xs.length ≤ 9223372036854775806) : ∀ (d k i : Nat), i + d = xs.length → d < k → laws_eqPieceS.l0 k xs xs (i : Int) = some true := by
  intro d
  induction d with
  | zero =>
    intro k i h hk
    obtain ⟨k, rfl⟩ : ∃ m, k = m + 1 := ⟨k - 1, by omega⟩
    rw [laws_eqPieceS.l0, if_neg (by omega)]
  | succ d ih =>
    intro k i h hk
    obtain ⟨k, rfl⟩ : ∃ m, k = m + 1 := ⟨k - 1, by omega⟩
    rw [laws_eqPieceS.l0, if_pos (by omega), if_pos (by omega), if_pos (by omega), laws_eqPiece_self]
    simp only [Option.bind_some, if_true]
    rw [w64 (by omega) (by omega)]
    exact ih k (i + 1) (by omega) (by omega)
theorem laws_eqPieceS_eq (xs : List S46) (k : Nat) (hl : xs.length ≤ 9223372036854775806) (hk : xs.length < k) : laws_eqPieceS.f k xs xs = some true := by
  unfold laws_eqPieceS.f
  rw [if_pos rfl]
  exact laws_eqPieceS_l0 xs hl xs.length k 0 (by omega) hk

theorem spec_l01In_eq (a b c : Int) : spec_l01In.f a b c = some (inR a b c) := by
  unfold spec_l01In.f inR
  by_cases h : a ≥ b
  · rw [if_pos h]; simp [show b ≤ a from h]
  · rw [if_neg h]; simp [show ¬ b ≤ a from h]

theorem spec_IsPiece_eq (a b : Int) : spec_IsPiece.f a b = some (isPiece a b) := by
  unfold spec_IsPiece.f isPiece
  simp only [spec_l01In_eq, Option.bind_some]
  cases inR a 1 20000 <;> rfl

theorem spec_l09List_l0 (xs : List S46) (hl : xs.length ≤ 9223372036854775806) : ∀ (d k i : Nat), i + d = xs.length → d < k → spec_l09List.l0 k xs (i : Int) = some ((xs.drop i).all (fun x => isPiece x.f0 x.f1) && decide (xs.length ≤ 80)) := by
  intro d
  induction d with
  | zero =>
    intro k i h hk
    obtain ⟨k, rfl⟩ : ∃ m, k = m + 1 := ⟨k - 1, by omega⟩
    rw [spec_l09List.l0, if_neg (by omega), List.drop_of_length_le (by omega)]
    have e : decide ((xs.length : Int) ≤ 80) = decide (xs.length ≤ 80) := by rw [decide_eq_decide]; omega
    rw [e]
    rfl
  | succ d ih =>
    intro k i h hk
    obtain ⟨k, rfl⟩ : ∃ m, k = m + 1 := ⟨k - 1, by omega⟩
    have hlt : i < xs.length := by omega
    have e3 := ih k (i + 1) (by omega) (by omega)
    rw [spec_l09List.l0, if_pos (by omega), if_pos (by omega), rdIPiece xs i hlt, spec_IsPiece_eq, dropIPiece xs i hlt, w64 (by omega) (by omega)]
    simp only [Option.bind_some, List.all_cons]
    cases hx : isPiece xs[i].f0 xs[i].f1
    · simp
    · simp only [if_true, Bool.true_and]
      exact e3
theorem spec_l09List_eq (xs : List S46) (k : Nat) (hl : xs.length ≤ 9223372036854775806) (hk : xs.length < k) : spec_l09List.f k xs = some (arePieces xs) := by
  unfold spec_l09List.f arePieces
  have := spec_l09List_l0 xs hl xs.length k 0 (by omega) hk
  rw [List.drop_zero, Bool.and_comm] at this
  exact this

theorem spec_CanCut_eq (k : Nat) (l : List S46) (i : Int) (acr : Bool) (at_ : Int) (hl0 : l.length ≤ 9223372036854775806) (hk : l.length + 1 < k) : spec_CanCut.f k l i acr at_ = some (arePieces l && possible l i acr at_) := by
  obtain ⟨k, rfl⟩ : ∃ m, k = m + 1 := ⟨k - 1, by omega⟩
  unfold spec_CanCut.f possible
  simp only [spec_l09List_eq l (k + 1) hl0 (by omega), spec_l01In_eq, Option.bind_some]
  cases h : arePieces l
  · simp [spec_CanCut.j0]
  have hl := (arePieces_true h).1
  rw [w64 (x := (l.length : Int) - 1) (by omega) (by omega)]
  cases hi : inR i 0 ((l.length : Int) - 1)
  · simp [spec_CanCut.j0]
  have h1 := inR_true hi
  have hs := sideOf_bd (acr := acr) h hi
  unfold sideOf at hs ⊢
  by_cases hf : l.length < 80
  · have e : ((l.length : Int) == 80) = false := beq_eq_false_iff_ne.mpr (by omega)
    rw [decide_eq_true hf, e]
    simp only [if_true, spec_CanCut.j0, Bool.false_eq_true, if_false, Bool.true_and]
    rw [if_pos (by omega), if_pos (by omega), spec_l01In_eq, spec_l01In_eq]
    cases acr
    · simp only [Bool.false_eq_true, if_false, Option.bind_some] at hs ⊢
      rw [w64 (by omega) (by omega)]
    · simp only [if_true, Option.bind_some] at hs ⊢
      rw [w64 (by omega) (by omega)]
  · have e : ((l.length : Int) == 80) = true := beq_iff_eq.mpr (by omega)
    rw [decide_eq_false hf, e]
    simp [spec_CanCut.j0]

theorem laws_toCut_eq (x0 : Int) (x1 : Bool) (x2 : Int) : laws_toCut.f x0 x1 x2 = some (x0, x1, x2) := rfl

theorem impl_arePieces_eq (l : List S46) : impl_arePieces.f l = some (arePieces l) := rfl

theorem impl_inRange_eq (a b c : Int) : impl_inRange.f a b c = some (inR a b c) := by
  unfold impl_inRange.f inR
  by_cases h : b ≤ a
  · rw [if_pos h]; simp [h]
  · rw [if_neg h]; simp [h]

theorem impl_Piece_113_eq (l : List S46) : impl_Piece_113.f l = some (l.length : Int) := rfl
theorem impl_lengthPiece (l : List S46) : impl_Piece_113.f l = some (l.length : Int) := rfl

theorem impl_possible_eq (k : Nat) (l : List S46) (i : Int) (acr : Bool) (at_ : Int) (h : arePieces l = true) : impl_possible.f (k + 1) l i acr at_ = some (possible l i acr at_) := by
  have hl := (arePieces_true h).1
  unfold impl_possible.f possible
  simp only [impl_lengthPiece, impl_inRange_eq, Option.bind_some]
  rw [w64 (x := (l.length : Int) - 1) (by omega) (by omega)]
  cases hi : inR i 0 ((l.length : Int) - 1)
  · simp [impl_possible.j0]
  have h1 := inR_true hi
  have hs := sideOf_bd (acr := acr) h hi
  unfold sideOf at hs ⊢
  by_cases hf : l.length < 80
  · rw [decide_eq_true hf, decide_eq_false (show ¬ (l.length : Int) ≥ 80 by omega)]
    simp only [if_true, impl_possible.j0, Bool.false_eq_true, if_false, Bool.true_and]
    rw [if_pos (by omega), if_pos (by omega)]
    cases acr
    · simp only [Bool.false_eq_true, if_false] at hs ⊢
      rw [w64 (by omega) (by omega), impl_inRange_eq]
      rfl
    · simp only [if_true] at hs ⊢
      rw [w64 (by omega) (by omega), impl_inRange_eq]
      rfl
  · rw [decide_eq_false hf, decide_eq_true (show (l.length : Int) ≥ 80 by omega)]
    simp [impl_possible.j0]

theorem impl_CanCut_eq (k : Nat) (l : List S46) (i : Int) (acr : Bool) (at_ : Int) : impl_CanCut.f (k + 1) l i acr at_ = some (arePieces l && possible l i acr at_) := by
  unfold impl_CanCut.f
  simp only [impl_arePieces_eq, Option.bind_some]
  cases h : arePieces l
  · simp
  · simp only [if_true, impl_possible_eq k l i acr at_ h, Option.bind_some, Bool.true_and]

theorem FnExactCanCut : ∀ (l0 : List S41) (a1_0 : Int) (a1_1 : Bool) (a1_2 : Int), l0.length ≤ maxLen → (∀ x ∈ l0, (Lit.int .i64 x.f0).wf = true ∧ (Lit.int .i64 x.f1).wf = true) → (Lit.int .i64 a1_0).wf = true → (Lit.int .i64 a1_2).wf = true → ∃ k, laws_FnExactCanCut.f k l0 a1_0 a1_1 a1_2 = some true := by
  intro l a b c hl _ _ _
  unfold maxLen at hl
  by_cases hbig : (l.length : Int) > 1048576
  · exact ⟨1, by unfold laws_FnExactCanCut.f; rw [laws_szPieceS_eq l (by omega), if_pos hbig]; rfl⟩
  refine ⟨l.length + 100, ?_⟩
  have hn : ¬ (1048576 - (l.length : Int) < 0) := by omega
  have hc := convPiece_len l
  simp (disch := omega) only [laws_FnExactCanCut.f, laws_szPieceS_eq, if_neg hbig, if_neg hn, laws_toPieceS_eq, laws_toCut_eq, spec_CanCut_eq, impl_CanCut_eq, laws_eqPieceS_eq, Option.bind_some, bne_self_eq_false, Bool.false_eq_true, if_false, if_true]

end Go.Proofs.Ytbkeajifeaeccaa.Pure
