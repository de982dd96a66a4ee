/- For all arguments the law FnExactAreaOf returns true, with no condition beyond the bounds that the printed statement names. -/
import Derived.Test.YtlmnbmenhenomaaPFnExactAreaOfx2
namespace Go.Proofs.Ytlmnbmenhenomaa.Pure
open Go.RowKit Go.Proofs.Ytlmnbmenhenomaa.PFnExactAreaOf Go.Proofs.YtlmnbmenhenomaaW.PrintWords Go.Proofs.YtlmnbmenhenomaaW.PrintLast
set_option linter.unusedVariables false
set_option linter.unusedSimpArgs false

theorem w64 {x : Int} (h1 : -9223372036854775808 ≤ x) (h2 : x ≤ 9223372036854775807) : wrap64 x = x := by
  unfold wrap64; omega
theorem wf64 {x : Int} (h : (Lit.int .i64 x).wf = true) : -9223372036854775808 ≤ x ∧ x ≤ 9223372036854775807 := by
  simp [Lit.wf, IntKind.min, IntKind.max, IntKind.signed, IntKind.bits] at h
  omega
/-- 'a lies from b to c'. -/
def inR (a b c : Int) : Bool := decide (b ≤ a ∧ a ≤ c)
theorem inR_true {a b c : Int} (h : inR a b c = true) : b ≤ a ∧ a ≤ c := by simpa [inR] using h
theorem inR_mk {a b c : Int} (h1 : b ≤ a) (h2 : a ≤ c) : inR a b c = true := by simp [inR, h1, h2]
theorem inR_false {a b c : Int} (h : inR a b c = false) : a < b ∨ c < a := by
  have : ¬ (b ≤ a ∧ a ≤ c) := by simpa [inR] using h
  omega
theorem rd_nat (xs : List Int) (i : Nat) : rd xs (i : Int) = xs.getD i 0 := by simp [rd]
theorem mul_bd {a b A B : Int} (h0 : 0 ≤ a) (h1 : a ≤ A) (k0 : 0 ≤ b) (k1 : b ≤ B) : 0 ≤ a * b ∧ a * b ≤ A * B :=
  ⟨Int.mul_nonneg h0 k0, Int.mul_le_mul h1 k1 k0 (by omega)⟩
theorem tdiv_n {a b : Int} (h : 0 ≤ a) : Int.tdiv a b = a / b := Int.tdiv_eq_ediv_of_nonneg h
theorem tmod_n {a b : Int} (h : 0 ≤ a) : Int.tmod a b = a % b := Int.tmod_eq_emod_of_nonneg h
theorem mn_min (a b : Int) : mn a b = min a b := by unfold mn; split <;> omega
theorem mx_max (a b : Int) : mx a b = max a b := by unfold mx; split <;> omega

def isPiece (a b : Int) : Bool := inR a 1 20000 && inR b 1 20000

theorem rdIPiece (xs : List S92) (i : Nat) (h : i < xs.length) : rd_T92 xs (i : Int) = xs[i] := by simp [rd_T92, List.getD_eq_getElem?_getD, List.getElem?_eq_getElem h]
theorem dropIPiece (xs : List S92) (i : Nat) (h : i < xs.length) : xs.drop i = xs[i] :: xs.drop (i + 1) := List.drop_eq_getElem_cons h

def arePieces (l : List S92) : Bool := decide (l.length ≤ 80) && l.all fun x => isPiece x.f0 x.f1
theorem arePieces_true {l : List S92} (h : arePieces l = true) : l.length ≤ 80 ∧ ∀ x ∈ l, (1 ≤ x.f0 ∧ x.f0 ≤ 20000) ∧ (1 ≤ x.f1 ∧ x.f1 ≤ 20000) := by
  simp only [arePieces, Bool.and_eq_true, decide_eq_true_eq, List.all_eq_true, isPiece] at h
  exact ⟨h.1, fun x hx => ⟨inR_true (h.2 x hx).1, inR_true (h.2 x hx).2⟩⟩
/-- The area, as the program adds it up. -/
def warea (a : Int) (l : List S92) : Int := l.foldl (fun a x => wrap64 (a + wrap64 (x.f0 * x.f1))) a
def areaOf (l : List S92) : Int × Int := if arePieces l = true then (warea 0 l, 0) else (0, 1)

theorem laws_szPieceS_eq (l : List S94) (h : l.length ≤ 9223372036854775807) : laws_szPieceS.f l 1048576 = some (if (l.length : Int) > 1048576 then -1 else 1048576 - (l.length : Int)) := by
  unfold laws_szPieceS.f
  rw [w64 (by omega) (by omega)]
  by_cases h1 : (l.length : Int) > 1048576
  · rw [if_pos (by omega), if_pos h1]
  · rw [if_neg (by omega), if_neg h1]

theorem spec_l01In_eq (a b c : Int) : spec_l01In.f a b c = some (inR a b c) := by
  unfold spec_l01In.f inR
  by_cases h : a ≥ b
  · rw [if_pos h]; simp [show b ≤ a from h]
  · rw [if_neg h]; simp [show ¬ b ≤ a from h]

theorem spec_IsPiece_eq (a b : Int) : spec_IsPiece.f a b = some (isPiece a b) := by
  unfold spec_IsPiece.f isPiece
  simp only [spec_l01In_eq, Option.bind_some]
  cases inR a 1 20000 <;> rfl

theorem spec_l09List_l0 (xs : List S92) (hl : xs.length ≤ 9223372036854775806) : ∀ (d k i : Nat), i + d = xs.length → d < k → spec_l09List.l0 k xs (i : Int) = some ((xs.drop i).all (fun x => isPiece x.f0 x.f1) && decide (xs.length ≤ 80)) := by
  intro d
  induction d with
  | zero =>
    intro k i h hk
    obtain ⟨k, rfl⟩ : ∃ m, k = m + 1 := ⟨k - 1, by omega⟩
    rw [spec_l09List.l0, if_neg (by omega), List.drop_of_length_le (by omega)]
    have e : decide ((xs.length : Int) ≤ 80) = decide (xs.length ≤ 80) := by rw [decide_eq_decide]; omega
    rw [e]
    rfl
  | succ d ih =>
    intro k i h hk
    obtain ⟨k, rfl⟩ : ∃ m, k = m + 1 := ⟨k - 1, by omega⟩
    have hlt : i < xs.length := by omega
    have e3 := ih k (i + 1) (by omega) (by omega)
    rw [spec_l09List.l0, if_pos (by omega), if_pos (by omega), rdIPiece xs i hlt, spec_IsPiece_eq, dropIPiece xs i hlt, w64 (by omega) (by omega)]
    simp only [Option.bind_some, List.all_cons]
    cases hx : isPiece xs[i].f0 xs[i].f1
    · simp
    · simp only [if_true, Bool.true_and]
      exact e3
theorem spec_l09List_eq (xs : List S92) (k : Nat) (hl : xs.length ≤ 9223372036854775806) (hk : xs.length < k) : spec_l09List.f k xs = some (arePieces xs) := by
  unfold spec_l09List.f arePieces
  have := spec_l09List_l0 xs hl xs.length k 0 (by omega) hk
  rw [List.drop_zero, Bool.and_comm] at this
  exact this

theorem spec_AreaOf_l0 (xs : List S92) (hl : xs.length ≤ 9223372036854775806) : ∀ (d k i : Nat) (a : Int), i + d = xs.length → d < k → spec_AreaOf.l0 k xs a (i : Int) = some (warea a (xs.drop i), 0) := by
  intro d
  induction d with
  | zero =>
    intro k i a h hk
    obtain ⟨k, rfl⟩ : ∃ m, k = m + 1 := ⟨k - 1, by omega⟩
    rw [spec_AreaOf.l0, if_neg (by omega), List.drop_of_length_le (by omega)]
    rfl
  | succ d ih =>
    intro k i a h hk
    obtain ⟨k, rfl⟩ : ∃ m, k = m + 1 := ⟨k - 1, by omega⟩
    have hlt : i < xs.length := by omega
    rw [spec_AreaOf.l0, if_pos (by omega), if_pos (by omega), rdIPiece xs i hlt, dropIPiece xs i hlt, w64 (x := (i : Int) + 1) (by omega) (by omega)]
    exact ih k (i + 1) _ (by omega) (by omega)
theorem spec_AreaOf_eq (xs : List S92) (k : Nat) (hl : xs.length ≤ 9223372036854775806) (hk : xs.length < k) : spec_AreaOf.f k xs = some (areaOf xs) := by
  unfold spec_AreaOf.f areaOf
  simp only [spec_l09List_eq xs k hl hk, Option.bind_some]
  cases h : arePieces xs
  · simp
  · simp only [if_true]
    exact spec_AreaOf_l0 xs hl xs.length k 0 0 (by omega) hk

theorem laws_toPiece_eq (x0 : Int) (x1 : Int) : laws_toPiece.f x0 x1 = some (x0, x1) := rfl

def convPiece (l : List S94) : List S92 := l.map fun x => ⟨x.f0, x.f1⟩
theorem convPiece_len (l : List S94) : (convPiece l).length = l.length := by simp [convPiece]
theorem laws_toPieceS_l0 (xs : List S94) (hl : xs.length ≤ 1099511627776) : ∀ (d k i : Nat) (ys : List S92), ys.length = xs.length → i + d = xs.length → (∀ j, j < i → ys[j]? = (convPiece xs)[j]?) → d < k → laws_toPieceS.l0 k xs ys (i : Int) = some (convPiece xs) := by
  intro d
  induction d with
  | zero =>
    intro k i ys hy h hj hk
    obtain ⟨k, rfl⟩ : ∃ m, k = m + 1 := ⟨k - 1, by omega⟩
    rw [laws_toPieceS.l0, if_neg (by omega)]
    congr 1
    apply List.ext_getElem?
    intro j
    by_cases h1 : j < i
    · exact hj j h1
    · rw [List.getElem?_eq_none (by omega), List.getElem?_eq_none (by rw [convPiece_len]; omega)]
  | succ d ih =>
    intro k i ys hy h hj hk
    obtain ⟨k, rfl⟩ : ∃ m, k = m + 1 := ⟨k - 1, by omega⟩
    have hlt : i < xs.length := by omega
    have e2 : rd_T94 xs (i : Int) = xs[i] := by simp [rd_T94, List.getD_eq_getElem?_getD, List.getElem?_eq_getElem hlt]
    rw [laws_toPieceS.l0, if_pos (by omega), if_pos (by omega), laws_toPiece_eq, e2]
    simp only [Option.bind_some]
    rw [if_pos (by omega), w64 (by omega) (by omega), Int.toNat_natCast]
    refine ih k (i + 1) _ (by rw [List.length_set]; exact hy) (by omega) (fun j hjl => ?_) (by omega)
    by_cases e : j = i
    · subst e
      rw [List.getElem?_set_self (by omega)]
      simp [convPiece, List.getElem?_eq_getElem hlt]
    · rw [List.getElem?_set_ne (by omega)]
      exact hj j (by omega)
theorem laws_toPieceS_eq (xs : List S94) (k : Nat) (hl : xs.length ≤ 1048576) (hk : xs.length < k) : laws_toPieceS.f k xs = some (convPiece xs) := by
  unfold laws_toPieceS.f
  rw [if_pos (by omega), if_pos (by omega)]
  exact laws_toPieceS_l0 xs (by omega) xs.length k 0 _ (by simp) (by omega) (fun j hj => absurd hj (Nat.not_lt_zero _)) hk

theorem impl_arePieces_eq (l : List S92) : impl_arePieces.f l = some (arePieces l) := rfl

theorem impl_AreaOf_l0 (xs : List S92) (hl : xs.length ≤ 9223372036854775806) : ∀ (d k i : Nat) (a : Int), i + d = xs.length → d < k → impl_AreaOf.l0 k a xs (xs.length : Int) (i : Int) = some (warea a (xs.drop i), 0) := by
  intro d
  induction d with
  | zero =>
    intro k i a h hk
    obtain ⟨k, rfl⟩ : ∃ m, k = m + 1 := ⟨k - 1, by omega⟩
    rw [impl_AreaOf.l0, if_neg (by omega), List.drop_of_length_le (by omega)]
    rfl
  | succ d ih =>
    intro k i a h hk
    obtain ⟨k, rfl⟩ : ∃ m, k = m + 1 := ⟨k - 1, by omega⟩
    have hlt : i < xs.length := by omega
    rw [impl_AreaOf.l0, if_pos (by omega), if_pos (by omega), if_pos (by omega), rdIPiece xs i hlt, dropIPiece xs i hlt, w64 (x := (i : Int) + 1) (by omega) (by omega)]
    exact ih k (i + 1) _ (by omega) (by omega)
theorem impl_AreaOf_eq (xs : List S92) (k : Nat) (hl : xs.length ≤ 9223372036854775806) (hk : xs.length < k) : impl_AreaOf.f k xs = some (areaOf xs) := by
  unfold impl_AreaOf.f areaOf
  simp only [impl_arePieces_eq, Option.bind_some]
  cases h : arePieces xs
  · simp
  · simp only [if_true]
    exact impl_AreaOf_l0 xs hl xs.length k 0 0 (by omega) hk

theorem laws_eqPiece_self (x0 : Int) (x1 : Int) : laws_eqPiece.f x0 x1 x0 x1 = some true := by
  unfold laws_eqPiece.f; simp

theorem laws_eqPieceS_l0 (xs : List S92) (hl : xs.length ≤ 9223372036854775806) : ∀ (d k i : Nat), i + d = xs.length → d < k → laws_eqPieceS.l0 k xs xs (i : Int) = some true := by
  intro d
  induction d with
  | zero =>
    intro k i h hk
    obtain ⟨k, rfl⟩ : ∃ m, k = m + 1 := ⟨k - 1, by omega⟩
    rw [laws_eqPieceS.l0, if_neg (by omega)]
  | succ d ih =>
    intro k i h hk
    obtain ⟨k, rfl⟩ : ∃ m, k = m + 1 := ⟨k - 1, by omega⟩
    rw [laws_eqPieceS.l0, if_pos (by omega), if_pos (by omega), if_pos (by omega), laws_eqPiece_self]
    simp only [Option.bind_some, if_true]
    rw [w64 (by omega) (by omega)]
    exact ih k (i + 1) (by omega) (by omega)
theorem laws_eqPieceS_eq (xs : List S92) (k : Nat) (hl : xs.length ≤ 9223372036854775806) (hk : xs.length < k) : laws_eqPieceS.f k xs xs = some true := by
  unfold laws_eqPieceS.f
  rw [if_pos rfl]
  exact laws_eqPieceS_l0 xs hl xs.length k 0 (by omega) hk

theorem FnExactAreaOf : ∀ (l0 : List S94), l0.length ≤ maxLen → (∀ x ∈ l0, (Lit.int .i64 x.f0).wf = true ∧ (Lit.int .i64 x.f1).wf = true) → ∃ k, laws_FnExactAreaOf.f k l0 = some true := by
  intro l hl _
  unfold maxLen at hl
  by_cases hbig : (l.length : Int) > 1048576
  · exact ⟨1, by unfold laws_FnExactAreaOf.f; rw [laws_szPieceS_eq l (by omega), if_pos hbig]; rfl⟩
  refine ⟨l.length + 100, ?_⟩
  have hn : ¬ (1048576 - (l.length : Int) < 0) := by omega
  have hc := convPiece_len l
  simp (disch := omega) only [laws_FnExactAreaOf.f, laws_FnExactAreaOf.j0, laws_szPieceS_eq, if_neg hbig, if_neg hn, laws_toPieceS_eq, spec_AreaOf_eq, impl_AreaOf_eq, laws_eqPieceS_eq, Option.bind_some, bne_self_eq_false, Bool.false_eq_true, if_false, if_true]

end Go.Proofs.Ytlmnbmenhenomaa.Pure
