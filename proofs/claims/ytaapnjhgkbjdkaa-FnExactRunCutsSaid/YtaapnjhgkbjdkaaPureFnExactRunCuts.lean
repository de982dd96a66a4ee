/- For all arguments the law FnExactRunCuts returns true, with no condition beyond the bounds that the printed statement names. -/
import Derived.Test.YtaapnjhgkbjdkaaPFnExactRunCutsx7
namespace Go.Proofs.Ytaapnjhgkbjdkaa.Pure
open Go.RowKit Go.Proofs.Ytaapnjhgkbjdkaa.PFnExactRunCuts Go.Proofs.YtaapnjhgkbjdkaaW.PrintWords Go.Proofs.YtaapnjhgkbjdkaaW.PrintLast
set_option linter.unusedVariables false
set_option linter.unusedSimpArgs false

theorem w64 {x : Int} (h1 : -9223372036854775808 ≤ x) (h2 : x ≤ 9223372036854775807) : wrap64 x = x := by
  unfold wrap64; omega
theorem wf64 {x : Int} (h : (Lit.int .i64 x).wf = true) : -9223372036854775808 ≤ x ∧ x ≤ 9223372036854775807 := by
  simp [Lit.wf, IntKind.min, IntKind.max, IntKind.signed, IntKind.bits] at h
  omega
/-- 'a lies from b to c'. -/
def inR (a b c : Int) : Bool := decide (b ≤ a ∧ a ≤ c)
theorem inR_true {a b c : Int} (h : inR a b c = true) : b ≤ a ∧ a ≤ c := by simpa [inR] using h
theorem inR_mk {a b c : Int} (h1 : b ≤ a) (h2 : a ≤ c) : inR a b c = true := by simp [inR, h1, h2]
theorem inR_false {a b c : Int} (h : inR a b c = false) : a < b ∨ c < a := by
  have : ¬ (b ≤ a ∧ a ≤ c) := by simpa [inR] using h
  omega
theorem rd_nat (xs : List Int) (i : Nat) : rd xs (i : Int) = xs.getD i 0 := by simp [rd]
theorem mul_bd {a b A B : Int} (h0 : 0 ≤ a) (h1 : a ≤ A) (k0 : 0 ≤ b) (k1 : b ≤ B) : 0 ≤ a * b ∧ a * b ≤ A * B :=
  ⟨Int.mul_nonneg h0 k0, Int.mul_le_mul h1 k1 k0 (by omega)⟩
theorem tdiv_n {a b : Int} (h : 0 ≤ a) : Int.tdiv a b = a / b := Int.tdiv_eq_ediv_of_nonneg h
theorem tmod_n {a b : Int} (h : 0 ≤ a) : Int.tmod a b = a % b := Int.tmod_eq_emod_of_nonneg h
theorem mn_min (a b : Int) : mn a b = min a b := by unfold mn; split <;> omega
theorem mx_max (a b : Int) : mx a b = max a b := by unfold mx; split <;> omega

def isPiece (a b : Int) : Bool := inR a 1 20000 && inR b 1 20000

theorem rdIPiece (xs : List S58) (i : Nat) (h : i < xs.length) : rd_T58 xs (i : Int) = xs[i] := by simp [rd_T58, List.getD_eq_getElem?_getD, List.getElem?_eq_getElem h]
theorem dropIPiece (xs : List S58) (i : Nat) (h : i < xs.length) : xs.drop i = xs[i] :: xs.drop (i + 1) := List.drop_eq_getElem_cons h

def arePieces (l : List S58) : Bool := decide (l.length ≤ 80) && l.all fun x => isPiece x.f0 x.f1
theorem arePieces_true {l : List S58} (h : arePieces l = true) : l.length ≤ 80 ∧ ∀ x ∈ l, (1 ≤ x.f0 ∧ x.f0 ≤ 20000) ∧ (1 ≤ x.f1 ∧ x.f1 ≤ 20000) := by
  simp only [arePieces, Bool.and_eq_true, decide_eq_true_eq, List.all_eq_true, isPiece] at h
  exact ⟨h.1, fun x hx => ⟨inR_true (h.2 x hx).1, inR_true (h.2 x hx).2⟩⟩
/-- The area, as the program adds it up. -/
def warea (a : Int) (l : List S58) : Int := l.foldl (fun a x => wrap64 (a + wrap64 (x.f0 * x.f1))) a
def areaOf (l : List S58) : Int × Int := if arePieces l = true then (warea 0 l, 0) else (0, 1)

def sideOf (l : List S58) (i : Int) (acr : Bool) : Int := if acr = true then (rd_T58 l i).f1 else (rd_T58 l i).f0
def possible (l : List S58) (i : Int) (acr : Bool) (at_ : Int) : Bool := inR i 0 ((l.length : Int) - 1) && (decide (l.length < 80) && inR at_ 1 (sideOf l i acr - 1))
theorem sideOf_bd {l : List S58} {i : Int} {acr : Bool} (h : arePieces l = true) (hi : inR i 0 ((l.length : Int) - 1) = true) : 1 ≤ sideOf l i acr ∧ sideOf l i acr ≤ 20000 := by
  have h1 := inR_true hi
  obtain ⟨n, rfl⟩ : ∃ n : Nat, i = n := ⟨i.toNat, by omega⟩
  have hlt : n < l.length := by omega
  have h2 := (arePieces_true h).2 l[n] (List.getElem_mem hlt)
  unfold sideOf
  rw [rdIPiece l n hlt]
  split
  · exact h2.2
  · exact h2.1

/-- The pieces after a cut. -/
def cutP (l : List S58) (i : Int) (acr : Bool) (at_ : Int) : List S58 :=
  l.take i.toNat ++ ((if acr = true then [⟨(rd_T58 l i).f0, at_⟩, ⟨(rd_T58 l i).f0, (rd_T58 l i).f1 - at_⟩] else [⟨at_, (rd_T58 l i).f1⟩, ⟨(rd_T58 l i).f0 - at_, (rd_T58 l i).f1⟩]) ++ l.drop (i.toNat + 1))
theorem possible_true {l : List S58} {i : Int} {acr : Bool} {at_ : Int} (h : possible l i acr at_ = true) : (0 ≤ i ∧ i < (l.length : Int)) ∧ l.length < 80 ∧ 1 ≤ at_ ∧ at_ ≤ sideOf l i acr - 1 := by
  simp only [possible, Bool.and_eq_true, decide_eq_true_eq] at h
  have h1 := inR_true h.1
  have h2 := inR_true h.2.2
  exact ⟨⟨h1.1, by omega⟩, h.2.1, h2.1, h2.2⟩
theorem cutP_len {l : List S58} {i : Int} {acr : Bool} {at_ : Int} (h0 : 0 ≤ i) (h1 : i < (l.length : Int)) : (cutP l i acr at_).length = l.length + 1 := by
  unfold cutP
  cases acr <;> simp only [if_true, if_false, Bool.false_eq_true, List.length_append, List.length_take, List.length_drop, List.length_cons, List.length_nil] <;> omega
theorem rdP_ok {l : List S58} (h : arePieces l = true) {i : Int} (h0 : 0 ≤ i) (h1 : i < (l.length : Int)) : (1 ≤ (rd_T58 l i).f0 ∧ (rd_T58 l i).f0 ≤ 20000) ∧ (1 ≤ (rd_T58 l i).f1 ∧ (rd_T58 l i).f1 ≤ 20000) := by
  obtain ⟨n, rfl⟩ : ∃ n : Nat, i = n := ⟨i.toNat, by omega⟩
  have hlt : n < l.length := by omega
  rw [rdIPiece l n hlt]
  exact (arePieces_true h).2 l[n] (List.getElem_mem hlt)
theorem cutP_ok {l : List S58} {i : Int} {acr : Bool} {at_ : Int} (h : arePieces l = true) (hp : possible l i acr at_ = true) : arePieces (cutP l i acr at_) = true := by
  obtain ⟨⟨h0, h1⟩, h2, h3, h4⟩ := possible_true hp
  have hr := rdP_ok h h0 h1
  have hall := (arePieces_true h).2
  have hv : ∀ a b : Int, 1 ≤ a → a ≤ 20000 → 1 ≤ b → b ≤ 20000 → isPiece a b = true := fun a b _ _ _ _ => by
    unfold isPiece; rw [inR_mk (by omega) (by omega), inR_mk (by omega) (by omega)]; rfl
  simp only [arePieces, Bool.and_eq_true, decide_eq_true_eq, List.all_eq_true]
  refine ⟨by rw [cutP_len h0 h1]; omega, fun x hx => ?_⟩
  unfold cutP at hx
  unfold sideOf at h4
  rcases List.mem_append.1 hx with hx | hx
  · have := hall x (List.mem_of_mem_take hx)
    exact hv _ _ (by omega) (by omega) (by omega) (by omega)
  rcases List.mem_append.1 hx with hx | hx
  · cases acr
    · simp only [Bool.false_eq_true, if_false] at hx h4
      rcases List.mem_cons.1 hx with e | hx
      · rw [e]; exact hv _ _ (by simp only; omega) (by simp only; omega) (by simp only; omega) (by simp only; omega)
      · rw [List.mem_singleton.1 hx]; exact hv _ _ (by simp only; omega) (by simp only; omega) (by simp only; omega) (by simp only; omega)
    · simp only [if_true] at hx h4
      rcases List.mem_cons.1 hx with e | hx
      · rw [e]; exact hv _ _ (by simp only; omega) (by simp only; omega) (by simp only; omega) (by simp only; omega)
      · rw [List.mem_singleton.1 hx]; exact hv _ _ (by simp only; omega) (by simp only; omega) (by simp only; omega) (by simp only; omega)
  · have := hall x (List.mem_of_mem_drop hx)
    exact hv _ _ (by omega) (by omega) (by omega) (by omega)
def makeCut (l : List S58) (i : Int) (acr : Bool) (at_ : Int) : List S58 × Int :=
  if arePieces l = true then (if possible l i acr at_ = true then (cutP l i acr at_, 0) else ([], 5)) else ([], 1)
theorem makeCut_len (l : List S58) (i : Int) (acr : Bool) (at_ : Int) : (makeCut l i acr at_).1.length ≤ 80 := by
  unfold makeCut
  split
  · split
    · rename_i h2
      obtain ⟨⟨h0, h1⟩, h3, _, _⟩ := possible_true h2
      simp only
      rw [cutP_len h0 h1]
      omega
    · simp
  · simp

theorem rdICut (xs : List S48) (i : Nat) (h : i < xs.length) : rd_T48 xs (i : Int) = xs[i] := by simp [rd_T48, List.getD_eq_getElem?_getD, List.getElem?_eq_getElem h]
theorem dropICut (xs : List S48) (i : Nat) (h : i < xs.length) : xs.drop i = xs[i] :: xs.drop (i + 1) := List.drop_eq_getElem_cons h

/-- The pieces after cuts, one after another. -/
def runL : List S58 → List S48 → List S58 × Int
  | l, [] => (l, 0)
  | l, c :: cs => if possible l c.f0 c.f1 c.f2 = true then runL (cutP l c.f0 c.f1 c.f2) cs else ([], 5)
theorem runL_len : ∀ (cs : List S48) (l : List S58), arePieces l = true → (runL l cs).1.length ≤ 80
  | [], l, h => by rw [runL]; exact (arePieces_true h).1
  | c :: cs, l, h => by
    rw [runL]
    split
    · rename_i hp
      exact runL_len cs _ (cutP_ok h hp)
    · simp
def runCuts (a b : Int) (cs : List S48) : List S58 × Int :=
  if isPiece a b = true then (if (cs.length : Int) > 79 then ([], 3) else runL [⟨a, b⟩] cs) else ([], 1)
theorem are_one {a b : Int} (h : isPiece a b = true) : arePieces [(⟨a, b⟩ : S58)] = true := by
  simp [arePieces, h]
theorem runCuts_len (a b : Int) (cs : List S48) : (runCuts a b cs).1.length ≤ 80 := by
  unfold runCuts
  split
  · rename_i h
    split
    · simp
    · exact runL_len cs _ (are_one h)
  · simp

theorem laws_eqPiece_self (x0 : Int) (x1 : Int) : laws_eqPiece.f x0 x1 x0 x1 = some true := by
  unfold laws_eqPiece.f; simp

theorem laws_eqPieceS_l0 (xs : List S58) (hl : xs.length ≤ 9223372036854775806) : ∀ (d k i : Nat), i + d = xs.length → d < k → laws_eqPieceS.l0 k xs xs (i : Int) = some true := by
  intro d
  induction d with
  | zero =>
    intro k i h hk
    obtain ⟨k, rfl⟩ : ∃ m, k = m + 1 := ⟨k - 1, by omega⟩
    rw [laws_eqPieceS.l0, if_neg (by omega)]
  | succ d ih =>
    intro k i h hk
    obtain ⟨k, rfl⟩ : ∃ m, k = m + 1 := ⟨k - 1, by omega⟩
    rw [laws_eqPieceS.l0, if_pos (by omega), if_pos (by omega), if_pos (by omega), laws_eqPiece_self]
    simp only [Option.bind_some, if_true]
    rw [w64 (by omega) (by omega)]
    exact ih k (i + 1) (by omega) (by omega)
theorem laws_eqPieceS_eq (xs : List S58) (k : Nat) (hl : xs.length ≤ 9223372036854775806) (hk : xs.length < k) : laws_eqPieceS.f k xs xs = some true := by
  unfold laws_eqPieceS.f
  rw [if_pos rfl]
  exact laws_eqPieceS_l0 xs hl xs.length k 0 (by omega) hk

theorem laws_markPieceS_l0 (n : Nat) (hn : n ≤ 1048576) : ∀ (d k i : Nat) (ys : List S58), ys.length = n → i + d = n → d < k →
    ∃ zs : List S58, laws_markPieceS.l0 k ys (2 * (i : Int) + 1) (i : Int) = some (2 * (n : Int) + 1, zs) ∧ zs.length = n ∧ (∀ j, j < i → zs[j]? = ys[j]?) ∧ (∀ j, i ≤ j → j < n → zs[j]? = some ⟨2 * (j : Int) + 1, 2 * (j : Int) + 2⟩) := by
  intro d
  induction d with
  | zero =>
    intro k i ys hy h hk
    obtain ⟨k, rfl⟩ : ∃ m, k = m + 1 := ⟨k - 1, by omega⟩
    have e : i = n := by omega
    subst e
    refine ⟨ys, ?_, hy, fun _ _ => rfl, fun j h1 h2 => by omega⟩
    rw [laws_markPieceS.l0, if_neg (by omega)]
  | succ d ih =>
    intro k i ys hy h hk
    obtain ⟨k, rfl⟩ : ∃ m, k = m + 1 := ⟨k - 1, by omega⟩
    have hlt : i < ys.length := by omega
    obtain ⟨zs, h1, h2, h3, h4⟩ := ih k (i + 1) (ys.set i ⟨2 * (i : Int) + 1, 2 * (i : Int) + 2⟩) (by simpa using hy) (by omega) (by omega)
    refine ⟨zs, ?_, h2, fun j hj => ?_, fun j hj1 hj2 => ?_⟩
    · have e2 : ∀ x : S58, rd_T58 (ys.set i x) (i : Int) = x := by
        intro x
        simp [rd_T58, List.getD_eq_getElem?_getD, List.getElem?_set_self hlt]
      rw [laws_markPieceS.l0, if_pos (by omega), if_pos (by omega)]
      simp only [Option.bind_some, Int.toNat_natCast, e2, List.set_set]
      rw [w64 (x := 2 * (i : Int) + 1 + 1) (by omega) (by omega), w64 (x := 2 * (i : Int) + 1 + 1 + 1) (by omega) (by omega), w64 (x := (i : Int) + 1) (by omega) (by omega)]
      rw [show ((i + 1 : Nat) : Int) = (i : Int) + 1 by omega, show 2 * ((i : Int) + 1) + 1 = 2 * (i : Int) + 1 + 1 + 1 by omega] at h1
      rw [show 2 * (i : Int) + 1 + 1 = 2 * (i : Int) + 2 by omega] at h1 ⊢
      exact h1
    · rw [h3 j (by omega), List.getElem?_set_ne (by omega)]
    · by_cases e : j = i
      · subst e
        rw [h3 j (by omega), List.getElem?_set_self hlt]
      · exact h4 j (by omega) hj2

theorem laws_heldPieceS_l0 (n : Nat) (hn : n ≤ 1048576) (zs : List S58) (hz : zs.length = n) (hv : ∀ j, j < n → zs[j]? = some ⟨2 * (j : Int) + 1, 2 * (j : Int) + 2⟩) : ∀ (d k i : Nat), i + d = n → d < k →
    laws_heldPieceS.l0 k zs (2 * (i : Int) + 1) (i : Int) = some (2 * (n : Int) + 1) := by
  intro d
  induction d with
  | zero =>
    intro k i h hk
    obtain ⟨k, rfl⟩ : ∃ m, k = m + 1 := ⟨k - 1, by omega⟩
    have e : i = n := by omega
    subst e
    rw [laws_heldPieceS.l0, if_neg (by omega)]
  | succ d ih =>
    intro k i h hk
    obtain ⟨k, rfl⟩ : ∃ m, k = m + 1 := ⟨k - 1, by omega⟩
    have h1 := ih k (i + 1) (by omega) (by omega)
    have e2 : rd_T58 zs (i : Int) = ⟨2 * (i : Int) + 1, 2 * (i : Int) + 2⟩ := by
      simp [rd_T58, List.getD_eq_getElem?_getD, hv i (by omega)]
    rw [show ((i + 1 : Nat) : Int) = (i : Int) + 1 by omega, show 2 * ((i : Int) + 1) + 1 = 2 * (i : Int) + 2 + 1 by omega] at h1
    rw [laws_heldPieceS.l0, if_pos (by omega), if_pos (by omega), e2]
    simp only
    rw [if_pos trivial, w64 (x := 2 * (i : Int) + 1 + 1) (by omega) (by omega), show 2 * (i : Int) + 1 + 1 = 2 * (i : Int) + 2 by omega, if_pos rfl, w64 (x := 2 * (i : Int) + 2 + 1) (by omega) (by omega), w64 (x := (i : Int) + 1) (by omega) (by omega)]
    exact h1
theorem marks_heldPiece (xs : List S58) (hn : xs.length ≤ 1048576) (k : Nat) (hk : xs.length < k) :
    ∃ zs : List S58, laws_markPieceS.f k xs 1 = some (2 * (xs.length : Int) + 1, zs) ∧ zs.length = xs.length ∧ (∀ k', xs.length < k' → laws_heldPieceS.f k' zs 1 = some (2 * (xs.length : Int) + 1)) := by
  obtain ⟨zs, h1, h2, _, h4⟩ := laws_markPieceS_l0 xs.length hn xs.length k 0 xs rfl (by omega) hk
  exact ⟨zs, h1, h2, fun k' hk' => laws_heldPieceS_l0 xs.length hn zs h2 (fun j hj => h4 j (by omega) hj) xs.length k' 0 (by omega) hk'⟩

theorem laws_szCutS_eq (l : List S42) (h : l.length ≤ 9223372036854775807) : laws_szCutS.f l 1048576 = some (if (l.length : Int) > 1048576 then -1 else 1048576 - (l.length : Int)) := by
  unfold laws_szCutS.f
  rw [w64 (by omega) (by omega)]
  by_cases h1 : (l.length : Int) > 1048576
  · rw [if_pos (by omega), if_pos h1]
  · rw [if_neg (by omega), if_neg h1]

theorem spec_l01In_eq (a b c : Int) : spec_l01In.f a b c = some (inR a b c) := by
  unfold spec_l01In.f inR
  by_cases h : a ≥ b
  · rw [if_pos h]; simp [show b ≤ a from h]
  · rw [if_neg h]; simp [show ¬ b ≤ a from h]

theorem spec_IsPiece_eq (a b : Int) : spec_IsPiece.f a b = some (isPiece a b) := by
  unfold spec_IsPiece.f isPiece
  simp only [spec_l01In_eq, Option.bind_some]
  cases inR a 1 20000 <;> rfl

theorem spec_l09List_l0 (xs : List S58) (hl : xs.length ≤ 9223372036854775806) : ∀ (d k i : Nat), i + d = xs.length → d < k → spec_l09List.l0 k xs (i : Int) = some ((xs.drop i).all (fun x => isPiece x.f0 x.f1) && decide (xs.length ≤ 80)) := by
  intro d
  induction d with
  | zero =>
    intro k i h hk
    obtain ⟨k, rfl⟩ : ∃ m, k = m + 1 := ⟨k - 1, by omega⟩
    rw [spec_l09List.l0, if_neg (by omega), List.drop_of_length_le (by omega)]
    have e : decide ((xs.length : Int) ≤ 80) = decide (xs.length ≤ 80) := by rw [decide_eq_decide]; omega
    rw [e]
    rfl
  | succ d ih =>
    intro k i h hk
    obtain ⟨k, rfl⟩ : ∃ m, k = m + 1 := ⟨k - 1, by omega⟩
    have hlt : i < xs.length := by omega
    have e3 := ih k (i + 1) (by omega) (by omega)
    rw [spec_l09List.l0, if_pos (by omega), if_pos (by omega), rdIPiece xs i hlt, spec_IsPiece_eq, dropIPiece xs i hlt, w64 (by omega) (by omega)]
    simp only [Option.bind_some, List.all_cons]
    cases hx : isPiece xs[i].f0 xs[i].f1
    · simp
    · simp only [if_true, Bool.true_and]
      exact e3
theorem spec_l09List_eq (xs : List S58) (k : Nat) (hl : xs.length ≤ 9223372036854775806) (hk : xs.length < k) : spec_l09List.f k xs = some (arePieces xs) := by
  unfold spec_l09List.f arePieces
  have := spec_l09List_l0 xs hl xs.length k 0 (by omega) hk
  rw [List.drop_zero, Bool.and_comm] at this
  exact this

theorem spec_CanCut_eq (k : Nat) (l : List S58) (i : Int) (acr : Bool) (at_ : Int) (hl0 : l.length ≤ 9223372036854775806) (hk : l.length + 1 < k) : spec_CanCut.f k l i acr at_ = some (arePieces l && possible l i acr at_) := by
  obtain ⟨k, rfl⟩ : ∃ m, k = m + 1 := ⟨k - 1, by omega⟩
  unfold spec_CanCut.f possible
  simp only [spec_l09List_eq l (k + 1) hl0 (by omega), spec_l01In_eq, Option.bind_some]
  cases h : arePieces l
  · simp [spec_CanCut.j0]
  have hl := (arePieces_true h).1
  rw [w64 (x := (l.length : Int) - 1) (by omega) (by omega)]
  cases hi : inR i 0 ((l.length : Int) - 1)
  · simp [spec_CanCut.j0]
  have h1 := inR_true hi
  have hs := sideOf_bd (acr := acr) h hi
  unfold sideOf at hs ⊢
  by_cases hf : l.length < 80
  · have e : ((l.length : Int) == 80) = false := beq_eq_false_iff_ne.mpr (by omega)
    rw [decide_eq_true hf, e]
    simp only [if_true, spec_CanCut.j0, Bool.false_eq_true, if_false, Bool.true_and]
    rw [if_pos (by omega), if_pos (by omega), spec_l01In_eq, spec_l01In_eq]
    cases acr
    · simp only [Bool.false_eq_true, if_false, Option.bind_some] at hs ⊢
      rw [w64 (by omega) (by omega)]
    · simp only [if_true, Option.bind_some] at hs ⊢
      rw [w64 (by omega) (by omega)]
  · have e : ((l.length : Int) == 80) = true := beq_iff_eq.mpr (by omega)
    rw [decide_eq_false hf, e]
    simp [spec_CanCut.j0]

theorem spec_l09Cut_eq (l : List S58) (i : Int) (acr : Bool) (at_ : Int) (h : arePieces l = true) (hp : possible l i acr at_ = true) : spec_l09Cut.f l i acr at_ = some (cutP l i acr at_) := by
  obtain ⟨⟨h0, h1⟩, h2, h3, h4⟩ := possible_true hp
  have hr := rdP_ok h h0 h1
  obtain ⟨n, rfl⟩ : ∃ n : Nat, i = n := ⟨i.toNat, by omega⟩
  have e1 : wrap64 ((n : Int) + 1) = ((n + 1 : Nat) : Int) := w64 (by omega) (by omega)
  unfold sideOf at h4
  unfold spec_l09Cut.f cutP
  rw [if_pos h0, if_pos h1]
  cases acr
  · simp only [Bool.false_eq_true, if_false] at h4 ⊢
    simp only [Option.bind_some, e1, Int.toNat_natCast]
    rw [if_pos (by omega), if_pos (by simp only [List.length_take, List.length_nil]; omega), if_pos (by simp only [List.length_append, List.length_take, List.length_nil, List.length_cons]; omega), if_pos (by omega), if_pos (by omega), if_pos (by simp only [List.length_append, List.length_take, List.length_drop, List.length_nil, List.length_cons]; omega), w64 (x := (rd_T58 l (n : Int)).f0 - at_) (by omega) (by omega)]
    simp
  · simp only [if_true] at h4 ⊢
    simp only [Option.bind_some, e1, Int.toNat_natCast]
    rw [if_pos (by omega), if_pos (by simp only [List.length_take, List.length_nil]; omega), if_pos (by simp only [List.length_append, List.length_take, List.length_nil, List.length_cons]; omega), if_pos (by omega), if_pos (by omega), if_pos (by simp only [List.length_append, List.length_take, List.length_drop, List.length_nil, List.length_cons]; omega), w64 (x := (rd_T58 l (n : Int)).f1 - at_) (by omega) (by omega)]
    simp

theorem spec_RunCuts_l0 (cs : List S48) (hl : cs.length ≤ 1048576) : ∀ (d k i : Nat) (l : List S58), i + d = cs.length → d + 100 ≤ k → arePieces l = true → spec_RunCuts.l0 k cs l (i : Int) = some (runL l (cs.drop i)) := by
  intro d
  induction d with
  | zero =>
    intro k i l hi hk h
    obtain ⟨k, rfl⟩ : ∃ m, k = m + 1 := ⟨k - 1, by omega⟩
    rw [spec_RunCuts.l0, if_neg (by omega), List.drop_of_length_le (by omega), runL]
  | succ d ih =>
    intro k i l hi hk h
    obtain ⟨k, rfl⟩ : ∃ m, k = m + 1 := ⟨k - 1, by omega⟩
    have hlt : i < cs.length := by omega
    have hll := (arePieces_true h).1
    rw [spec_RunCuts.l0, if_pos (by omega), if_pos (by omega), rdICut cs i hlt, dropICut cs i hlt, runL, spec_CanCut_eq k l _ _ _ (by omega) (by omega), h, Bool.true_and, w64 (x := (i : Int) + 1) (by omega) (by omega)]
    simp only [Option.bind_some]
    by_cases hp : possible l cs[i].f0 cs[i].f1 cs[i].f2 = true
    · rw [if_pos hp, if_pos hp, spec_l09Cut_eq l _ _ _ h hp]
      simp only [Option.bind_some]
      exact ih k (i + 1) _ (by omega) (by omega) (cutP_ok h hp)
    · rw [if_neg hp, if_neg hp]
theorem spec_RunCuts_eq (a b : Int) (cs : List S48) (k : Nat) (hl : cs.length ≤ 1048576) (hk : cs.length + 100 ≤ k) : spec_RunCuts.f k a b cs = some (runCuts a b cs) := by
  unfold spec_RunCuts.f runCuts
  rw [spec_IsPiece_eq]
  simp only [Option.bind_some]
  by_cases h : isPiece a b = true
  · rw [if_pos h, if_pos h]
    by_cases c : (cs.length : Int) > 79
    · rw [if_pos c, if_pos c]
    · rw [if_neg c, if_neg c]
      exact spec_RunCuts_l0 cs hl cs.length k 0 _ (by omega) hk (are_one h)
  · rw [if_neg h, if_neg h]

theorem laws_toPiece_eq (x0 : Int) (x1 : Int) : laws_toPiece.f x0 x1 = some (x0, x1) := rfl

theorem laws_toCut_eq (x0 : Int) (x1 : Bool) (x2 : Int) : laws_toCut.f x0 x1 x2 = some (x0, x1, x2) := rfl

def convCut (l : List S42) : List S48 := l.map fun x => ⟨x.f0, x.f1, x.f2⟩
theorem convCut_len (l : List S42) : (convCut l).length = l.length := by simp [convCut]
theorem laws_toCutS_l0 (xs : List S42) (hl : xs.length ≤ 1099511627776) : ∀ (d k i : Nat) (ys : List S48), ys.length = xs.length → i + d = xs.length → (∀ j, j < i → ys[j]? = (convCut xs)[j]?) → d < k → laws_toCutS.l0 k xs ys (i : Int) = some (convCut xs) := by
  intro d
  induction d with
  | zero =>
    intro k i ys hy h hj hk
    obtain ⟨k, rfl⟩ : ∃ m, k = m + 1 := ⟨k - 1, by omega⟩
    rw [laws_toCutS.l0, if_neg (by omega)]
    congr 1
    apply List.ext_getElem?
    intro j
    by_cases h1 : j < i
    · exact hj j h1
    · rw [List.getElem?_eq_none (by omega), List.getElem?_eq_none (by rw [convCut_len]; omega)]
  | succ d ih =>
    intro k i ys hy h hj hk
    obtain ⟨k, rfl⟩ : ∃ m, k = m + 1 := ⟨k - 1, by omega⟩
    have hlt : i < xs.length := by omega
    have e2 : rd_T42 xs (i : Int) = xs[i] := by simp [rd_T42, List.getD_eq_getElem?_getD, List.getElem?_eq_getElem hlt]
    rw [laws_toCutS.l0, if_pos (by omega), if_pos (by omega), laws_toCut_eq, e2]
    simp only [Option.bind_some]
    rw [if_pos (by omega), w64 (by omega) (by omega), Int.toNat_natCast]
    refine ih k (i + 1) _ (by rw [List.length_set]; exact hy) (by omega) (fun j hjl => ?_) (by omega)
    by_cases e : j = i
    · subst e
      rw [List.getElem?_set_self (by omega)]
      simp [convCut, List.getElem?_eq_getElem hlt]
    · rw [List.getElem?_set_ne (by omega)]
      exact hj j (by omega)
theorem laws_toCutS_eq (xs : List S42) (k : Nat) (hl : xs.length ≤ 1048576) (hk : xs.length < k) : laws_toCutS.f k xs = some (convCut xs) := by
  unfold laws_toCutS.f
  rw [if_pos (by omega), if_pos (by omega)]
  exact laws_toCutS_l0 xs (by omega) xs.length k 0 _ (by simp) (by omega) (fun j hj => absurd hj (Nat.not_lt_zero _)) hk

theorem impl_inRange_eq (a b c : Int) : impl_inRange.f a b c = some (inR a b c) := by
  unfold impl_inRange.f inR
  by_cases h : b ≤ a
  · rw [if_pos h]; simp [h]
  · rw [if_neg h]; simp [h]

theorem impl_Piece_109_eq (l : List S58) : impl_Piece_109.f l = some (l.length : Int) := rfl
theorem impl_lengthPiece (l : List S58) : impl_Piece_109.f l = some (l.length : Int) := rfl

theorem impl_possible_eq (k : Nat) (l : List S58) (i : Int) (acr : Bool) (at_ : Int) (h : arePieces l = true) : impl_possible.f (k + 1) l i acr at_ = some (possible l i acr at_) := by
  have hl := (arePieces_true h).1
  unfold impl_possible.f possible
  simp only [impl_lengthPiece, impl_inRange_eq, Option.bind_some]
  rw [w64 (x := (l.length : Int) - 1) (by omega) (by omega)]
  cases hi : inR i 0 ((l.length : Int) - 1)
  · simp [impl_possible.j0]
  have h1 := inR_true hi
  have hs := sideOf_bd (acr := acr) h hi
  unfold sideOf at hs ⊢
  by_cases hf : l.length < 80
  · rw [decide_eq_true hf, decide_eq_false (show ¬ (l.length : Int) ≥ 80 by omega)]
    simp only [if_true, impl_possible.j0, Bool.false_eq_true, if_false, Bool.true_and]
    rw [if_pos (by omega), if_pos (by omega)]
    cases acr
    · simp only [Bool.false_eq_true, if_false] at hs ⊢
      rw [w64 (by omega) (by omega), impl_inRange_eq]
      rfl
    · simp only [if_true] at hs ⊢
      rw [w64 (by omega) (by omega), impl_inRange_eq]
      rfl
  · rw [decide_eq_false hf, decide_eq_true (show (l.length : Int) ≥ 80 by omega)]
    simp [impl_possible.j0]

theorem slices_ConcatPiece_three (a b c : List S58) (k : Nat) (ha : a.length ≤ 1000) (hb : b.length ≤ 1000) (hc : c.length ≤ 1000) : slices_ConcatPiece.f (k + 8) [a, b, c] = some (a ++ (b ++ c)) := by
  have r0 : rd_L5 [a, b, c] 0 = a := rfl
  have r1 : rd_L5 [a, b, c] 1 = b := rfl
  have r2 : rd_L5 [a, b, c] 2 = c := rfl
  have e0 : wrap64 (0 + (a.length : Int)) = (a.length : Int) := by rw [w64 (by omega) (by omega)]; omega
  have e1 : wrap64 ((a.length : Int) + (b.length : Int)) = (a.length : Int) + (b.length : Int) := w64 (by omega) (by omega)
  have e2 : wrap64 ((a.length : Int) + (b.length : Int) + (c.length : Int)) = (a.length : Int) + (b.length : Int) + (c.length : Int) := w64 (by omega) (by omega)
  have u0 : wrap64 (0 + 1) = 1 := w64 (by omega) (by omega)
  have u1 : wrap64 (1 + 1) = 2 := w64 (by omega) (by omega)
  have u2 : wrap64 (2 + 1) = 3 := w64 (by omega) (by omega)
  unfold slices_ConcatPiece.f
  simp only [List.length_cons, List.length_nil]
  rw [slices_ConcatPiece.l0, if_pos (by omega), if_pos (by omega), if_pos (by simp only [List.length_cons, List.length_nil]; omega), r0, e0, if_neg (by omega), u0,
    slices_ConcatPiece.l0, if_pos (by omega), if_pos (by omega), if_pos (by simp only [List.length_cons, List.length_nil]; omega), r1, e1, if_neg (by omega), u1,
    slices_ConcatPiece.l0, if_pos (by omega), if_pos (by omega), if_pos (by simp only [List.length_cons, List.length_nil]; omega), r2, e2, if_neg (by omega), u2,
    slices_ConcatPiece.l0, if_neg (by omega), if_pos (by omega), if_pos (by omega)]
  simp only [List.length_cons, List.length_nil]
  rw [slices_ConcatPiece.l1, if_pos (by omega), if_pos (by omega), if_pos (by simp only [List.length_cons, List.length_nil]; omega), r0, if_pos (by simp only [List.length_nil]; omega), u0,
    slices_ConcatPiece.l1, if_pos (by omega), if_pos (by omega), if_pos (by simp only [List.length_cons, List.length_nil]; omega), r1, if_pos (by simp only [List.length_append, List.length_nil]; omega), u1,
    slices_ConcatPiece.l1, if_pos (by omega), if_pos (by omega), if_pos (by simp only [List.length_cons, List.length_nil]; omega), r2, if_pos (by simp only [List.length_append, List.length_nil]; omega), u2,
    slices_ConcatPiece.l1, if_neg (by omega)]
  simp

theorem impl_cut_eq (l : List S58) (i : Int) (acr : Bool) (at_ : Int) (k : Nat) (hk : 8 ≤ k) (h : arePieces l = true) (hp : possible l i acr at_ = true) : impl_cut.f k l i acr at_ = some (cutP l i acr at_) := by
  obtain ⟨k, rfl⟩ : ∃ m, k = m + 8 := ⟨k - 8, by omega⟩
  obtain ⟨⟨h0, h1⟩, h2, h3, h4⟩ := possible_true hp
  have hr := rdP_ok h h0 h1
  obtain ⟨n, rfl⟩ : ∃ n : Nat, i = n := ⟨i.toNat, by omega⟩
  have e1 : wrap64 ((n : Int) + 1) = ((n + 1 : Nat) : Int) := w64 (by omega) (by omega)
  unfold sideOf at h4
  unfold impl_cut.f cutP
  rw [if_pos h0, if_pos h1]
  cases acr
  · simp only [Bool.false_eq_true, if_false] at h4 ⊢
    simp only [e1, Int.toNat_natCast]
    rw [if_pos (by omega), if_pos (by omega), if_pos (by omega), slices_ConcatPiece_three _ _ _ k (by rw [List.length_take]; omega) (by simp) (by rw [List.length_drop]; omega), w64 (x := (rd_T58 l (n : Int)).f0 - at_) (by omega) (by omega)]
    rfl
  · simp only [if_true] at h4 ⊢
    simp only [e1, Int.toNat_natCast]
    rw [if_pos (by omega), if_pos (by omega), if_pos (by omega), slices_ConcatPiece_three _ _ _ k (by rw [List.length_take]; omega) (by simp) (by rw [List.length_drop]; omega), w64 (x := (rd_T58 l (n : Int)).f1 - at_) (by omega) (by omega)]
    rfl

theorem impl_IsPiece_eq (a b : Int) : impl_IsPiece.f a b = some (isPiece a b) := by
  unfold impl_IsPiece.f isPiece
  simp only [impl_inRange_eq, Option.bind_some]
  cases inR a 1 20000 <;> rfl

theorem impl_RunCuts_l0 (cs : List S48) (hl : cs.length ≤ 1048576) : ∀ (d k i : Nat) (l : List S58), i + d = cs.length → d + 100 ≤ k → arePieces l = true → impl_RunCuts.l0 k l cs (cs.length : Int) (i : Int) = some (runL l (cs.drop i)) := by
  intro d
  induction d with
  | zero =>
    intro k i l hi hk h
    obtain ⟨k, rfl⟩ : ∃ m, k = m + 1 := ⟨k - 1, by omega⟩
    rw [impl_RunCuts.l0, if_neg (by omega), List.drop_of_length_le (by omega), runL]
  | succ d ih =>
    intro k i l hi hk h
    obtain ⟨k, rfl⟩ : ∃ m, k = (m + 1) + 1 := ⟨k - 2, by omega⟩
    have hlt : i < cs.length := by omega
    rw [impl_RunCuts.l0, if_pos (by omega), if_pos (by omega), if_pos (by omega), rdICut cs i hlt, dropICut cs i hlt, runL, impl_possible_eq k l _ _ _ h, w64 (x := (i : Int) + 1) (by omega) (by omega)]
    simp only [Option.bind_some]
    by_cases hp : possible l cs[i].f0 cs[i].f1 cs[i].f2 = true
    · rw [if_pos hp, if_pos hp, impl_cut_eq l _ _ _ (k + 1) (by omega) h hp]
      simp only [Option.bind_some]
      exact ih (k + 1) (i + 1) _ (by omega) (by omega) (cutP_ok h hp)
    · rw [if_neg hp, if_neg hp]
theorem impl_RunCuts_eq (a b : Int) (cs : List S48) (k : Nat) (hl : cs.length ≤ 1048576) (hk : cs.length + 100 ≤ k) : impl_RunCuts.f k a b cs = some (runCuts a b cs) := by
  unfold impl_RunCuts.f runCuts
  rw [impl_IsPiece_eq]
  simp only [Option.bind_some]
  by_cases h : isPiece a b = true
  · rw [if_pos h, if_pos h]
    by_cases c : (cs.length : Int) > 79
    · rw [if_pos c, if_pos c]
    · rw [if_neg c, if_neg c]
      exact impl_RunCuts_l0 cs hl cs.length k 0 _ (by omega) hk (are_one h)
  · rw [if_neg h, if_neg h]

theorem laws_eqCut_self (x0 : Int) (x1 : Bool) (x2 : Int) : laws_eqCut.f x0 x1 x2 x0 x1 x2 = some true := by
  unfold laws_eqCut.f; simp

theorem laws_eqCutS_l0 (xs : List S48) (hl : xs.length ≤ 9223372036854775806) : ∀ (d k i : Nat), i + d = xs.length → d < k → laws_eqCutS.l0 k xs xs (i : Int) = some true := by
  intro d
  induction d with
  | zero =>
    intro k i h hk
    obtain ⟨k, rfl⟩ : ∃ m, k = m + 1 := ⟨k - 1, by omega⟩
    rw [laws_eqCutS.l0, if_neg (by omega)]
  | succ d ih =>
    intro k i h hk
    obtain ⟨k, rfl⟩ : ∃ m, k = m + 1 := ⟨k - 1, by omega⟩
    rw [laws_eqCutS.l0, if_pos (by omega), if_pos (by omega), if_pos (by omega), laws_eqCut_self]
    simp only [Option.bind_some, if_true]
    rw [w64 (by omega) (by omega)]
    exact ih k (i + 1) (by omega) (by omega)
theorem laws_eqCutS_eq (xs : List S48) (k : Nat) (hl : xs.length ≤ 9223372036854775806) (hk : xs.length < k) : laws_eqCutS.f k xs xs = some true := by
  unfold laws_eqCutS.f
  rw [if_pos rfl]
  exact laws_eqCutS_l0 xs hl xs.length k 0 (by omega) hk

theorem laws_markCutS_l0 (n : Nat) (hn : n ≤ 1048576) : ∀ (d k i : Nat) (ys : List S48), ys.length = n → i + d = n → d < k →
    ∃ zs : List S48, laws_markCutS.l0 k ys (3 * (i : Int) + 1) (i : Int) = some (3 * (n : Int) + 1, zs) ∧ zs.length = n ∧ (∀ j, j < i → zs[j]? = ys[j]?) ∧ (∀ j, i ≤ j → j < n → zs[j]? = some ⟨3 * (j : Int) + 1, (Int.tmod (3 * (j : Int) + 2) 3) == 0, 3 * (j : Int) + 3⟩) := by
  intro d
  induction d with
  | zero =>
    intro k i ys hy h hk
    obtain ⟨k, rfl⟩ : ∃ m, k = m + 1 := ⟨k - 1, by omega⟩
    have e : i = n := by omega
    subst e
    refine ⟨ys, ?_, hy, fun _ _ => rfl, fun j h1 h2 => by omega⟩
    rw [laws_markCutS.l0, if_neg (by omega)]
  | succ d ih =>
    intro k i ys hy h hk
    obtain ⟨k, rfl⟩ : ∃ m, k = m + 1 := ⟨k - 1, by omega⟩
    have hlt : i < ys.length := by omega
    obtain ⟨zs, h1, h2, h3, h4⟩ := ih k (i + 1) (ys.set i ⟨3 * (i : Int) + 1, (Int.tmod (3 * (i : Int) + 2) 3) == 0, 3 * (i : Int) + 3⟩) (by simpa using hy) (by omega) (by omega)
    refine ⟨zs, ?_, h2, fun j hj => ?_, fun j hj1 hj2 => ?_⟩
    · have e1 : rd_T48 (ys.set i ⟨3 * (i : Int) + 1, (rd_T48 ys (i : Int)).f1, (rd_T48 ys (i : Int)).f2⟩) (i : Int) = ⟨3 * (i : Int) + 1, (rd_T48 ys (i : Int)).f1, (rd_T48 ys (i : Int)).f2⟩ := by
        simp [rd_T48, List.getD_eq_getElem?_getD, List.getElem?_set_self hlt]
      have e2 : ∀ x : S48, rd_T48 (ys.set i x) (i : Int) = x := by
        intro x
        simp [rd_T48, List.getD_eq_getElem?_getD, List.getElem?_set_self hlt]
      rw [laws_markCutS.l0, if_pos (by omega), if_pos (by omega)]
      simp only [Option.bind_some, Int.toNat_natCast, e2, List.set_set]
      rw [w64 (x := 3 * (i : Int) + 1 + 1) (by omega) (by omega), w64 (x := 3 * (i : Int) + 1 + 1 + 1) (by omega) (by omega), w64 (x := 3 * (i : Int) + 1 + 1 + 1 + 1) (by omega) (by omega), w64 (x := (i : Int) + 1) (by omega) (by omega)]
      rw [show ((i + 1 : Nat) : Int) = (i : Int) + 1 by omega, show 3 * ((i : Int) + 1) + 1 = 3 * (i : Int) + 1 + 1 + 1 + 1 by omega] at h1
      rw [show 3 * (i : Int) + 1 + 1 + 1 = 3 * (i : Int) + 3 by omega, show 3 * (i : Int) + 1 + 1 = 3 * (i : Int) + 2 by omega]
      rw [show 3 * (i : Int) + 1 + 1 + 1 + 1 = 3 * (i : Int) + 3 + 1 by omega] at h1
      exact h1
    · rw [h3 j (by omega), List.getElem?_set_ne (by omega)]
    · by_cases e : j = i
      · subst e
        rw [h3 j (by omega), List.getElem?_set_self hlt]
      · exact h4 j (by omega) hj2

theorem FnExactRunCuts : ∀ (a0_0 : Int) (a0_1 : Int) (l1 : List S42), (Lit.int .i64 a0_0).wf = true → (Lit.int .i64 a0_1).wf = true → l1.length ≤ maxLen → (∀ x ∈ l1, (Lit.int .i64 x.f0).wf = true ∧ (Lit.int .i64 x.f2).wf = true) → ∃ k, laws_FnExactRunCuts.f k a0_0 a0_1 l1 = some true := by
  intro a b l _ _ hl _
  unfold maxLen at hl
  by_cases hbig : (l.length : Int) > 1048576
  · exact ⟨1, by unfold laws_FnExactRunCuts.f; rw [laws_szCutS_eq l (by omega), if_pos hbig]; rfl⟩
  have hc := convCut_len l
  have hl2 := runCuts_len a b (convCut l)
  obtain ⟨ys, hm2⟩ : ∃ ys, laws_markCutS.f (l.length + 299) (convCut l) 1 = some (3 * ((convCut l).length : Int) + 1, ys) := by
    obtain ⟨ys, h1, _⟩ := laws_markCutS_l0 (convCut l).length (by omega) (convCut l).length (l.length + 299) 0 (convCut l) rfl (by omega) (by omega)
    exact ⟨ys, h1⟩
  obtain ⟨zs, hm, hz, hh⟩ := marks_heldPiece (runCuts a b (convCut l)).1 (by omega) (l.length + 298) (by omega)
  have h0 : ¬ (2 * ((runCuts a b (convCut l)).1.length : Int) + 1 < 0) := by omega
  have h1 : ¬ (3 * ((convCut l).length : Int) + 1 < 0) := by omega
  have hn : ¬ (1048576 - (l.length : Int) < 0) := by omega
  refine ⟨l.length + 300, ?_⟩
  simp (disch := omega) only [laws_FnExactRunCuts.f, laws_szCutS_eq, if_neg hbig, if_neg hn, laws_toCutS_eq, laws_toPiece_eq, spec_RunCuts_eq, impl_RunCuts_eq, laws_eqPieceS_eq, Option.bind_some, bne_self_eq_false, if_true]
  simp (disch := omega) only [laws_FnExactRunCuts.j0, laws_toCutS_eq, laws_eqCutS_eq, laws_eqPieceS_eq, hm2, if_neg h1, Option.bind_some, bne_self_eq_false, Bool.false_eq_true, if_false, if_true]
  simp (disch := omega) only [laws_FnExactRunCuts.j1, laws_toCutS_eq, laws_toPiece_eq, impl_RunCuts_eq, laws_eqPieceS_eq, hm, hh, if_neg h0, Option.bind_some, bne_self_eq_false, Bool.false_eq_true, if_false, if_true]
  simp (disch := omega) only [laws_FnExactRunCuts.j2, hh, if_neg h0, Option.bind_some, Bool.false_eq_true, if_false, if_true]

end Go.Proofs.Ytaapnjhgkbjdkaa.Pure
