/- For all arguments the law FnExactOversOf returns true, with no condition beyond the bounds that the printed statement names. -/
import Derived.Test.YtpeigljahdnomaaPFnExactOversOfx4
namespace Go.Proofs.Ytpeigljahdnomaa.Pure
open Go.RowKit Go.Proofs.Ytpeigljahdnomaa.PFnExactOversOf Go.Proofs.YtpeigljahdnomaaW.PrintWords Go.Proofs.YtpeigljahdnomaaW.PrintLast
set_option linter.unusedVariables false
set_option linter.unusedSimpArgs false

theorem w64 {x : Int} (h1 : -9223372036854775808 ≤ x) (h2 : x ≤ 9223372036854775807) : wrap64 x = x := by
  unfold wrap64; omega
theorem wf64 {x : Int} (h : (Lit.int .i64 x).wf = true) : -9223372036854775808 ≤ x ∧ x ≤ 9223372036854775807 := by
  simp [Lit.wf, IntKind.min, IntKind.max, IntKind.signed, IntKind.bits] at h
  omega
/-- 'a lies from b to c'. -/
def inR (a b c : Int) : Bool := decide (b ≤ a ∧ a ≤ c)
theorem inR_true {a b c : Int} (h : inR a b c = true) : b ≤ a ∧ a ≤ c := by simpa [inR] using h
theorem inR_mk {a b c : Int} (h1 : b ≤ a) (h2 : a ≤ c) : inR a b c = true := by simp [inR, h1, h2]
theorem inR_false {a b c : Int} (h : inR a b c = false) : a < b ∨ c < a := by
  have : ¬ (b ≤ a ∧ a ≤ c) := by simpa [inR] using h
  omega
theorem rd_nat (xs : List Int) (i : Nat) : rd xs (i : Int) = xs.getD i 0 := by simp [rd]
theorem mul_bd {a b A B : Int} (h0 : 0 ≤ a) (h1 : a ≤ A) (k0 : 0 ≤ b) (k1 : b ≤ B) : 0 ≤ a * b ∧ a * b ≤ A * B :=
  ⟨Int.mul_nonneg h0 k0, Int.mul_le_mul h1 k1 k0 (by omega)⟩
theorem tdiv_n {a b : Int} (h : 0 ≤ a) : Int.tdiv a b = a / b := Int.tdiv_eq_ediv_of_nonneg h
theorem tmod_n {a b : Int} (h : 0 ≤ a) : Int.tmod a b = a % b := Int.tmod_eq_emod_of_nonneg h
theorem mn_min (a b : Int) : mn a b = min a b := by unfold mn; split <;> omega
theorem mx_max (a b : Int) : mx a b = max a b := by unfold mx; split <;> omega

def allR (xs : List Int) (lo hi : Int) : Bool := xs.all fun x => inR x lo hi
theorem allR_mem {xs : List Int} {lo hi : Int} (h : allR xs lo hi = true) : ∀ x ∈ xs, lo ≤ x ∧ x ≤ hi := fun x hx => inR_true (List.all_eq_true.1 h x hx)
theorem drop_get (xs : List Int) (i : Nat) (hi : i < xs.length) : xs.drop i = xs[i] :: xs.drop (i + 1) := List.drop_eq_getElem_cons hi
theorem rd_get (xs : List Int) (i : Nat) (hi : i < xs.length) : rd xs (i : Int) = xs[i] := by rw [rd_nat, List.getD_eq_getElem?_getD, List.getElem?_eq_getElem hi]; rfl
/-- The sum, as the program adds it up. -/
def wsum (a : Int) (xs : List Int) : Int := xs.foldl (fun a x => wrap64 (a + x)) a
theorem wsum_cons (a x : Int) (xs : List Int) : wsum a (x :: xs) = wsum (wrap64 (a + x)) xs := rfl
theorem wsum_eq : ∀ (xs : List Int) (a : Int), (∀ x ∈ xs, 0 ≤ x ∧ x ≤ 1000000) → 0 ≤ a → a + xs.length * 1000000 ≤ 4611686018427387904 → wsum a xs = a + xs.sum ∧ 0 ≤ xs.sum ∧ xs.sum ≤ xs.length * 1000000
  | [], a, _, h0, _ => ⟨by simp [wsum], by simp, by simp⟩
  | x :: xs, a, h, h0, hb => by
    have hx := h x (by simp)
    simp only [List.length_cons] at hb ⊢
    obtain ⟨e, l, u⟩ := wsum_eq xs (a + x) (fun y hy => h y (by simp [hy])) (by omega) (by omega)
    rw [wsum_cons, w64 (by omega) (by omega), e, List.sum_cons]
    exact ⟨by omega, by omega, by omega⟩

def gang (slots : Int) (q : List Int) : Bool := inR slots 1 32 && (inR (q.length : Int) 1 (min 6 slots) && allR q 1 1000000)
theorem gang_true {slots : Int} {q : List Int} (h : gang slots q = true) : (1 ≤ slots ∧ slots ≤ 32) ∧ (1 ≤ q.length ∧ q.length ≤ 6 ∧ (q.length : Int) ≤ slots) ∧ ∀ x ∈ q, 1 ≤ x ∧ x ≤ 1000000 := by
  simp only [gang, Bool.and_eq_true] at h
  have h2 := inR_true h.2.1
  exact ⟨inR_true h.1, by omega, allR_mem h.2.2⟩
/-- The run of ups. -/
def runM : List Int → List Int → Int → Int
  | q :: qs, u :: us, r => runM qs us (max r ((q + u - 1) / u))
  | _, _, r => r
def upsOk (slots : Int) (q u : List Int) : Bool := decide (u.length = q.length) && (allR u 1 slots && decide (wsum 0 u ≤ slots))
def upsCode (slots : Int) (q u : List Int) : Int := if gang slots q = true then (if upsOk slots q u = true then 0 else 2) else 1
def runFor (slots : Int) (q u : List Int) : Int × Int := if upsCode slots q u = 0 then (runM q u 0, 0) else (0, upsCode slots q u)
theorem upsCode_ok {slots : Int} {q u : List Int} (e : upsCode slots q u = 0) : gang slots q = true ∧ u.length = q.length ∧ (∀ x ∈ u, 1 ≤ x ∧ x ≤ slots) ∧ wsum 0 u ≤ slots := by
  unfold upsCode at e
  cases hg : gang slots q
  · simp [hg] at e
  · cases hu : upsOk slots q u
    · simp [hg, hu] at e
    · simp only [upsOk, Bool.and_eq_true, decide_eq_true_eq] at hu
      exact ⟨rfl, hu.1, allR_mem hu.2.1, hu.2.2⟩
theorem ceil_bd {q u : Int} (hq : 1 ≤ q ∧ q ≤ 1000000) (hu : 1 ≤ u ∧ u ≤ 1000000) : 1 ≤ (q + u - 1) / u ∧ (q + u - 1) / u ≤ q := by
  have h1 : (q + u - 1) / u = (q - 1) / u + 1 := by
    rw [show q + u - 1 = (q - 1) + 1 * u by omega, Int.add_mul_ediv_right _ _ (by omega)]
  have h2 : 0 ≤ (q - 1) / u := Int.ediv_nonneg (by omega) (by omega)
  have h3 : (q - 1) / u ≤ q - 1 := Int.ediv_le_self _ (by omega)
  omega
/-- The least ups of a run. -/
def upsM (q : List Int) (run : Int) : List Int := q.map fun x => (x + run - 1) / run
def upsFor (slots : Int) (q : List Int) (run : Int) : List Int × Int :=
  if gang slots q = true then (if inR run 1 1000000 = true then (if wsum 0 (upsM q run) > slots then ([], 4) else (upsM q run, 0)) else ([], 2)) else ([], 1)

theorem spec_upsCode (slots : Int) (q u : List Int) : (if gang slots q = true then (if (decide (u.length = q.length) && ((allR u 1 slots && decide ((u.length : Int) ≤ 6)) && decide (wsum 0 u ≤ slots))) = true then (0 : Int) else 2) else 1) = upsCode slots q u := by
  unfold upsCode upsOk
  cases hg : gang slots q
  · simp
  · have hl := (gang_true hg).2.1.2.1
    by_cases h : u.length = q.length
    · rw [decide_eq_true h, decide_eq_true (show (u.length : Int) ≤ 6 by omega), Bool.and_true]
    · rw [decide_eq_false h, Bool.false_and, Bool.false_and]

def oversM : List Int → List Int → Int → List Int
  | q :: qs, u :: us, r => (u * r - q) :: oversM qs us r
  | _, _, _ => []
theorem oversM_len : ∀ (q u : List Int) (r : Int), (oversM q u r).length ≤ q.length
  | [], _, _ => by simp [oversM]
  | _ :: _, [], _ => by simp [oversM]
  | _ :: qs, _ :: us, r => by have := oversM_len qs us r; simp only [oversM, List.length_cons]; omega
theorem runM_bd : ∀ (q u : List Int) (r : Int), (∀ x ∈ q, 1 ≤ x ∧ x ≤ 1000000) → (∀ x ∈ u, 1 ≤ x ∧ x ≤ 1000000) → 0 ≤ r → r ≤ 1000000 → 0 ≤ runM q u r ∧ runM q u r ≤ 1000000
  | [], _, r, _, _, h0, h1 => by simp only [runM]; omega
  | _ :: _, [], r, _, _, h0, h1 => by simp only [runM]; omega
  | x :: qs, y :: us, r, hq, hu, h0, h1 => by
    rw [runM]
    have h2 := hq x (by simp)
    have h3 := ceil_bd h2 (hu y (by simp))
    exact runM_bd qs us _ (fun z hz => hq z (by simp [hz])) (fun z hz => hu z (by simp [hz])) (by omega) (by omega)
def oversOf (slots : Int) (q u : List Int) : List Int × Int := if upsCode slots q u = 0 then (oversM q u (runM q u 0), 0) else ([], upsCode slots q u)
theorem oversOf_len (slots : Int) (q u : List Int) : (oversOf slots q u).1.length ≤ q.length := by
  unfold oversOf
  split
  · exact oversM_len q u _
  · simp
theorem over_w {a b c : Int} (ha : 1 ≤ a ∧ a ≤ 32) (hb : 0 ≤ b ∧ b ≤ 1000000) (hc : 1 ≤ c ∧ c ≤ 1000000) : wrap64 (wrap64 (a * b) - c) = a * b - c := by
  have h1 : 0 ≤ a * b := Int.mul_nonneg (by omega) (by omega)
  have h2 : a * b ≤ 32 * b := Int.mul_le_mul_of_nonneg_right (by omega) (by omega)
  rw [w64 (x := a * b) (by omega) (by omega), w64 (by omega) (by omega)]

theorem laws_toInt64S_l0 (xs : List Int) (hl : xs.length ≤ 35184372088832) : ∀ (d k i : Nat) (ys : List Int), ys.length = xs.length → i + d = xs.length → (∀ j, j < i → ys[j]? = xs[j]?) → d < k → laws_toInt64S.l0 k xs ys (i : Int) = some xs := by
  intro d
  induction d with
  | zero =>
    intro k i ys hy h hj hk
    obtain ⟨k, rfl⟩ : ∃ m, k = m + 1 := ⟨k - 1, by omega⟩
    rw [laws_toInt64S.l0, if_neg (by omega)]
    congr 1
    apply List.ext_getElem?
    intro j
    by_cases h1 : j < i
    · exact hj j h1
    · rw [List.getElem?_eq_none (by omega), List.getElem?_eq_none (by omega)]
  | succ d ih =>
    intro k i ys hy h hj hk
    obtain ⟨k, rfl⟩ : ∃ m, k = m + 1 := ⟨k - 1, by omega⟩
    have hi : i < xs.length := by omega
    have e2 : rd xs (i : Int) = xs[i] := by rw [rd_nat, List.getD_eq_getElem?_getD, List.getElem?_eq_getElem hi]; rfl
    rw [laws_toInt64S.l0, if_pos (by omega), if_pos (by omega), if_pos (by omega), w64 (by omega) (by omega), Int.toNat_natCast, e2]
    refine ih k (i + 1) _ (by rw [List.length_set]; exact hy) (by omega) (fun j hlt => ?_) (by omega)
    by_cases e : j = i
    · subst e
      rw [List.getElem?_set_self (by omega), List.getElem?_eq_getElem hi]
    · rw [List.getElem?_set_ne (by omega)]
      exact hj j (by omega)
theorem laws_toInt64S_eq (xs : List Int) (k : Nat) (hl : xs.length ≤ 35184372088832) (hk : xs.length < k) : laws_toInt64S.f k xs = some xs := by
  unfold laws_toInt64S.f
  rw [if_pos (by omega), if_pos (by omega)]
  exact laws_toInt64S_l0 xs hl xs.length k 0 _ (by simp) (by omega) (fun j hj => absurd hj (Nat.not_lt_zero _)) hk

theorem laws_eqInt64S_l0 (xs : List Int) (hl : xs.length ≤ 9223372036854775806) : ∀ (d k i : Nat), i + d = xs.length → d < k → laws_eqInt64S.l0 k xs xs (i : Int) = some true := by
  intro d
  induction d with
  | zero =>
    intro k i h hk
    obtain ⟨k, rfl⟩ : ∃ m, k = m + 1 := ⟨k - 1, by omega⟩
    rw [laws_eqInt64S.l0, if_neg (by omega)]
  | succ d ih =>
    intro k i h hk
    obtain ⟨k, rfl⟩ : ∃ m, k = m + 1 := ⟨k - 1, by omega⟩
    rw [laws_eqInt64S.l0, if_pos (by omega), if_pos (by omega), if_pos (by omega), if_pos rfl, w64 (by omega) (by omega)]
    exact ih k (i + 1) (by omega) (by omega)
theorem laws_eqInt64S_eq (xs : List Int) (k : Nat) (hl : xs.length ≤ 9223372036854775806) (hk : xs.length < k) : laws_eqInt64S.f k xs xs = some true := by
  unfold laws_eqInt64S.f
  rw [if_pos rfl]
  exact laws_eqInt64S_l0 xs hl xs.length k 0 (by omega) hk

theorem spec_l01In_eq (a b c : Int) : spec_l01In.f a b c = some (inR a b c) := by
  unfold spec_l01In.f inR
  by_cases h : a ≥ b
  · rw [if_pos h]; simp [show b ≤ a from h]
  · rw [if_neg h]; simp [show ¬ b ≤ a from h]

theorem spec_l01Within_l0 (xs : List Int) (m lo hi : Int) (hl : xs.length ≤ 9223372036854775806) : ∀ (d k i : Nat), i + d = xs.length → d < k → spec_l01Within.l0 k xs m lo hi (i : Int) = some (allR (xs.drop i) lo hi && decide ((xs.length : Int) ≤ m)) := by
  intro d
  induction d with
  | zero =>
    intro k i h hk
    obtain ⟨k, rfl⟩ : ∃ m, k = m + 1 := ⟨k - 1, by omega⟩
    rw [spec_l01Within.l0, if_neg (by omega), List.drop_of_length_le (by omega)]
    rfl
  | succ d ih =>
    intro k i h hk
    obtain ⟨k, rfl⟩ : ∃ m, k = m + 1 := ⟨k - 1, by omega⟩
    have hlt : i < xs.length := by omega
    have e3 := ih k (i + 1) (by omega) (by omega)
    rw [spec_l01Within.l0, if_pos (by omega), if_pos (by omega), rd_get xs i hlt, spec_l01In_eq, drop_get xs i hlt, w64 (by omega) (by omega)]
    simp only [Option.bind_some, allR, List.all_cons]
    cases hx : inR xs[i] lo hi
    · simp
    · simp only [if_true, Bool.true_and]
      exact e3
theorem spec_l01Within_eq (xs : List Int) (m lo hi : Int) (k : Nat) (hl : xs.length ≤ 9223372036854775806) (hk : xs.length < k) : spec_l01Within.f k xs m lo hi = some (allR xs lo hi && decide ((xs.length : Int) ≤ m)) := by
  unfold spec_l01Within.f
  exact spec_l01Within_l0 xs m lo hi hl xs.length k 0 (by omega) hk

theorem spec_IsGang_eq (slots : Int) (q : List Int) (k : Nat) (hl : q.length ≤ 9223372036854775806) (hk : q.length < k) : spec_IsGang.f k slots q = some (gang slots q) := by
  unfold spec_IsGang.f gang
  simp only [spec_l01In_eq, spec_l01Within_eq q _ _ _ k hl hk, Option.bind_some]
  cases h0 : inR slots 1 32
  · simp
  · by_cases h1 : (q.length : Int) ≥ 1
    · by_cases h2 : (q.length : Int) ≤ slots
      · rw [if_pos rfl, if_pos h1, if_pos h2]
        by_cases h3 : (q.length : Int) ≤ 6
        · rw [inR_mk (a := (q.length : Int)) h1 (by omega)]; simp [h3]
        · have e : inR (q.length : Int) 1 (min 6 slots) = false := by simp [inR]; omega
          rw [e]; simp [h3]
      · rw [if_pos rfl, if_pos h1, if_neg h2]
        have e : inR (q.length : Int) 1 (min 6 slots) = false := by simp [inR]; omega
        rw [e]; simp
    · rw [if_pos rfl, if_neg h1]
      have e : inR (q.length : Int) 1 (min 6 slots) = false := by simp [inR]; omega
      rw [e]; simp

theorem spec_l11Code_eq (slots : Int) (q : List Int) (b : Bool) (k : Nat) (hl : q.length ≤ 9223372036854775806) (hk : q.length < k) : spec_l11Code.f k slots q b = some (if gang slots q = true then (if b = true then 0 else 2) else 1) := by
  unfold spec_l11Code.f
  simp only [spec_IsGang_eq slots q k hl hk, Option.bind_some]
  cases gang slots q
  · simp
  · cases b <;> simp

theorem spec_l01Sum_l0 (xs : List Int) (hl : xs.length ≤ 9223372036854775806) : ∀ (d k i : Nat) (a : Int), i + d = xs.length → d < k → spec_l01Sum.l0 k xs a (i : Int) = some (wsum a (xs.drop i)) := by
  intro d
  induction d with
  | zero =>
    intro k i a h hk
    obtain ⟨k, rfl⟩ : ∃ m, k = m + 1 := ⟨k - 1, by omega⟩
    rw [spec_l01Sum.l0, if_neg (by omega), List.drop_of_length_le (by omega)]
    rfl
  | succ d ih =>
    intro k i a h hk
    obtain ⟨k, rfl⟩ : ∃ m, k = m + 1 := ⟨k - 1, by omega⟩
    have hi : i < xs.length := by omega
    rw [spec_l01Sum.l0, if_pos (by omega), if_pos (by omega), rd_get xs i hi, drop_get xs i hi, w64 (x := (i : Int) + 1) (by omega) (by omega), wsum_cons]
    exact ih k (i + 1) _ (by omega) (by omega)
theorem spec_l01Sum_eq (xs : List Int) (k : Nat) (hl : xs.length ≤ 9223372036854775806) (hk : xs.length < k) : spec_l01Sum.f k xs = some (wsum 0 xs) := by
  unfold spec_l01Sum.f
  exact spec_l01Sum_l0 xs hl xs.length k 0 0 (by omega) hk

theorem spec_l11Ups_eq (slots : Int) (q u : List Int) (k : Nat) (hl : u.length ≤ 9223372036854775806) (hk : u.length < k) : spec_l11Ups.f k slots q u = some (decide (u.length = q.length) && ((allR u 1 slots && decide ((u.length : Int) ≤ 6)) && decide (wsum 0 u ≤ slots))) := by
  unfold spec_l11Ups.f
  by_cases h : (u.length : Int) = (q.length : Int)
  · rw [if_pos h, decide_eq_true (show u.length = q.length by omega), spec_l01Within_eq u _ _ _ k hl hk]
    simp only [Option.bind_some, Bool.true_and]
    cases (allR u 1 slots && decide ((u.length : Int) ≤ 6))
    · simp
    · simp only [if_true, spec_l01Sum_eq u k hl hk, Option.bind_some, Bool.true_and]
  · rw [if_neg h, decide_eq_false (show ¬ u.length = q.length by omega), Bool.false_and]

theorem spec_l01Ceil_eq (a b : Int) (h0 : 0 ≤ a) (h1 : a ≤ 4611686018427387904) (k0 : 1 ≤ b) (k1 : b ≤ 4611686018427387903) : spec_l01Ceil.f a b = some ((a + b - 1) / b) := by
  unfold spec_l01Ceil.f
  have h3 : 0 ≤ (a + b - 1) / b := Int.ediv_nonneg (by omega) (by omega)
  have h4 : (a + b - 1) / b ≤ a + b - 1 := Int.ediv_le_self _ (by omega)
  rw [if_neg (by omega), w64 (x := a + b) (by omega) (by omega), w64 (x := a + b - 1) (by omega) (by omega), tdiv_n (by omega), w64 (by omega) (by omega)]

theorem spec_l11Run_l0 (q u : List Int) (hq : ∀ x ∈ q, 1 ≤ x ∧ x ≤ 1000000) (hu : ∀ x ∈ u, 1 ≤ x ∧ x ≤ 1000000) (hl : u.length = q.length) (hb : q.length ≤ 1048576) : ∀ (d k i : Nat) (r : Int), i + d = q.length → d < k → spec_l11Run.l0 k q u r (i : Int) = some (runM (q.drop i) (u.drop i) r) := by
  intro d
  induction d with
  | zero =>
    intro k i r h hk
    obtain ⟨k, rfl⟩ : ∃ m, k = m + 1 := ⟨k - 1, by omega⟩
    rw [spec_l11Run.l0, if_neg (by omega), List.drop_of_length_le (by omega), runM]
    simp
  | succ d ih =>
    intro k i r h hk
    obtain ⟨k, rfl⟩ : ∃ m, k = m + 1 := ⟨k - 1, by omega⟩
    have h1 : i < q.length := by omega
    have h2 : i < u.length := by omega
    have b1 := hq q[i] (List.getElem_mem h1)
    have b2 := hu u[i] (List.getElem_mem h2)
    rw [spec_l11Run.l0, if_pos (by omega), if_pos (by omega), if_pos (by omega), rd_get q i h1, rd_get u i h2, drop_get q i h1, drop_get u i h2, spec_l01Ceil_eq _ _ (by omega) (by omega) (by omega) (by omega), w64 (x := (i : Int) + 1) (by omega) (by omega), runM]
    simp only [Option.bind_some, mx_max]
    exact ih k (i + 1) _ (by omega) (by omega)
theorem spec_l11Run_eq (q u : List Int) (k : Nat) (hq : ∀ x ∈ q, 1 ≤ x ∧ x ≤ 1000000) (hu : ∀ x ∈ u, 1 ≤ x ∧ x ≤ 1000000) (hl : u.length = q.length) (hb : q.length ≤ 1048576) (hk : q.length < k) : spec_l11Run.f k q u = some (runM q u 0) := by
  unfold spec_l11Run.f
  exact spec_l11Run_l0 q u hq hu hl hb q.length k 0 0 (by omega) hk

theorem spec_OversOf_l0 (q u : List Int) (r : Int) (hq : ∀ x ∈ q, 1 ≤ x ∧ x ≤ 1000000) (hu : ∀ x ∈ u, 1 ≤ x ∧ x ≤ 32) (hl : u.length = q.length) (hb : q.length ≤ 1048576) (hr : 0 ≤ r ∧ r ≤ 1000000) : ∀ (d k i : Nat) (acc : List Int), i + d = q.length → d < k → acc.length ≤ i → spec_OversOf.l0 k q u r acc (i : Int) = some (acc ++ oversM (q.drop i) (u.drop i) r, 0) := by
  intro d
  induction d with
  | zero =>
    intro k i acc h hk ha
    obtain ⟨k, rfl⟩ : ∃ m, k = m + 1 := ⟨k - 1, by omega⟩
    rw [spec_OversOf.l0, if_neg (by omega), List.drop_of_length_le (l := q) (by omega), oversM]
    simp
    simp
  | succ d ih =>
    intro k i acc h hk ha
    obtain ⟨k, rfl⟩ : ∃ m, k = m + 1 := ⟨k - 1, by omega⟩
    have h1 : i < q.length := by omega
    have h2 : i < u.length := by omega
    have b1 := hq q[i] (List.getElem_mem h1)
    have b2 := hu u[i] (List.getElem_mem h2)
    rw [spec_OversOf.l0, if_pos (by omega), if_pos (by omega), if_pos (by omega), if_pos (by omega), rd_get q i h1, rd_get u i h2, over_w b2 hr b1, w64 (x := (i : Int) + 1) (by omega) (by omega), drop_get q i h1, drop_get u i h2, oversM, show acc ++ (u[i] * r - q[i]) :: oversM (q.drop (i + 1)) (u.drop (i + 1)) r = (acc ++ [u[i] * r - q[i]]) ++ oversM (q.drop (i + 1)) (u.drop (i + 1)) r by simp]
    exact ih k (i + 1) _ (by omega) (by omega) (by rw [List.length_append, List.length_singleton]; omega)
theorem spec_OversOf_eq (slots : Int) (q u : List Int) (k : Nat) (hq : q.length ≤ 9223372036854775806) (hl : u.length ≤ 9223372036854775806) (hkq : q.length < k) (hk : u.length < k) : spec_OversOf.f k slots q u = some (oversOf slots q u) := by
  unfold spec_OversOf.f oversOf
  simp only [spec_l11Ups_eq slots q u k hl hk, spec_l11Code_eq slots q _ k hq hkq, Option.bind_some, spec_upsCode]
  by_cases e : upsCode slots q u = 0
  · obtain ⟨h1, h2, h3, h4⟩ := upsCode_ok e
    obtain ⟨g1, g2, g3⟩ := gang_true h1
    rw [if_pos e, if_pos e, spec_l11Run_eq q u k g3 (fun x hx => by have := h3 x hx; omega) h2 (by omega) hkq]
    simp only [Option.bind_some]
    exact (spec_OversOf_l0 q u _ g3 (fun x hx => by have := h3 x hx; omega) h2 (by omega) (runM_bd q u 0 g3 (fun x hx => by have := h3 x hx; omega) (by omega) (by omega)) q.length k 0 [] (by omega) hkq (by simp)).trans rfl
  · rw [if_neg e, if_neg e]

theorem impl_length_int64_eq (xs : List Int) : impl_length_int64.f xs = some (xs.length : Int) := rfl

theorem impl_inRange_eq (a b c : Int) : impl_inRange.f a b c = some (inR a b c) := by
  unfold impl_inRange.f inR
  by_cases h : b ≤ a
  · rw [if_pos h]; simp [h]
  · rw [if_neg h]; simp [h]

theorem impl_allIn_eq (xs : List Int) (lo hi : Int) : impl_allIn.f xs lo hi = some (allR xs lo hi) := rfl

theorem impl_IsGang_eq (slots : Int) (q : List Int) : impl_IsGang.f slots q = some (gang slots q) := by
  unfold impl_IsGang.f gang
  simp only [impl_inRange_eq, impl_allIn_eq, impl_length_int64_eq, Option.bind_some, mn_min]
  cases inR slots 1 32
  · simp
  · cases inR (q.length : Int) 1 (min 6 slots) <;> simp

theorem impl_sumOf_l0 (xs : List Int) (hl : xs.length ≤ 9223372036854775806) : ∀ (d k i : Nat) (a : Int), i + d = xs.length → d < k → impl_sumOf.l0 k a xs (xs.length : Int) (i : Int) = some (wsum a (xs.drop i)) := by
  intro d
  induction d with
  | zero =>
    intro k i a h hk
    obtain ⟨k, rfl⟩ : ∃ m, k = m + 1 := ⟨k - 1, by omega⟩
    rw [impl_sumOf.l0, if_neg (by omega), List.drop_of_length_le (by omega)]
    rfl
  | succ d ih =>
    intro k i a h hk
    obtain ⟨k, rfl⟩ : ∃ m, k = m + 1 := ⟨k - 1, by omega⟩
    have hi : i < xs.length := by omega
    rw [impl_sumOf.l0, if_pos (by omega), if_pos (by omega), if_pos (by omega), rd_get xs i hi, drop_get xs i hi, w64 (x := (i : Int) + 1) (by omega) (by omega), wsum_cons]
    exact ih k (i + 1) _ (by omega) (by omega)
theorem impl_sumOf_eq (xs : List Int) (k : Nat) (hl : xs.length ≤ 9223372036854775806) (hk : xs.length < k) : impl_sumOf.f k xs = some (wsum 0 xs) := by
  unfold impl_sumOf.f
  exact impl_sumOf_l0 xs hl xs.length k 0 0 (by omega) hk

theorem impl_checkUps_eq (slots : Int) (q u : List Int) (k : Nat) (hl : u.length ≤ 9223372036854775806) (hk : u.length < k) : impl_checkUps.f k slots q u = some (upsCode slots q u) := by
  unfold impl_checkUps.f upsCode upsOk
  simp only [impl_IsGang_eq, impl_allIn_eq, impl_sumOf_eq u k hl hk, Option.bind_some]
  cases gang slots q
  · simp
  · by_cases h : (u.length : Int) = (q.length : Int)
    · rw [if_pos rfl, if_pos h, decide_eq_true (show u.length = q.length by omega)]
      cases allR u 1 slots
      · simp
      · by_cases h2 : wsum 0 u > slots
        · rw [if_pos rfl, if_pos h2, decide_eq_false (show ¬ wsum 0 u ≤ slots by omega)]; simp
        · rw [if_pos rfl, if_neg h2, decide_eq_true (show wsum 0 u ≤ slots by omega)]; simp
    · rw [if_pos rfl, if_neg h, decide_eq_false (show ¬ u.length = q.length by omega)]; simp

theorem impl_quotient_eq (a b : Int) (h0 : 0 ≤ a) (h1 : a ≤ 4611686018427387904) (k0 : 1 ≤ b) (k1 : b ≤ 4611686018427387903) : impl_quotient.f a b = some ((a + b - 1) / b) := by
  unfold impl_quotient.f
  have h3 : 0 ≤ (a + b - 1) / b := Int.ediv_nonneg (by omega) (by omega)
  have h4 : (a + b - 1) / b ≤ a + b - 1 := Int.ediv_le_self _ (by omega)
  rw [if_neg (by omega), w64 (x := a + b) (by omega) (by omega), w64 (x := a + b - 1) (by omega) (by omega), tdiv_n (by omega), w64 (by omega) (by omega)]

theorem impl_runFor_l0 (q u : List Int) (hq : ∀ x ∈ q, 1 ≤ x ∧ x ≤ 1000000) (hu : ∀ x ∈ u, 1 ≤ x ∧ x ≤ 1000000) (hl : u.length = q.length) (hb : q.length ≤ 1048576) : ∀ (d k i : Nat) (r : Int), i + d = q.length → d < k → impl_runFor.l0 k u r q (q.length : Int) (i : Int) = some (runM (q.drop i) (u.drop i) r) := by
  intro d
  induction d with
  | zero =>
    intro k i r h hk
    obtain ⟨k, rfl⟩ : ∃ m, k = m + 1 := ⟨k - 1, by omega⟩
    rw [impl_runFor.l0, if_neg (by omega), List.drop_of_length_le (by omega), runM]
    simp
  | succ d ih =>
    intro k i r h hk
    obtain ⟨k, rfl⟩ : ∃ m, k = m + 1 := ⟨k - 1, by omega⟩
    have h1 : i < q.length := by omega
    have h2 : i < u.length := by omega
    have b1 := hq q[i] (List.getElem_mem h1)
    have b2 := hu u[i] (List.getElem_mem h2)
    rw [impl_runFor.l0, if_pos (by omega), if_pos (by omega), if_pos (by omega), if_pos (by omega), rd_get q i h1, rd_get u i h2, drop_get q i h1, drop_get u i h2, impl_quotient_eq _ _ (by omega) (by omega) (by omega) (by omega), w64 (x := (i : Int) + 1) (by omega) (by omega), runM]
    simp only [Option.bind_some, mx_max]
    exact ih k (i + 1) _ (by omega) (by omega)
theorem impl_runFor_eq (q u : List Int) (k : Nat) (hq : ∀ x ∈ q, 1 ≤ x ∧ x ≤ 1000000) (hu : ∀ x ∈ u, 1 ≤ x ∧ x ≤ 1000000) (hl : u.length = q.length) (hb : q.length ≤ 1048576) (hk : q.length < k) : impl_runFor.f k q u = some (runM q u 0) := by
  unfold impl_runFor.f
  exact impl_runFor_l0 q u hq hu hl hb q.length k 0 0 (by omega) hk

theorem impl_OversOf_l0 (q u : List Int) (r : Int) (hq : ∀ x ∈ q, 1 ≤ x ∧ x ≤ 1000000) (hu : ∀ x ∈ u, 1 ≤ x ∧ x ≤ 32) (hl : u.length = q.length) (hb : q.length ≤ 1048576) (hr : 0 ≤ r ∧ r ≤ 1000000) : ∀ (d k i : Nat) (acc : List Int), i + d = q.length → d < k → acc.length ≤ i → impl_OversOf.l0 k u acc r q (q.length : Int) (i : Int) = some (acc ++ oversM (q.drop i) (u.drop i) r, 0) := by
  intro d
  induction d with
  | zero =>
    intro k i acc h hk ha
    obtain ⟨k, rfl⟩ : ∃ m, k = m + 1 := ⟨k - 1, by omega⟩
    rw [impl_OversOf.l0, if_neg (by omega), List.drop_of_length_le (l := q) (by omega), oversM]
    simp
    simp
  | succ d ih =>
    intro k i acc h hk ha
    obtain ⟨k, rfl⟩ : ∃ m, k = m + 1 := ⟨k - 1, by omega⟩
    have h1 : i < q.length := by omega
    have h2 : i < u.length := by omega
    have b1 := hq q[i] (List.getElem_mem h1)
    have b2 := hu u[i] (List.getElem_mem h2)
    rw [impl_OversOf.l0, if_pos (by omega), if_pos (by omega), if_pos (by omega), if_pos (by omega), if_pos (by omega), rd_get q i h1, rd_get u i h2, over_w b2 hr b1, w64 (x := (i : Int) + 1) (by omega) (by omega), drop_get q i h1, drop_get u i h2, oversM, show acc ++ (u[i] * r - q[i]) :: oversM (q.drop (i + 1)) (u.drop (i + 1)) r = (acc ++ [u[i] * r - q[i]]) ++ oversM (q.drop (i + 1)) (u.drop (i + 1)) r by simp]
    exact ih k (i + 1) _ (by omega) (by omega) (by rw [List.length_append, List.length_singleton]; omega)
theorem impl_OversOf_eq (slots : Int) (q u : List Int) (k : Nat) (hl : u.length ≤ 9223372036854775806) (hkq : q.length < k) (hk : u.length < k) : impl_OversOf.f k slots q u = some (oversOf slots q u) := by
  unfold impl_OversOf.f oversOf
  simp only [impl_checkUps_eq slots q u k hl hk, Option.bind_some]
  by_cases e : upsCode slots q u = 0
  · obtain ⟨h1, h2, h3, h4⟩ := upsCode_ok e
    obtain ⟨g1, g2, g3⟩ := gang_true h1
    rw [if_pos e, if_pos e, impl_runFor_eq q u k g3 (fun x hx => by have := h3 x hx; omega) h2 (by omega) hkq]
    simp only [Option.bind_some]
    exact (impl_OversOf_l0 q u _ g3 (fun x hx => by have := h3 x hx; omega) h2 (by omega) (runM_bd q u 0 g3 (fun x hx => by have := h3 x hx; omega) (by omega) (by omega)) q.length k 0 [] (by omega) hkq (by simp)).trans rfl
  · rw [if_neg e, if_neg e]

theorem laws_markInt64S_l0 (n : Nat) (hn : n ≤ 9223372036854775806) : ∀ (d k i : Nat) (ys : List Int), ys.length = n → i + d = n → d < k →
    ∃ zs : List Int, laws_markInt64S.l0 k ys ((i : Int) + 1) (i : Int) = some ((n : Int) + 1, zs) ∧ zs.length = n ∧ (∀ j, j < i → zs.getD j 0 = ys.getD j 0) ∧ (∀ j, i ≤ j → j < n → zs.getD j 0 = (j : Int) + 1) := by
  intro d
  induction d with
  | zero =>
    intro k i ys hy h hk
    obtain ⟨k, rfl⟩ : ∃ m, k = m + 1 := ⟨k - 1, by omega⟩
    have e : i = n := by omega
    subst e
    refine ⟨ys, ?_, hy, fun _ _ => rfl, fun j h1 h2 => by omega⟩
    rw [laws_markInt64S.l0, if_neg (by omega)]
  | succ d ih =>
    intro k i ys hy h hk
    obtain ⟨k, rfl⟩ : ∃ m, k = m + 1 := ⟨k - 1, by omega⟩
    obtain ⟨zs, h1, h2, h3, h4⟩ := ih k (i + 1) (ys.set i ((i : Int) + 1)) (by simpa using hy) (by omega) (by omega)
    refine ⟨zs, ?_, h2, fun j hj => ?_, fun j hj1 hj2 => ?_⟩
    · rw [laws_markInt64S.l0, if_pos (by omega), if_pos (by omega), w64 (by omega) (by omega), w64 (by omega) (by omega), Int.toNat_natCast]
      have e : ((i + 1 : Nat) : Int) = (i : Int) + 1 := by omega
      rw [e] at h1
      exact h1
    · rw [h3 j (by omega)]
      simp only [List.getD_eq_getElem?_getD]
      rw [List.getElem?_set_ne (by omega)]
    · by_cases e : j = i
      · subst e
        rw [h3 j (by omega)]
        simp only [List.getD_eq_getElem?_getD]
        rw [List.getElem?_set_self (by omega)]
        rfl
      · exact h4 j (by omega) hj2

theorem laws_heldInt64S_l0 (n : Nat) (hn : n ≤ 9223372036854775806) (zs : List Int) (hz : zs.length = n) (hv : ∀ j, j < n → zs.getD j 0 = (j : Int) + 1) : ∀ (d k i : Nat), i + d = n → d < k →
    laws_heldInt64S.l0 k zs ((i : Int) + 1) (i : Int) = some ((n : Int) + 1) := by
  intro d
  induction d with
  | zero =>
    intro k i h hk
    obtain ⟨k, rfl⟩ : ∃ m, k = m + 1 := ⟨k - 1, by omega⟩
    have e : i = n := by omega
    subst e
    rw [laws_heldInt64S.l0, if_neg (by omega)]
  | succ d ih =>
    intro k i h hk
    obtain ⟨k, rfl⟩ : ∃ m, k = m + 1 := ⟨k - 1, by omega⟩
    have := ih k (i + 1) (by omega) (by omega)
    have e : ((i + 1 : Nat) : Int) = (i : Int) + 1 := by omega
    rw [e] at this
    rw [laws_heldInt64S.l0, if_pos (by omega), if_pos (by omega), if_pos (by rw [rd_nat, hv i (by omega)]), w64 (by omega) (by omega), w64 (by omega) (by omega)]
    exact this
/-- What was marked is held. -/
theorem marks_held (xs : List Int) (hn : xs.length ≤ 9223372036854775806) (k : Nat) (hk : xs.length < k) :
    ∃ zs : List Int, laws_markInt64S.f k xs 1 = some ((xs.length : Int) + 1, zs) ∧ zs.length = xs.length ∧ (∀ k', xs.length < k' → laws_heldInt64S.f k' zs 1 = some ((xs.length : Int) + 1)) := by
  obtain ⟨zs, h1, h2, _, h4⟩ := laws_markInt64S_l0 xs.length hn xs.length k 0 xs rfl (by omega) hk
  exact ⟨zs, h1, h2, fun k' hk' => laws_heldInt64S_l0 xs.length hn zs h2 (fun j hj => h4 j (by omega) hj) xs.length k' 0 (by omega) hk'⟩

theorem mark_any (a n : Int) (ha : 0 ≤ a ∧ a ≤ 1048577) (hn : n ≤ 1048576) : ∀ (d k i : Nat) (ys : List Int), (ys.length : Int) = n → (i : Int) + d = n → d < k →
    ∃ zs : List Int, laws_markInt64S.l0 k ys (a + i) (i : Int) = some (a + n, zs) := by
  intro d
  induction d with
  | zero =>
    intro k i ys hy h hk
    obtain ⟨k, rfl⟩ : ∃ m, k = m + 1 := ⟨k - 1, by omega⟩
    refine ⟨ys, ?_⟩
    rw [laws_markInt64S.l0, if_neg (by omega)]
    have e : (i : Int) = n := by omega
    rw [e]
  | succ d ih =>
    intro k i ys hy h hk
    obtain ⟨k, rfl⟩ : ∃ m, k = m + 1 := ⟨k - 1, by omega⟩
    obtain ⟨zs, h1⟩ := ih k (i + 1) (ys.set i (a + i)) (by simpa using hy) (by omega) (by omega)
    refine ⟨zs, ?_⟩
    rw [laws_markInt64S.l0, if_pos (by omega), if_pos (by omega), w64 (by omega) (by omega), w64 (by omega) (by omega), Int.toNat_natCast]
    have e : ((i + 1 : Nat) : Int) = (i : Int) + 1 := by omega
    rw [e, ← Int.add_assoc] at h1
    exact h1
theorem FnExactOversOf : laws_FnExactOversOf.Pure := by
  intro a l m _ _ _ _ _ _ _
  by_cases hbig : (l.length : Int) > 1048576
  · exact ⟨1, by unfold laws_FnExactOversOf.f; rw [if_pos hbig]⟩
  by_cases hbig2 : (m.length : Int) > 1048576
  · exact ⟨1, by unfold laws_FnExactOversOf.f; rw [if_neg hbig, if_pos hbig2]⟩
  have hl := oversOf_len a l m
  obtain ⟨ys, hm2, hz2, hh2⟩ := marks_held l (by omega) (l.length + m.length + 99) (by omega)
  obtain ⟨ys3, hm3⟩ := mark_any ((l.length : Int) + 1) (m.length : Int) (by omega) (by omega) m.length (l.length + m.length + 99) 0 m rfl (by simp) (by omega)
  rw [show ((l.length : Int) + 1 + ((0 : Nat) : Int)) = (l.length : Int) + 1 by simp] at hm3
  obtain ⟨zs, hm, hz, hh⟩ := marks_held (oversOf a l m).1 (by omega) (l.length + m.length + 98) (by omega)
  have h0 : ¬ (((oversOf a l m).1.length : Int) + 1 < 0) := by omega
  have h1 : ¬ ((l.length : Int) + 1 + (m.length : Int) < 0) := by omega
  have hm4 : laws_markInt64S.f (l.length + m.length + 99) m ((l.length : Int) + 1) = some ((l.length : Int) + 1 + (m.length : Int), ys3) := hm3
  refine ⟨l.length + m.length + 100, ?_⟩
  simp (disch := omega) only [laws_FnExactOversOf.f, if_neg hbig, if_neg hbig2, laws_toInt64S_eq, spec_OversOf_eq, impl_OversOf_eq, laws_eqInt64S_eq, Option.bind_some, bne_self_eq_false, if_true]
  simp (disch := omega) only [laws_FnExactOversOf.j0, laws_toInt64S_eq, laws_eqInt64S_eq, hm2, hm4, if_neg h1, Option.bind_some, bne_self_eq_false, Bool.false_eq_true, if_false, if_true]
  simp (disch := omega) only [laws_FnExactOversOf.j1, laws_toInt64S_eq, impl_OversOf_eq, laws_eqInt64S_eq, hm, hh, if_neg h0, Option.bind_some, bne_self_eq_false, Bool.false_eq_true, if_false, if_true]
  simp (disch := omega) only [laws_FnExactOversOf.j2, hh, if_neg h0, Option.bind_some, Bool.false_eq_true, if_false, if_true]

end Go.Proofs.Ytpeigljahdnomaa.Pure
