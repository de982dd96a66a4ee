/- For all arguments the law FnExactBestDivision returns true, with no condition beyond the bounds that the printed statement names. -/
import Derived.Test.YtpeigljahdnomaaPFnExactBestDivisionx6
namespace Go.Proofs.Ytpeigljahdnomaa.Pure
open Go.RowKit Go.Proofs.Ytpeigljahdnomaa.PFnExactBestDivision Go.Proofs.YtpeigljahdnomaaW.PrintWords Go.Proofs.YtpeigljahdnomaaW.PrintLast
set_option linter.unusedVariables false
set_option linter.unusedSimpArgs false

theorem w64 {x : Int} (h1 : -9223372036854775808 ≤ x) (h2 : x ≤ 9223372036854775807) : wrap64 x = x := by
  unfold wrap64; omega
theorem wf64 {x : Int} (h : (Lit.int .i64 x).wf = true) : -9223372036854775808 ≤ x ∧ x ≤ 9223372036854775807 := by
  simp [Lit.wf, IntKind.min, IntKind.max, IntKind.signed, IntKind.bits] at h
  omega
/-- 'a lies from b to c'. -/
def inR (a b c : Int) : Bool := decide (b ≤ a ∧ a ≤ c)
theorem inR_true {a b c : Int} (h : inR a b c = true) : b ≤ a ∧ a ≤ c := by simpa [inR] using h
theorem inR_mk {a b c : Int} (h1 : b ≤ a) (h2 : a ≤ c) : inR a b c = true := by simp [inR, h1, h2]
theorem inR_false {a b c : Int} (h : inR a b c = false) : a < b ∨ c < a := by
  have : ¬ (b ≤ a ∧ a ≤ c) := by simpa [inR] using h
  omega
theorem rd_nat (xs : List Int) (i : Nat) : rd xs (i : Int) = xs.getD i 0 := by simp [rd]
theorem mul_bd {a b A B : Int} (h0 : 0 ≤ a) (h1 : a ≤ A) (k0 : 0 ≤ b) (k1 : b ≤ B) : 0 ≤ a * b ∧ a * b ≤ A * B :=
  ⟨Int.mul_nonneg h0 k0, Int.mul_le_mul h1 k1 k0 (by omega)⟩
theorem tdiv_n {a b : Int} (h : 0 ≤ a) : Int.tdiv a b = a / b := Int.tdiv_eq_ediv_of_nonneg h
theorem tmod_n {a b : Int} (h : 0 ≤ a) : Int.tmod a b = a % b := Int.tmod_eq_emod_of_nonneg h
theorem mn_min (a b : Int) : mn a b = min a b := by unfold mn; split <;> omega
theorem mx_max (a b : Int) : mx a b = max a b := by unfold mx; split <;> omega

def allR (xs : List Int) (lo hi : Int) : Bool := xs.all fun x => inR x lo hi
theorem allR_mem {xs : List Int} {lo hi : Int} (h : allR xs lo hi = true) : ∀ x ∈ xs, lo ≤ x ∧ x ≤ hi := fun x hx => inR_true (List.all_eq_true.1 h x hx)
theorem drop_get (xs : List Int) (i : Nat) (hi : i < xs.length) : xs.drop i = xs[i] :: xs.drop (i + 1) := List.drop_eq_getElem_cons hi
theorem rd_get (xs : List Int) (i : Nat) (hi : i < xs.length) : rd xs (i : Int) = xs[i] := by rw [rd_nat, List.getD_eq_getElem?_getD, List.getElem?_eq_getElem hi]; rfl
/-- The sum, as the program adds it up. -/
def wsum (a : Int) (xs : List Int) : Int := xs.foldl (fun a x => wrap64 (a + x)) a
theorem wsum_cons (a x : Int) (xs : List Int) : wsum a (x :: xs) = wsum (wrap64 (a + x)) xs := rfl
theorem wsum_eq : ∀ (xs : List Int) (a : Int), (∀ x ∈ xs, 0 ≤ x ∧ x ≤ 1000000) → 0 ≤ a → a + xs.length * 1000000 ≤ 4611686018427387904 → wsum a xs = a + xs.sum ∧ 0 ≤ xs.sum ∧ xs.sum ≤ xs.length * 1000000
  | [], a, _, h0, _ => ⟨by simp [wsum], by simp, by simp⟩
  | x :: xs, a, h, h0, hb => by
    have hx := h x (by simp)
    simp only [List.length_cons] at hb ⊢
    obtain ⟨e, l, u⟩ := wsum_eq xs (a + x) (fun y hy => h y (by simp [hy])) (by omega) (by omega)
    rw [wsum_cons, w64 (by omega) (by omega), e, List.sum_cons]
    exact ⟨by omega, by omega, by omega⟩

def gang (slots : Int) (q : List Int) : Bool := inR slots 1 32 && (inR (q.length : Int) 1 (min 6 slots) && allR q 1 1000000)
theorem gang_true {slots : Int} {q : List Int} (h : gang slots q = true) : (1 ≤ slots ∧ slots ≤ 32) ∧ (1 ≤ q.length ∧ q.length ≤ 6 ∧ (q.length : Int) ≤ slots) ∧ ∀ x ∈ q, 1 ≤ x ∧ x ≤ 1000000 := by
  simp only [gang, Bool.and_eq_true] at h
  have h2 := inR_true h.2.1
  exact ⟨inR_true h.1, by omega, allR_mem h.2.2⟩
/-- The run of ups. -/
def runM : List Int → List Int → Int → Int
  | q :: qs, u :: us, r => runM qs us (max r ((q + u - 1) / u))
  | _, _, r => r
def upsOk (slots : Int) (q u : List Int) : Bool := decide (u.length = q.length) && (allR u 1 slots && decide (wsum 0 u ≤ slots))
def upsCode (slots : Int) (q u : List Int) : Int := if gang slots q = true then (if upsOk slots q u = true then 0 else 2) else 1
def runFor (slots : Int) (q u : List Int) : Int × Int := if upsCode slots q u = 0 then (runM q u 0, 0) else (0, upsCode slots q u)
theorem upsCode_ok {slots : Int} {q u : List Int} (e : upsCode slots q u = 0) : gang slots q = true ∧ u.length = q.length ∧ (∀ x ∈ u, 1 ≤ x ∧ x ≤ slots) ∧ wsum 0 u ≤ slots := by
  unfold upsCode at e
  cases hg : gang slots q
  · simp [hg] at e
  · cases hu : upsOk slots q u
    · simp [hg, hu] at e
    · simp only [upsOk, Bool.and_eq_true, decide_eq_true_eq] at hu
      exact ⟨rfl, hu.1, allR_mem hu.2.1, hu.2.2⟩
theorem ceil_bd {q u : Int} (hq : 1 ≤ q ∧ q ≤ 1000000) (hu : 1 ≤ u ∧ u ≤ 1000000) : 1 ≤ (q + u - 1) / u ∧ (q + u - 1) / u ≤ q := by
  have h1 : (q + u - 1) / u = (q - 1) / u + 1 := by
    rw [show q + u - 1 = (q - 1) + 1 * u by omega, Int.add_mul_ediv_right _ _ (by omega)]
  have h2 : 0 ≤ (q - 1) / u := Int.ediv_nonneg (by omega) (by omega)
  have h3 : (q - 1) / u ≤ q - 1 := Int.ediv_le_self _ (by omega)
  omega
/-- The least ups of a run. -/
def upsM (q : List Int) (run : Int) : List Int := q.map fun x => (x + run - 1) / run
def upsFor (slots : Int) (q : List Int) (run : Int) : List Int × Int :=
  if gang slots q = true then (if inR run 1 1000000 = true then (if wsum 0 (upsM q run) > slots then ([], 4) else (upsM q run, 0)) else ([], 2)) else ([], 1)

def IsLeast (p : Int → Bool) (r : Int) : Prop := 1 ≤ r ∧ p r = true ∧ ∀ x, 1 ≤ x → x < r → p x = false
/-- The first r from s on with p, among d numbers. -/
def up (p : Int → Bool) : Nat → Int → Int
  | 0, r => r
  | d + 1, r => if p r = true then r else up p d (r + 1)
theorem up_least {p : Int → Bool} {r : Int} (h : IsLeast p r) : ∀ (d : Nat) (s : Int), 1 ≤ s → s ≤ r → r - s ≤ d → up p d s = r := by
  intro d
  induction d with
  | zero => intro s h0 h1 h2; rw [up]; omega
  | succ d ih =>
    intro s h0 h1 h2
    rw [up]
    by_cases e : s = r
    · rw [e, if_pos h.2.1]
    · rw [if_neg (by rw [h.2.2 s h0 (by omega)]; simp)]
      exact ih (s + 1) (by omega) (by omega) (by omega)
/-- 'The run r is enough.' -/
def enough (slots : Int) (q : List Int) (r : Int) : Bool := decide (wsum 0 (upsM q r) ≤ slots)
def leastM (slots : Int) (q : List Int) : Int := up (enough slots q) 1000000 1
/-- What the least run is asked of. -/
def fits (slots : Int) (q : List Int) : Prop := (q.length : Int) ≤ slots ∧ q.length ≤ 6 ∧ ∀ x ∈ q, 1 ≤ x ∧ x ≤ 1000000
theorem ceil_anti {q r s : Int} (hq : 1 ≤ q) (hr : 1 ≤ r) (h : r ≤ s) : (q + s - 1) / s ≤ (q + r - 1) / r := by
  have e1 : (q + s - 1) / s = (q - 1) / s + 1 := by rw [show q + s - 1 = (q - 1) + 1 * s by omega, Int.add_mul_ediv_right _ _ (by omega)]
  have e2 : (q + r - 1) / r = (q - 1) / r + 1 := by rw [show q + r - 1 = (q - 1) + 1 * r by omega, Int.add_mul_ediv_right _ _ (by omega)]
  have h0 : 0 ≤ (q - 1) / s := Int.ediv_nonneg (by omega) (by omega)
  have h1 : (q - 1) / s * s ≤ q - 1 := Int.ediv_mul_le _ (by omega)
  have h2 : (q - 1) / s * r ≤ (q - 1) / s * s := Int.mul_le_mul_of_nonneg_left h h0
  have h3 : (q - 1) / s ≤ (q - 1) / r := Int.le_ediv_of_mul_le (by omega) (by omega)
  omega
theorem upsM_sum_anti {r s : Int} (hr : 1 ≤ r) (h : r ≤ s) : ∀ q : List Int, (∀ x ∈ q, 1 ≤ x ∧ x ≤ 1000000) → (upsM q s).sum ≤ (upsM q r).sum
  | [], _ => by simp [upsM]
  | x :: xs, hq => by
    have h1 := upsM_sum_anti hr h xs (fun y hy => hq y (by simp [hy]))
    have h2 := ceil_anti (hq x (by simp)).1 hr h
    unfold upsM at h1 ⊢
    rw [List.map_cons, List.map_cons, List.sum_cons, List.sum_cons]
    omega
theorem upsM_mem {q : List Int} {r : Int} (hq : ∀ x ∈ q, 1 ≤ x ∧ x ≤ 1000000) (hr : 1 ≤ r ∧ r ≤ 1000000) : ∀ y ∈ upsM q r, 1 ≤ y ∧ y ≤ 1000000 := by
  intro y hy
  obtain ⟨x, hx, rfl⟩ := List.mem_map.1 hy
  have h1 := hq x hx
  have h2 := ceil_bd h1 hr
  omega
theorem wsum_upsM {q : List Int} {r : Int} (hl : q.length ≤ 6) (hq : ∀ x ∈ q, 1 ≤ x ∧ x ≤ 1000000) (hr : 1 ≤ r ∧ r ≤ 1000000) : wsum 0 (upsM q r) = (upsM q r).sum := by
  have e : (upsM q r).length = q.length := by simp [upsM]
  have := (wsum_eq (upsM q r) 0 (fun y hy => by have := upsM_mem hq hr y hy; omega) (by omega) (by rw [e]; omega)).1
  omega
theorem enough_mono {slots : Int} {q : List Int} (hf : fits slots q) {r s : Int} (hr : 1 ≤ r) (h : r ≤ s) (hs : s ≤ 1000000) (he : enough slots q r = true) : enough slots q s = true := by
  unfold enough at he ⊢
  rw [wsum_upsM hf.2.1 hf.2.2 ⟨hr, by omega⟩, decide_eq_true_eq] at he
  rw [wsum_upsM hf.2.1 hf.2.2 ⟨by omega, hs⟩, decide_eq_true_eq]
  have := upsM_sum_anti hr h q hf.2.2
  omega
theorem upsM_ones {r : Int} : ∀ q : List Int, (∀ x ∈ q, 1 ≤ x ∧ x ≤ r) → (upsM q r).sum = q.length
  | [], _ => by simp [upsM]
  | x :: xs, hq => by
    have h1 := upsM_ones xs (fun y hy => hq y (by simp [hy]))
    have h2 := hq x (by simp)
    have e : (x + r - 1) / r = 1 := by rw [show x + r - 1 = (x - 1) + 1 * r by omega, Int.add_mul_ediv_right _ _ (by omega), Int.ediv_eq_zero_of_lt (by omega) (by omega)]; rfl
    unfold upsM at h1 ⊢
    rw [List.map_cons, List.sum_cons, List.length_cons, e, h1]
    omega
theorem enough_top {slots : Int} {q : List Int} (hf : fits slots q) {r : Int} (hr : 1 ≤ r ∧ r ≤ 1000000) (hq : ∀ x ∈ q, x ≤ r) : enough slots q r = true := by
  unfold enough
  rw [wsum_upsM hf.2.1 hf.2.2 hr, upsM_ones q (fun x hx => ⟨(hf.2.2 x hx).1, hq x hx⟩)]
  exact decide_eq_true hf.1
/-- The state of a search by halves. -/
def Halves (slots : Int) (q : List Int) (lo hi : Int) : Prop := 1 ≤ lo ∧ lo ≤ hi ∧ hi ≤ 1000000 ∧ enough slots q hi = true ∧ ∀ x, 1 ≤ x → x < lo → enough slots q x = false
theorem Halves.done {slots : Int} {q : List Int} {lo hi : Int} (h : Halves slots q lo hi) (e : ¬ lo < hi) : leastM slots q = lo := by
  obtain ⟨h1, h2, h3, h4, h5⟩ := h
  have e2 : lo = hi := by omega
  subst e2
  exact up_least ⟨h1, h4, h5⟩ 1000000 1 (by omega) h1 (by omega)
theorem Halves.left {slots : Int} {q : List Int} {lo hi : Int} (h : Halves slots q lo hi) (e : lo < hi) (he : enough slots q ((lo + hi) / 2) = true) : Halves slots q lo ((lo + hi) / 2) := by
  obtain ⟨h1, h2, h3, h4, h5⟩ := h
  exact ⟨h1, by omega, by omega, he, h5⟩
theorem Halves.right {slots : Int} {q : List Int} {lo hi : Int} (hf : fits slots q) (h : Halves slots q lo hi) (e : lo < hi) (he : enough slots q ((lo + hi) / 2) = false) : Halves slots q ((lo + hi) / 2 + 1) hi := by
  obtain ⟨h1, h2, h3, h4, h5⟩ := h
  refine ⟨by omega, by omega, h3, h4, fun x hx hlt => ?_⟩
  cases hc : enough slots q x
  · rfl
  · have := enough_mono hf hx (show x ≤ (lo + hi) / 2 by omega) (by omega) hc
    rw [this] at he
    cases he
theorem Halves.start {slots : Int} {q : List Int} (hf : fits slots q) {hi : Int} (hr : 1 ≤ hi ∧ hi ≤ 1000000) (hq : ∀ x ∈ q, x ≤ hi) : Halves slots q 1 hi :=
  ⟨by omega, hr.1, hr.2, enough_top hf hr hq, fun x h1 h2 => by omega⟩
theorem leastM_least {slots : Int} {q : List Int} (hf : fits slots q) : IsLeast (enough slots q) (leastM slots q) ∧ leastM slots q ≤ 1000000 := by
  have key : ∀ (d : Nat) (s : Int), 1 ≤ s → s + d = 1000001 → (∀ x, 1 ≤ x → x < s → enough slots q x = false) → 0 < d → IsLeast (enough slots q) (up (enough slots q) d s) ∧ up (enough slots q) d s ≤ 1000000 := by
    intro d
    induction d with
    | zero => intro s _ _ _ h; omega
    | succ d ih =>
      intro s h1 h2 h3 _
      rw [up]
      cases hc : enough slots q s
      · rw [if_neg (by simp)]
        by_cases hd : 0 < d
        · exact ih (s + 1) (by omega) (by omega) (fun x hx hlt => by
            by_cases e : x = s
            · rw [e]; exact hc
            · exact h3 x hx (by omega)) hd
        · have e : s = 1000000 := by omega
          have := enough_top hf (r := 1000000) (by omega) (fun x hx => (hf.2.2 x hx).2)
          rw [e, this] at hc
          cases hc
      · rw [if_pos rfl]
        exact ⟨⟨h1, hc, h3⟩, by omega⟩
  exact key 1000000 1 (by omega) (by omega) (fun x h1 h2 => by omega) (by omega)
theorem gang_fits {slots : Int} {q : List Int} (h : gang slots q = true) : fits slots q := by
  obtain ⟨h1, h2, h3⟩ := gang_true h
  exact ⟨h2.2.2, h2.2.1, h3⟩
def leastRun (slots : Int) (q : List Int) : Int × Int := if gang slots q = true then (leastM slots q, 0) else (0, 1)
def bestUps (slots : Int) (q : List Int) : List Int × Int := if gang slots q = true then (upsM q (leastM slots q), 0) else ([], 1)

def rises : List Int → Bool
  | a :: b :: l => decide (a < b) && rises (b :: l)
  | _ => true
def firstOk (q first : List Int) : Bool := decide (first ≠ []) && (decide (rd first 0 = 0) && (allR first 0 ((q.length : Int) - 1) && rises first))
theorem firstOk_true {q first : List Int} (h : firstOk q first = true) : first ≠ [] ∧ rd first 0 = 0 ∧ (∀ x ∈ first, 0 ≤ x ∧ x ≤ (q.length : Int) - 1) ∧ rises first = true := by
  simp only [firstOk, Bool.and_eq_true, decide_eq_true_eq] at h
  exact ⟨h.1, h.2.1, allR_mem h.2.2.1, h.2.2.2⟩
/-- The jobs of the first form, and those of the second one. -/
def partIn (first : List Int) : List Int → Int → List Int
  | [], _ => []
  | x :: xs, i => if first.contains i = true then x :: partIn first xs (i + 1) else partIn first xs (i + 1)
def partOut (first : List Int) : List Int → Int → List Int
  | [], _ => []
  | x :: xs, i => if first.contains i = true then partOut first xs (i + 1) else x :: partOut first xs (i + 1)
theorem partIn_len (first : List Int) : ∀ (xs : List Int) (i : Int), (partIn first xs i).length ≤ xs.length ∧ ∀ y ∈ partIn first xs i, y ∈ xs
  | [], i => by simp [partIn]
  | x :: xs, i => by
    have h := partIn_len first xs (i + 1)
    rw [partIn]
    split
    · simp only [List.length_cons, List.mem_cons]
      exact ⟨by omega, fun y hy => hy.elim .inl (fun hy => .inr (h.2 y hy))⟩
    · simp only [List.length_cons, List.mem_cons]
      exact ⟨by omega, fun y hy => .inr (h.2 y hy)⟩
theorem partOut_len (first : List Int) : ∀ (xs : List Int) (i : Int), (partOut first xs i).length ≤ xs.length ∧ ∀ y ∈ partOut first xs i, y ∈ xs
  | [], i => by simp [partOut]
  | x :: xs, i => by
    have h := partOut_len first xs (i + 1)
    rw [partOut]
    split
    · simp only [List.length_cons, List.mem_cons]
      exact ⟨by omega, fun y hy => .inr (h.2 y hy)⟩
    · simp only [List.length_cons, List.mem_cons]
      exact ⟨by omega, fun y hy => hy.elim .inl (fun hy => .inr (h.2 y hy))⟩
theorem partIn_fits {slots : Int} {q : List Int} (hf : fits slots q) (first : List Int) (i : Int) : fits slots (partIn first q i) := by
  have h := partIn_len first q i
  exact ⟨by have := hf.1; omega, by have := hf.2.1; omega, fun x hx => hf.2.2 x (h.2 x hx)⟩
theorem partOut_fits {slots : Int} {q : List Int} (hf : fits slots q) (first : List Int) (i : Int) : fits slots (partOut first q i) := by
  have h := partOut_len first q i
  exact ⟨by have := hf.1; omega, by have := hf.2.1; omega, fun x hx => hf.2.2 x (h.2 x hx)⟩
def costF (slots : Int) (ins outs : List Int) (setup : Int) : Int := leastM slots ins + setup + (if outs = [] then 0 else leastM slots outs + setup)
def costM (slots : Int) (q first : List Int) (setup : Int) : Int := costF slots (partIn first q 0) (partOut first q 0) setup
theorem costM_bd {slots : Int} {q : List Int} (hf : fits slots q) (first : List Int) {setup : Int} (hs : 0 ≤ setup ∧ setup ≤ 1000000) : 0 ≤ costM slots q first setup ∧ costM slots q first setup ≤ 4000000 := by
  have h1 := leastM_least (partIn_fits hf first 0)
  have h2 := leastM_least (partOut_fits hf first 0)
  have e1 := h1.1.1
  have e2 := h2.1.1
  unfold costM costF
  split <;> omega
def dividedCost (slots : Int) (q first : List Int) (setup : Int) : Int × Int :=
  if gang slots q = true then (if (firstOk q first && inR setup 0 1000000) = true then (costM slots q first setup, 0) else (0, 2)) else (0, 1)
theorem rises_lt : ∀ (l : List Int) (a : Int), rises (a :: l) = true → ∀ x ∈ l, a < x
  | [], a, _ => by simp
  | b :: l, a, h => by
    simp only [rises, Bool.and_eq_true, decide_eq_true_eq] at h
    intro x hx
    rcases List.mem_cons.1 hx with rfl | hx
    · exact h.1
    · have := rises_lt l b h.2 x hx
      omega
theorem rises_tail (a : Int) (l : List Int) (h : rises (a :: l) = true) : rises l = true := by
  cases l with
  | nil => rfl
  | cons b l =>
    simp only [rises, Bool.and_eq_true] at h
    exact h.2
theorem rises_len : ∀ (l : List Int) (lo hi : Int), rises l = true → (∀ x ∈ l, lo ≤ x ∧ x ≤ hi) → l ≠ [] → (l.length : Int) ≤ hi - lo + 1
  | [], _, _, _, _, h => absurd rfl h
  | [a], lo, hi, _, h, _ => by have := h a (by simp); simp only [List.length_cons, List.length_nil]; omega
  | a :: b :: l, lo, hi, hr, h, _ => by
    have h0 := h a (by simp)
    have h1 := rises_lt (b :: l) a hr
    have := rises_len (b :: l) (lo + 1) hi (rises_tail a (b :: l) hr) (fun x hx => by
      have := h1 x hx
      have := h x (by simp only [List.mem_cons] at hx ⊢; exact .inr hx)
      omega) (by simp)
    simp only [List.length_cons] at this ⊢
    omega
theorem firstOk_len {slots : Int} {q first : List Int} (hg : gang slots q = true) (h : firstOk q first = true) : first.length ≤ 6 := by
  obtain ⟨h1, h2, h3, h4⟩ := firstOk_true h
  have := rises_len first 0 _ h4 h3 h1
  have := (gang_true hg).2.1
  omega
theorem firstOk_has {q first : List Int} (h : firstOk q first = true) : first.contains 0 = true := by
  obtain ⟨h1, h2, h3, h4⟩ := firstOk_true h
  cases first with
  | nil => exact absurd rfl h1
  | cons a l =>
    have e : rd (a :: l) 0 = a := rfl
    rw [e] at h2
    subst h2
    simp
theorem partIn_ne {q first : List Int} (h : firstOk q first = true) (hq : 1 ≤ q.length) : 1 ≤ (partIn first q 0).length := by
  cases q with
  | nil => simp at hq
  | cons x xs =>
    rw [partIn, if_pos (firstOk_has h)]
    simp

/-- The jobs that a number tells, i and d - 1 more of them looked at, behind those that are there. -/
def pickBits (m : Int) : Nat → Int → List Int → List Int
  | 0, _, acc => acc
  | d + 1, i, acc => pickBits m d (i + 1) (if Go.bits .and .i64 (shr .i64 m i) 1 = 1 then acc ++ [i] else acc)
theorem pickBits_len (m : Int) : ∀ (d : Nat) (i : Int) (acc : List Int), (pickBits m d i acc).length ≤ acc.length + d
  | 0, i, acc => by simp [pickBits]
  | d + 1, i, acc => by
    have := pickBits_len m d (i + 1) (if Go.bits .and .i64 (shr .i64 m i) 1 = 1 then acc ++ [i] else acc)
    rw [pickBits]
    split at this
    · rename_i h
      rw [if_pos h]
      simp only [List.length_append, List.length_singleton] at this
      omega
    · rename_i h
      rw [if_neg h]
      omega
theorem pickBits_keeps (m : Int) : ∀ (d : Nat) (i : Int) (acc : List Int) (x : Int), x ∈ acc → x ∈ pickBits m d i acc
  | 0, i, acc, x, h => h
  | d + 1, i, acc, x, h => by
    rw [pickBits]
    refine pickBits_keeps m d (i + 1) _ x ?_
    split
    · exact List.mem_append_left _ h
    · exact h
theorem bit0 : ∀ j : Nat, j < 32 → Go.bits .and .i64 (shr .i64 (2 * (j : Int) + 1) 0) 1 = 1 := by decide +kernel
theorem pick_has0 {j n : Nat} (hj : j < 32) (hn : 1 ≤ n) : (pickBits (2 * (j : Int) + 1) n 0 []).contains 0 = true := by
  obtain ⟨d, rfl⟩ : ∃ d, n = d + 1 := ⟨n - 1, by omega⟩
  rw [pickBits, if_pos (bit0 j hj)]
  have := pickBits_keeps (2 * (j : Int) + 1) d (0 + 1) ([] ++ [0]) 0 (by simp)
  simpa using this
def lexLt : List Int → List Int → Bool
  | x :: xs, y :: ys => if x = y then lexLt xs ys else decide (x < y)
  | a, b => decide (a.length < b.length)
def cmpM : List Int → List Int → Int
  | x :: xs, y :: ys => if x < y then -1 else if x > y then 1 else cmpM xs ys
  | [], _ :: _ => -1
  | _ :: _, [] => 1
  | [], [] => 0
theorem cmpM_neg : ∀ a b : List Int, decide (cmpM a b < 0) = lexLt a b
  | x :: xs, y :: ys => by
    have := cmpM_neg xs ys
    rw [cmpM, lexLt]
    by_cases h1 : x < y
    · rw [if_pos h1, if_neg (by omega)]
      simp [h1]
    · rw [if_neg h1]
      by_cases h2 : x > y
      · rw [if_pos h2, if_neg (by omega)]
        simp [h1]
      · rw [if_neg h2, if_pos (by omega)]
        exact this
  | [], _ :: _ => by simp [cmpM, lexLt]
  | _ :: _, [] => by simp [cmpM, lexLt]
  | [], [] => by simp [cmpM, lexLt]
def betterM (first best : List Int) (c cost : Int) : Bool := decide (best = []) || (decide (c < cost) || (decide (c = cost) && (decide (best.length < first.length) || (decide (first.length = best.length) && lexLt first best))))
def bdLoop (slots : Int) (q : List Int) (setup : Int) : Nat → Nat → List Int → Int → List Int × Int × Int
  | 0, _, best, cost => (best, cost, 0)
  | d + 1, j, best, cost =>
    if betterM (pickBits (2 * (j : Int) + 1) q.length 0 []) best (costM slots q (pickBits (2 * (j : Int) + 1) q.length 0 []) setup) cost = true then
      bdLoop slots q setup d (j + 1) (pickBits (2 * (j : Int) + 1) q.length 0 []) (costM slots q (pickBits (2 * (j : Int) + 1) q.length 0 []) setup)
    else bdLoop slots q setup d (j + 1) best cost
theorem bdLoop_len (slots : Int) (q : List Int) (setup : Int) : ∀ (d j : Nat) (best : List Int) (cost : Int), best.length ≤ q.length → (bdLoop slots q setup d j best cost).1.length ≤ q.length
  | 0, j, best, cost, h => h
  | d + 1, j, best, cost, h => by
    rw [bdLoop]
    split
    · refine bdLoop_len slots q setup d (j + 1) _ _ ?_
      have := pickBits_len (2 * (j : Int) + 1) q.length 0 []
      simpa using this
    · exact bdLoop_len slots q setup d (j + 1) _ _ h
def bestDivision (slots : Int) (q : List Int) (setup : Int) : List Int × Int × Int :=
  if gang slots q = true then (if inR setup 0 1000000 = true then bdLoop slots q setup (2 ^ (q.length - 1)) 0 [] 0 else ([], 0, 2)) else ([], 0, 1)
theorem bestDivision_len (slots : Int) (q : List Int) (setup : Int) : (bestDivision slots q setup).1.length ≤ q.length := by
  unfold bestDivision
  split
  · split
    · exact bdLoop_len slots q setup _ 0 [] 0 (by simp)
    · simp
  · simp
theorem shl_n : ∀ n : Nat, n ≤ 6 → 1 ≤ n → shl .i64 1 (IntKind.u64.wrap (n : Int)) = 2 * (2 ^ (n - 1) : Nat) ∧ shl .i64 1 (n : Int) = 2 * (2 ^ (n - 1) : Nat) ∧ 2 ^ (n - 1) ≤ 32 ∧ 0 ≤ IntKind.u64.wrap (n : Int) := by decide +kernel
theorem u64_small : ∀ i : Nat, i ≤ 6 → IntKind.u64.wrap (i : Int) = (i : Int) := by decide +kernel

/-- The place of the first x in a list, counted from i on, or -1. -/
def idxFrom : List Int → Int → Nat → Int
  | [], _, _ => -1
  | y :: ys, x, i => if x = y then (i : Int) else idxFrom ys x (i + 1)

theorem laws_toInt64S_l0 (xs : List Int) (hl : xs.length ≤ 35184372088832) : ∀ (d k i : Nat) (ys : List Int), ys.length = xs.length → i + d = xs.length → (∀ j, j < i → ys[j]? = xs[j]?) → d < k → laws_toInt64S.l0 k xs ys (i : Int) = some xs := by
  intro d
  induction d with
  | zero =>
    intro k i ys hy h hj hk
    obtain ⟨k, rfl⟩ : ∃ m, k = m + 1 := ⟨k - 1, by omega⟩
    rw [laws_toInt64S.l0, if_neg (by omega)]
    congr 1
    apply List.ext_getElem?
    intro j
    by_cases h1 : j < i
    · exact hj j h1
    · rw [List.getElem?_eq_none (by omega), List.getElem?_eq_none (by omega)]
  | succ d ih =>
    intro k i ys hy h hj hk
    obtain ⟨k, rfl⟩ : ∃ m, k = m + 1 := ⟨k - 1, by omega⟩
    have hi : i < xs.length := by omega
    have e2 : rd xs (i : Int) = xs[i] := by rw [rd_nat, List.getD_eq_getElem?_getD, List.getElem?_eq_getElem hi]; rfl
    rw [laws_toInt64S.l0, if_pos (by omega), if_pos (by omega), if_pos (by omega), w64 (by omega) (by omega), Int.toNat_natCast, e2]
    refine ih k (i + 1) _ (by rw [List.length_set]; exact hy) (by omega) (fun j hlt => ?_) (by omega)
    by_cases e : j = i
    · subst e
      rw [List.getElem?_set_self (by omega), List.getElem?_eq_getElem hi]
    · rw [List.getElem?_set_ne (by omega)]
      exact hj j (by omega)
theorem laws_toInt64S_eq (xs : List Int) (k : Nat) (hl : xs.length ≤ 35184372088832) (hk : xs.length < k) : laws_toInt64S.f k xs = some xs := by
  unfold laws_toInt64S.f
  rw [if_pos (by omega), if_pos (by omega)]
  exact laws_toInt64S_l0 xs hl xs.length k 0 _ (by simp) (by omega) (fun j hj => absurd hj (Nat.not_lt_zero _)) hk

theorem laws_eqInt64S_l0 (xs : List Int) (hl : xs.length ≤ 9223372036854775806) : ∀ (d k i : Nat), i + d = xs.length → d < k → laws_eqInt64S.l0 k xs xs (i : Int) = some true := by
  intro d
  induction d with
  | zero =>
    intro k i h hk
    obtain ⟨k, rfl⟩ : ∃ m, k = m + 1 := ⟨k - 1, by omega⟩
    rw [laws_eqInt64S.l0, if_neg (by omega)]
  | succ d ih =>
    intro k i h hk
    obtain ⟨k, rfl⟩ : ∃ m, k = m + 1 := ⟨k - 1, by omega⟩
    rw [laws_eqInt64S.l0, if_pos (by omega), if_pos (by omega), if_pos (by omega), if_pos rfl, w64 (by omega) (by omega)]
    exact ih k (i + 1) (by omega) (by omega)
theorem laws_eqInt64S_eq (xs : List Int) (k : Nat) (hl : xs.length ≤ 9223372036854775806) (hk : xs.length < k) : laws_eqInt64S.f k xs xs = some true := by
  unfold laws_eqInt64S.f
  rw [if_pos rfl]
  exact laws_eqInt64S_l0 xs hl xs.length k 0 (by omega) hk

theorem laws_markInt64S_l0 (n : Nat) (hn : n ≤ 9223372036854775806) : ∀ (d k i : Nat) (ys : List Int), ys.length = n → i + d = n → d < k →
    ∃ zs : List Int, laws_markInt64S.l0 k ys ((i : Int) + 1) (i : Int) = some ((n : Int) + 1, zs) ∧ zs.length = n ∧ (∀ j, j < i → zs.getD j 0 = ys.getD j 0) ∧ (∀ j, i ≤ j → j < n → zs.getD j 0 = (j : Int) + 1) := by
  intro d
  induction d with
  | zero =>
    intro k i ys hy h hk
    obtain ⟨k, rfl⟩ : ∃ m, k = m + 1 := ⟨k - 1, by omega⟩
    have e : i = n := by omega
    subst e
    refine ⟨ys, ?_, hy, fun _ _ => rfl, fun j h1 h2 => by omega⟩
    rw [laws_markInt64S.l0, if_neg (by omega)]
  | succ d ih =>
    intro k i ys hy h hk
    obtain ⟨k, rfl⟩ : ∃ m, k = m + 1 := ⟨k - 1, by omega⟩
    obtain ⟨zs, h1, h2, h3, h4⟩ := ih k (i + 1) (ys.set i ((i : Int) + 1)) (by simpa using hy) (by omega) (by omega)
    refine ⟨zs, ?_, h2, fun j hj => ?_, fun j hj1 hj2 => ?_⟩
    · rw [laws_markInt64S.l0, if_pos (by omega), if_pos (by omega), w64 (by omega) (by omega), w64 (by omega) (by omega), Int.toNat_natCast]
      have e : ((i + 1 : Nat) : Int) = (i : Int) + 1 := by omega
      rw [e] at h1
      exact h1
    · rw [h3 j (by omega)]
      simp only [List.getD_eq_getElem?_getD]
      rw [List.getElem?_set_ne (by omega)]
    · by_cases e : j = i
      · subst e
        rw [h3 j (by omega)]
        simp only [List.getD_eq_getElem?_getD]
        rw [List.getElem?_set_self (by omega)]
        rfl
      · exact h4 j (by omega) hj2

theorem laws_heldInt64S_l0 (n : Nat) (hn : n ≤ 9223372036854775806) (zs : List Int) (hz : zs.length = n) (hv : ∀ j, j < n → zs.getD j 0 = (j : Int) + 1) : ∀ (d k i : Nat), i + d = n → d < k →
    laws_heldInt64S.l0 k zs ((i : Int) + 1) (i : Int) = some ((n : Int) + 1) := by
  intro d
  induction d with
  | zero =>
    intro k i h hk
    obtain ⟨k, rfl⟩ : ∃ m, k = m + 1 := ⟨k - 1, by omega⟩
    have e : i = n := by omega
    subst e
    rw [laws_heldInt64S.l0, if_neg (by omega)]
  | succ d ih =>
    intro k i h hk
    obtain ⟨k, rfl⟩ : ∃ m, k = m + 1 := ⟨k - 1, by omega⟩
    have := ih k (i + 1) (by omega) (by omega)
    have e : ((i + 1 : Nat) : Int) = (i : Int) + 1 := by omega
    rw [e] at this
    rw [laws_heldInt64S.l0, if_pos (by omega), if_pos (by omega), if_pos (by rw [rd_nat, hv i (by omega)]), w64 (by omega) (by omega), w64 (by omega) (by omega)]
    exact this
/-- What was marked is held. -/
theorem marks_held (xs : List Int) (hn : xs.length ≤ 9223372036854775806) (k : Nat) (hk : xs.length < k) :
    ∃ zs : List Int, laws_markInt64S.f k xs 1 = some ((xs.length : Int) + 1, zs) ∧ zs.length = xs.length ∧ (∀ k', xs.length < k' → laws_heldInt64S.f k' zs 1 = some ((xs.length : Int) + 1)) := by
  obtain ⟨zs, h1, h2, _, h4⟩ := laws_markInt64S_l0 xs.length hn xs.length k 0 xs rfl (by omega) hk
  exact ⟨zs, h1, h2, fun k' hk' => laws_heldInt64S_l0 xs.length hn zs h2 (fun j hj => h4 j (by omega) hj) xs.length k' 0 (by omega) hk'⟩
theorem mark_any (a n : Int) (ha : 0 ≤ a ∧ a ≤ 1048577) (hn : n ≤ 1048576) : ∀ (d k i : Nat) (ys : List Int), (ys.length : Int) = n → (i : Int) + d = n → d < k →
    ∃ zs : List Int, laws_markInt64S.l0 k ys (a + i) (i : Int) = some (a + n, zs) := by
  intro d
  induction d with
  | zero =>
    intro k i ys hy h hk
    obtain ⟨k, rfl⟩ : ∃ m, k = m + 1 := ⟨k - 1, by omega⟩
    refine ⟨ys, ?_⟩
    rw [laws_markInt64S.l0, if_neg (by omega)]
    have e : (i : Int) = n := by omega
    rw [e]
  | succ d ih =>
    intro k i ys hy h hk
    obtain ⟨k, rfl⟩ : ∃ m, k = m + 1 := ⟨k - 1, by omega⟩
    obtain ⟨zs, h1⟩ := ih k (i + 1) (ys.set i (a + i)) (by simpa using hy) (by omega) (by omega)
    refine ⟨zs, ?_⟩
    rw [laws_markInt64S.l0, if_pos (by omega), if_pos (by omega), w64 (by omega) (by omega), w64 (by omega) (by omega), Int.toNat_natCast]
    have e : ((i + 1 : Nat) : Int) = (i : Int) + 1 := by omega
    rw [e, ← Int.add_assoc] at h1
    exact h1

theorem spec_l01In_eq (a b c : Int) : spec_l01In.f a b c = some (inR a b c) := by
  unfold spec_l01In.f inR
  by_cases h : a ≥ b
  · rw [if_pos h]; simp [show b ≤ a from h]
  · rw [if_neg h]; simp [show ¬ b ≤ a from h]

theorem spec_l01Within_l0 (xs : List Int) (m lo hi : Int) (hl : xs.length ≤ 9223372036854775806) : ∀ (d k i : Nat), i + d = xs.length → d < k → spec_l01Within.l0 k xs m lo hi (i : Int) = some (allR (xs.drop i) lo hi && decide ((xs.length : Int) ≤ m)) := by
  intro d
  induction d with
  | zero =>
    intro k i h hk
    obtain ⟨k, rfl⟩ : ∃ m, k = m + 1 := ⟨k - 1, by omega⟩
    rw [spec_l01Within.l0, if_neg (by omega), List.drop_of_length_le (by omega)]
    rfl
  | succ d ih =>
    intro k i h hk
    obtain ⟨k, rfl⟩ : ∃ m, k = m + 1 := ⟨k - 1, by omega⟩
    have hlt : i < xs.length := by omega
    have e3 := ih k (i + 1) (by omega) (by omega)
    rw [spec_l01Within.l0, if_pos (by omega), if_pos (by omega), rd_get xs i hlt, spec_l01In_eq, drop_get xs i hlt, w64 (by omega) (by omega)]
    simp only [Option.bind_some, allR, List.all_cons]
    cases hx : inR xs[i] lo hi
    · simp
    · simp only [if_true, Bool.true_and]
      exact e3
theorem spec_l01Within_eq (xs : List Int) (m lo hi : Int) (k : Nat) (hl : xs.length ≤ 9223372036854775806) (hk : xs.length < k) : spec_l01Within.f k xs m lo hi = some (allR xs lo hi && decide ((xs.length : Int) ≤ m)) := by
  unfold spec_l01Within.f
  exact spec_l01Within_l0 xs m lo hi hl xs.length k 0 (by omega) hk

theorem spec_IsGang_eq (slots : Int) (q : List Int) (k : Nat) (hl : q.length ≤ 9223372036854775806) (hk : q.length < k) : spec_IsGang.f k slots q = some (gang slots q) := by
  unfold spec_IsGang.f gang
  simp only [spec_l01In_eq, spec_l01Within_eq q _ _ _ k hl hk, Option.bind_some]
  cases h0 : inR slots 1 32
  · simp
  · by_cases h1 : (q.length : Int) ≥ 1
    · by_cases h2 : (q.length : Int) ≤ slots
      · rw [if_pos rfl, if_pos h1, if_pos h2]
        by_cases h3 : (q.length : Int) ≤ 6
        · rw [inR_mk (a := (q.length : Int)) h1 (by omega)]; simp [h3]
        · have e : inR (q.length : Int) 1 (min 6 slots) = false := by simp [inR]; omega
          rw [e]; simp [h3]
      · rw [if_pos rfl, if_pos h1, if_neg h2]
        have e : inR (q.length : Int) 1 (min 6 slots) = false := by simp [inR]; omega
        rw [e]; simp
    · rw [if_pos rfl, if_neg h1]
      have e : inR (q.length : Int) 1 (min 6 slots) = false := by simp [inR]; omega
      rw [e]; simp

theorem spec_l11Code_eq (slots : Int) (q : List Int) (b : Bool) (k : Nat) (hl : q.length ≤ 9223372036854775806) (hk : q.length < k) : spec_l11Code.f k slots q b = some (if gang slots q = true then (if b = true then 0 else 2) else 1) := by
  unfold spec_l11Code.f
  simp only [spec_IsGang_eq slots q k hl hk, Option.bind_some]
  cases gang slots q
  · simp
  · cases b <;> simp

theorem spec_l01Ceil_eq (a b : Int) (h0 : 0 ≤ a) (h1 : a ≤ 4611686018427387904) (k0 : 1 ≤ b) (k1 : b ≤ 4611686018427387903) : spec_l01Ceil.f a b = some ((a + b - 1) / b) := by
  unfold spec_l01Ceil.f
  have h3 : 0 ≤ (a + b - 1) / b := Int.ediv_nonneg (by omega) (by omega)
  have h4 : (a + b - 1) / b ≤ a + b - 1 := Int.ediv_le_self _ (by omega)
  rw [if_neg (by omega), w64 (x := a + b) (by omega) (by omega), w64 (x := a + b - 1) (by omega) (by omega), tdiv_n (by omega), w64 (by omega) (by omega)]

theorem upsM_take (q : List Int) (run : Int) (i : Nat) (h : i < q.length) : upsM (q.take (i + 1)) run = upsM (q.take i) run ++ [(q[i] + run - 1) / run] := by
  unfold upsM
  rw [List.take_succ_eq_append_getElem h, List.map_append]
  rfl
theorem upsM_len (q : List Int) (run : Int) : (upsM q run).length = q.length := by simp [upsM]
theorem spec_l11For_l0 (q : List Int) (run : Int) (hq : ∀ x ∈ q, 1 ≤ x ∧ x ≤ 1000000) (hr : 1 ≤ run ∧ run ≤ 1000000) (hb : q.length ≤ 1048576) : ∀ (d k i : Nat), i + d = q.length → d < k → spec_l11For.l0 k q run (upsM (q.take i) run) (i : Int) = some (upsM q run) := by
  intro d
  induction d with
  | zero =>
    intro k i h hk
    obtain ⟨k, rfl⟩ : ∃ m, k = m + 1 := ⟨k - 1, by omega⟩
    rw [spec_l11For.l0, if_neg (by omega), List.take_of_length_le (by omega)]
  | succ d ih =>
    intro k i h hk
    obtain ⟨k, rfl⟩ : ∃ m, k = m + 1 := ⟨k - 1, by omega⟩
    have h1 : i < q.length := by omega
    have b1 := hq q[i] (List.getElem_mem h1)
    rw [spec_l11For.l0, if_pos (by omega), if_pos (by omega), rd_get q i h1, spec_l01Ceil_eq _ _ (by omega) (by omega) (by omega) (by omega), w64 (x := (i : Int) + 1) (by omega) (by omega)]
    simp only [Option.bind_some]
    rw [if_pos (by rw [upsM_len, List.length_take]; omega), ← upsM_take q run i h1]
    exact ih k (i + 1) (by omega) (by omega)
theorem spec_l11For_eq (q : List Int) (run : Int) (k : Nat) (hq : ∀ x ∈ q, 1 ≤ x ∧ x ≤ 1000000) (hr : 1 ≤ run ∧ run ≤ 1000000) (hb : q.length ≤ 1048576) (hk : q.length < k) : spec_l11For.f k q run = some (upsM q run) := by
  unfold spec_l11For.f
  exact spec_l11For_l0 q run hq hr hb q.length k 0 (by omega) hk

theorem spec_l01Sum_l0 (xs : List Int) (hl : xs.length ≤ 9223372036854775806) : ∀ (d k i : Nat) (a : Int), i + d = xs.length → d < k → spec_l01Sum.l0 k xs a (i : Int) = some (wsum a (xs.drop i)) := by
  intro d
  induction d with
  | zero =>
    intro k i a h hk
    obtain ⟨k, rfl⟩ : ∃ m, k = m + 1 := ⟨k - 1, by omega⟩
    rw [spec_l01Sum.l0, if_neg (by omega), List.drop_of_length_le (by omega)]
    rfl
  | succ d ih =>
    intro k i a h hk
    obtain ⟨k, rfl⟩ : ∃ m, k = m + 1 := ⟨k - 1, by omega⟩
    have hi : i < xs.length := by omega
    rw [spec_l01Sum.l0, if_pos (by omega), if_pos (by omega), rd_get xs i hi, drop_get xs i hi, w64 (x := (i : Int) + 1) (by omega) (by omega), wsum_cons]
    exact ih k (i + 1) _ (by omega) (by omega)
theorem spec_l01Sum_eq (xs : List Int) (k : Nat) (hl : xs.length ≤ 9223372036854775806) (hk : xs.length < k) : spec_l01Sum.f k xs = some (wsum 0 xs) := by
  unfold spec_l01Sum.f
  exact spec_l01Sum_l0 xs hl xs.length k 0 0 (by omega) hk

theorem spec_l11Least_l0 (slots : Int) (q : List Int) (hf : fits slots q) : ∀ (d k : Nat) (lo hi : Int), Halves slots q lo hi → hi - lo ≤ d → d + q.length < k → spec_l11Least.l0 k slots q lo hi = some (leastM slots q) := by
  intro d
  induction d with
  | zero =>
    intro k lo hi h hd hk
    obtain ⟨k, rfl⟩ : ∃ m, k = m + 1 := ⟨k - 1, by omega⟩
    rw [spec_l11Least.l0, if_neg (by omega), h.done (by omega)]
  | succ d ih =>
    intro k lo hi h hd hk
    obtain ⟨k, rfl⟩ : ∃ m, k = m + 1 := ⟨k - 1, by omega⟩
    by_cases e : lo < hi
    · have h' := h
      obtain ⟨h1, h2, h3, h4, h5⟩ := h'
      have hl := hf.2.1
      rw [spec_l11Least.l0, if_pos e, w64 (x := lo + hi) (by omega) (by omega), tdiv_n (by omega), w64 (x := (lo + hi) / 2) (by omega) (by omega), spec_l11For_eq q _ k hf.2.2 (by omega) (by omega) (by omega)]
      simp only [Option.bind_some]
      rw [spec_l01Sum_eq _ k (by rw [upsM_len]; omega) (by rw [upsM_len]; omega), w64 (x := (lo + hi) / 2 + 1) (by omega) (by omega)]
      simp only [Option.bind_some]
      by_cases c : wsum 0 (upsM q ((lo + hi) / 2)) ≤ slots
      · rw [if_pos c]
        exact ih k _ _ (h.left e (decide_eq_true c)) (by omega) (by omega)
      · rw [if_neg c]
        exact ih k _ _ (h.right hf e (decide_eq_false c)) (by omega) (by omega)
    · rw [spec_l11Least.l0, if_neg e, h.done e]
theorem spec_l11Least_eq (slots : Int) (q : List Int) (k : Nat) (hf : fits slots q) (hk : q.length + 1000000 < k) : spec_l11Least.f k slots q = some (leastM slots q) := by
  unfold spec_l11Least.f
  exact spec_l11Least_l0 slots q hf 1000000 k 1 1000000 (Halves.start hf (by omega) (fun x hx => (hf.2.2 x hx).2)) (by omega) (by omega)

theorem spec_l01Has_l0 (xs : List Int) (x : Int) (hl : xs.length ≤ 9223372036854775806) : ∀ (d k i : Nat), i + d = xs.length → d < k → spec_l01Has.l0 k xs x (i : Int) = some ((xs.drop i).contains x) := by
  intro d
  induction d with
  | zero =>
    intro k i h hk
    obtain ⟨k, rfl⟩ : ∃ m, k = m + 1 := ⟨k - 1, by omega⟩
    rw [spec_l01Has.l0, if_neg (by omega), List.drop_of_length_le (by omega)]
    rfl
  | succ d ih =>
    intro k i h hk
    obtain ⟨k, rfl⟩ : ∃ m, k = m + 1 := ⟨k - 1, by omega⟩
    have hi : i < xs.length := by omega
    have e : xs.drop i = xs[i] :: xs.drop (i + 1) := List.drop_eq_getElem_cons hi
    have e2 : xs.getD i 0 = xs[i] := by simp [List.getD_eq_getElem?_getD, List.getElem?_eq_getElem hi]
    have e3 := ih k (i + 1) (by omega) (by omega)
    rw [spec_l01Has.l0, if_pos (by omega), if_pos (by omega), rd_nat, e2, e, List.contains_cons]
    by_cases hx : xs[i] = x
    · rw [if_pos hx]; simp [hx]
    · rw [if_neg hx, w64 (by omega) (by omega)]
      have e4 : (x == xs[i]) = false := beq_eq_false_iff_ne.mpr (fun h => hx h.symm)
      rw [e4, Bool.false_or]
      exact e3
theorem spec_l01Has_eq (xs : List Int) (x : Int) (k : Nat) (hl : xs.length ≤ 9223372036854775806) (hk : xs.length < k) : spec_l01Has.f k xs x = some (xs.contains x) := by
  unfold spec_l01Has.f
  exact spec_l01Has_l0 xs x hl xs.length k 0 (by omega) hk

theorem spec_l11Cost_l0 (slots : Int) (q first : List Int) (setup : Int) (hs : 0 ≤ setup ∧ setup ≤ 1000000) (hb : q.length ≤ 1048576) (hl : first.length ≤ 1048576) : ∀ (d k i : Nat) (a b : List Int), i + d = q.length → d + first.length + 1000010 < k → fits slots (a ++ partIn first (q.drop i) (i : Int)) → fits slots (b ++ partOut first (q.drop i) (i : Int)) →
    spec_l11Cost.l0 k slots q first setup a b (i : Int) = some (costF slots (a ++ partIn first (q.drop i) (i : Int)) (b ++ partOut first (q.drop i) (i : Int)) setup) := by
  intro d
  induction d with
  | zero =>
    intro k i a b h hk ha hb
    obtain ⟨k, rfl⟩ : ∃ m, k = m + 1 := ⟨k - 1, by omega⟩
    rw [List.drop_of_length_le (by omega), partIn, List.append_nil] at ha ⊢
    rw [List.drop_of_length_le (by omega), partOut, List.append_nil] at hb
    rw [partOut, List.append_nil]
    have hla := ha.2.1
    have hlb := hb.2.1
    have h1 := leastM_least ha
    have h2 := leastM_least hb
    have e1 := h1.1.1
    have e2 := h2.1.1
    rw [spec_l11Cost.l0, if_neg (by omega), spec_l11Least_eq slots a k ha (by omega)]
    simp only [Option.bind_some]
    unfold costF
    by_cases hn : b = []
    · subst hn
      rw [if_neg (by simp), if_pos rfl, w64 (by omega) (by omega), Int.add_zero]
    · have : 0 < b.length := List.length_pos_iff.2 hn
      rw [if_pos (by omega), if_neg hn, spec_l11Least_eq slots b k hb (by omega)]
      simp only [Option.bind_some]
      rw [w64 (x := leastM slots a + setup) (by omega) (by omega), w64 (x := leastM slots a + setup + leastM slots b) (by omega) (by omega), w64 (by omega) (by omega), Int.add_assoc (leastM slots a + setup)]
  | succ d ih =>
    intro k i a b h hk ha hb
    obtain ⟨k, rfl⟩ : ∃ m, k = m + 1 := ⟨k - 1, by omega⟩
    have h1 : i < q.length := by omega
    have e : ((i + 1 : Nat) : Int) = (i : Int) + 1 := by omega
    have hla := ha.2.1
    have hlb := hb.2.1
    rw [List.length_append] at hla hlb
    rw [spec_l11Cost.l0, if_pos (by omega), spec_l01Has_eq first _ k (by omega) (by omega), rd_get q i h1, w64 (x := (i : Int) + 1) (by omega) (by omega)]
    simp only [Option.bind_some]
    rw [drop_get q i h1, partIn] at ha ⊢
    rw [drop_get q i h1, partOut] at hb
    rw [partOut]
    by_cases c : first.contains (i : Int) = true
    · rw [if_pos c] at ha hb ⊢
      rw [if_pos c, if_pos c, if_pos (by omega), if_pos (by omega), ← e]
      rw [← e] at ha hb
      rw [List.append_cons a (q[i]) (partIn first (q.drop (i + 1)) ((i + 1 : Nat) : Int))] at ha ⊢
      exact ih k (i + 1) _ _ (by omega) (by omega) ha hb
    · rw [if_neg c] at ha hb ⊢
      rw [if_neg c, if_neg c, if_pos (by omega), if_pos (by omega), ← e]
      rw [← e] at ha hb
      rw [List.append_cons b (q[i]) (partOut first (q.drop (i + 1)) ((i + 1 : Nat) : Int))] at hb ⊢
      exact ih k (i + 1) _ _ (by omega) (by omega) ha hb
theorem spec_l11Cost_eq (slots : Int) (q first : List Int) (setup : Int) (k : Nat) (hf : fits slots q) (hs : 0 ≤ setup ∧ setup ≤ 1000000) (hl : first.length ≤ 1048576) (hk : q.length + first.length + 1000010 < k) : spec_l11Cost.f k slots q first setup = some (costM slots q first setup) := by
  unfold spec_l11Cost.f costM
  have := hf.2.1
  exact spec_l11Cost_l0 slots q first setup hs (by omega) hl q.length k 0 [] [] (by omega) hk (partIn_fits hf first 0) (partOut_fits hf first 0)

theorem lexLt_drop (a b : List Int) (i : Nat) (h : ¬ (i < a.length ∧ i < b.length)) (hi : i ≤ a.length) (hj : i ≤ b.length) : lexLt (a.drop i) (b.drop i) = decide (a.length < b.length) := by
  by_cases h1 : i < a.length
  · have h2 : b.drop i = [] := List.drop_of_length_le (by omega)
    rw [h2, drop_get a i h1, lexLt]
    · simp; omega
    · intro x xs y ys _ e; cases e
  · have h2 : a.drop i = [] := List.drop_of_length_le (by omega)
    rw [h2, lexLt]
    · simp only [List.length_nil, List.length_drop]
      exact decide_eq_decide.2 (by omega)
    · intro x xs y ys e; cases e
theorem spec_l01Less_l0 (a b : List Int) (ha : a.length ≤ 1048576) (hb : b.length ≤ 1048576) : ∀ (d k i : Nat), i + d = a.length → i ≤ b.length → 2 * d + 1 < k → spec_l01Less.l0 k a b (i : Int) = some (lexLt (a.drop i) (b.drop i)) := by
  intro d
  induction d with
  | zero =>
    intro k i h hib hk
    obtain ⟨k, rfl⟩ : ∃ m, k = m + 2 := ⟨k - 2, by omega⟩
    rw [spec_l01Less.l0, if_neg (by omega), spec_l01Less.j1, if_neg (by simp), lexLt_drop a b i (by omega) (by omega) hib]
    exact congrArg some (decide_eq_decide.2 (by omega))
  | succ d ih =>
    intro k i h hib hk
    obtain ⟨k, rfl⟩ : ∃ m, k = m + 2 := ⟨k - 2, by omega⟩
    rw [spec_l01Less.l0, if_pos (by omega), spec_l01Less.j1]
    by_cases hlt : i < b.length
    · have h1 : i < a.length := by omega
      rw [if_pos (decide_eq_true (by omega)), if_pos (by omega), if_pos (by omega), if_pos (by omega), rd_get a i h1, rd_get b i hlt, drop_get a i h1, drop_get b i hlt, lexLt, w64 (x := (i : Int) + 1) (by omega) (by omega)]
      by_cases e : a[i] = b[i]
      · rw [if_pos e, if_pos e]
        exact ih k (i + 1) (by omega) (by omega) (by omega)
      · rw [if_neg e, if_neg e]
    · rw [if_neg (by rw [decide_eq_true_eq]; omega), lexLt_drop a b i (by omega) (by omega) hib]
      exact congrArg some (decide_eq_decide.2 (by omega))
theorem spec_l01Less_eq (a b : List Int) (k : Nat) (ha : a.length ≤ 1048576) (hb : b.length ≤ 1048576) (hk : 2 * a.length + 1 < k) : spec_l01Less.f k a b = some (lexLt a b) := by
  unfold spec_l01Less.f
  exact spec_l01Less_l0 a b ha hb a.length k 0 (by omega) (by omega) hk

theorem spec_BestDivision_l1 (slots : Int) (q : List Int) (setup : Int) (best : List Int) (cost m : Int) (hq : q.length ≤ 6) (k0 : Nat) : ∀ (d i : Nat) (acc : List Int), i + d = q.length → acc.length ≤ i → spec_BestDivision.l1 (k0 + d + 1) slots q setup best cost m acc (i : Int) = spec_BestDivision.l1 (k0 + 1) slots q setup best cost m (pickBits m d (i : Int) acc) (q.length : Int) := by
  intro d
  induction d with
  | zero =>
    intro i acc h ha
    have e : (i : Int) = (q.length : Int) := by omega
    rw [e, pickBits]
  | succ d ih =>
    intro i acc h ha
    rw [show k0 + (d + 1) + 1 = (k0 + d + 1) + 1 by omega, spec_BestDivision.l1, if_pos (by omega), u64_small i (by omega), if_pos (by omega), w64 (x := (i : Int) + 1) (by omega) (by omega), pickBits]
    by_cases c : Go.bits .and .i64 (shr .i64 m (i : Int)) 1 = 1
    · rw [if_pos c, if_pos c, if_pos (by omega)]
      exact ih (i + 1) _ (by omega) (by rw [List.length_append, List.length_singleton]; omega)
    · rw [if_neg c, if_neg c]
      exact ih (i + 1) _ (by omega) (by omega)
theorem spec_BestDivision_step (slots : Int) (q : List Int) (setup : Int) (best first : List Int) (cost m : Int) (hf : fits slots q) (hs : 0 ≤ setup ∧ setup ≤ 1000000) (hl : first.length ≤ 6) (hb : best.length ≤ 6) (hm : 0 ≤ m ∧ m ≤ 100) (k : Nat) (hk : 1000100 < k) :
    spec_BestDivision.l1 (k + 1) slots q setup best cost m first (q.length : Int) = if betterM first best (costM slots q first setup) cost = true then spec_BestDivision.l0 k slots q setup first (costM slots q first setup) (m + 2) else spec_BestDivision.l0 k slots q setup best cost (m + 2) := by
  have hq := hf.2.1
  rw [spec_BestDivision.l1, if_neg (by omega), spec_l11Cost_eq slots q first setup k hf hs (by omega) (by omega), w64 (x := m + 2) (by omega) (by omega)]
  simp only [Option.bind_some]
  rw [spec_l01Less_eq first best k (by omega) (by omega) (by omega)]
  simp only [Option.bind_some]
  generalize costM slots q first setup = c
  have e0 : ((best.length : Int) = 0) = (best = []) := propext (by rw [← List.length_eq_zero_iff]; omega)
  have e1 : ((first.length : Int) > (best.length : Int)) = (best.length < first.length) := propext (by omega)
  have e2 : ((first.length : Int) = (best.length : Int)) = (first.length = best.length) := propext (by omega)
  simp only [e0, e1, e2]
  unfold betterM
  by_cases b0 : best = []
  · simp [b0]
  by_cases b1 : c < cost
  · simp [b0, b1]
  by_cases b2 : c = cost
  · by_cases b3 : best.length < first.length
    · simp [b0, b1, b2, b3]
    · by_cases b4 : first.length = best.length
      · cases b5 : lexLt first best <;> simp [b0, b1, b2, b3, b4, b5]
      · simp [b0, b1, b2, b3, b4]
  · simp [b0, b1, b2]
theorem spec_BestDivision_l0 (slots : Int) (q : List Int) (setup : Int) (hf : fits slots q) (hn : 1 ≤ q.length) (hs : 0 ≤ setup ∧ setup ≤ 1000000) : ∀ (d k j : Nat) (best : List Int) (cost : Int), j + d = 2 ^ (q.length - 1) → best.length ≤ 6 → 12 * d + 1000200 < k →
    spec_BestDivision.l0 k slots q setup best cost (2 * (j : Int) + 1) = some (bdLoop slots q setup d j best cost) := by
  intro d
  have hq := hf.2.1
  obtain ⟨g1, g2, g3, g4⟩ := shl_n q.length hq hn
  generalize hN : 2 ^ (q.length - 1) = N at g1 g2 g3
  induction d with
  | zero =>
    intro k j best cost h hb hk
    obtain ⟨k, rfl⟩ : ∃ m, k = m + 1 := ⟨k - 1, by omega⟩
    rw [spec_BestDivision.l0, if_pos g4, g1, if_neg (by omega), bdLoop]
  | succ d ih =>
    intro k j best cost h hb hk
    obtain ⟨k, rfl⟩ : ∃ m, k = (m + q.length + 1) + 1 := ⟨k - q.length - 2, by omega⟩
    have hl := pickBits_len (2 * (j : Int) + 1) q.length 0 []
    simp only [List.length_nil, Nat.zero_add] at hl
    rw [spec_BestDivision.l0, if_pos g4, g1, if_pos (by omega)]
    have h1 := spec_BestDivision_l1 slots q setup best cost (2 * (j : Int) + 1) hq k q.length 0 [] (by omega) (by simp)
    rw [show ((0 : Nat) : Int) = 0 from rfl] at h1
    rw [h1, spec_BestDivision_step slots q setup best _ cost _ hf hs (by omega) hb (by omega) k (by omega), bdLoop, show 2 * (j : Int) + 1 + 2 = 2 * ((j + 1 : Nat) : Int) + 1 by omega]
    split
    · exact ih k (j + 1) _ _ (by omega) (by omega) (by omega)
    · exact ih k (j + 1) _ _ (by omega) hb (by omega)
theorem spec_BestDivision_eq (slots : Int) (q : List Int) (setup : Int) (k : Nat) (hl : q.length ≤ 1048576) (hk : q.length + 1000800 < k) : spec_BestDivision.f k slots q setup = some (bestDivision slots q setup) := by
  unfold spec_BestDivision.f bestDivision
  simp only [spec_l01In_eq, spec_l11Code_eq slots q _ k (by omega) (by omega), Option.bind_some]
  cases hg : gang slots q
  · simp
  · cases hs : inR setup 0 1000000
    · simp
    · simp only [if_true]
      have hgt := gang_true hg
      have := (shl_n q.length (by omega) hgt.2.1.1).2.2.1
      exact spec_BestDivision_l0 slots q setup (gang_fits hg) hgt.2.1.1 (inR_true hs) _ k 0 [] 0 (by omega) (by simp) (by omega)

theorem impl_length_int64_eq (xs : List Int) : impl_length_int64.f xs = some (xs.length : Int) := rfl

theorem impl_inRange_eq (a b c : Int) : impl_inRange.f a b c = some (inR a b c) := by
  unfold impl_inRange.f inR
  by_cases h : b ≤ a
  · rw [if_pos h]; simp [h]
  · rw [if_neg h]; simp [h]

theorem impl_allIn_eq (xs : List Int) (lo hi : Int) : impl_allIn.f xs lo hi = some (allR xs lo hi) := rfl

theorem impl_IsGang_eq (slots : Int) (q : List Int) : impl_IsGang.f slots q = some (gang slots q) := by
  unfold impl_IsGang.f gang
  simp only [impl_inRange_eq, impl_allIn_eq, impl_length_int64_eq, Option.bind_some, mn_min]
  cases inR slots 1 32
  · simp
  · cases inR (q.length : Int) 1 (min 6 slots) <;> simp

theorem impl_quotient_eq (a b : Int) (h0 : 0 ≤ a) (h1 : a ≤ 4611686018427387904) (k0 : 1 ≤ b) (k1 : b ≤ 4611686018427387903) : impl_quotient.f a b = some ((a + b - 1) / b) := by
  unfold impl_quotient.f
  have h3 : 0 ≤ (a + b - 1) / b := Int.ediv_nonneg (by omega) (by omega)
  have h4 : (a + b - 1) / b ≤ a + b - 1 := Int.ediv_le_self _ (by omega)
  rw [if_neg (by omega), w64 (x := a + b) (by omega) (by omega), w64 (x := a + b - 1) (by omega) (by omega), tdiv_n (by omega), w64 (by omega) (by omega)]

theorem impl_upsM_take (q : List Int) (run : Int) (i : Nat) (h : i < q.length) : upsM (q.take (i + 1)) run = upsM (q.take i) run ++ [(q[i] + run - 1) / run] := by
  unfold upsM
  rw [List.take_succ_eq_append_getElem h, List.map_append]
  rfl
theorem impl_upsM_len (q : List Int) (run : Int) : (upsM q run).length = q.length := by simp [upsM]
theorem impl_upsFor_l0 (q : List Int) (run : Int) (hq : ∀ x ∈ q, 1 ≤ x ∧ x ≤ 1000000) (hr : 1 ≤ run ∧ run ≤ 1000000) (hb : q.length ≤ 1048576) : ∀ (d k i : Nat), i + d = q.length → d < k → impl_upsFor.l0 k run (upsM (q.take i) run) q (q.length : Int) (i : Int) = some (upsM q run) := by
  intro d
  induction d with
  | zero =>
    intro k i h hk
    obtain ⟨k, rfl⟩ : ∃ m, k = m + 1 := ⟨k - 1, by omega⟩
    rw [impl_upsFor.l0, if_neg (by omega), List.take_of_length_le (by omega)]
  | succ d ih =>
    intro k i h hk
    obtain ⟨k, rfl⟩ : ∃ m, k = m + 1 := ⟨k - 1, by omega⟩
    have h1 : i < q.length := by omega
    have b1 := hq q[i] (List.getElem_mem h1)
    rw [impl_upsFor.l0, if_pos (by omega), if_pos (by omega), if_pos (by omega), rd_get q i h1, impl_quotient_eq _ _ (by omega) (by omega) (by omega) (by omega), w64 (x := (i : Int) + 1) (by omega) (by omega)]
    simp only [Option.bind_some]
    rw [if_pos (by rw [impl_upsM_len, List.length_take]; omega), ← impl_upsM_take q run i h1]
    exact ih k (i + 1) (by omega) (by omega)
theorem impl_upsFor_eq (q : List Int) (run : Int) (k : Nat) (hq : ∀ x ∈ q, 1 ≤ x ∧ x ≤ 1000000) (hr : 1 ≤ run ∧ run ≤ 1000000) (hb : q.length ≤ 1048576) (hk : q.length < k) : impl_upsFor.f k q run = some (upsM q run) := by
  unfold impl_upsFor.f
  exact impl_upsFor_l0 q run hq hr hb q.length k 0 (by omega) hk

theorem slices_Max_int64_int64_l0 (xs : List Int) (hl : xs.length ≤ 9223372036854775806) : ∀ (d k i : Nat) (m : Int), i + d = xs.length → d < k → slices_Max_int64_int64.l0 k xs m (i : Int) = some ((xs.drop i).foldl max m) := by
  intro d
  induction d with
  | zero =>
    intro k i m h hk
    obtain ⟨k, rfl⟩ : ∃ m, k = m + 1 := ⟨k - 1, by omega⟩
    rw [slices_Max_int64_int64.l0, if_neg (by omega), List.drop_of_length_le (by omega)]
    rfl
  | succ d ih =>
    intro k i m h hk
    obtain ⟨k, rfl⟩ : ∃ m, k = m + 1 := ⟨k - 1, by omega⟩
    have hi : i < xs.length := by omega
    rw [slices_Max_int64_int64.l0, if_pos (by omega), if_pos (by omega), rd_get xs i hi, drop_get xs i hi, w64 (x := (i : Int) + 1) (by omega) (by omega), List.foldl_cons, mx_max]
    exact ih k (i + 1) _ (by omega) (by omega)
theorem slices_Max_int64_int64_eq (xs : List Int) (k : Nat) (h0 : 1 ≤ xs.length) (hl : xs.length ≤ 9223372036854775806) (hk : xs.length < k) : slices_Max_int64_int64.f k xs = some ((xs.drop 1).foldl max (rd xs 0)) := by
  unfold slices_Max_int64_int64.f
  rw [if_neg (by omega), if_pos (by omega)]
  exact slices_Max_int64_int64_l0 xs hl (xs.length - 1) k 1 _ (by omega) (by omega)

theorem impl_sumOf_l0 (xs : List Int) (hl : xs.length ≤ 9223372036854775806) : ∀ (d k i : Nat) (a : Int), i + d = xs.length → d < k → impl_sumOf.l0 k a xs (xs.length : Int) (i : Int) = some (wsum a (xs.drop i)) := by
  intro d
  induction d with
  | zero =>
    intro k i a h hk
    obtain ⟨k, rfl⟩ : ∃ m, k = m + 1 := ⟨k - 1, by omega⟩
    rw [impl_sumOf.l0, if_neg (by omega), List.drop_of_length_le (by omega)]
    rfl
  | succ d ih =>
    intro k i a h hk
    obtain ⟨k, rfl⟩ : ∃ m, k = m + 1 := ⟨k - 1, by omega⟩
    have hi : i < xs.length := by omega
    rw [impl_sumOf.l0, if_pos (by omega), if_pos (by omega), if_pos (by omega), rd_get xs i hi, drop_get xs i hi, w64 (x := (i : Int) + 1) (by omega) (by omega), wsum_cons]
    exact ih k (i + 1) _ (by omega) (by omega)
theorem impl_sumOf_eq (xs : List Int) (k : Nat) (hl : xs.length ≤ 9223372036854775806) (hk : xs.length < k) : impl_sumOf.f k xs = some (wsum 0 xs) := by
  unfold impl_sumOf.f
  exact impl_sumOf_l0 xs hl xs.length k 0 0 (by omega) hk

theorem impl_leastRun_l0 (slots : Int) (q : List Int) (hf : fits slots q) : ∀ (d k : Nat) (lo hi : Int), Halves slots q lo hi → hi - lo ≤ d → d + q.length < k → impl_leastRun.l0 k slots q lo hi = some (leastM slots q) := by
  intro d
  induction d with
  | zero =>
    intro k lo hi h hd hk
    obtain ⟨k, rfl⟩ : ∃ m, k = m + 1 := ⟨k - 1, by omega⟩
    rw [impl_leastRun.l0, if_neg (by omega), h.done (by omega)]
  | succ d ih =>
    intro k lo hi h hd hk
    obtain ⟨k, rfl⟩ : ∃ m, k = m + 1 := ⟨k - 1, by omega⟩
    by_cases e : lo < hi
    · have h' := h
      obtain ⟨h1, h2, h3, h4, h5⟩ := h'
      have hl := hf.2.1
      rw [impl_leastRun.l0, if_pos e, w64 (x := lo + hi) (by omega) (by omega), tdiv_n (by omega), w64 (x := (lo + hi) / 2) (by omega) (by omega), impl_upsFor_eq q _ k hf.2.2 (by omega) (by omega) (by omega)]
      simp only [Option.bind_some]
      rw [impl_sumOf_eq _ k (by rw [impl_upsM_len]; omega) (by rw [impl_upsM_len]; omega), w64 (x := (lo + hi) / 2 + 1) (by omega) (by omega)]
      simp only [Option.bind_some]
      by_cases c : wsum 0 (upsM q ((lo + hi) / 2)) ≤ slots
      · rw [if_pos c]
        exact ih k _ _ (h.left e (decide_eq_true c)) (by omega) (by omega)
      · rw [if_neg c]
        exact ih k _ _ (h.right hf e (decide_eq_false c)) (by omega) (by omega)
    · rw [impl_leastRun.l0, if_neg e, h.done e]
theorem foldl_max_le : ∀ (xs : List Int) (m b : Int), m ≤ b → (∀ x ∈ xs, x ≤ b) → xs.foldl max m ≤ b
  | [], m, b, h, _ => h
  | x :: xs, m, b, h, hx => foldl_max_le xs (max m x) b (by have := hx x (by simp); omega) (fun y hy => hx y (by simp [hy]))
theorem foldl_max_ge : ∀ (xs : List Int) (m : Int), m ≤ xs.foldl max m ∧ ∀ x ∈ xs, x ≤ xs.foldl max m
  | [], m => by simp
  | x :: xs, m => by
    have h := foldl_max_ge xs (max m x)
    rw [List.foldl_cons]
    refine ⟨by omega, fun y hy => ?_⟩
    rcases List.mem_cons.1 hy with rfl | hy
    · omega
    · exact h.2 y hy
theorem impl_leastRun_eq (slots : Int) (q : List Int) (k : Nat) (hf : fits slots q) (h0 : 1 ≤ q.length) (hk : q.length + 1000000 < k) : impl_leastRun.f k slots q = some (leastM slots q) := by
  unfold impl_leastRun.f
  have hl := hf.2.1
  rw [slices_Max_int64_int64_eq q k h0 (by omega) (by omega)]
  simp only [Option.bind_some]
  cases q with
  | nil => simp at h0
  | cons x xs =>
    have hx := hf.2.2 x (by simp)
    have e : rd (x :: xs) 0 = x := rfl
    rw [e, List.drop_one, List.tail_cons]
    have g := foldl_max_ge xs x
    have u := foldl_max_le xs x 1000000 hx.2 (fun y hy => (hf.2.2 y (by simp [hy])).2)
    exact impl_leastRun_l0 slots (x :: xs) hf 1000000 k 1 _ (Halves.start hf (by omega) (fun y hy => by
      rcases List.mem_cons.1 hy with rfl | hy
      · exact g.1
      · exact g.2 y hy)) (by omega) (by omega)

theorem slices_Index_int64_int64_l0 (xs : List Int) (x : Int) (hl : xs.length ≤ 9223372036854775806) : ∀ (d k i : Nat), i + d = xs.length → d < k → slices_Index_int64_int64.l0 k xs x (xs.length : Int) (i : Int) = some (idxFrom (xs.drop i) x i) := by
  intro d
  induction d with
  | zero =>
    intro k i h hk
    obtain ⟨k, rfl⟩ : ∃ m, k = m + 1 := ⟨k - 1, by omega⟩
    rw [slices_Index_int64_int64.l0, if_neg (by omega), List.drop_of_length_le (by omega)]
    rfl
  | succ d ih =>
    intro k i h hk
    obtain ⟨k, rfl⟩ : ∃ m, k = m + 1 := ⟨k - 1, by omega⟩
    have hi : i < xs.length := by omega
    have e : xs.drop i = xs[i] :: xs.drop (i + 1) := List.drop_eq_getElem_cons hi
    have e2 : xs.getD i 0 = xs[i] := by simp [List.getD_eq_getElem?_getD, List.getElem?_eq_getElem hi]
    have e3 := ih k (i + 1) (by omega) (by omega)
    rw [slices_Index_int64_int64.l0, if_pos (by omega), if_pos (by omega), if_pos (by omega), rd_nat, e2, e, idxFrom]
    by_cases hx : x = xs[i]
    · rw [if_pos hx, if_pos hx]
    · rw [if_neg hx, if_neg hx, w64 (by omega) (by omega)]
      exact e3
theorem slices_Index_int64_int64_eq (xs : List Int) (x : Int) (k : Nat) (hl : xs.length ≤ 9223372036854775806) (hk : xs.length < k) : slices_Index_int64_int64.f k xs x = some (idxFrom xs x 0) := by
  unfold slices_Index_int64_int64.f
  exact slices_Index_int64_int64_l0 xs x hl xs.length k 0 (by omega) hk

theorem idxFrom_has : ∀ (xs : List Int) (x : Int) (i : Nat), decide (idxFrom xs x i ≥ 0) = xs.contains x
  | [], x, i => by simp [idxFrom]
  | y :: ys, x, i => by
    rw [idxFrom, List.contains_cons]
    by_cases h : x = y
    · rw [if_pos h, h]
      simp
    · rw [if_neg h, idxFrom_has ys x (i + 1)]
      simp [h]
theorem slices_Contains_int64_int64_eq (xs : List Int) (x : Int) (k : Nat) (hl : xs.length ≤ 9223372036854775806) (hk : xs.length < k) : slices_Contains_int64_int64.f k xs x = some (xs.contains x) := by
  unfold slices_Contains_int64_int64.f
  rw [slices_Index_int64_int64_eq xs x k hl hk]
  simp only [Option.bind_some]
  rw [idxFrom_has]

theorem impl_dividedCost_l0 (slots : Int) (q first : List Int) (setup : Int) (hs : 0 ≤ setup ∧ setup ≤ 1000000) (hb : q.length ≤ 1048576) (hl : first.length ≤ 1048576) : ∀ (d k i : Nat) (a b : List Int), i + d = q.length → d + first.length + 1000010 < k → fits slots (a ++ partIn first (q.drop i) (i : Int)) → 1 ≤ (a ++ partIn first (q.drop i) (i : Int)).length → fits slots (b ++ partOut first (q.drop i) (i : Int)) →
    impl_dividedCost.l0 k slots first setup a b q (q.length : Int) (i : Int) = some (costF slots (a ++ partIn first (q.drop i) (i : Int)) (b ++ partOut first (q.drop i) (i : Int)) setup) := by
  intro d
  induction d with
  | zero =>
    intro k i a b h hk ha hn1 hb
    obtain ⟨k, rfl⟩ : ∃ m, k = m + 1 := ⟨k - 1, by omega⟩
    rw [List.drop_of_length_le (by omega), partIn, List.append_nil] at ha hn1 ⊢
    rw [List.drop_of_length_le (by omega), partOut, List.append_nil] at hb
    rw [partOut, List.append_nil]
    have hla := ha.2.1
    have hlb := hb.2.1
    have h1 := leastM_least ha
    have h2 := leastM_least hb
    have e1 := h1.1.1
    have e2 := h2.1.1
    rw [impl_dividedCost.l0, if_neg (by omega), impl_leastRun_eq slots a k ha hn1 (by omega)]
    simp only [Option.bind_some]
    unfold costF
    by_cases hn : b = []
    · subst hn
      rw [if_neg (by simp), if_pos rfl, w64 (by omega) (by omega), Int.add_zero]
    · have : 0 < b.length := List.length_pos_iff.2 hn
      rw [if_pos (by omega), if_neg hn, impl_leastRun_eq slots b k hb (by omega) (by omega)]
      simp only [Option.bind_some]
      rw [w64 (x := leastM slots a + setup) (by omega) (by omega), w64 (x := leastM slots b + setup) (by omega) (by omega), w64 (by omega) (by omega)]
  | succ d ih =>
    intro k i a b h hk ha hn1 hb
    obtain ⟨k, rfl⟩ : ∃ m, k = m + 1 := ⟨k - 1, by omega⟩
    have h1 : i < q.length := by omega
    have e : ((i + 1 : Nat) : Int) = (i : Int) + 1 := by omega
    have hla := ha.2.1
    have hlb := hb.2.1
    rw [List.length_append] at hla hlb
    rw [impl_dividedCost.l0, if_pos (by omega), if_pos (by omega), if_pos (by omega), slices_Contains_int64_int64_eq first _ k (by omega) (by omega), rd_get q i h1, w64 (x := (i : Int) + 1) (by omega) (by omega)]
    simp only [Option.bind_some]
    rw [drop_get q i h1, partIn] at ha hn1 ⊢
    rw [drop_get q i h1, partOut] at hb
    rw [partOut]
    by_cases c : first.contains (i : Int) = true
    · rw [if_pos c] at ha hb hn1 ⊢
      rw [if_pos c, if_pos c, if_pos (by omega), ← e]
      rw [← e] at ha hb hn1
      rw [List.append_cons a (q[i]) (partIn first (q.drop (i + 1)) ((i + 1 : Nat) : Int))] at ha hn1 ⊢
      exact ih k (i + 1) _ _ (by omega) (by omega) ha hn1 hb
    · rw [if_neg c] at ha hb hn1 ⊢
      rw [if_neg c, if_neg c, if_pos (by omega), ← e]
      rw [← e] at ha hb hn1
      rw [List.append_cons b (q[i]) (partOut first (q.drop (i + 1)) ((i + 1 : Nat) : Int))] at hb ⊢
      exact ih k (i + 1) _ _ (by omega) (by omega) ha hn1 hb
theorem impl_dividedCost_eq (slots : Int) (q first : List Int) (setup : Int) (k : Nat) (hf : fits slots q) (hn : 1 ≤ (partIn first q 0).length) (hs : 0 ≤ setup ∧ setup ≤ 1000000) (hl : first.length ≤ 1048576) (hk : q.length + first.length + 1000010 < k) : impl_dividedCost.f k slots q first setup = some (costM slots q first setup) := by
  unfold impl_dividedCost.f costM
  have := hf.2.1
  exact impl_dividedCost_l0 slots q first setup hs (by omega) hl q.length k 0 [] [] (by omega) hk (partIn_fits hf first 0) hn (partOut_fits hf first 0)

theorem cmp_eq (x y : Int) : cmp_Compare_int64.f x y = some (if x < y then -1 else if x > y then 1 else 0) := by
  unfold cmp_Compare_int64.f cmp_isNaN_int64.f
  simp only [bne_self_eq_false, Option.bind_some, Bool.false_eq_true, if_false]
  split
  · rfl
  · split <;> rfl
theorem slices_Compare_int64_int64_l0 (a b : List Int) (ha : a.length ≤ 1048576) (hb : b.length ≤ 1048576) : ∀ (d k i : Nat), i + d = a.length → i ≤ b.length → d < k → slices_Compare_int64_int64.l0 k a b a (a.length : Int) (i : Int) = some (cmpM (a.drop i) (b.drop i)) := by
  intro d
  induction d with
  | zero =>
    intro k i h hib hk
    obtain ⟨k, rfl⟩ : ∃ m, k = m + 1 := ⟨k - 1, by omega⟩
    rw [slices_Compare_int64_int64.l0, if_neg (by omega), List.drop_of_length_le (l := a) (by omega)]
    by_cases h2 : i < b.length
    · rw [if_pos (by omega), drop_get b i h2, cmpM]
    · rw [if_neg (by omega), List.drop_of_length_le (l := b) (by omega), cmpM]
  | succ d ih =>
    intro k i h hib hk
    obtain ⟨k, rfl⟩ : ∃ m, k = m + 1 := ⟨k - 1, by omega⟩
    have h1 : i < a.length := by omega
    rw [slices_Compare_int64_int64.l0, if_pos (by omega), if_pos (by omega), if_pos (by omega), drop_get a i h1]
    by_cases h2 : i < b.length
    · rw [if_neg (by omega), if_pos (by omega), rd_get a i h1, rd_get b i h2, drop_get b i h2, cmpM, cmp_eq, w64 (x := (i : Int) + 1) (by omega) (by omega)]
      simp only [Option.bind_some]
      by_cases e1 : a[i] < b[i]
      · rw [if_pos e1, if_pos e1, if_neg (by decide)]
      · rw [if_neg e1, if_neg e1]
        by_cases e2 : a[i] > b[i]
        · rw [if_pos e2, if_pos e2, if_neg (by decide)]
        · rw [if_neg e2, if_neg e2, if_pos rfl]
          exact ih k (i + 1) (by omega) (by omega) (by omega)
    · rw [if_pos (by omega), List.drop_of_length_le (l := b) (by omega), cmpM]
theorem slices_Compare_int64_int64_eq (a b : List Int) (k : Nat) (ha : a.length ≤ 1048576) (hb : b.length ≤ 1048576) (hk : a.length < k) : slices_Compare_int64_int64.f k a b = some (cmpM a b) := by
  unfold slices_Compare_int64_int64.f
  exact slices_Compare_int64_int64_l0 a b ha hb a.length k 0 (by omega) (by omega) hk

theorem impl_BestDivision_l1 (slots : Int) (q : List Int) (setup : Int) (best : List Int) (cost m : Int) (hq : q.length ≤ 6) (k0 : Nat) : ∀ (d i : Nat) (acc : List Int), i + d = q.length → acc.length ≤ i → impl_BestDivision.l1 (k0 + d + 1) slots q setup best cost m acc (q.length : Int) (i : Int) = impl_BestDivision.l1 (k0 + 1) slots q setup best cost m (pickBits m d (i : Int) acc) (q.length : Int) (q.length : Int) := by
  intro d
  induction d with
  | zero =>
    intro i acc h ha
    have e : (i : Int) = (q.length : Int) := by omega
    rw [e, pickBits]
  | succ d ih =>
    intro i acc h ha
    rw [show k0 + (d + 1) + 1 = (k0 + d + 1) + 1 by omega, impl_BestDivision.l1, if_pos (by omega), if_pos (by omega), w64 (x := (i : Int) + 1) (by omega) (by omega), pickBits]
    by_cases c : Go.bits .and .i64 (shr .i64 m (i : Int)) 1 = 1
    · rw [if_pos c, if_pos c, if_pos (by omega)]
      exact ih (i + 1) _ (by omega) (by rw [List.length_append, List.length_singleton]; omega)
    · rw [if_neg c, if_neg c]
      exact ih (i + 1) _ (by omega) (by omega)
theorem impl_BestDivision_step (slots : Int) (q : List Int) (setup : Int) (best first : List Int) (cost m : Int) (hf : fits slots q) (hp : 1 ≤ (partIn first q 0).length) (hs : 0 ≤ setup ∧ setup ≤ 1000000) (hl : first.length ≤ 6) (hb : best.length ≤ 6) (hm : 0 ≤ m ∧ m ≤ 100) (k : Nat) (hk : 1000100 < k) :
    impl_BestDivision.l1 (k + 3) slots q setup best cost m first (q.length : Int) (q.length : Int) = if betterM first best (costM slots q first setup) cost = true then impl_BestDivision.l0 k slots q setup first (costM slots q first setup) (m + 2) else impl_BestDivision.l0 k slots q setup best cost (m + 2) := by
  have hq := hf.2.1
  rw [impl_BestDivision.l1, if_neg (by omega), impl_dividedCost_eq slots q first setup (k + 2) hf hp hs (by omega) (by omega)]
  simp only [Option.bind_some, impl_BestDivision.j2, impl_BestDivision.j3]
  rw [slices_Compare_int64_int64_eq first best k (by omega) (by omega) (by omega), w64 (x := m + 2) (by omega) (by omega)]
  simp only [Option.bind_some]
  generalize costM slots q first setup = c
  have e0 : ((best.length : Int) = 0) = (best = []) := propext (by rw [← List.length_eq_zero_iff]; omega)
  have e1 : ((first.length : Int) > (best.length : Int)) = (best.length < first.length) := propext (by omega)
  have e2 : ((first.length : Int) = (best.length : Int)) = (first.length = best.length) := propext (by omega)
  have e3 : (cmpM first best < 0) = (lexLt first best = true) := propext (by rw [← cmpM_neg, decide_eq_true_eq])
  simp only [e0, e1, e2, e3]
  unfold betterM
  by_cases b0 : best = []
  · simp [b0]
  by_cases b1 : c < cost
  · simp [b0, b1]
  by_cases b2 : c = cost
  · by_cases b3 : best.length < first.length
    · simp [b0, b1, b2, b3]
    · by_cases b4 : first.length = best.length
      · cases b5 : lexLt first best <;> simp [b0, b1, b2, b3, b4, b5]
      · simp [b0, b1, b2, b3, b4]
  · simp [b0, b1, b2]
theorem pick_part {slots : Int} {q : List Int} {j : Nat} (hj : j < 32) (hn : 1 ≤ q.length) : 1 ≤ (partIn (pickBits (2 * (j : Int) + 1) q.length 0 []) q 0).length := by
  cases q with
  | nil => simp at hn
  | cons x xs =>
    rw [partIn, if_pos (pick_has0 hj hn)]
    simp
theorem impl_BestDivision_l0 (slots : Int) (q : List Int) (setup : Int) (hf : fits slots q) (hn : 1 ≤ q.length) (hs : 0 ≤ setup ∧ setup ≤ 1000000) : ∀ (d k j : Nat) (best : List Int) (cost : Int), j + d = 2 ^ (q.length - 1) → best.length ≤ 6 → 12 * d + 1000200 < k →
    impl_BestDivision.l0 k slots q setup best cost (2 * (j : Int) + 1) = some (bdLoop slots q setup d j best cost) := by
  intro d
  have hq := hf.2.1
  obtain ⟨g1, g2, g3, g4⟩ := shl_n q.length hq hn
  generalize hN : 2 ^ (q.length - 1) = N at g1 g2 g3
  induction d with
  | zero =>
    intro k j best cost h hb hk
    obtain ⟨k, rfl⟩ : ∃ m, k = m + 1 := ⟨k - 1, by omega⟩
    rw [impl_BestDivision.l0, g2, if_neg (by omega), bdLoop]
  | succ d ih =>
    intro k j best cost h hb hk
    obtain ⟨k, rfl⟩ : ∃ m, k = (m + 2 + q.length + 1) + 1 := ⟨k - q.length - 4, by omega⟩
    have hl := pickBits_len (2 * (j : Int) + 1) q.length 0 []
    simp only [List.length_nil, Nat.zero_add] at hl
    rw [impl_BestDivision.l0, g2, if_pos (by omega)]
    have h1 := impl_BestDivision_l1 slots q setup best cost (2 * (j : Int) + 1) hq (k + 2) q.length 0 [] (by omega) (by simp)
    rw [show ((0 : Nat) : Int) = 0 from rfl] at h1
    rw [h1, impl_BestDivision_step slots q setup best _ cost _ hf (pick_part (slots := slots) (by omega) hn) hs (by omega) hb (by omega) k (by omega), bdLoop, show 2 * (j : Int) + 1 + 2 = 2 * ((j + 1 : Nat) : Int) + 1 by omega]
    split
    · exact ih k (j + 1) _ _ (by omega) (by omega) (by omega)
    · exact ih k (j + 1) _ _ (by omega) hb (by omega)
theorem impl_BestDivision_eq (slots : Int) (q : List Int) (setup : Int) (k : Nat) (hl : q.length ≤ 1048576) (hk : q.length + 1000800 < k) : impl_BestDivision.f k slots q setup = some (bestDivision slots q setup) := by
  unfold impl_BestDivision.f bestDivision
  simp only [impl_IsGang_eq, impl_inRange_eq, Option.bind_some]
  cases hg : gang slots q
  · simp
  · cases hs : inR setup 0 1000000
    · simp
    · simp only [if_true]
      have hgt := gang_true hg
      have := (shl_n q.length (by omega) hgt.2.1.1).2.2.1
      exact impl_BestDivision_l0 slots q setup (gang_fits hg) hgt.2.1.1 (inR_true hs) _ k 0 [] 0 (by omega) (by simp) (by omega)

theorem FnExactBestDivision : laws_FnExactBestDivision.Pure := by
  intro a l b _ _ _ _ _
  by_cases hbig : (l.length : Int) > 1048576
  · exact ⟨1, by unfold laws_FnExactBestDivision.f; rw [if_pos hbig]⟩
  have hl := bestDivision_len a l b
  obtain ⟨ys, hm2, hz2, hh2⟩ := marks_held l (by omega) (l.length + 1000999) (by omega)
  obtain ⟨zs, hm, hz, hh⟩ := marks_held (bestDivision a l b).1 (by omega) (l.length + 1000998) (by omega)
  have h0 : ¬ (((bestDivision a l b).1.length : Int) + 1 < 0) := by omega
  have h1 : ¬ ((l.length : Int) + 1 < 0) := by omega
  refine ⟨l.length + 1001000, ?_⟩
  simp (disch := omega) only [laws_FnExactBestDivision.f, if_neg hbig, laws_toInt64S_eq, spec_BestDivision_eq, impl_BestDivision_eq, laws_eqInt64S_eq, Option.bind_some, bne_self_eq_false, if_true]
  simp (disch := omega) only [laws_FnExactBestDivision.j0, laws_toInt64S_eq, laws_eqInt64S_eq, hm2, if_neg h1, Option.bind_some, bne_self_eq_false, Bool.false_eq_true, if_false, if_true]
  simp (disch := omega) only [laws_FnExactBestDivision.j1, laws_toInt64S_eq, impl_BestDivision_eq, laws_eqInt64S_eq, hm, hh, if_neg h0, Option.bind_some, bne_self_eq_false, Bool.false_eq_true, if_false, if_true]
  simp (disch := omega) only [laws_FnExactBestDivision.j2, hh, if_neg h0, Option.bind_some, Bool.false_eq_true, if_false, if_true]

end Go.Proofs.Ytpeigljahdnomaa.Pure
