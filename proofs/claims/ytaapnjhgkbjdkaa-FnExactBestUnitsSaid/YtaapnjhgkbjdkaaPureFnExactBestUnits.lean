/- For all arguments the law FnExactBestUnits returns true, with no condition beyond the bounds that the printed statement names. -/
import Derived.Test.YtaapnjhgkbjdkaaPFnExactBestUnitsx3
namespace Go.Proofs.Ytaapnjhgkbjdkaa.Pure
open Go.RowKit Go.Proofs.Ytaapnjhgkbjdkaa.PFnExactBestUnits Go.Proofs.YtaapnjhgkbjdkaaW.PrintWords Go.Proofs.YtaapnjhgkbjdkaaW.PrintLast
set_option linter.unusedVariables false
set_option linter.unusedSimpArgs false

theorem w64 {x : Int} (h1 : -9223372036854775808 ≤ x) (h2 : x ≤ 9223372036854775807) : wrap64 x = x := by
  unfold wrap64; omega
theorem wf64 {x : Int} (h : (Lit.int .i64 x).wf = true) : -9223372036854775808 ≤ x ∧ x ≤ 9223372036854775807 := by
  simp [Lit.wf, IntKind.min, IntKind.max, IntKind.signed, IntKind.bits] at h
  omega
/-- 'a lies from b to c'. -/
def inR (a b c : Int) : Bool := decide (b ≤ a ∧ a ≤ c)
theorem inR_true {a b c : Int} (h : inR a b c = true) : b ≤ a ∧ a ≤ c := by simpa [inR] using h
theorem inR_mk {a b c : Int} (h1 : b ≤ a) (h2 : a ≤ c) : inR a b c = true := by simp [inR, h1, h2]
theorem inR_false {a b c : Int} (h : inR a b c = false) : a < b ∨ c < a := by
  have : ¬ (b ≤ a ∧ a ≤ c) := by simpa [inR] using h
  omega
theorem rd_nat (xs : List Int) (i : Nat) : rd xs (i : Int) = xs.getD i 0 := by simp [rd]
theorem mul_bd {a b A B : Int} (h0 : 0 ≤ a) (h1 : a ≤ A) (k0 : 0 ≤ b) (k1 : b ≤ B) : 0 ≤ a * b ∧ a * b ≤ A * B :=
  ⟨Int.mul_nonneg h0 k0, Int.mul_le_mul h1 k1 k0 (by omega)⟩
theorem tdiv_n {a b : Int} (h : 0 ≤ a) : Int.tdiv a b = a / b := Int.tdiv_eq_ediv_of_nonneg h
theorem tmod_n {a b : Int} (h : 0 ≤ a) : Int.tmod a b = a % b := Int.tmod_eq_emod_of_nonneg h
theorem mn_min (a b : Int) : mn a b = min a b := by unfold mn; split <;> omega
theorem mx_max (a b : Int) : mx a b = max a b := by unfold mx; split <;> omega

def allR (xs : List Int) (lo hi : Int) : Bool := xs.all fun x => inR x lo hi
theorem allR_mem {xs : List Int} {lo hi : Int} (h : allR xs lo hi = true) : ∀ x ∈ xs, lo ≤ x ∧ x ≤ hi := fun x hx => inR_true (List.all_eq_true.1 h x hx)
theorem drop_get (xs : List Int) (i : Nat) (hi : i < xs.length) : xs.drop i = xs[i] :: xs.drop (i + 1) := List.drop_eq_getElem_cons hi
theorem rd_get (xs : List Int) (i : Nat) (hi : i < xs.length) : rd xs (i : Int) = xs[i] := by rw [rd_nat, List.getD_eq_getElem?_getD, List.getElem?_eq_getElem hi]; rfl
/-- The sum, as the program adds it up. -/
def wsum (a : Int) (xs : List Int) : Int := xs.foldl (fun a x => wrap64 (a + x)) a
theorem wsum_cons (a x : Int) (xs : List Int) : wsum a (x :: xs) = wsum (wrap64 (a + x)) xs := rfl
theorem wsum_eq : ∀ (xs : List Int) (a : Int), (∀ x ∈ xs, 0 ≤ x ∧ x ≤ 1000000) → 0 ≤ a → a + xs.length * 1000000 ≤ 4611686018427387904 → wsum a xs = a + xs.sum ∧ 0 ≤ xs.sum ∧ xs.sum ≤ xs.length * 1000000
  | [], a, _, h0, _ => ⟨by simp [wsum], by simp, by simp⟩
  | x :: xs, a, h, h0, hb => by
    have hx := h x (by simp)
    simp only [List.length_cons] at hb ⊢
    obtain ⟨e, l, u⟩ := wsum_eq xs (a + x) (fun y hy => h y (by simp [hy])) (by omega) (by omega)
    rw [wsum_cons, w64 (by omega) (by omega), e, List.sum_cons]
    exact ⟨by omega, by omega, by omega⟩

def gang (slots : Int) (q : List Int) : Bool := inR slots 1 32 && (inR (q.length : Int) 1 (min 6 slots) && allR q 1 1000000)
theorem gang_true {slots : Int} {q : List Int} (h : gang slots q = true) : (1 ≤ slots ∧ slots ≤ 32) ∧ (1 ≤ q.length ∧ q.length ≤ 6 ∧ (q.length : Int) ≤ slots) ∧ ∀ x ∈ q, 1 ≤ x ∧ x ≤ 1000000 := by
  simp only [gang, Bool.and_eq_true] at h
  have h2 := inR_true h.2.1
  exact ⟨inR_true h.1, by omega, allR_mem h.2.2⟩
/-- The run of ups. -/
def runM : List Int → List Int → Int → Int
  | q :: qs, u :: us, r => runM qs us (max r ((q + u - 1) / u))
  | _, _, r => r
def upsOk (slots : Int) (q u : List Int) : Bool := decide (u.length = q.length) && (allR u 1 slots && decide (wsum 0 u ≤ slots))
def upsCode (slots : Int) (q u : List Int) : Int := if gang slots q = true then (if upsOk slots q u = true then 0 else 2) else 1
def runFor (slots : Int) (q u : List Int) : Int × Int := if upsCode slots q u = 0 then (runM q u 0, 0) else (0, upsCode slots q u)
theorem upsCode_ok {slots : Int} {q u : List Int} (e : upsCode slots q u = 0) : gang slots q = true ∧ u.length = q.length ∧ (∀ x ∈ u, 1 ≤ x ∧ x ≤ slots) ∧ wsum 0 u ≤ slots := by
  unfold upsCode at e
  cases hg : gang slots q
  · simp [hg] at e
  · cases hu : upsOk slots q u
    · simp [hg, hu] at e
    · simp only [upsOk, Bool.and_eq_true, decide_eq_true_eq] at hu
      exact ⟨rfl, hu.1, allR_mem hu.2.1, hu.2.2⟩
theorem ceil_bd {q u : Int} (hq : 1 ≤ q ∧ q ≤ 1000000) (hu : 1 ≤ u ∧ u ≤ 1000000) : 1 ≤ (q + u - 1) / u ∧ (q + u - 1) / u ≤ q := by
  have h1 : (q + u - 1) / u = (q - 1) / u + 1 := by
    rw [show q + u - 1 = (q - 1) + 1 * u by omega, Int.add_mul_ediv_right _ _ (by omega)]
  have h2 : 0 ≤ (q - 1) / u := Int.ediv_nonneg (by omega) (by omega)
  have h3 : (q - 1) / u ≤ q - 1 := Int.ediv_le_self _ (by omega)
  omega
/-- The least ups of a run. -/
def upsM (q : List Int) (run : Int) : List Int := q.map fun x => (x + run - 1) / run
def upsFor (slots : Int) (q : List Int) (run : Int) : List Int × Int :=
  if gang slots q = true then (if inR run 1 1000000 = true then (if wsum 0 (upsM q run) > slots then ([], 4) else (upsM q run, 0)) else ([], 2)) else ([], 1)

def IsLeast (p : Int → Bool) (r : Int) : Prop := 1 ≤ r ∧ p r = true ∧ ∀ x, 1 ≤ x → x < r → p x = false
/-- The first r from s on with p, among d numbers. -/
def up (p : Int → Bool) : Nat → Int → Int
  | 0, r => r
  | d + 1, r => if p r = true then r else up p d (r + 1)
theorem up_least {p : Int → Bool} {r : Int} (h : IsLeast p r) : ∀ (d : Nat) (s : Int), 1 ≤ s → s ≤ r → r - s ≤ d → up p d s = r := by
  intro d
  induction d with
  | zero => intro s h0 h1 h2; rw [up]; omega
  | succ d ih =>
    intro s h0 h1 h2
    rw [up]
    by_cases e : s = r
    · rw [e, if_pos h.2.1]
    · rw [if_neg (by rw [h.2.2 s h0 (by omega)]; simp)]
      exact ih (s + 1) (by omega) (by omega) (by omega)
/-- 'The run r is enough.' -/
def enough (slots : Int) (q : List Int) (r : Int) : Bool := decide (wsum 0 (upsM q r) ≤ slots)
def leastM (slots : Int) (q : List Int) : Int := up (enough slots q) 1000000 1
/-- What the least run is asked of. -/
def fits (slots : Int) (q : List Int) : Prop := (q.length : Int) ≤ slots ∧ q.length ≤ 6 ∧ ∀ x ∈ q, 1 ≤ x ∧ x ≤ 1000000
theorem ceil_anti {q r s : Int} (hq : 1 ≤ q) (hr : 1 ≤ r) (h : r ≤ s) : (q + s - 1) / s ≤ (q + r - 1) / r := by
  have e1 : (q + s - 1) / s = (q - 1) / s + 1 := by rw [show q + s - 1 = (q - 1) + 1 * s by omega, Int.add_mul_ediv_right _ _ (by omega)]
  have e2 : (q + r - 1) / r = (q - 1) / r + 1 := by rw [show q + r - 1 = (q - 1) + 1 * r by omega, Int.add_mul_ediv_right _ _ (by omega)]
  have h0 : 0 ≤ (q - 1) / s := Int.ediv_nonneg (by omega) (by omega)
  have h1 : (q - 1) / s * s ≤ q - 1 := Int.ediv_mul_le _ (by omega)
  have h2 : (q - 1) / s * r ≤ (q - 1) / s * s := Int.mul_le_mul_of_nonneg_left h h0
  have h3 : (q - 1) / s ≤ (q - 1) / r := Int.le_ediv_of_mul_le (by omega) (by omega)
  omega
theorem upsM_sum_anti {r s : Int} (hr : 1 ≤ r) (h : r ≤ s) : ∀ q : List Int, (∀ x ∈ q, 1 ≤ x ∧ x ≤ 1000000) → (upsM q s).sum ≤ (upsM q r).sum
  | [], _ => by simp [upsM]
  | x :: xs, hq => by
    have h1 := upsM_sum_anti hr h xs (fun y hy => hq y (by simp [hy]))
    have h2 := ceil_anti (hq x (by simp)).1 hr h
    unfold upsM at h1 ⊢
    rw [List.map_cons, List.map_cons, List.sum_cons, List.sum_cons]
    omega
theorem upsM_mem {q : List Int} {r : Int} (hq : ∀ x ∈ q, 1 ≤ x ∧ x ≤ 1000000) (hr : 1 ≤ r ∧ r ≤ 1000000) : ∀ y ∈ upsM q r, 1 ≤ y ∧ y ≤ 1000000 := by
  intro y hy
  obtain ⟨x, hx, rfl⟩ := List.mem_map.1 hy
  have h1 := hq x hx
  have h2 := ceil_bd h1 hr
  omega
theorem wsum_upsM {q : List Int} {r : Int} (hl : q.length ≤ 6) (hq : ∀ x ∈ q, 1 ≤ x ∧ x ≤ 1000000) (hr : 1 ≤ r ∧ r ≤ 1000000) : wsum 0 (upsM q r) = (upsM q r).sum := by
  have e : (upsM q r).length = q.length := by simp [upsM]
  have := (wsum_eq (upsM q r) 0 (fun y hy => by have := upsM_mem hq hr y hy; omega) (by omega) (by rw [e]; omega)).1
  omega
theorem enough_mono {slots : Int} {q : List Int} (hf : fits slots q) {r s : Int} (hr : 1 ≤ r) (h : r ≤ s) (hs : s ≤ 1000000) (he : enough slots q r = true) : enough slots q s = true := by
  unfold enough at he ⊢
  rw [wsum_upsM hf.2.1 hf.2.2 ⟨hr, by omega⟩, decide_eq_true_eq] at he
  rw [wsum_upsM hf.2.1 hf.2.2 ⟨by omega, hs⟩, decide_eq_true_eq]
  have := upsM_sum_anti hr h q hf.2.2
  omega
theorem upsM_ones {r : Int} : ∀ q : List Int, (∀ x ∈ q, 1 ≤ x ∧ x ≤ r) → (upsM q r).sum = q.length
  | [], _ => by simp [upsM]
  | x :: xs, hq => by
    have h1 := upsM_ones xs (fun y hy => hq y (by simp [hy]))
    have h2 := hq x (by simp)
    have e : (x + r - 1) / r = 1 := by rw [show x + r - 1 = (x - 1) + 1 * r by omega, Int.add_mul_ediv_right _ _ (by omega), Int.ediv_eq_zero_of_lt (by omega) (by omega)]; rfl
    unfold upsM at h1 ⊢
    rw [List.map_cons, List.sum_cons, List.length_cons, e, h1]
    omega
theorem enough_top {slots : Int} {q : List Int} (hf : fits slots q) {r : Int} (hr : 1 ≤ r ∧ r ≤ 1000000) (hq : ∀ x ∈ q, x ≤ r) : enough slots q r = true := by
  unfold enough
  rw [wsum_upsM hf.2.1 hf.2.2 hr, upsM_ones q (fun x hx => ⟨(hf.2.2 x hx).1, hq x hx⟩)]
  exact decide_eq_true hf.1
/-- The state of a search by halves. -/
def Halves (slots : Int) (q : List Int) (lo hi : Int) : Prop := 1 ≤ lo ∧ lo ≤ hi ∧ hi ≤ 1000000 ∧ enough slots q hi = true ∧ ∀ x, 1 ≤ x → x < lo → enough slots q x = false
theorem Halves.done {slots : Int} {q : List Int} {lo hi : Int} (h : Halves slots q lo hi) (e : ¬ lo < hi) : leastM slots q = lo := by
  obtain ⟨h1, h2, h3, h4, h5⟩ := h
  have e2 : lo = hi := by omega
  subst e2
  exact up_least ⟨h1, h4, h5⟩ 1000000 1 (by omega) h1 (by omega)
theorem Halves.left {slots : Int} {q : List Int} {lo hi : Int} (h : Halves slots q lo hi) (e : lo < hi) (he : enough slots q ((lo + hi) / 2) = true) : Halves slots q lo ((lo + hi) / 2) := by
  obtain ⟨h1, h2, h3, h4, h5⟩ := h
  exact ⟨h1, by omega, by omega, he, h5⟩
theorem Halves.right {slots : Int} {q : List Int} {lo hi : Int} (hf : fits slots q) (h : Halves slots q lo hi) (e : lo < hi) (he : enough slots q ((lo + hi) / 2) = false) : Halves slots q ((lo + hi) / 2 + 1) hi := by
  obtain ⟨h1, h2, h3, h4, h5⟩ := h
  refine ⟨by omega, by omega, h3, h4, fun x hx hlt => ?_⟩
  cases hc : enough slots q x
  · rfl
  · have := enough_mono hf hx (show x ≤ (lo + hi) / 2 by omega) (by omega) hc
    rw [this] at he
    cases he
theorem Halves.start {slots : Int} {q : List Int} (hf : fits slots q) {hi : Int} (hr : 1 ≤ hi ∧ hi ≤ 1000000) (hq : ∀ x ∈ q, x ≤ hi) : Halves slots q 1 hi :=
  ⟨by omega, hr.1, hr.2, enough_top hf hr hq, fun x h1 h2 => by omega⟩
theorem leastM_least {slots : Int} {q : List Int} (hf : fits slots q) : IsLeast (enough slots q) (leastM slots q) ∧ leastM slots q ≤ 1000000 := by
  have key : ∀ (d : Nat) (s : Int), 1 ≤ s → s + d = 1000001 → (∀ x, 1 ≤ x → x < s → enough slots q x = false) → 0 < d → IsLeast (enough slots q) (up (enough slots q) d s) ∧ up (enough slots q) d s ≤ 1000000 := by
    intro d
    induction d with
    | zero => intro s _ _ _ h; omega
    | succ d ih =>
      intro s h1 h2 h3 _
      rw [up]
      cases hc : enough slots q s
      · rw [if_neg (by simp)]
        by_cases hd : 0 < d
        · exact ih (s + 1) (by omega) (by omega) (fun x hx hlt => by
            by_cases e : x = s
            · rw [e]; exact hc
            · exact h3 x hx (by omega)) hd
        · have e : s = 1000000 := by omega
          have := enough_top hf (r := 1000000) (by omega) (fun x hx => (hf.2.2 x hx).2)
          rw [e, this] at hc
          cases hc
      · rw [if_pos rfl]
        exact ⟨⟨h1, hc, h3⟩, by omega⟩
  exact key 1000000 1 (by omega) (by omega) (fun x h1 h2 => by omega) (by omega)
theorem gang_fits {slots : Int} {q : List Int} (h : gang slots q = true) : fits slots q := by
  obtain ⟨h1, h2, h3⟩ := gang_true h
  exact ⟨h2.2.2, h2.2.1, h3⟩
def leastRun (slots : Int) (q : List Int) : Int × Int := if gang slots q = true then (leastM slots q, 0) else (0, 1)
def bestUps (slots : Int) (q : List Int) : List Int × Int := if gang slots q = true then (upsM q (leastM slots q), 0) else ([], 1)

def rises : List Int → Bool
  | a :: b :: l => decide (a < b) && rises (b :: l)
  | _ => true
def firstOk (q first : List Int) : Bool := decide (first ≠ []) && (decide (rd first 0 = 0) && (allR first 0 ((q.length : Int) - 1) && rises first))
theorem firstOk_true {q first : List Int} (h : firstOk q first = true) : first ≠ [] ∧ rd first 0 = 0 ∧ (∀ x ∈ first, 0 ≤ x ∧ x ≤ (q.length : Int) - 1) ∧ rises first = true := by
  simp only [firstOk, Bool.and_eq_true, decide_eq_true_eq] at h
  exact ⟨h.1, h.2.1, allR_mem h.2.2.1, h.2.2.2⟩
/-- The jobs of the first form, and those of the second one. -/
def partIn (first : List Int) : List Int → Int → List Int
  | [], _ => []
  | x :: xs, i => if first.contains i = true then x :: partIn first xs (i + 1) else partIn first xs (i + 1)
def partOut (first : List Int) : List Int → Int → List Int
  | [], _ => []
  | x :: xs, i => if first.contains i = true then partOut first xs (i + 1) else x :: partOut first xs (i + 1)
theorem partIn_len (first : List Int) : ∀ (xs : List Int) (i : Int), (partIn first xs i).length ≤ xs.length ∧ ∀ y ∈ partIn first xs i, y ∈ xs
  | [], i => by simp [partIn]
  | x :: xs, i => by
    have h := partIn_len first xs (i + 1)
    rw [partIn]
    split
    · simp only [List.length_cons, List.mem_cons]
      exact ⟨by omega, fun y hy => hy.elim .inl (fun hy => .inr (h.2 y hy))⟩
    · simp only [List.length_cons, List.mem_cons]
      exact ⟨by omega, fun y hy => .inr (h.2 y hy)⟩
theorem partOut_len (first : List Int) : ∀ (xs : List Int) (i : Int), (partOut first xs i).length ≤ xs.length ∧ ∀ y ∈ partOut first xs i, y ∈ xs
  | [], i => by simp [partOut]
  | x :: xs, i => by
    have h := partOut_len first xs (i + 1)
    rw [partOut]
    split
    · simp only [List.length_cons, List.mem_cons]
      exact ⟨by omega, fun y hy => .inr (h.2 y hy)⟩
    · simp only [List.length_cons, List.mem_cons]
      exact ⟨by omega, fun y hy => hy.elim .inl (fun hy => .inr (h.2 y hy))⟩
theorem partIn_fits {slots : Int} {q : List Int} (hf : fits slots q) (first : List Int) (i : Int) : fits slots (partIn first q i) := by
  have h := partIn_len first q i
  exact ⟨by have := hf.1; omega, by have := hf.2.1; omega, fun x hx => hf.2.2 x (h.2 x hx)⟩
theorem partOut_fits {slots : Int} {q : List Int} (hf : fits slots q) (first : List Int) (i : Int) : fits slots (partOut first q i) := by
  have h := partOut_len first q i
  exact ⟨by have := hf.1; omega, by have := hf.2.1; omega, fun x hx => hf.2.2 x (h.2 x hx)⟩
def costF (slots : Int) (ins outs : List Int) (setup : Int) : Int := leastM slots ins + setup + (if outs = [] then 0 else leastM slots outs + setup)
def costM (slots : Int) (q first : List Int) (setup : Int) : Int := costF slots (partIn first q 0) (partOut first q 0) setup
theorem costM_bd {slots : Int} {q : List Int} (hf : fits slots q) (first : List Int) {setup : Int} (hs : 0 ≤ setup ∧ setup ≤ 1000000) : 0 ≤ costM slots q first setup ∧ costM slots q first setup ≤ 4000000 := by
  have h1 := leastM_least (partIn_fits hf first 0)
  have h2 := leastM_least (partOut_fits hf first 0)
  have e1 := h1.1.1
  have e2 := h2.1.1
  unfold costM costF
  split <;> omega
def dividedCost (slots : Int) (q first : List Int) (setup : Int) : Int × Int :=
  if gang slots q = true then (if (firstOk q first && inR setup 0 1000000) = true then (costM slots q first setup, 0) else (0, 2)) else (0, 1)
theorem rises_lt : ∀ (l : List Int) (a : Int), rises (a :: l) = true → ∀ x ∈ l, a < x
  | [], a, _ => by simp
  | b :: l, a, h => by
    simp only [rises, Bool.and_eq_true, decide_eq_true_eq] at h
    intro x hx
    rcases List.mem_cons.1 hx with rfl | hx
    · exact h.1
    · have := rises_lt l b h.2 x hx
      omega
theorem rises_tail (a : Int) (l : List Int) (h : rises (a :: l) = true) : rises l = true := by
  cases l with
  | nil => rfl
  | cons b l =>
    simp only [rises, Bool.and_eq_true] at h
    exact h.2
theorem rises_len : ∀ (l : List Int) (lo hi : Int), rises l = true → (∀ x ∈ l, lo ≤ x ∧ x ≤ hi) → l ≠ [] → (l.length : Int) ≤ hi - lo + 1
  | [], _, _, _, _, h => absurd rfl h
  | [a], lo, hi, _, h, _ => by have := h a (by simp); simp only [List.length_cons, List.length_nil]; omega
  | a :: b :: l, lo, hi, hr, h, _ => by
    have h0 := h a (by simp)
    have h1 := rises_lt (b :: l) a hr
    have := rises_len (b :: l) (lo + 1) hi (rises_tail a (b :: l) hr) (fun x hx => by
      have := h1 x hx
      have := h x (by simp only [List.mem_cons] at hx ⊢; exact .inr hx)
      omega) (by simp)
    simp only [List.length_cons] at this ⊢
    omega
theorem firstOk_len {slots : Int} {q first : List Int} (hg : gang slots q = true) (h : firstOk q first = true) : first.length ≤ 6 := by
  obtain ⟨h1, h2, h3, h4⟩ := firstOk_true h
  have := rises_len first 0 _ h4 h3 h1
  have := (gang_true hg).2.1
  omega
theorem firstOk_has {q first : List Int} (h : firstOk q first = true) : first.contains 0 = true := by
  obtain ⟨h1, h2, h3, h4⟩ := firstOk_true h
  cases first with
  | nil => exact absurd rfl h1
  | cons a l =>
    have e : rd (a :: l) 0 = a := rfl
    rw [e] at h2
    subst h2
    simp
theorem partIn_ne {q first : List Int} (h : firstOk q first = true) (hq : 1 ≤ q.length) : 1 ≤ (partIn first q 0).length := by
  cases q with
  | nil => simp at hq
  | cons x xs =>
    rw [partIn, if_pos (firstOk_has h)]
    simp
theorem rises_drop (l : List Int) (i : Nat) (h : i + 1 < l.length) : rises (l.drop i) = (decide (l[i]'(by omega) < l[i + 1]) && rises (l.drop (i + 1))) := by
  rw [drop_get l i (by omega), drop_get l (i + 1) h, rises]
theorem rises_end (l : List Int) (i : Nat) (h : l.length ≤ i + 1) : rises (l.drop i) = true := by
  by_cases e : i < l.length
  · rw [drop_get l i e, List.drop_of_length_le (by omega)]
    rfl
  · rw [List.drop_of_length_le (by omega)]
    rfl

def isUnit (u : Int) : Bool := u == 4 || u == 8 || u == 16 || u == 32 || u == 64 || u == 128
theorem isUnit_true {u : Int} (h : isUnit u = true) : u = 4 ∨ u = 8 ∨ u = 16 ∨ u = 32 ∨ u = 64 ∨ u = 128 := by
  simp only [isUnit, Bool.or_eq_true, beq_iff_eq] at h
  omega
def sigOf (p u g : Int) : Int × Int × Int := if (inR p 1 4096 && isUnit u && inR g 1 p) = true then ((g - 1) / u, (g - 1) % u + 1, 0) else (0, 0, 2)
def sigCount (p u : Int) : Int × Int := if (inR p 1 4096 && isUnit u) = true then ((p + u - 1) / u, 0) else (0, 2)
def four (n k : Int) : List Int := [4 * n - 2 * k, 2 * k + 1, 2 * k + 2, 4 * n - 2 * k - 1]
def nestedPages (n k : Int) : List Int × Int := if (inR n 1 64 && inR k 0 (n - 1)) = true then (four n k, 0) else ([], 2)
def sheetOf (n p : Int) : Int := (min p (4 * n + 1 - p) - 1) / 2
def placeIn (n k p : Int) : Int := if 4 * n - 2 * k = p then 0 else if 2 * k + 1 = p then 1 else if 2 * k + 2 = p then 2 else 3
def nestedPlace (n p : Int) : Int × Int × Int := if (inR n 1 64 && inR p 1 (4 * n)) = true then (sheetOf n p, placeIn n (sheetOf n p) p, 0) else (0, 0, 2)
theorem unit_bits (a : Int) (h1 : 4 ≤ a) (h2 : a ≤ 128) : ((Go.bits .and .i64 a (wrap64 (a - 1))) == 0) = isUnit a := by
  obtain ⟨n, rfl⟩ : ∃ n : Nat, a = n := ⟨a.toNat, by omega⟩
  have h : ∀ n : Nat, n < 129 → 4 ≤ n → ((Go.bits .and .i64 (n : Int) (wrap64 ((n : Int) - 1))) == 0) = isUnit n := by decide +kernel
  exact h n (by omega) (by omega)
theorem sig_wrap {p u g : Int} (hp : inR p 1 4096 = true) (hu : isUnit u = true) (hg : inR g 1 p = true) : wrap64 (Int.tdiv (wrap64 (g - 1)) u) = (g - 1) / u ∧ wrap64 (Int.tmod (wrap64 (g - 1)) u + 1) = (g - 1) % u + 1 := by
  have h1 := inR_true hp
  have h2 := isUnit_true hu
  have h3 := inR_true hg
  rw [w64 (x := g - 1) (by omega) (by omega), tdiv_n (by omega), tmod_n (by omega)]
  rcases h2 with rfl | rfl | rfl | rfl | rfl | rfl <;> exact ⟨w64 (by omega) (by omega), w64 (by omega) (by omega)⟩

def okU (p : Int) (us : List Int) : Bool := inR p 1 4096 && (decide (us ≠ []) && (us.all isUnit && rises us))
theorem okU_true {p : Int} {us : List Int} (h : okU p us = true) : inR p 1 4096 = true ∧ us ≠ [] ∧ (∀ u ∈ us, isUnit u = true) ∧ rises us = true := by
  simp only [okU, Bool.and_eq_true, decide_eq_true_eq, List.all_eq_true] at h
  exact ⟨h.1, h.2.1, h.2.2.1, h.2.2.2⟩
def padU (p u : Int) : Int := (p + u - 1) / u * u
def bestUnits (p : Int) (us : List Int) : List Int × Int := if okU p us = true then ((HandU.bu us (padU p (rd us 0))).1, 0) else ([], 2)
theorem bestUnits_len (p : Int) (us : List Int) : (bestUnits p us).1.length ≤ us.length := by
  unfold bestUnits
  split
  · simp only; rw [HandU.bu_len]; omega
  · simp
theorem padU_bd {p u : Int} (hp : inR p 1 4096 = true) (hu : isUnit u = true) : p ≤ padU p u ∧ padU p u - p < u ∧ padU p u ≤ 4224 ∧ padU p u % u = 0 := by
  have h1 := inR_true hp
  have h2 := isUnit_true hu
  unfold padU
  refine ⟨?_, ?_, ?_, Int.mul_emod_left _ _⟩ <;> rcases h2 with rfl | rfl | rfl | rfl | rfl | rfl <;> omega
theorem rd0_mem {us : List Int} (h : us ≠ []) : rd us 0 ∈ us := by
  cases us with
  | nil => exact absurd rfl h
  | cons u us => exact List.mem_cons_self

theorem spec_l01Ceil_eq (a b : Int) (h0 : 0 ≤ a) (h1 : a ≤ 4611686018427387904) (k0 : 1 ≤ b) (k1 : b ≤ 4611686018427387903) : spec_l01Ceil.f a b = some ((a + b - 1) / b) := by
  unfold spec_l01Ceil.f
  have h3 : 0 ≤ (a + b - 1) / b := Int.ediv_nonneg (by omega) (by omega)
  have h4 : (a + b - 1) / b ≤ a + b - 1 := Int.ediv_le_self _ (by omega)
  rw [if_neg (by omega), w64 (x := a + b) (by omega) (by omega), w64 (x := a + b - 1) (by omega) (by omega), tdiv_n (by omega), w64 (by omega) (by omega)]

theorem spec_l01In_eq (a b c : Int) : spec_l01In.f a b c = some (inR a b c) := by
  unfold spec_l01In.f inR
  by_cases h : a ≥ b
  · rw [if_pos h]; simp [show b ≤ a from h]
  · rw [if_neg h]; simp [show ¬ b ≤ a from h]

theorem spec_l01Rises_l0 (l : List Int) (hl : l.length ≤ 1048576) : ∀ (d k i : Nat), l.length ≤ i + 1 + d → d < k → spec_l01Rises.l0 k l ((i : Int) + 1) = some (rises (l.drop i)) := by
  intro d
  induction d with
  | zero =>
    intro k i h hk
    obtain ⟨k, rfl⟩ : ∃ m, k = m + 1 := ⟨k - 1, by omega⟩
    rw [spec_l01Rises.l0, if_neg (by omega), rises_end l i (by omega)]
  | succ d ih =>
    intro k i h hk
    obtain ⟨k, rfl⟩ : ∃ m, k = m + 1 := ⟨k - 1, by omega⟩
    by_cases e : i + 1 < l.length
    · have h0 : i < l.length := by omega
      have e1 : rd l ((i : Int) + 1) = l[i + 1] := rd_get l (i + 1) e
      rw [spec_l01Rises.l0, if_pos (by omega), if_pos (by omega), w64 (x := (i : Int) + 1 - 1) (by omega) (by omega), show (i : Int) + 1 - 1 = (i : Int) by omega, if_pos (by omega), if_pos (by omega), rd_get l i h0, e1, w64 (x := (i : Int) + 1 + 1) (by omega) (by omega), rises_drop l i e]
      by_cases c : l[i + 1] ≤ l[i]
      · rw [if_pos c, decide_eq_false (by omega), Bool.false_and]
      · rw [if_neg c, decide_eq_true (by omega), Bool.true_and]
        exact ih k (i + 1) (by omega) (by omega)
    · rw [spec_l01Rises.l0, if_neg (by omega), rises_end l i (by omega)]
theorem spec_l01Rises_eq (l : List Int) (k : Nat) (hl : l.length ≤ 1048576) (hk : l.length < k) : spec_l01Rises.f k l = some (rises l) := by
  unfold spec_l01Rises.f
  exact spec_l01Rises_l0 l hl l.length k 0 (by omega) hk

theorem spec_l01Has_l0 (xs : List Int) (x : Int) (hl : xs.length ≤ 9223372036854775806) : ∀ (d k i : Nat), i + d = xs.length → d < k → spec_l01Has.l0 k xs x (i : Int) = some ((xs.drop i).contains x) := by
  intro d
  induction d with
  | zero =>
    intro k i h hk
    obtain ⟨k, rfl⟩ : ∃ m, k = m + 1 := ⟨k - 1, by omega⟩
    rw [spec_l01Has.l0, if_neg (by omega), List.drop_of_length_le (by omega)]
    rfl
  | succ d ih =>
    intro k i h hk
    obtain ⟨k, rfl⟩ : ∃ m, k = m + 1 := ⟨k - 1, by omega⟩
    have hi : i < xs.length := by omega
    have e : xs.drop i = xs[i] :: xs.drop (i + 1) := List.drop_eq_getElem_cons hi
    have e2 : xs.getD i 0 = xs[i] := by simp [List.getD_eq_getElem?_getD, List.getElem?_eq_getElem hi]
    have e3 := ih k (i + 1) (by omega) (by omega)
    rw [spec_l01Has.l0, if_pos (by omega), if_pos (by omega), rd_nat, e2, e, List.contains_cons]
    by_cases hx : xs[i] = x
    · rw [if_pos hx]; simp [hx]
    · rw [if_neg hx, w64 (by omega) (by omega)]
      have e4 : (x == xs[i]) = false := beq_eq_false_iff_ne.mpr (fun h => hx h.symm)
      rw [e4, Bool.false_or]
      exact e3
theorem spec_l01Has_eq (xs : List Int) (x : Int) (k : Nat) (hl : xs.length ≤ 9223372036854775806) (hk : xs.length < k) : spec_l01Has.f k xs x = some (xs.contains x) := by
  unfold spec_l01Has.f
  exact spec_l01Has_l0 xs x hl xs.length k 0 (by omega) hk

theorem spec_IsUnit_eq (k : Nat) (a : Int) (hk : 6 < k) : spec_IsUnit.f k a = some (isUnit a) := by
  unfold spec_IsUnit.f
  rw [spec_l01Has_eq _ _ _ (by show (6 : Nat) ≤ 9223372036854775806; omega) (by show (6 : Nat) < k; omega)]
  simp only [Option.bind_some, isUnit, List.contains_cons, List.contains_nil, Bool.or_false, Bool.or_assoc]

theorem spec_BestUnits_l1 (us : List Int) (left : Int) (hl : us.length ≤ 1048576) (hu : ∀ u ∈ us, isUnit u = true) : ∀ (m k : Nat), m ≤ us.length → m < k →
    spec_BestUnits.l1 k us (HandU.bu (us.drop m) left).2 (List.replicate m 0 ++ (HandU.bu (us.drop m) left).1) ((m : Int) - 1) = some ((HandU.bu us left).1, 0) := by
  intro m
  induction m with
  | zero =>
    intro k hm hk
    obtain ⟨k, rfl⟩ : ∃ n, k = n + 1 := ⟨k - 1, by omega⟩
    rw [spec_BestUnits.l1, if_neg (by omega), List.drop_zero]
    rfl
  | succ m ih =>
    intro k hm hk
    obtain ⟨k, rfl⟩ : ∃ n, k = n + 1 := ⟨k - 1, by omega⟩
    have hlt : m < us.length := by omega
    have hum := isUnit_true (hu us[m] (List.getElem_mem hlt))
    have next := ih k (by omega) (by omega)
    rw [drop_get us m hlt, HandU.bu] at next
    rw [show ((m + 1 : Nat) : Int) - 1 = (m : Int) by omega, spec_BestUnits.l1, if_pos (by omega), if_pos (by omega), if_pos (by omega), rd_get us m hlt, if_neg (by omega), if_pos (by rw [List.length_append, List.length_replicate]; omega), Int.toNat_natCast, HandU.set_rep, w64 (x := (m : Int) - 1) (by omega) (by omega)]
    exact next
theorem spec_BestUnits_l0 (p : Int) (us : List Int) (hp : inR p 1 4096 = true) (hne : us ≠ []) (hl : us.length ≤ 1048576) : ∀ (d k i : Nat), i + d = us.length → d + us.length + 20 < k → (∀ (j : Nat) (h : j < us.length), j < i → isUnit us[j] = true) →
    spec_BestUnits.l0 k p us (i : Int) = some (if (us.drop i).all isUnit = true then ((HandU.bu us (padU p (rd us 0))).1, 0) else ([], 2)) := by
  have hpos : 0 < us.length := List.length_pos_iff.2 hne
  have h1 := inR_true hp
  intro d
  induction d with
  | zero =>
    intro k i hi hk hu
    obtain ⟨k, rfl⟩ : ∃ m, k = m + 1 := ⟨k - 1, by omega⟩
    have hall : ∀ u ∈ us, isUnit u = true := fun u hm => by
      obtain ⟨j, hj, rfl⟩ := List.getElem_of_mem hm
      exact hu j hj (by omega)
    have h0 := hall _ (rd0_mem hne)
    have h2 := isUnit_true h0
    have h3 := padU_bd hp h0
    unfold padU at h3
    have e := spec_BestUnits_l1 us (padU p (rd us 0)) hl hall us.length k (Nat.le_refl _) (by omega)
    rw [List.drop_length, HandU.bu, List.append_nil] at e
    rw [spec_BestUnits.l0, if_neg (by omega), if_pos (by omega), spec_l01Ceil_eq p (rd us 0) (by omega) (by omega) (by omega) (by omega)]
    simp only [Option.bind_some]
    rw [if_pos (by omega), if_pos (by rw [Int.toNat_natCast]; omega), Int.toNat_natCast, w64 (x := (p + rd us 0 - 1) / rd us 0 * rd us 0) (by omega) (by omega), w64 (x := (us.length : Int) - 1) (by omega) (by omega), List.drop_of_length_le (by omega)]
    exact e
  | succ d ih =>
    intro k i hi hk hu
    obtain ⟨k, rfl⟩ : ∃ m, k = m + 1 := ⟨k - 1, by omega⟩
    have hlt : i < us.length := by omega
    rw [spec_BestUnits.l0, if_pos (by omega), if_pos (by omega), rd_get us i hlt, spec_IsUnit_eq k _ (by omega), w64 (x := (i : Int) + 1) (by omega) (by omega)]
    simp only [Option.bind_some]
    rw [drop_get us i hlt, List.all_cons]
    by_cases c : isUnit us[i] = true
    · have next := ih k (i + 1) (by omega) (by omega) (fun j h hj => by
        by_cases e : j = i
        · subst e; exact c
        · exact hu j h (by omega))
      rw [show ((i + 1 : Nat) : Int) = (i : Int) + 1 by omega] at next
      rw [if_pos c, c, Bool.true_and]
      exact next
    · rw [if_neg c, Bool.eq_false_iff.2 c, Bool.false_and]
      rfl
theorem spec_BestUnits_eq (p : Int) (us : List Int) (k : Nat) (hl : us.length ≤ 1048576) (hk : 2 * us.length + 30 < k) : spec_BestUnits.f k p us = some (bestUnits p us) := by
  obtain ⟨k, rfl⟩ : ∃ m, k = m + 1 := ⟨k - 1, by omega⟩
  unfold spec_BestUnits.f bestUnits okU
  rw [spec_l01In_eq]
  simp only [Option.bind_some]
  by_cases hp : inR p 1 4096 = true
  · rw [if_pos hp, hp, Bool.true_and]
    by_cases hne : us = []
    · subst hne
      simp [spec_BestUnits.j0]
    · rw [if_neg (by have := List.length_pos_iff.2 hne; omega), spec_l01Rises_eq us (k + 1) hl (by omega), decide_eq_true hne, Bool.true_and]
      simp only [Option.bind_some]
      rw [spec_BestUnits.j0]
      by_cases hr : rises us = true
      · have := spec_BestUnits_l0 p us hp hne hl us.length k 0 (by omega) (by omega) (fun j _ hj => absurd hj (by omega))
        rw [List.drop_zero] at this
        rw [hr, if_neg (by simp), Bool.and_true]
        exact this
      · rw [Bool.eq_false_iff.2 hr, if_pos (by rfl), Bool.and_false]
        rfl
  · rw [if_neg hp, Bool.eq_false_iff.2 hp, spec_BestUnits.j0, if_pos rfl, Bool.false_and]
    rfl

theorem laws_toInt64S_l0 (xs : List Int) (hl : xs.length ≤ 35184372088832) : ∀ (d k i : Nat) (ys : List Int), ys.length = xs.length → i + d = xs.length → (∀ j, j < i → ys[j]? = xs[j]?) → d < k → laws_toInt64S.l0 k xs ys (i : Int) = some xs := by
  intro d
  induction d with
  | zero =>
    intro k i ys hy h hj hk
    obtain ⟨k, rfl⟩ : ∃ m, k = m + 1 := ⟨k - 1, by omega⟩
    rw [laws_toInt64S.l0, if_neg (by omega)]
    congr 1
    apply List.ext_getElem?
    intro j
    by_cases h1 : j < i
    · exact hj j h1
    · rw [List.getElem?_eq_none (by omega), List.getElem?_eq_none (by omega)]
  | succ d ih =>
    intro k i ys hy h hj hk
    obtain ⟨k, rfl⟩ : ∃ m, k = m + 1 := ⟨k - 1, by omega⟩
    have hi : i < xs.length := by omega
    have e2 : rd xs (i : Int) = xs[i] := by rw [rd_nat, List.getD_eq_getElem?_getD, List.getElem?_eq_getElem hi]; rfl
    rw [laws_toInt64S.l0, if_pos (by omega), if_pos (by omega), if_pos (by omega), w64 (by omega) (by omega), Int.toNat_natCast, e2]
    refine ih k (i + 1) _ (by rw [List.length_set]; exact hy) (by omega) (fun j hlt => ?_) (by omega)
    by_cases e : j = i
    · subst e
      rw [List.getElem?_set_self (by omega), List.getElem?_eq_getElem hi]
    · rw [List.getElem?_set_ne (by omega)]
      exact hj j (by omega)
theorem laws_toInt64S_eq (xs : List Int) (k : Nat) (hl : xs.length ≤ 35184372088832) (hk : xs.length < k) : laws_toInt64S.f k xs = some xs := by
  unfold laws_toInt64S.f
  rw [if_pos (by omega), if_pos (by omega)]
  exact laws_toInt64S_l0 xs hl xs.length k 0 _ (by simp) (by omega) (fun j hj => absurd hj (Nat.not_lt_zero _)) hk

theorem impl_inRange_eq (a b c : Int) : impl_inRange.f a b c = some (inR a b c) := by
  unfold impl_inRange.f inR
  by_cases h : b ≤ a
  · rw [if_pos h]; simp [h]
  · rw [if_neg h]; simp [h]

theorem impl_isPages_eq (a : Int) : impl_isPages.f a = some (inR a 1 4096) := by
  unfold impl_isPages.f; rw [impl_inRange_eq]; rfl

theorem impl_IsUnit_eq (a : Int) : impl_IsUnit.f a = some (isUnit a) := by
  unfold impl_IsUnit.f
  simp only [impl_inRange_eq, Option.bind_some]
  cases h : inR a 4 128
  · have := inR_false h
    have h2 : isUnit a = false := by
      cases h3 : isUnit a
      · rfl
      · have := isUnit_true h3; omega
    simp [h2]
  · have := inR_true h
    simp only [if_true]
    rw [unit_bits a (by omega) (by omega)]

theorem impl_padded_eq (p u : Int) (hp : inR p 1 4096 = true) (hu : isUnit u = true) : impl_padded.f p u = some ((p + u - 1) / u * u) := by
  have h1 := inR_true hp
  have h2 := isUnit_true hu
  unfold impl_padded.f
  rw [if_neg (by omega), w64 (x := p + u) (by omega) (by omega), w64 (x := p + u - 1) (by omega) (by omega), tdiv_n (by omega)]
  have h3 : 0 ≤ (p + u - 1) / u ∧ (p + u - 1) / u ≤ 4224 ∧ (p + u - 1) / u * u ≤ 4224 ∧ 0 ≤ (p + u - 1) / u * u := by
    rcases h2 with rfl | rfl | rfl | rfl | rfl | rfl <;> omega
  rw [w64 (x := (p + u - 1) / u) (by omega) (by omega), w64 (by omega) (by omega)]

theorem impl_BestUnits_l0 (p : Int) (us : List Int) (hp : inR p 1 4096 = true) (hne : us ≠ []) (hl : us.length ≤ 1048576) : ∀ (d k i : Nat), i + d = us.length → d < k → (∀ (j : Nat) (h : j < us.length), j < i → isUnit us[j] = true) →
    impl_BestUnits.l0 k p us us (us.length : Int) (i : Int) = some (if ((us.drop i).all isUnit && rises (us.drop (i - 1))) = true then ((HandU.bu us (padU p (rd us 0))).1, 0) else ([], 2)) := by
  have hpos : 0 < us.length := List.length_pos_iff.2 hne
  intro d
  induction d with
  | zero =>
    intro k i hi hk hu
    obtain ⟨k, rfl⟩ : ∃ m, k = m + 1 := ⟨k - 1, by omega⟩
    have hall : (us.all fun u_ => decide (1 ≤ u_)) = true := by
      simp only [List.all_eq_true, decide_eq_true_eq]
      intro x hx
      obtain ⟨j, hj, rfl⟩ := List.getElem_of_mem hx
      have := isUnit_true (hu j hj (by omega))
      omega
    have h0 : isUnit (rd us 0) = true := by
      have := hu 0 hpos (by omega)
      rwa [← rd_get us 0 hpos] at this
    rw [impl_BestUnits.l0, if_neg (by omega), if_pos (by omega), if_pos (by rw [Int.toNat_natCast]; omega), if_pos (by omega), if_pos hall, impl_padded_eq p _ hp h0]
    simp only [Option.bind_some]
    rw [List.drop_of_length_le (by omega), rises_end us (i - 1) (by omega)]
    rfl
  | succ d ih =>
    intro k i hi hk hu
    obtain ⟨k, rfl⟩ : ∃ m, k = m + 1 := ⟨k - 1, by omega⟩
    have hlt : i < us.length := by omega
    rw [impl_BestUnits.l0, if_pos (by omega), if_pos (by omega), if_pos (by omega), rd_get us i hlt, impl_IsUnit_eq, w64 (x := (i : Int) + 1) (by omega) (by omega)]
    simp only [Option.bind_some]
    rw [drop_get us i hlt, List.all_cons]
    by_cases c : isUnit us[i] = true
    · have hu' : ∀ (j : Nat) (h : j < us.length), j < i + 1 → isUnit us[j] = true := fun j h hj => by
        by_cases e : j = i
        · subst e; exact c
        · exact hu j h (by omega)
      have next := ih k (i + 1) (by omega) (by omega) hu'
      rw [show ((i + 1 : Nat) : Int) = (i : Int) + 1 by omega, Nat.add_sub_cancel] at next
      rw [if_pos c, c, Bool.true_and]
      by_cases z : i = 0
      · subst z
        rw [if_neg (by omega)]
        exact next
      · have hj : i - 1 < us.length := by omega
        have e1 : (i : Int) - 1 = ((i - 1 : Nat) : Int) := by omega
        have hr := rises_drop us (i - 1) (by omega)
        have e2 : i - 1 + 1 = i := by omega
        simp only [e2] at hr
        rw [if_pos (by omega), w64 (x := (i : Int) - 1) (by omega) (by omega), if_pos (by omega), if_pos (by omega), e1, rd_get us (i - 1) hj]
        by_cases g : us[i - 1] ≥ us[i]
        · rw [if_pos g, hr, decide_eq_false (by omega), Bool.false_and, Bool.and_false]
          rfl
        · rw [if_neg g, next, hr, decide_eq_true (by omega), Bool.true_and]
    · rw [if_neg c, Bool.eq_false_iff.2 c, Bool.false_and, Bool.false_and]
      rfl
theorem impl_BestUnits_eq (p : Int) (us : List Int) (k : Nat) (hl : us.length ≤ 1048576) (hk : us.length + 2 < k) : impl_BestUnits.f k p us = some (bestUnits p us) := by
  obtain ⟨k, rfl⟩ : ∃ m, k = m + 1 := ⟨k - 1, by omega⟩
  unfold impl_BestUnits.f bestUnits okU
  rw [impl_isPages_eq]
  simp only [Option.bind_some]
  by_cases hp : inR p 1 4096 = true
  · rw [if_pos hp, hp, Bool.true_and, impl_BestUnits.j0]
    by_cases hne : us = []
    · subst hne
      simp
    · have e : ((us.length : Int) == 0) = false := beq_eq_false_iff_ne.mpr (by have := List.length_pos_iff.2 hne; omega)
      rw [e, if_neg (by simp), decide_eq_true hne, Bool.true_and]
      have := impl_BestUnits_l0 p us hp hne hl us.length k 0 (by omega) (by omega) (fun j _ hj => absurd hj (by omega))
      rw [List.drop_zero] at this
      exact this
  · rw [if_neg hp, Bool.eq_false_iff.2 hp, impl_BestUnits.j0, if_pos rfl, Bool.false_and]
    rfl

theorem laws_eqInt64S_l0 (xs : List Int) (hl : xs.length ≤ 9223372036854775806) : ∀ (d k i : Nat), i + d = xs.length → d < k → laws_eqInt64S.l0 k xs xs (i : Int) = some true := by
  intro d
  induction d with
  | zero =>
    intro k i h hk
    obtain ⟨k, rfl⟩ : ∃ m, k = m + 1 := ⟨k - 1, by omega⟩
    rw [laws_eqInt64S.l0, if_neg (by omega)]
  | succ d ih =>
    intro k i h hk
    obtain ⟨k, rfl⟩ : ∃ m, k = m + 1 := ⟨k - 1, by omega⟩
    rw [laws_eqInt64S.l0, if_pos (by omega), if_pos (by omega), if_pos (by omega), if_pos rfl, w64 (by omega) (by omega)]
    exact ih k (i + 1) (by omega) (by omega)
theorem laws_eqInt64S_eq (xs : List Int) (k : Nat) (hl : xs.length ≤ 9223372036854775806) (hk : xs.length < k) : laws_eqInt64S.f k xs xs = some true := by
  unfold laws_eqInt64S.f
  rw [if_pos rfl]
  exact laws_eqInt64S_l0 xs hl xs.length k 0 (by omega) hk

theorem laws_markInt64S_l0 (n : Nat) (hn : n ≤ 9223372036854775806) : ∀ (d k i : Nat) (ys : List Int), ys.length = n → i + d = n → d < k →
    ∃ zs : List Int, laws_markInt64S.l0 k ys ((i : Int) + 1) (i : Int) = some ((n : Int) + 1, zs) ∧ zs.length = n ∧ (∀ j, j < i → zs.getD j 0 = ys.getD j 0) ∧ (∀ j, i ≤ j → j < n → zs.getD j 0 = (j : Int) + 1) := by
  intro d
  induction d with
  | zero =>
    intro k i ys hy h hk
    obtain ⟨k, rfl⟩ : ∃ m, k = m + 1 := ⟨k - 1, by omega⟩
    have e : i = n := by omega
    subst e
    refine ⟨ys, ?_, hy, fun _ _ => rfl, fun j h1 h2 => by omega⟩
    rw [laws_markInt64S.l0, if_neg (by omega)]
  | succ d ih =>
    intro k i ys hy h hk
    obtain ⟨k, rfl⟩ : ∃ m, k = m + 1 := ⟨k - 1, by omega⟩
    obtain ⟨zs, h1, h2, h3, h4⟩ := ih k (i + 1) (ys.set i ((i : Int) + 1)) (by simpa using hy) (by omega) (by omega)
    refine ⟨zs, ?_, h2, fun j hj => ?_, fun j hj1 hj2 => ?_⟩
    · rw [laws_markInt64S.l0, if_pos (by omega), if_pos (by omega), w64 (by omega) (by omega), w64 (by omega) (by omega), Int.toNat_natCast]
      have e : ((i + 1 : Nat) : Int) = (i : Int) + 1 := by omega
      rw [e] at h1
      exact h1
    · rw [h3 j (by omega)]
      simp only [List.getD_eq_getElem?_getD]
      rw [List.getElem?_set_ne (by omega)]
    · by_cases e : j = i
      · subst e
        rw [h3 j (by omega)]
        simp only [List.getD_eq_getElem?_getD]
        rw [List.getElem?_set_self (by omega)]
        rfl
      · exact h4 j (by omega) hj2

theorem laws_heldInt64S_l0 (n : Nat) (hn : n ≤ 9223372036854775806) (zs : List Int) (hz : zs.length = n) (hv : ∀ j, j < n → zs.getD j 0 = (j : Int) + 1) : ∀ (d k i : Nat), i + d = n → d < k →
    laws_heldInt64S.l0 k zs ((i : Int) + 1) (i : Int) = some ((n : Int) + 1) := by
  intro d
  induction d with
  | zero =>
    intro k i h hk
    obtain ⟨k, rfl⟩ : ∃ m, k = m + 1 := ⟨k - 1, by omega⟩
    have e : i = n := by omega
    subst e
    rw [laws_heldInt64S.l0, if_neg (by omega)]
  | succ d ih =>
    intro k i h hk
    obtain ⟨k, rfl⟩ : ∃ m, k = m + 1 := ⟨k - 1, by omega⟩
    have := ih k (i + 1) (by omega) (by omega)
    have e : ((i + 1 : Nat) : Int) = (i : Int) + 1 := by omega
    rw [e] at this
    rw [laws_heldInt64S.l0, if_pos (by omega), if_pos (by omega), if_pos (by rw [rd_nat, hv i (by omega)]), w64 (by omega) (by omega), w64 (by omega) (by omega)]
    exact this
/-- What was marked is held. -/
theorem marks_held (xs : List Int) (hn : xs.length ≤ 9223372036854775806) (k : Nat) (hk : xs.length < k) :
    ∃ zs : List Int, laws_markInt64S.f k xs 1 = some ((xs.length : Int) + 1, zs) ∧ zs.length = xs.length ∧ (∀ k', xs.length < k' → laws_heldInt64S.f k' zs 1 = some ((xs.length : Int) + 1)) := by
  obtain ⟨zs, h1, h2, _, h4⟩ := laws_markInt64S_l0 xs.length hn xs.length k 0 xs rfl (by omega) hk
  exact ⟨zs, h1, h2, fun k' hk' => laws_heldInt64S_l0 xs.length hn zs h2 (fun j hj => h4 j (by omega) hj) xs.length k' 0 (by omega) hk'⟩
theorem mark_any (a n : Int) (ha : 0 ≤ a ∧ a ≤ 1048577) (hn : n ≤ 1048576) : ∀ (d k i : Nat) (ys : List Int), (ys.length : Int) = n → (i : Int) + d = n → d < k →
    ∃ zs : List Int, laws_markInt64S.l0 k ys (a + i) (i : Int) = some (a + n, zs) := by
  intro d
  induction d with
  | zero =>
    intro k i ys hy h hk
    obtain ⟨k, rfl⟩ : ∃ m, k = m + 1 := ⟨k - 1, by omega⟩
    refine ⟨ys, ?_⟩
    rw [laws_markInt64S.l0, if_neg (by omega)]
    have e : (i : Int) = n := by omega
    rw [e]
  | succ d ih =>
    intro k i ys hy h hk
    obtain ⟨k, rfl⟩ : ∃ m, k = m + 1 := ⟨k - 1, by omega⟩
    obtain ⟨zs, h1⟩ := ih k (i + 1) (ys.set i (a + i)) (by simpa using hy) (by omega) (by omega)
    refine ⟨zs, ?_⟩
    rw [laws_markInt64S.l0, if_pos (by omega), if_pos (by omega), w64 (by omega) (by omega), w64 (by omega) (by omega), Int.toNat_natCast]
    have e : ((i + 1 : Nat) : Int) = (i : Int) + 1 := by omega
    rw [e, ← Int.add_assoc] at h1
    exact h1

theorem FnExactBestUnits : laws_FnExactBestUnits.Pure := by
  intro a l _ _ _ _
  by_cases hbig : (l.length : Int) > 1048576
  · exact ⟨1, by unfold laws_FnExactBestUnits.f; rw [if_pos hbig]⟩
  have hl := bestUnits_len a l
  obtain ⟨ys, hm2, hz2, hh2⟩ := marks_held l (by omega) (2 * l.length + 199) (by omega)
  obtain ⟨zs, hm, hz, hh⟩ := marks_held (bestUnits a l).1 (by omega) (2 * l.length + 198) (by omega)
  have h0 : ¬ (((bestUnits a l).1.length : Int) + 1 < 0) := by omega
  have h1 : ¬ ((l.length : Int) + 1 < 0) := by omega
  refine ⟨2 * l.length + 200, ?_⟩
  simp (disch := omega) only [laws_FnExactBestUnits.f, if_neg hbig, laws_toInt64S_eq, spec_BestUnits_eq, impl_BestUnits_eq, laws_eqInt64S_eq, Option.bind_some, bne_self_eq_false, if_true]
  simp (disch := omega) only [laws_FnExactBestUnits.j0, laws_toInt64S_eq, laws_eqInt64S_eq, hm2, if_neg h1, Option.bind_some, bne_self_eq_false, Bool.false_eq_true, if_false, if_true]
  simp (disch := omega) only [laws_FnExactBestUnits.j1, laws_toInt64S_eq, impl_BestUnits_eq, laws_eqInt64S_eq, hm, hh, if_neg h0, Option.bind_some, bne_self_eq_false, Bool.false_eq_true, if_false, if_true]
  simp (disch := omega) only [laws_FnExactBestUnits.j2, hh, if_neg h0, Option.bind_some, Bool.false_eq_true, if_false, if_true]

end Go.Proofs.Ytaapnjhgkbjdkaa.Pure
