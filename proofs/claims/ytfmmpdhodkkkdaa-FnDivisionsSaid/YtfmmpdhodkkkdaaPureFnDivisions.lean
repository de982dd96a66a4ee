/- For all arguments the law FnDivisions returns true, with no condition beyond the bounds that the printed statement names. -/
import Derived.Test.YtfmmpdhodkkkdaaPFnDivisionsx8
namespace Go.Proofs.Ytfmmpdhodkkkdaa.Pure
open Go.RowKit Go.Proofs.Ytfmmpdhodkkkdaa.PFnDivisions Go.Proofs.YtfmmpdhodkkkdaaW.PrintWords Go.Proofs.YtfmmpdhodkkkdaaW.PrintLast
set_option linter.unusedVariables false
set_option linter.unusedSimpArgs false

theorem w64 {x : Int} (h1 : -9223372036854775808 ≤ x) (h2 : x ≤ 9223372036854775807) : wrap64 x = x := by
  unfold wrap64; omega
theorem wf64 {x : Int} (h : (Lit.int .i64 x).wf = true) : -9223372036854775808 ≤ x ∧ x ≤ 9223372036854775807 := by
  simp [Lit.wf, IntKind.min, IntKind.max, IntKind.signed, IntKind.bits] at h
  omega
/-- 'a lies from b to c'. -/
def inR (a b c : Int) : Bool := decide (b ≤ a ∧ a ≤ c)
theorem inR_true {a b c : Int} (h : inR a b c = true) : b ≤ a ∧ a ≤ c := by simpa [inR] using h
theorem inR_mk {a b c : Int} (h1 : b ≤ a) (h2 : a ≤ c) : inR a b c = true := by simp [inR, h1, h2]
theorem inR_false {a b c : Int} (h : inR a b c = false) : a < b ∨ c < a := by
  have : ¬ (b ≤ a ∧ a ≤ c) := by simpa [inR] using h
  omega
theorem rd_nat (xs : List Int) (i : Nat) : rd xs (i : Int) = xs.getD i 0 := by simp [rd]
theorem mul_bd {a b A B : Int} (h0 : 0 ≤ a) (h1 : a ≤ A) (k0 : 0 ≤ b) (k1 : b ≤ B) : 0 ≤ a * b ∧ a * b ≤ A * B :=
  ⟨Int.mul_nonneg h0 k0, Int.mul_le_mul h1 k1 k0 (by omega)⟩
theorem tdiv_n {a b : Int} (h : 0 ≤ a) : Int.tdiv a b = a / b := Int.tdiv_eq_ediv_of_nonneg h
theorem tmod_n {a b : Int} (h : 0 ≤ a) : Int.tmod a b = a % b := Int.tmod_eq_emod_of_nonneg h
theorem mn_min (a b : Int) : mn a b = min a b := by unfold mn; split <;> omega
theorem mx_max (a b : Int) : mx a b = max a b := by unfold mx; split <;> omega

def allR (xs : List Int) (lo hi : Int) : Bool := xs.all fun x => inR x lo hi
theorem allR_mem {xs : List Int} {lo hi : Int} (h : allR xs lo hi = true) : ∀ x ∈ xs, lo ≤ x ∧ x ≤ hi := fun x hx => inR_true (List.all_eq_true.1 h x hx)
theorem drop_get (xs : List Int) (i : Nat) (hi : i < xs.length) : xs.drop i = xs[i] :: xs.drop (i + 1) := List.drop_eq_getElem_cons hi
theorem rd_get (xs : List Int) (i : Nat) (hi : i < xs.length) : rd xs (i : Int) = xs[i] := by rw [rd_nat, List.getD_eq_getElem?_getD, List.getElem?_eq_getElem hi]; rfl
/-- The sum, as the program adds it up. -/
def wsum (a : Int) (xs : List Int) : Int := xs.foldl (fun a x => wrap64 (a + x)) a
theorem wsum_cons (a x : Int) (xs : List Int) : wsum a (x :: xs) = wsum (wrap64 (a + x)) xs := rfl
theorem wsum_eq : ∀ (xs : List Int) (a : Int), (∀ x ∈ xs, 0 ≤ x ∧ x ≤ 1000000) → 0 ≤ a → a + xs.length * 1000000 ≤ 4611686018427387904 → wsum a xs = a + xs.sum ∧ 0 ≤ xs.sum ∧ xs.sum ≤ xs.length * 1000000
  | [], a, _, h0, _ => ⟨by simp [wsum], by simp, by simp⟩
  | x :: xs, a, h, h0, hb => by
    have hx := h x (by simp)
    simp only [List.length_cons] at hb ⊢
    obtain ⟨e, l, u⟩ := wsum_eq xs (a + x) (fun y hy => h y (by simp [hy])) (by omega) (by omega)
    rw [wsum_cons, w64 (by omega) (by omega), e, List.sum_cons]
    exact ⟨by omega, by omega, by omega⟩

/-- A code that is drawn from. -/
def Code (c : List Int) : Prop := (∀ x ∈ c, 0 ≤ x ∧ x ≤ 255) ∧ c.length ≤ 4096
/-- Where a source stands, and its seed. -/
def SOk (q : Int × Int) : Prop := 0 ≤ q.1 ∧ 0 ≤ q.2 ∧ q.2 < 2147483647
theorem wfByte {x : Int} (h : (Lit.int .u8 x).wf = true) : 0 ≤ x ∧ x ≤ 255 := by
  simp [Lit.wf, IntKind.min, IntKind.max, IntKind.signed, IntKind.bits] at h
  omega
theorem rd_byte {c : List Int} (h : Code c) {i : Int} (h0 : 0 ≤ i) (h1 : i < c.length) : 0 ≤ rd c i ∧ rd c i ≤ 255 := by
  obtain ⟨n, rfl⟩ : ∃ n : Nat, i = n := ⟨i.toNat, by omega⟩
  have hn : n < c.length := by omega
  have e : rd c (n : Int) = c[n] := by rw [rd_nat, List.getD_eq_getElem?_getD, List.getElem?_eq_getElem hn]; rfl
  rw [e]
  exact h.1 _ (List.getElem_mem hn)
theorem bind_ok {α β : Type} {x : Option α} {P : α → Prop} {f : α → Option β} {Q : β → Prop} (h : ∃ p, x = some p ∧ P p) (hf : ∀ p, P p → ∃ r, f p = some r ∧ Q r) : ∃ r, x.bind f = some r ∧ Q r := by
  obtain ⟨p, e, hp⟩ := h
  rw [e]
  exact hf p hp
theorem ite_ok {α : Type} {c : Prop} [Decidable c] {a b : Option α} {Q : α → Prop} (h1 : c → ∃ r, a = some r ∧ Q r) (h2 : ¬ c → ∃ r, b = some r ∧ Q r) : ∃ r, (if c then a else b) = some r ∧ Q r := by
  by_cases h : c
  · rw [if_pos h]; exact h1 h
  · rw [if_neg h]; exact h2 h
theorem some_ok {α β : Type} {x : Option α} {v : α} {f : α → Option β} {Q : β → Prop} (h : x = some v) (hf : ∃ r, f v = some r ∧ Q r) : ∃ r, x.bind f = some r ∧ Q r := by
  rw [h]
  exact hf

def gang (slots : Int) (q : List Int) : Bool := inR slots 1 32 && (inR (q.length : Int) 1 (min 6 slots) && allR q 1 1000000)
theorem gang_true {slots : Int} {q : List Int} (h : gang slots q = true) : (1 ≤ slots ∧ slots ≤ 32) ∧ (1 ≤ q.length ∧ q.length ≤ 6 ∧ (q.length : Int) ≤ slots) ∧ ∀ x ∈ q, 1 ≤ x ∧ x ≤ 1000000 := by
  simp only [gang, Bool.and_eq_true] at h
  have h2 := inR_true h.2.1
  exact ⟨inR_true h.1, by omega, allR_mem h.2.2⟩
/-- The run of ups. -/
def runM : List Int → List Int → Int → Int
  | q :: qs, u :: us, r => runM qs us (max r ((q + u - 1) / u))
  | _, _, r => r
def upsOk (slots : Int) (q u : List Int) : Bool := decide (u.length = q.length) && (allR u 1 slots && decide (wsum 0 u ≤ slots))
def upsCode (slots : Int) (q u : List Int) : Int := if gang slots q = true then (if upsOk slots q u = true then 0 else 2) else 1
def runFor (slots : Int) (q u : List Int) : Int × Int := if upsCode slots q u = 0 then (runM q u 0, 0) else (0, upsCode slots q u)
theorem upsCode_ok {slots : Int} {q u : List Int} (e : upsCode slots q u = 0) : gang slots q = true ∧ u.length = q.length ∧ (∀ x ∈ u, 1 ≤ x ∧ x ≤ slots) ∧ wsum 0 u ≤ slots := by
  unfold upsCode at e
  cases hg : gang slots q
  · simp [hg] at e
  · cases hu : upsOk slots q u
    · simp [hg, hu] at e
    · simp only [upsOk, Bool.and_eq_true, decide_eq_true_eq] at hu
      exact ⟨rfl, hu.1, allR_mem hu.2.1, hu.2.2⟩
theorem ceil_bd {q u : Int} (hq : 1 ≤ q ∧ q ≤ 1000000) (hu : 1 ≤ u ∧ u ≤ 1000000) : 1 ≤ (q + u - 1) / u ∧ (q + u - 1) / u ≤ q := by
  have h1 : (q + u - 1) / u = (q - 1) / u + 1 := by
    rw [show q + u - 1 = (q - 1) + 1 * u by omega, Int.add_mul_ediv_right _ _ (by omega)]
  have h2 : 0 ≤ (q - 1) / u := Int.ediv_nonneg (by omega) (by omega)
  have h3 : (q - 1) / u ≤ q - 1 := Int.ediv_le_self _ (by omega)
  omega
/-- The least ups of a run. -/
def upsM (q : List Int) (run : Int) : List Int := q.map fun x => (x + run - 1) / run
def upsFor (slots : Int) (q : List Int) (run : Int) : List Int × Int :=
  if gang slots q = true then (if inR run 1 1000000 = true then (if wsum 0 (upsM q run) > slots then ([], 4) else (upsM q run, 0)) else ([], 2)) else ([], 1)

def IsLeast (p : Int → Bool) (r : Int) : Prop := 1 ≤ r ∧ p r = true ∧ ∀ x, 1 ≤ x → x < r → p x = false
/-- The first r from s on with p, among d numbers. -/
def up (p : Int → Bool) : Nat → Int → Int
  | 0, r => r
  | d + 1, r => if p r = true then r else up p d (r + 1)
theorem up_least {p : Int → Bool} {r : Int} (h : IsLeast p r) : ∀ (d : Nat) (s : Int), 1 ≤ s → s ≤ r → r - s ≤ d → up p d s = r := by
  intro d
  induction d with
  | zero => intro s h0 h1 h2; rw [up]; omega
  | succ d ih =>
    intro s h0 h1 h2
    rw [up]
    by_cases e : s = r
    · rw [e, if_pos h.2.1]
    · rw [if_neg (by rw [h.2.2 s h0 (by omega)]; simp)]
      exact ih (s + 1) (by omega) (by omega) (by omega)
/-- 'The run r is enough.' -/
def enough (slots : Int) (q : List Int) (r : Int) : Bool := decide (wsum 0 (upsM q r) ≤ slots)
def leastM (slots : Int) (q : List Int) : Int := up (enough slots q) 1000000 1
/-- What the least run is asked of. -/
def fits (slots : Int) (q : List Int) : Prop := (q.length : Int) ≤ slots ∧ q.length ≤ 6 ∧ ∀ x ∈ q, 1 ≤ x ∧ x ≤ 1000000
theorem ceil_anti {q r s : Int} (hq : 1 ≤ q) (hr : 1 ≤ r) (h : r ≤ s) : (q + s - 1) / s ≤ (q + r - 1) / r := by
  have e1 : (q + s - 1) / s = (q - 1) / s + 1 := by rw [show q + s - 1 = (q - 1) + 1 * s by omega, Int.add_mul_ediv_right _ _ (by omega)]
  have e2 : (q + r - 1) / r = (q - 1) / r + 1 := by rw [show q + r - 1 = (q - 1) + 1 * r by omega, Int.add_mul_ediv_right _ _ (by omega)]
  have h0 : 0 ≤ (q - 1) / s := Int.ediv_nonneg (by omega) (by omega)
  have h1 : (q - 1) / s * s ≤ q - 1 := Int.ediv_mul_le _ (by omega)
  have h2 : (q - 1) / s * r ≤ (q - 1) / s * s := Int.mul_le_mul_of_nonneg_left h h0
  have h3 : (q - 1) / s ≤ (q - 1) / r := Int.le_ediv_of_mul_le (by omega) (by omega)
  omega
theorem upsM_sum_anti {r s : Int} (hr : 1 ≤ r) (h : r ≤ s) : ∀ q : List Int, (∀ x ∈ q, 1 ≤ x ∧ x ≤ 1000000) → (upsM q s).sum ≤ (upsM q r).sum
  | [], _ => by simp [upsM]
  | x :: xs, hq => by
    have h1 := upsM_sum_anti hr h xs (fun y hy => hq y (by simp [hy]))
    have h2 := ceil_anti (hq x (by simp)).1 hr h
    unfold upsM at h1 ⊢
    rw [List.map_cons, List.map_cons, List.sum_cons, List.sum_cons]
    omega
theorem upsM_mem {q : List Int} {r : Int} (hq : ∀ x ∈ q, 1 ≤ x ∧ x ≤ 1000000) (hr : 1 ≤ r ∧ r ≤ 1000000) : ∀ y ∈ upsM q r, 1 ≤ y ∧ y ≤ 1000000 := by
  intro y hy
  obtain ⟨x, hx, rfl⟩ := List.mem_map.1 hy
  have h1 := hq x hx
  have h2 := ceil_bd h1 hr
  omega
theorem wsum_upsM {q : List Int} {r : Int} (hl : q.length ≤ 6) (hq : ∀ x ∈ q, 1 ≤ x ∧ x ≤ 1000000) (hr : 1 ≤ r ∧ r ≤ 1000000) : wsum 0 (upsM q r) = (upsM q r).sum := by
  have e : (upsM q r).length = q.length := by simp [upsM]
  have := (wsum_eq (upsM q r) 0 (fun y hy => by have := upsM_mem hq hr y hy; omega) (by omega) (by rw [e]; omega)).1
  omega
theorem enough_mono {slots : Int} {q : List Int} (hf : fits slots q) {r s : Int} (hr : 1 ≤ r) (h : r ≤ s) (hs : s ≤ 1000000) (he : enough slots q r = true) : enough slots q s = true := by
  unfold enough at he ⊢
  rw [wsum_upsM hf.2.1 hf.2.2 ⟨hr, by omega⟩, decide_eq_true_eq] at he
  rw [wsum_upsM hf.2.1 hf.2.2 ⟨by omega, hs⟩, decide_eq_true_eq]
  have := upsM_sum_anti hr h q hf.2.2
  omega
theorem upsM_ones {r : Int} : ∀ q : List Int, (∀ x ∈ q, 1 ≤ x ∧ x ≤ r) → (upsM q r).sum = q.length
  | [], _ => by simp [upsM]
  | x :: xs, hq => by
    have h1 := upsM_ones xs (fun y hy => hq y (by simp [hy]))
    have h2 := hq x (by simp)
    have e : (x + r - 1) / r = 1 := by rw [show x + r - 1 = (x - 1) + 1 * r by omega, Int.add_mul_ediv_right _ _ (by omega), Int.ediv_eq_zero_of_lt (by omega) (by omega)]; rfl
    unfold upsM at h1 ⊢
    rw [List.map_cons, List.sum_cons, List.length_cons, e, h1]
    omega
theorem enough_top {slots : Int} {q : List Int} (hf : fits slots q) {r : Int} (hr : 1 ≤ r ∧ r ≤ 1000000) (hq : ∀ x ∈ q, x ≤ r) : enough slots q r = true := by
  unfold enough
  rw [wsum_upsM hf.2.1 hf.2.2 hr, upsM_ones q (fun x hx => ⟨(hf.2.2 x hx).1, hq x hx⟩)]
  exact decide_eq_true hf.1
/-- The state of a search by halves. -/
def Halves (slots : Int) (q : List Int) (lo hi : Int) : Prop := 1 ≤ lo ∧ lo ≤ hi ∧ hi ≤ 1000000 ∧ enough slots q hi = true ∧ ∀ x, 1 ≤ x → x < lo → enough slots q x = false
theorem Halves.done {slots : Int} {q : List Int} {lo hi : Int} (h : Halves slots q lo hi) (e : ¬ lo < hi) : leastM slots q = lo := by
  obtain ⟨h1, h2, h3, h4, h5⟩ := h
  have e2 : lo = hi := by omega
  subst e2
  exact up_least ⟨h1, h4, h5⟩ 1000000 1 (by omega) h1 (by omega)
theorem Halves.left {slots : Int} {q : List Int} {lo hi : Int} (h : Halves slots q lo hi) (e : lo < hi) (he : enough slots q ((lo + hi) / 2) = true) : Halves slots q lo ((lo + hi) / 2) := by
  obtain ⟨h1, h2, h3, h4, h5⟩ := h
  exact ⟨h1, by omega, by omega, he, h5⟩
theorem Halves.right {slots : Int} {q : List Int} {lo hi : Int} (hf : fits slots q) (h : Halves slots q lo hi) (e : lo < hi) (he : enough slots q ((lo + hi) / 2) = false) : Halves slots q ((lo + hi) / 2 + 1) hi := by
  obtain ⟨h1, h2, h3, h4, h5⟩ := h
  refine ⟨by omega, by omega, h3, h4, fun x hx hlt => ?_⟩
  cases hc : enough slots q x
  · rfl
  · have := enough_mono hf hx (show x ≤ (lo + hi) / 2 by omega) (by omega) hc
    rw [this] at he
    cases he
theorem Halves.start {slots : Int} {q : List Int} (hf : fits slots q) {hi : Int} (hr : 1 ≤ hi ∧ hi ≤ 1000000) (hq : ∀ x ∈ q, x ≤ hi) : Halves slots q 1 hi :=
  ⟨by omega, hr.1, hr.2, enough_top hf hr hq, fun x h1 h2 => by omega⟩
theorem leastM_least {slots : Int} {q : List Int} (hf : fits slots q) : IsLeast (enough slots q) (leastM slots q) ∧ leastM slots q ≤ 1000000 := by
  have key : ∀ (d : Nat) (s : Int), 1 ≤ s → s + d = 1000001 → (∀ x, 1 ≤ x → x < s → enough slots q x = false) → 0 < d → IsLeast (enough slots q) (up (enough slots q) d s) ∧ up (enough slots q) d s ≤ 1000000 := by
    intro d
    induction d with
    | zero => intro s _ _ _ h; omega
    | succ d ih =>
      intro s h1 h2 h3 _
      rw [up]
      cases hc : enough slots q s
      · rw [if_neg (by simp)]
        by_cases hd : 0 < d
        · exact ih (s + 1) (by omega) (by omega) (fun x hx hlt => by
            by_cases e : x = s
            · rw [e]; exact hc
            · exact h3 x hx (by omega)) hd
        · have e : s = 1000000 := by omega
          have := enough_top hf (r := 1000000) (by omega) (fun x hx => (hf.2.2 x hx).2)
          rw [e, this] at hc
          cases hc
      · rw [if_pos rfl]
        exact ⟨⟨h1, hc, h3⟩, by omega⟩
  exact key 1000000 1 (by omega) (by omega) (fun x h1 h2 => by omega) (by omega)
theorem gang_fits {slots : Int} {q : List Int} (h : gang slots q = true) : fits slots q := by
  obtain ⟨h1, h2, h3⟩ := gang_true h
  exact ⟨h2.2.2, h2.2.1, h3⟩
def leastRun (slots : Int) (q : List Int) : Int × Int := if gang slots q = true then (leastM slots q, 0) else (0, 1)
def bestUps (slots : Int) (q : List Int) : List Int × Int := if gang slots q = true then (upsM q (leastM slots q), 0) else ([], 1)

/-- The place of the first x in a list, counted from i on, or -1. -/
def idxFrom : List Int → Int → Nat → Int
  | [], _, _ => -1
  | y :: ys, x, i => if x = y then (i : Int) else idxFrom ys x (i + 1)

def rises : List Int → Bool
  | a :: b :: l => decide (a < b) && rises (b :: l)
  | _ => true
def firstOk (q first : List Int) : Bool := decide (first ≠ []) && (decide (rd first 0 = 0) && (allR first 0 ((q.length : Int) - 1) && rises first))
theorem firstOk_true {q first : List Int} (h : firstOk q first = true) : first ≠ [] ∧ rd first 0 = 0 ∧ (∀ x ∈ first, 0 ≤ x ∧ x ≤ (q.length : Int) - 1) ∧ rises first = true := by
  simp only [firstOk, Bool.and_eq_true, decide_eq_true_eq] at h
  exact ⟨h.1, h.2.1, allR_mem h.2.2.1, h.2.2.2⟩
/-- The jobs of the first form, and those of the second one. -/
def partIn (first : List Int) : List Int → Int → List Int
  | [], _ => []
  | x :: xs, i => if first.contains i = true then x :: partIn first xs (i + 1) else partIn first xs (i + 1)
def partOut (first : List Int) : List Int → Int → List Int
  | [], _ => []
  | x :: xs, i => if first.contains i = true then partOut first xs (i + 1) else x :: partOut first xs (i + 1)
theorem partIn_len (first : List Int) : ∀ (xs : List Int) (i : Int), (partIn first xs i).length ≤ xs.length ∧ ∀ y ∈ partIn first xs i, y ∈ xs
  | [], i => by simp [partIn]
  | x :: xs, i => by
    have h := partIn_len first xs (i + 1)
    rw [partIn]
    split
    · simp only [List.length_cons, List.mem_cons]
      exact ⟨by omega, fun y hy => hy.elim .inl (fun hy => .inr (h.2 y hy))⟩
    · simp only [List.length_cons, List.mem_cons]
      exact ⟨by omega, fun y hy => .inr (h.2 y hy)⟩
theorem partOut_len (first : List Int) : ∀ (xs : List Int) (i : Int), (partOut first xs i).length ≤ xs.length ∧ ∀ y ∈ partOut first xs i, y ∈ xs
  | [], i => by simp [partOut]
  | x :: xs, i => by
    have h := partOut_len first xs (i + 1)
    rw [partOut]
    split
    · simp only [List.length_cons, List.mem_cons]
      exact ⟨by omega, fun y hy => .inr (h.2 y hy)⟩
    · simp only [List.length_cons, List.mem_cons]
      exact ⟨by omega, fun y hy => hy.elim .inl (fun hy => .inr (h.2 y hy))⟩
theorem partIn_fits {slots : Int} {q : List Int} (hf : fits slots q) (first : List Int) (i : Int) : fits slots (partIn first q i) := by
  have h := partIn_len first q i
  exact ⟨by have := hf.1; omega, by have := hf.2.1; omega, fun x hx => hf.2.2 x (h.2 x hx)⟩
theorem partOut_fits {slots : Int} {q : List Int} (hf : fits slots q) (first : List Int) (i : Int) : fits slots (partOut first q i) := by
  have h := partOut_len first q i
  exact ⟨by have := hf.1; omega, by have := hf.2.1; omega, fun x hx => hf.2.2 x (h.2 x hx)⟩
def costF (slots : Int) (ins outs : List Int) (setup : Int) : Int := leastM slots ins + setup + (if outs = [] then 0 else leastM slots outs + setup)
def costM (slots : Int) (q first : List Int) (setup : Int) : Int := costF slots (partIn first q 0) (partOut first q 0) setup
theorem costM_bd {slots : Int} {q : List Int} (hf : fits slots q) (first : List Int) {setup : Int} (hs : 0 ≤ setup ∧ setup ≤ 1000000) : 0 ≤ costM slots q first setup ∧ costM slots q first setup ≤ 4000000 := by
  have h1 := leastM_least (partIn_fits hf first 0)
  have h2 := leastM_least (partOut_fits hf first 0)
  have e1 := h1.1.1
  have e2 := h2.1.1
  unfold costM costF
  split <;> omega
def dividedCost (slots : Int) (q first : List Int) (setup : Int) : Int × Int :=
  if gang slots q = true then (if (firstOk q first && inR setup 0 1000000) = true then (costM slots q first setup, 0) else (0, 2)) else (0, 1)
theorem rises_lt : ∀ (l : List Int) (a : Int), rises (a :: l) = true → ∀ x ∈ l, a < x
  | [], a, _ => by simp
  | b :: l, a, h => by
    simp only [rises, Bool.and_eq_true, decide_eq_true_eq] at h
    intro x hx
    rcases List.mem_cons.1 hx with rfl | hx
    · exact h.1
    · have := rises_lt l b h.2 x hx
      omega
theorem rises_tail (a : Int) (l : List Int) (h : rises (a :: l) = true) : rises l = true := by
  cases l with
  | nil => rfl
  | cons b l =>
    simp only [rises, Bool.and_eq_true] at h
    exact h.2
theorem rises_len : ∀ (l : List Int) (lo hi : Int), rises l = true → (∀ x ∈ l, lo ≤ x ∧ x ≤ hi) → l ≠ [] → (l.length : Int) ≤ hi - lo + 1
  | [], _, _, _, _, h => absurd rfl h
  | [a], lo, hi, _, h, _ => by have := h a (by simp); simp only [List.length_cons, List.length_nil]; omega
  | a :: b :: l, lo, hi, hr, h, _ => by
    have h0 := h a (by simp)
    have h1 := rises_lt (b :: l) a hr
    have := rises_len (b :: l) (lo + 1) hi (rises_tail a (b :: l) hr) (fun x hx => by
      have := h1 x hx
      have := h x (by simp only [List.mem_cons] at hx ⊢; exact .inr hx)
      omega) (by simp)
    simp only [List.length_cons] at this ⊢
    omega
theorem firstOk_len {slots : Int} {q first : List Int} (hg : gang slots q = true) (h : firstOk q first = true) : first.length ≤ 6 := by
  obtain ⟨h1, h2, h3, h4⟩ := firstOk_true h
  have := rises_len first 0 _ h4 h3 h1
  have := (gang_true hg).2.1
  omega
theorem firstOk_has {q first : List Int} (h : firstOk q first = true) : first.contains 0 = true := by
  obtain ⟨h1, h2, h3, h4⟩ := firstOk_true h
  cases first with
  | nil => exact absurd rfl h1
  | cons a l =>
    have e : rd (a :: l) 0 = a := rfl
    rw [e] at h2
    subst h2
    simp
theorem partIn_ne {q first : List Int} (h : firstOk q first = true) (hq : 1 ≤ q.length) : 1 ≤ (partIn first q 0).length := by
  cases q with
  | nil => simp at hq
  | cons x xs =>
    rw [partIn, if_pos (firstOk_has h)]
    simp
theorem rises_drop (l : List Int) (i : Nat) (h : i + 1 < l.length) : rises (l.drop i) = (decide (l[i]'(by omega) < l[i + 1]) && rises (l.drop (i + 1))) := by
  rw [drop_get l i (by omega), drop_get l (i + 1) h, rises]
theorem rises_end (l : List Int) (i : Nat) (h : l.length ≤ i + 1) : rises (l.drop i) = true := by
  by_cases e : i < l.length
  · rw [drop_get l i e, List.drop_of_length_le (by omega)]
    rfl
  · rw [List.drop_of_length_le (by omega)]
    rfl

/-- The jobs that a number tells, i and d - 1 more of them looked at, behind those that are there. -/
def pickBits (m : Int) : Nat → Int → List Int → List Int
  | 0, _, acc => acc
  | d + 1, i, acc => pickBits m d (i + 1) (if Go.bits .and .i64 (shr .i64 m i) 1 = 1 then acc ++ [i] else acc)
theorem pickBits_len (m : Int) : ∀ (d : Nat) (i : Int) (acc : List Int), (pickBits m d i acc).length ≤ acc.length + d
  | 0, i, acc => by simp [pickBits]
  | d + 1, i, acc => by
    have := pickBits_len m d (i + 1) (if Go.bits .and .i64 (shr .i64 m i) 1 = 1 then acc ++ [i] else acc)
    rw [pickBits]
    split at this
    · rename_i h
      rw [if_pos h]
      simp only [List.length_append, List.length_singleton] at this
      omega
    · rename_i h
      rw [if_neg h]
      omega
theorem pickBits_keeps (m : Int) : ∀ (d : Nat) (i : Int) (acc : List Int) (x : Int), x ∈ acc → x ∈ pickBits m d i acc
  | 0, i, acc, x, h => h
  | d + 1, i, acc, x, h => by
    rw [pickBits]
    refine pickBits_keeps m d (i + 1) _ x ?_
    split
    · exact List.mem_append_left _ h
    · exact h
theorem bit0 : ∀ j : Nat, j < 32 → Go.bits .and .i64 (shr .i64 (2 * (j : Int) + 1) 0) 1 = 1 := by decide +kernel
theorem pick_has0 {j n : Nat} (hj : j < 32) (hn : 1 ≤ n) : (pickBits (2 * (j : Int) + 1) n 0 []).contains 0 = true := by
  obtain ⟨d, rfl⟩ : ∃ d, n = d + 1 := ⟨n - 1, by omega⟩
  rw [pickBits, if_pos (bit0 j hj)]
  have := pickBits_keeps (2 * (j : Int) + 1) d (0 + 1) ([] ++ [0]) 0 (by simp)
  simpa using this
def lexLt : List Int → List Int → Bool
  | x :: xs, y :: ys => if x = y then lexLt xs ys else decide (x < y)
  | a, b => decide (a.length < b.length)
def cmpM : List Int → List Int → Int
  | x :: xs, y :: ys => if x < y then -1 else if x > y then 1 else cmpM xs ys
  | [], _ :: _ => -1
  | _ :: _, [] => 1
  | [], [] => 0
theorem cmpM_neg : ∀ a b : List Int, decide (cmpM a b < 0) = lexLt a b
  | x :: xs, y :: ys => by
    have := cmpM_neg xs ys
    rw [cmpM, lexLt]
    by_cases h1 : x < y
    · rw [if_pos h1, if_neg (by omega)]
      simp [h1]
    · rw [if_neg h1]
      by_cases h2 : x > y
      · rw [if_pos h2, if_neg (by omega)]
        simp [h1]
      · rw [if_neg h2, if_pos (by omega)]
        exact this
  | [], _ :: _ => by simp [cmpM, lexLt]
  | _ :: _, [] => by simp [cmpM, lexLt]
  | [], [] => by simp [cmpM, lexLt]
def betterM (first best : List Int) (c cost : Int) : Bool := decide (best = []) || (decide (c < cost) || (decide (c = cost) && (decide (best.length < first.length) || (decide (first.length = best.length) && lexLt first best))))
def bdLoop (slots : Int) (q : List Int) (setup : Int) : Nat → Nat → List Int → Int → List Int × Int × Int
  | 0, _, best, cost => (best, cost, 0)
  | d + 1, j, best, cost =>
    if betterM (pickBits (2 * (j : Int) + 1) q.length 0 []) best (costM slots q (pickBits (2 * (j : Int) + 1) q.length 0 []) setup) cost = true then
      bdLoop slots q setup d (j + 1) (pickBits (2 * (j : Int) + 1) q.length 0 []) (costM slots q (pickBits (2 * (j : Int) + 1) q.length 0 []) setup)
    else bdLoop slots q setup d (j + 1) best cost
theorem bdLoop_len (slots : Int) (q : List Int) (setup : Int) : ∀ (d j : Nat) (best : List Int) (cost : Int), best.length ≤ q.length → (bdLoop slots q setup d j best cost).1.length ≤ q.length
  | 0, j, best, cost, h => h
  | d + 1, j, best, cost, h => by
    rw [bdLoop]
    split
    · refine bdLoop_len slots q setup d (j + 1) _ _ ?_
      have := pickBits_len (2 * (j : Int) + 1) q.length 0 []
      simpa using this
    · exact bdLoop_len slots q setup d (j + 1) _ _ h
def bestDivision (slots : Int) (q : List Int) (setup : Int) : List Int × Int × Int :=
  if gang slots q = true then (if inR setup 0 1000000 = true then bdLoop slots q setup (2 ^ (q.length - 1)) 0 [] 0 else ([], 0, 2)) else ([], 0, 1)
theorem bestDivision_len (slots : Int) (q : List Int) (setup : Int) : (bestDivision slots q setup).1.length ≤ q.length := by
  unfold bestDivision
  split
  · split
    · exact bdLoop_len slots q setup _ 0 [] 0 (by simp)
    · simp
  · simp
theorem shl_n : ∀ n : Nat, n ≤ 6 → 1 ≤ n → shl .i64 1 (IntKind.u64.wrap (n : Int)) = 2 * (2 ^ (n - 1) : Nat) ∧ shl .i64 1 (n : Int) = 2 * (2 ^ (n - 1) : Nat) ∧ 2 ^ (n - 1) ≤ 32 ∧ 0 ≤ IntKind.u64.wrap (n : Int) := by decide +kernel
theorem u64_small : ∀ i : Nat, i ≤ 6 → IntKind.u64.wrap (i : Int) = (i : Int) := by decide +kernel

def goodDiv (slots : Int) (q : List Int) (setup : Int) (b : List Int) (c : Int) : Prop := ∃ j : Nat, j < 2 ^ (q.length - 1) ∧ b = pickBits (2 * (j : Int) + 1) q.length 0 [] ∧ c = costM slots q b setup
theorem pick_ne {j n : Nat} (hj : j < 32) (hn : 1 ≤ n) : pickBits (2 * (j : Int) + 1) n 0 [] ≠ [] := fun h => by
  have := pick_has0 hj hn
  rw [h] at this
  simp at this
theorem bdLoop_best (slots : Int) (q : List Int) (setup : Int) (hn : 1 ≤ q.length) (hq : q.length ≤ 6) : ∀ (d j : Nat) (best : List Int) (cost : Int), j + d = 2 ^ (q.length - 1) → (best = [] → 0 < d) → (best ≠ [] → goodDiv slots q setup best cost) →
    goodDiv slots q setup (bdLoop slots q setup d j best cost).1 (bdLoop slots q setup d j best cost).2.1 ∧ (bdLoop slots q setup d j best cost).2.2 = 0 ∧ (best ≠ [] → (bdLoop slots q setup d j best cost).2.1 ≤ cost) ∧
    ∀ i : Nat, j ≤ i → i < 2 ^ (q.length - 1) → (bdLoop slots q setup d j best cost).2.1 ≤ costM slots q (pickBits (2 * (i : Int) + 1) q.length 0 []) setup := by
  have hN := (shl_n q.length hq hn).2.2.1
  intro d
  induction d with
  | zero =>
    intro j best cost h h0 hg
    have hb : best ≠ [] := fun e => absurd (h0 e) (by omega)
    exact ⟨hg hb, rfl, fun _ => Int.le_refl _, fun i h1 h2 => by omega⟩
  | succ d ih =>
    intro j best cost h h0 hg
    have hne := pick_ne (j := j) (n := q.length) (by omega) hn
    rw [bdLoop]
    split
    · rename_i hb
      obtain ⟨g1, g2, g3, g4⟩ := ih (j + 1) (pickBits (2 * (j : Int) + 1) q.length 0 []) (costM slots q (pickBits (2 * (j : Int) + 1) q.length 0 []) setup) (by omega) (fun e => absurd e hne) (fun _ => ⟨j, by omega, rfl, rfl⟩)
      have g5 := g3 hne
      refine ⟨g1, g2, fun hbn => ?_, fun i h1 h2 => ?_⟩
      · simp only [betterM, Bool.or_eq_true, Bool.and_eq_true, decide_eq_true_eq] at hb
        rcases hb with hb | hb | hb
        · exact absurd hb hbn
        · omega
        · omega
      · by_cases e : i = j
        · subst e; exact g5
        · exact g4 i (by omega) h2
    · rename_i hb
      simp only [betterM, Bool.or_eq_true, Bool.and_eq_true, decide_eq_true_eq, not_or] at hb
      obtain ⟨g1, g2, g3, g4⟩ := ih (j + 1) best cost (by omega) (fun e => absurd e hb.1) hg
      have g5 := g3 hb.1
      refine ⟨g1, g2, fun _ => g5, fun i h1 h2 => ?_⟩
      by_cases e : i = j
      · subst e; omega
      · exact g4 i (by omega) h2
theorem pick_firstOk : ∀ n : Nat, n < 7 → 1 ≤ n → ∀ j : Nat, j < 32 → j < 2 ^ (n - 1) → (decide (pickBits (2 * (j : Int) + 1) n 0 [] ≠ []) && (decide (rd (pickBits (2 * (j : Int) + 1) n 0 []) 0 = 0) && (allR (pickBits (2 * (j : Int) + 1) n 0 []) 0 ((n : Int) - 1) && rises (pickBits (2 * (j : Int) + 1) n 0 [])))) = true := by decide +kernel
def maskOf (n : Nat) (b1 b2 b3 b4 b5 : Bool) : Nat := (if 1 < n ∧ b1 = true then 1 else 0) + (if 2 < n ∧ b2 = true then 2 else 0) + (if 3 < n ∧ b3 = true then 4 else 0) + (if 4 < n ∧ b4 = true then 8 else 0) + (if 5 < n ∧ b5 = true then 16 else 0)
theorem mask_tells : ∀ n : Nat, n < 7 → 1 ≤ n → ∀ b1 b2 b3 b4 b5 : Bool, maskOf n b1 b2 b3 b4 b5 < 2 ^ (n - 1) ∧ (pickBits (2 * (maskOf n b1 b2 b3 b4 b5 : Int) + 1) n 0 []).contains 0 = true ∧ (1 < n → (pickBits (2 * (maskOf n b1 b2 b3 b4 b5 : Int) + 1) n 0 []).contains 1 = b1) ∧ (2 < n → (pickBits (2 * (maskOf n b1 b2 b3 b4 b5 : Int) + 1) n 0 []).contains 2 = b2) ∧ (3 < n → (pickBits (2 * (maskOf n b1 b2 b3 b4 b5 : Int) + 1) n 0 []).contains 3 = b3) ∧ (4 < n → (pickBits (2 * (maskOf n b1 b2 b3 b4 b5 : Int) + 1) n 0 []).contains 4 = b4) ∧ (5 < n → (pickBits (2 * (maskOf n b1 b2 b3 b4 b5 : Int) + 1) n 0 []).contains 5 = b5) := by
  intro n h1 h2 b1 b2 b3 b4 b5
  revert n
  cases b1 <;> cases b2 <;> cases b3 <;> cases b4 <;> cases b5 <;> decide +kernel
theorem part_congr {a b : List Int} : ∀ (xs : List Int) (i : Int), (∀ t : Nat, t < xs.length → a.contains (i + t) = b.contains (i + t)) → partIn a xs i = partIn b xs i ∧ partOut a xs i = partOut b xs i
  | [], i, _ => ⟨rfl, rfl⟩
  | x :: xs, i, h => by
    have h0 := h 0 (by simp)
    simp only [Int.natCast_zero, Int.add_zero] at h0
    have ih := part_congr (a := a) (b := b) xs (i + 1) (fun t ht => by
      have := h (t + 1) (by simpa using ht)
      rw [show i + ((t + 1 : Nat) : Int) = i + 1 + (t : Int) by omega] at this
      exact this)
    rw [partIn, partIn, partOut, partOut, h0, ih.1, ih.2]
    exact ⟨rfl, rfl⟩
theorem cost_pick (slots : Int) (q first : List Int) (setup : Int) (hn : 1 ≤ q.length) (hq : q.length ≤ 6) (h : firstOk q first = true) : ∃ j : Nat, j < 2 ^ (q.length - 1) ∧ costM slots q first setup = costM slots q (pickBits (2 * (j : Int) + 1) q.length 0 []) setup := by
  obtain ⟨m1, m0, c1, c2, c3, c4, c5⟩ := mask_tells q.length (by omega) hn (first.contains 1) (first.contains 2) (first.contains 3) (first.contains 4) (first.contains 5)
  refine ⟨maskOf q.length (first.contains 1) (first.contains 2) (first.contains 3) (first.contains 4) (first.contains 5), m1, ?_⟩
  have e := part_congr (a := first) (b := pickBits (2 * (maskOf q.length (first.contains 1) (first.contains 2) (first.contains 3) (first.contains 4) (first.contains 5) : Int) + 1) q.length 0 []) q 0 (fun t ht => by
    rw [Int.zero_add]
    have hz := firstOk_has h
    match t, ht with
    | 0, _ => exact hz.trans m0.symm
    | 1, ht => exact (c1 ht).symm
    | 2, ht => exact (c2 ht).symm
    | 3, ht => exact (c3 ht).symm
    | 4, ht => exact (c4 ht).symm
    | 5, ht => exact (c5 ht).symm
    | t + 6, ht => omega)
  unfold costM
  rw [e.1, e.2]

theorem laws_big_eq (l : List Int) : laws_big.f l = some (decide ((l.length : Int) > 4096)) := rfl

theorem laws_likeInts_l0 (l : List Int) (hl : l.length ≤ 9223372036854775806) : ∀ (d k i : Nat), i + d = l.length → d < k → laws_likeInts.l0 k l l (i : Int) = some true := by
  intro d
  induction d with
  | zero =>
    intro k i h hk
    obtain ⟨k, rfl⟩ : ∃ m, k = m + 1 := ⟨k - 1, by omega⟩
    rw [laws_likeInts.l0, if_neg (by omega)]
  | succ d ih =>
    intro k i h hk
    obtain ⟨k, rfl⟩ : ∃ m, k = m + 1 := ⟨k - 1, by omega⟩
    rw [laws_likeInts.l0, if_pos (by omega), if_pos (by omega), if_pos (by omega), if_pos rfl, w64 (x := (i : Int) + 1) (by omega) (by omega)]
    exact ih k (i + 1) (by omega) (by omega)
theorem laws_likeInts_eq (l : List Int) (k : Nat) (hl : l.length ≤ 9223372036854775806) (hk : l.length < k) : laws_likeInts.f k l l = some true := by
  unfold laws_likeInts.f
  rw [if_pos rfl]
  exact laws_likeInts_l0 l hl l.length k 0 (by omega) hk

theorem spec_l01From_l0 (c : List Int) (hc : Code c) : ∀ (d k i : Nat) (l : List Int) (a s : Int), i + d = c.length → d < k → 0 ≤ a → 0 ≤ s → s < 2147483647 → ∃ q, spec_l01From.l0 k c (i : Int) l a s = some (l, q) ∧ SOk q := by
  intro d
  have hl := hc.2
  induction d with
  | zero =>
    intro k i l a s h hk ha h0 h1
    obtain ⟨k, rfl⟩ : ∃ m, k = m + 1 := ⟨k - 1, by omega⟩
    rw [spec_l01From.l0, if_neg (by omega)]
    exact ⟨(a, s), rfl, ha, h0, h1⟩
  | succ d ih =>
    intro k i l a s h hk ha h0 h1
    obtain ⟨k, rfl⟩ : ∃ m, k = m + 1 := ⟨k - 1, by omega⟩
    rw [spec_l01From.l0, if_pos (by omega)]
    by_cases h64 : (i : Int) < 64
    · have hb := rd_byte hc (i := (i : Int)) (by omega) (by omega)
      rw [if_pos h64, if_pos (by omega), w64 (x := (i : Int) + 1) (by omega) (by omega), w64 (x := rd c (i : Int)) (by omega) (by omega), w64 (x := s * 71) (by omega) (by omega), w64 (x := s * 71 + rd c (i : Int)) (by omega) (by omega), tmod_n (by omega)]
      exact ih k (i + 1) l a _ (by omega) (by omega) ha (by omega) (by omega)
    · rw [if_neg h64]
      exact ⟨(a, s), rfl, ha, h0, h1⟩
theorem from_ok {c : List Int} (hc : Code c) {k : Nat} (hk : c.length < k) : ∃ p, spec_l01From.f k c = some p ∧ p.1 = c ∧ SOk p.2 := by
  obtain ⟨q, e, h⟩ := spec_l01From_l0 c hc c.length k 0 c 0 88007 (by omega) hk (by omega) (by omega) (by omega)
  exact ⟨(c, q), e, rfl, h⟩

theorem next_ok {c : List Int} (hc : Code c) {q : Int × Int} (hq : SOk q) (n : Int) : ∃ p, spec_l01Next.f c q.1 q.2 n = some p ∧ SOk p.2 ∧ 0 ≤ p.1 ∧ (p.1 < n ∨ p.1 = 0) := by
  obtain ⟨a, s⟩ := q
  obtain ⟨ha, h0, h1⟩ := hq
  have hl := hc.2
  simp only at ha h0 h1
  unfold spec_l01Next.f
  simp only
  by_cases hn : n ≤ 1
  · rw [if_pos hn]
    exact ⟨_, rfl, ⟨ha, h0, h1⟩, by simp, .inr rfl⟩
  rw [if_neg hn, w64 (x := s * 48271) (by omega) (by omega), w64 (x := s * 48271 + 61) (by omega) (by omega), tmod_n (a := s * 48271 + 61) (by omega)]
  have hS : 0 ≤ (s * 48271 + 61) % 2147483647 ∧ (s * 48271 + 61) % 2147483647 < 2147483647 := by omega
  generalize (s * 48271 + 61) % 2147483647 = S at hS
  rw [tdiv_n (a := S) (by omega)]
  have hm : ∀ x : Int, 0 ≤ x → 0 ≤ Int.tmod x n ∧ Int.tmod x n < n := fun x hx => by
    rw [tmod_n hx]
    exact ⟨Int.emod_nonneg _ (by omega), Int.emod_lt_of_pos _ (by omega)⟩
  by_cases hlt : a < (c.length : Int)
  · have hb := rd_byte hc ha hlt
    rw [if_pos hlt, if_pos ha, w64 (x := a + 1) (by omega) (by omega), w64 (x := a + 1 - 1) (by omega) (by omega), show a + 1 - 1 = a by omega, w64 (x := rd c a) (by omega) (by omega), w64 (x := S / 31) (by omega) (by omega), w64 (x := S / 31 + rd c a) (by omega) (by omega)]
    have g1 := hm (rd c a) hb.1
    have g2 := hm (S / 31 + rd c a) (by omega)
    split
    · split
      · rw [if_neg (by omega)]
        exact ⟨_, rfl, ⟨by simp only; omega, hS.1, hS.2⟩, g1.1, .inl g1.2⟩
      · rw [if_neg (by omega)]
        exact ⟨_, rfl, ⟨by simp only; omega, hS.1, hS.2⟩, g2.1, .inl g2.2⟩
    · rw [if_neg (by omega)]
      exact ⟨_, rfl, ⟨by simp only; omega, hS.1, hS.2⟩, g2.1, .inl g2.2⟩
  · have g3 := hm (S / 31) (by omega)
    rw [if_neg hlt, if_neg (by omega), w64 (x := S / 31) (by omega) (by omega)]
    exact ⟨_, rfl, ⟨ha, hS.1, hS.2⟩, g3.1, .inl g3.2⟩

theorem pick_ok {c : List Int} (hc : Code c) {q : Int × Int} (hq : SOk q) (l : List Int) (hl : 0 < l.length) : ∃ p, spec_l01Pick.f c q.1 q.2 l = some p ∧ SOk p.2 ∧ p.1 ∈ l := by
  unfold spec_l01Pick.f
  obtain ⟨p, e, h1, h2, h3⟩ := next_ok hc hq (l.length : Int)
  rw [e]
  simp only [Option.bind_some]
  have h4 : p.1 < (l.length : Int) := by omega
  rw [if_pos h2, if_pos h4]
  refine ⟨_, rfl, h1, ?_⟩
  simp only
  obtain ⟨n, hn⟩ : ∃ n : Nat, p.1 = n := ⟨p.1.toNat, by omega⟩
  have hn2 : n < l.length := by omega
  have e2 : rd l (n : Int) = l[n] := by rw [rd_nat, List.getD_eq_getElem?_getD, List.getElem?_eq_getElem hn2]; rfl
  rw [hn, e2]
  exact List.getElem_mem hn2

theorem l11Draw_l1 (c : List Int) : ∀ (e k i : Nat) (acc : List Int) (a s : Int), i + e = acc.length → acc.length ≤ 100 → e < k → ∃ r, spec_l11Draw.l1 k acc (i : Int) c a s = some r ∧ r.2.2 = (a, s) ∧ r.2.1.length = acc.length := by
  intro e
  induction e with
  | zero =>
    intro k i acc a s h hb hk
    obtain ⟨k, rfl⟩ : ∃ m, k = m + 1 := ⟨k - 1, by omega⟩
    rw [spec_l11Draw.l1, if_neg (by omega)]
    exact ⟨_, rfl, rfl, rfl⟩
  | succ e ih =>
    intro k i acc a s h hb hk
    obtain ⟨k, rfl⟩ : ∃ m, k = m + 1 := ⟨k - 1, by omega⟩
    rw [spec_l11Draw.l1, if_pos (by omega), if_pos (by omega), w64 (x := (i : Int) + 1) (by omega) (by omega)]
    obtain ⟨r, h1, h2, h3⟩ := ih k (i + 1) (acc.set ((i : Int)).toNat 3) a s (by rw [List.length_set]; omega) (by rw [List.length_set]; exact hb) (by omega)
    exact ⟨r, h1, h2, by rw [h3, List.length_set]⟩
theorem l11Draw_l0 {c : List Int} (hc : Code c) : ∀ (d k : Nat) (acc : List Int) (q : Int × Int), SOk q → 1 ≤ acc.length + d → acc.length + d ≤ 8 → d + 20 < k → ∃ r, spec_l11Draw.l0 k acc (d : Int) c q.1 q.2 = some r ∧ SOk r.2.2 ∧ r.2.1.length ≤ 8 := by
  intro d
  induction d with
  | zero =>
    intro k acc q hq h1 h2 hk
    obtain ⟨k, rfl⟩ : ∃ m, k = m + 1 := ⟨k - 1, by omega⟩
    rw [spec_l11Draw.l0, if_neg (by omega)]
    refine bind_ok (next_ok hc hq 12) fun p hp => bind_ok (next_ok hc hp.1 40) fun r hr => ite_ok (fun _ => bind_ok (pick_ok hc hr.1 _ (by simp)) fun t ht => ⟨_, rfl, ht.1, by simp only; omega⟩) (fun _ => ite_ok (fun _ => bind_ok (pick_ok hc hr.1 _ (by simp)) fun t ht => ite_ok (fun _ => ⟨_, rfl, ht.1, by simp only [List.length_set]; omega⟩) (fun hx => absurd (show 0 < (acc.length : Int) by omega) hx)) (fun _ => ite_ok (fun _ => bind_ok (next_ok hc hr.1 2) fun t ht => ?_) (fun _ => ⟨_, rfl, hr.1, by simp only; omega⟩)))
    obtain ⟨u1, u2, u3⟩ := ht
    have hw : wrap64 (6 + t.1) = 6 + t.1 := w64 (by omega) (by omega)
    rw [hw, if_pos (by omega), if_pos (by omega)]
    obtain ⟨r, g1, g2, g3⟩ := l11Draw_l1 c (6 + t.1).toNat k 0 (List.replicate (6 + t.1).toNat 0) t.2.1 t.2.2 (by simp) (by rw [List.length_replicate]; omega) (by omega)
    exact ⟨r, g1, by rw [g2]; exact u1, by rw [g3, List.length_replicate]; omega⟩
  | succ d ih =>
    intro k acc q hq h1 h2 hk
    obtain ⟨k, rfl⟩ : ∃ m, k = m + 1 := ⟨k - 1, by omega⟩
    rw [spec_l11Draw.l0, if_pos (by omega), w64 (x := ((d + 1 : Nat) : Int) - 1) (by omega) (by omega), show ((d + 1 : Nat) : Int) - 1 = (d : Int) by omega]
    exact bind_ok (pick_ok hc hq _ (by simp)) fun p hp => bind_ok (next_ok hc hp.1 _) fun r hr => ite_ok (fun _ => ih k _ r.2 hr.1 (by rw [List.length_append, List.length_singleton]; omega) (by rw [List.length_append, List.length_singleton]; omega) (by omega)) (fun hx => absurd (show acc.length < 17592186044416 by omega) hx)
theorem l11Draw_ok {c : List Int} (hc : Code c) {q : Int × Int} (hq : SOk q) {k : Nat} (hk : 40 < k) : ∃ r, spec_l11Draw.f k c q.1 q.2 = some r ∧ SOk r.2.2 ∧ r.2.1.length ≤ 8 := by
  unfold spec_l11Draw.f
  refine bind_ok (next_ok hc hq 5) fun p hp => ?_
  obtain ⟨u1, u2, u3⟩ := hp
  rw [w64 (x := 1 + p.1) (by omega) (by omega)]
  have := l11Draw_l0 hc (1 + p.1).toNat k [] p.2 u1 (by simp only [List.length_nil]; omega) (by simp only [List.length_nil]; omega) (by omega)
  rw [show (((1 + p.1).toNat : Nat) : Int) = 1 + p.1 by omega] at this
  exact this

theorem DrawBestDivision_ok {c : List Int} (hc : Code c) {k : Nat} (hk : c.length + 40 < k) : ∃ p, spec_DrawBestDivision.f k c = some p ∧ p.2.1.length ≤ 8 := by
  unfold spec_DrawBestDivision.f
  refine bind_ok (from_ok hc (by omega)) fun p hp => ?_
  rw [hp.1]
  exact bind_ok (l11Draw_ok hc hp.2 (by omega)) fun g hg => bind_ok (next_ok hc hg.1 300) fun s hs => bind_ok (next_ok hc hs.1 50) fun t ht => bind_ok (pick_ok hc ht.1 _ (by simp)) fun u hu => bind_ok (pick_ok hc hu.1 _ (by simp)) fun v _ => ⟨_, rfl, hg.2⟩

theorem impl_inRange_eq (a b c : Int) : impl_inRange.f a b c = some (inR a b c) := by
  unfold impl_inRange.f inR
  by_cases h : b ≤ a
  · rw [if_pos h]; simp [h]
  · rw [if_neg h]; simp [h]

theorem impl_length_int64_eq (xs : List Int) : impl_length_int64.f xs = some (xs.length : Int) := rfl

theorem impl_allIn_eq (xs : List Int) (lo hi : Int) : impl_allIn.f xs lo hi = some (allR xs lo hi) := rfl

theorem impl_IsGang_eq (slots : Int) (q : List Int) : impl_IsGang.f slots q = some (gang slots q) := by
  unfold impl_IsGang.f gang
  simp only [impl_inRange_eq, impl_allIn_eq, impl_length_int64_eq, Option.bind_some, mn_min]
  cases inR slots 1 32
  · simp
  · cases inR (q.length : Int) 1 (min 6 slots) <;> simp

theorem impl_quotient_eq (a b : Int) (h0 : 0 ≤ a) (h1 : a ≤ 4611686018427387904) (k0 : 1 ≤ b) (k1 : b ≤ 4611686018427387903) : impl_quotient.f a b = some ((a + b - 1) / b) := by
  unfold impl_quotient.f
  have h3 : 0 ≤ (a + b - 1) / b := Int.ediv_nonneg (by omega) (by omega)
  have h4 : (a + b - 1) / b ≤ a + b - 1 := Int.ediv_le_self _ (by omega)
  rw [if_neg (by omega), w64 (x := a + b) (by omega) (by omega), w64 (x := a + b - 1) (by omega) (by omega), tdiv_n (by omega), w64 (by omega) (by omega)]

theorem impl_upsM_take (q : List Int) (run : Int) (i : Nat) (h : i < q.length) : upsM (q.take (i + 1)) run = upsM (q.take i) run ++ [(q[i] + run - 1) / run] := by
  unfold upsM
  rw [List.take_succ_eq_append_getElem h, List.map_append]
  rfl
theorem impl_upsM_len (q : List Int) (run : Int) : (upsM q run).length = q.length := by simp [upsM]
theorem impl_upsFor_l0 (q : List Int) (run : Int) (hq : ∀ x ∈ q, 1 ≤ x ∧ x ≤ 1000000) (hr : 1 ≤ run ∧ run ≤ 1000000) (hb : q.length ≤ 1048576) : ∀ (d k i : Nat), i + d = q.length → d < k → impl_upsFor.l0 k run (upsM (q.take i) run) q (q.length : Int) (i : Int) = some (upsM q run) := by
  intro d
  induction d with
  | zero =>
    intro k i h hk
    obtain ⟨k, rfl⟩ : ∃ m, k = m + 1 := ⟨k - 1, by omega⟩
    rw [impl_upsFor.l0, if_neg (by omega), List.take_of_length_le (by omega)]
  | succ d ih =>
    intro k i h hk
    obtain ⟨k, rfl⟩ : ∃ m, k = m + 1 := ⟨k - 1, by omega⟩
    have h1 : i < q.length := by omega
    have b1 := hq q[i] (List.getElem_mem h1)
    rw [impl_upsFor.l0, if_pos (by omega), if_pos (by omega), if_pos (by omega), rd_get q i h1, impl_quotient_eq _ _ (by omega) (by omega) (by omega) (by omega), w64 (x := (i : Int) + 1) (by omega) (by omega)]
    simp only [Option.bind_some]
    rw [if_pos (by rw [impl_upsM_len, List.length_take]; omega), ← impl_upsM_take q run i h1]
    exact ih k (i + 1) (by omega) (by omega)
theorem impl_upsFor_eq (q : List Int) (run : Int) (k : Nat) (hq : ∀ x ∈ q, 1 ≤ x ∧ x ≤ 1000000) (hr : 1 ≤ run ∧ run ≤ 1000000) (hb : q.length ≤ 1048576) (hk : q.length < k) : impl_upsFor.f k q run = some (upsM q run) := by
  unfold impl_upsFor.f
  exact impl_upsFor_l0 q run hq hr hb q.length k 0 (by omega) hk

theorem impl_sumOf_l0 (xs : List Int) (hl : xs.length ≤ 9223372036854775806) : ∀ (d k i : Nat) (a : Int), i + d = xs.length → d < k → impl_sumOf.l0 k a xs (xs.length : Int) (i : Int) = some (wsum a (xs.drop i)) := by
  intro d
  induction d with
  | zero =>
    intro k i a h hk
    obtain ⟨k, rfl⟩ : ∃ m, k = m + 1 := ⟨k - 1, by omega⟩
    rw [impl_sumOf.l0, if_neg (by omega), List.drop_of_length_le (by omega)]
    rfl
  | succ d ih =>
    intro k i a h hk
    obtain ⟨k, rfl⟩ : ∃ m, k = m + 1 := ⟨k - 1, by omega⟩
    have hi : i < xs.length := by omega
    rw [impl_sumOf.l0, if_pos (by omega), if_pos (by omega), if_pos (by omega), rd_get xs i hi, drop_get xs i hi, w64 (x := (i : Int) + 1) (by omega) (by omega), wsum_cons]
    exact ih k (i + 1) _ (by omega) (by omega)
theorem impl_sumOf_eq (xs : List Int) (k : Nat) (hl : xs.length ≤ 9223372036854775806) (hk : xs.length < k) : impl_sumOf.f k xs = some (wsum 0 xs) := by
  unfold impl_sumOf.f
  exact impl_sumOf_l0 xs hl xs.length k 0 0 (by omega) hk

theorem slices_Max_int64_int64_l0 (xs : List Int) (hl : xs.length ≤ 9223372036854775806) : ∀ (d k i : Nat) (m : Int), i + d = xs.length → d < k → slices_Max_int64_int64.l0 k xs m (i : Int) = some ((xs.drop i).foldl max m) := by
  intro d
  induction d with
  | zero =>
    intro k i m h hk
    obtain ⟨k, rfl⟩ : ∃ m, k = m + 1 := ⟨k - 1, by omega⟩
    rw [slices_Max_int64_int64.l0, if_neg (by omega), List.drop_of_length_le (by omega)]
    rfl
  | succ d ih =>
    intro k i m h hk
    obtain ⟨k, rfl⟩ : ∃ m, k = m + 1 := ⟨k - 1, by omega⟩
    have hi : i < xs.length := by omega
    rw [slices_Max_int64_int64.l0, if_pos (by omega), if_pos (by omega), rd_get xs i hi, drop_get xs i hi, w64 (x := (i : Int) + 1) (by omega) (by omega), List.foldl_cons, mx_max]
    exact ih k (i + 1) _ (by omega) (by omega)
theorem slices_Max_int64_int64_eq (xs : List Int) (k : Nat) (h0 : 1 ≤ xs.length) (hl : xs.length ≤ 9223372036854775806) (hk : xs.length < k) : slices_Max_int64_int64.f k xs = some ((xs.drop 1).foldl max (rd xs 0)) := by
  unfold slices_Max_int64_int64.f
  rw [if_neg (by omega), if_pos (by omega)]
  exact slices_Max_int64_int64_l0 xs hl (xs.length - 1) k 1 _ (by omega) (by omega)

theorem impl_leastRun_l0 (slots : Int) (q : List Int) (hf : fits slots q) : ∀ (d k : Nat) (lo hi : Int), Halves slots q lo hi → hi - lo ≤ d → d + q.length < k → impl_leastRun.l0 k slots q lo hi = some (leastM slots q) := by
  intro d
  induction d with
  | zero =>
    intro k lo hi h hd hk
    obtain ⟨k, rfl⟩ : ∃ m, k = m + 1 := ⟨k - 1, by omega⟩
    rw [impl_leastRun.l0, if_neg (by omega), h.done (by omega)]
  | succ d ih =>
    intro k lo hi h hd hk
    obtain ⟨k, rfl⟩ : ∃ m, k = m + 1 := ⟨k - 1, by omega⟩
    by_cases e : lo < hi
    · have h' := h
      obtain ⟨h1, h2, h3, h4, h5⟩ := h'
      have hl := hf.2.1
      rw [impl_leastRun.l0, if_pos e, w64 (x := lo + hi) (by omega) (by omega), tdiv_n (by omega), w64 (x := (lo + hi) / 2) (by omega) (by omega), impl_upsFor_eq q _ k hf.2.2 (by omega) (by omega) (by omega)]
      simp only [Option.bind_some]
      rw [impl_sumOf_eq _ k (by rw [impl_upsM_len]; omega) (by rw [impl_upsM_len]; omega), w64 (x := (lo + hi) / 2 + 1) (by omega) (by omega)]
      simp only [Option.bind_some]
      by_cases c : wsum 0 (upsM q ((lo + hi) / 2)) ≤ slots
      · rw [if_pos c]
        exact ih k _ _ (h.left e (decide_eq_true c)) (by omega) (by omega)
      · rw [if_neg c]
        exact ih k _ _ (h.right hf e (decide_eq_false c)) (by omega) (by omega)
    · rw [impl_leastRun.l0, if_neg e, h.done e]
theorem foldl_max_le : ∀ (xs : List Int) (m b : Int), m ≤ b → (∀ x ∈ xs, x ≤ b) → xs.foldl max m ≤ b
  | [], m, b, h, _ => h
  | x :: xs, m, b, h, hx => foldl_max_le xs (max m x) b (by have := hx x (by simp); omega) (fun y hy => hx y (by simp [hy]))
theorem foldl_max_ge : ∀ (xs : List Int) (m : Int), m ≤ xs.foldl max m ∧ ∀ x ∈ xs, x ≤ xs.foldl max m
  | [], m => by simp
  | x :: xs, m => by
    have h := foldl_max_ge xs (max m x)
    rw [List.foldl_cons]
    refine ⟨by omega, fun y hy => ?_⟩
    rcases List.mem_cons.1 hy with rfl | hy
    · omega
    · exact h.2 y hy
theorem impl_leastRun_eq (slots : Int) (q : List Int) (k : Nat) (hf : fits slots q) (h0 : 1 ≤ q.length) (hk : q.length + 1000000 < k) : impl_leastRun.f k slots q = some (leastM slots q) := by
  unfold impl_leastRun.f
  have hl := hf.2.1
  rw [slices_Max_int64_int64_eq q k h0 (by omega) (by omega)]
  simp only [Option.bind_some]
  cases q with
  | nil => simp at h0
  | cons x xs =>
    have hx := hf.2.2 x (by simp)
    have e : rd (x :: xs) 0 = x := rfl
    rw [e, List.drop_one, List.tail_cons]
    have g := foldl_max_ge xs x
    have u := foldl_max_le xs x 1000000 hx.2 (fun y hy => (hf.2.2 y (by simp [hy])).2)
    exact impl_leastRun_l0 slots (x :: xs) hf 1000000 k 1 _ (Halves.start hf (by omega) (fun y hy => by
      rcases List.mem_cons.1 hy with rfl | hy
      · exact g.1
      · exact g.2 y hy)) (by omega) (by omega)

theorem slices_Index_int64_int64_l0 (xs : List Int) (x : Int) (hl : xs.length ≤ 9223372036854775806) : ∀ (d k i : Nat), i + d = xs.length → d < k → slices_Index_int64_int64.l0 k xs x (xs.length : Int) (i : Int) = some (idxFrom (xs.drop i) x i) := by
  intro d
  induction d with
  | zero =>
    intro k i h hk
    obtain ⟨k, rfl⟩ : ∃ m, k = m + 1 := ⟨k - 1, by omega⟩
    rw [slices_Index_int64_int64.l0, if_neg (by omega), List.drop_of_length_le (by omega)]
    rfl
  | succ d ih =>
    intro k i h hk
    obtain ⟨k, rfl⟩ : ∃ m, k = m + 1 := ⟨k - 1, by omega⟩
    have hi : i < xs.length := by omega
    have e : xs.drop i = xs[i] :: xs.drop (i + 1) := List.drop_eq_getElem_cons hi
    have e2 : xs.getD i 0 = xs[i] := by simp [List.getD_eq_getElem?_getD, List.getElem?_eq_getElem hi]
    have e3 := ih k (i + 1) (by omega) (by omega)
    rw [slices_Index_int64_int64.l0, if_pos (by omega), if_pos (by omega), if_pos (by omega), rd_nat, e2, e, idxFrom]
    by_cases hx : x = xs[i]
    · rw [if_pos hx, if_pos hx]
    · rw [if_neg hx, if_neg hx, w64 (by omega) (by omega)]
      exact e3
theorem slices_Index_int64_int64_eq (xs : List Int) (x : Int) (k : Nat) (hl : xs.length ≤ 9223372036854775806) (hk : xs.length < k) : slices_Index_int64_int64.f k xs x = some (idxFrom xs x 0) := by
  unfold slices_Index_int64_int64.f
  exact slices_Index_int64_int64_l0 xs x hl xs.length k 0 (by omega) hk

theorem idxFrom_has : ∀ (xs : List Int) (x : Int) (i : Nat), decide (idxFrom xs x i ≥ 0) = xs.contains x
  | [], x, i => by simp [idxFrom]
  | y :: ys, x, i => by
    rw [idxFrom, List.contains_cons]
    by_cases h : x = y
    · rw [if_pos h, h]
      simp
    · rw [if_neg h, idxFrom_has ys x (i + 1)]
      simp [h]
theorem slices_Contains_int64_int64_eq (xs : List Int) (x : Int) (k : Nat) (hl : xs.length ≤ 9223372036854775806) (hk : xs.length < k) : slices_Contains_int64_int64.f k xs x = some (xs.contains x) := by
  unfold slices_Contains_int64_int64.f
  rw [slices_Index_int64_int64_eq xs x k hl hk]
  simp only [Option.bind_some]
  rw [idxFrom_has]

theorem impl_dividedCost_l0 (slots : Int) (q first : List Int) (setup : Int) (hs : 0 ≤ setup ∧ setup ≤ 1000000) (hb : q.length ≤ 1048576) (hl : first.length ≤ 1048576) : ∀ (d k i : Nat) (a b : List Int), i + d = q.length → d + first.length + 1000010 < k → fits slots (a ++ partIn first (q.drop i) (i : Int)) → 1 ≤ (a ++ partIn first (q.drop i) (i : Int)).length → fits slots (b ++ partOut first (q.drop i) (i : Int)) →
    impl_dividedCost.l0 k slots first setup a b q (q.length : Int) (i : Int) = some (costF slots (a ++ partIn first (q.drop i) (i : Int)) (b ++ partOut first (q.drop i) (i : Int)) setup) := by
  intro d
  induction d with
  | zero =>
    intro k i a b h hk ha hn1 hb
    obtain ⟨k, rfl⟩ : ∃ m, k = m + 1 := ⟨k - 1, by omega⟩
    rw [List.drop_of_length_le (by omega), partIn, List.append_nil] at ha hn1 ⊢
    rw [List.drop_of_length_le (by omega), partOut, List.append_nil] at hb
    rw [partOut, List.append_nil]
    have hla := ha.2.1
    have hlb := hb.2.1
    have h1 := leastM_least ha
    have h2 := leastM_least hb
    have e1 := h1.1.1
    have e2 := h2.1.1
    rw [impl_dividedCost.l0, if_neg (by omega), impl_leastRun_eq slots a k ha hn1 (by omega)]
    simp only [Option.bind_some]
    unfold costF
    by_cases hn : b = []
    · subst hn
      rw [if_neg (by simp), if_pos rfl, w64 (by omega) (by omega), Int.add_zero]
    · have : 0 < b.length := List.length_pos_iff.2 hn
      rw [if_pos (by omega), if_neg hn, impl_leastRun_eq slots b k hb (by omega) (by omega)]
      simp only [Option.bind_some]
      rw [w64 (x := leastM slots a + setup) (by omega) (by omega), w64 (x := leastM slots b + setup) (by omega) (by omega), w64 (by omega) (by omega)]
  | succ d ih =>
    intro k i a b h hk ha hn1 hb
    obtain ⟨k, rfl⟩ : ∃ m, k = m + 1 := ⟨k - 1, by omega⟩
    have h1 : i < q.length := by omega
    have e : ((i + 1 : Nat) : Int) = (i : Int) + 1 := by omega
    have hla := ha.2.1
    have hlb := hb.2.1
    rw [List.length_append] at hla hlb
    rw [impl_dividedCost.l0, if_pos (by omega), if_pos (by omega), if_pos (by omega), slices_Contains_int64_int64_eq first _ k (by omega) (by omega), rd_get q i h1, w64 (x := (i : Int) + 1) (by omega) (by omega)]
    simp only [Option.bind_some]
    rw [drop_get q i h1, partIn] at ha hn1 ⊢
    rw [drop_get q i h1, partOut] at hb
    rw [partOut]
    by_cases c : first.contains (i : Int) = true
    · rw [if_pos c] at ha hb hn1 ⊢
      rw [if_pos c, if_pos c, if_pos (by omega), ← e]
      rw [← e] at ha hb hn1
      rw [List.append_cons a (q[i]) (partIn first (q.drop (i + 1)) ((i + 1 : Nat) : Int))] at ha hn1 ⊢
      exact ih k (i + 1) _ _ (by omega) (by omega) ha hn1 hb
    · rw [if_neg c] at ha hb hn1 ⊢
      rw [if_neg c, if_neg c, if_pos (by omega), ← e]
      rw [← e] at ha hb hn1
      rw [List.append_cons b (q[i]) (partOut first (q.drop (i + 1)) ((i + 1 : Nat) : Int))] at hb ⊢
      exact ih k (i + 1) _ _ (by omega) (by omega) ha hn1 hb
theorem impl_dividedCost_eq (slots : Int) (q first : List Int) (setup : Int) (k : Nat) (hf : fits slots q) (hn : 1 ≤ (partIn first q 0).length) (hs : 0 ≤ setup ∧ setup ≤ 1000000) (hl : first.length ≤ 1048576) (hk : q.length + first.length + 1000010 < k) : impl_dividedCost.f k slots q first setup = some (costM slots q first setup) := by
  unfold impl_dividedCost.f costM
  have := hf.2.1
  exact impl_dividedCost_l0 slots q first setup hs (by omega) hl q.length k 0 [] [] (by omega) hk (partIn_fits hf first 0) hn (partOut_fits hf first 0)

theorem cmp_eq (x y : Int) : cmp_Compare_int64.f x y = some (if x < y then -1 else if x > y then 1 else 0) := by
  unfold cmp_Compare_int64.f cmp_isNaN_int64.f
  simp only [bne_self_eq_false, Option.bind_some, Bool.false_eq_true, if_false]
  split
  · rfl
  · split <;> rfl
theorem slices_Compare_int64_int64_l0 (a b : List Int) (ha : a.length ≤ 1048576) (hb : b.length ≤ 1048576) : ∀ (d k i : Nat), i + d = a.length → i ≤ b.length → d < k → slices_Compare_int64_int64.l0 k a b a (a.length : Int) (i : Int) = some (cmpM (a.drop i) (b.drop i)) := by
  intro d
  induction d with
  | zero =>
    intro k i h hib hk
    obtain ⟨k, rfl⟩ : ∃ m, k = m + 1 := ⟨k - 1, by omega⟩
    rw [slices_Compare_int64_int64.l0, if_neg (by omega), List.drop_of_length_le (l := a) (by omega)]
    by_cases h2 : i < b.length
    · rw [if_pos (by omega), drop_get b i h2, cmpM]
    · rw [if_neg (by omega), List.drop_of_length_le (l := b) (by omega), cmpM]
  | succ d ih =>
    intro k i h hib hk
    obtain ⟨k, rfl⟩ : ∃ m, k = m + 1 := ⟨k - 1, by omega⟩
    have h1 : i < a.length := by omega
    rw [slices_Compare_int64_int64.l0, if_pos (by omega), if_pos (by omega), if_pos (by omega), drop_get a i h1]
    by_cases h2 : i < b.length
    · rw [if_neg (by omega), if_pos (by omega), rd_get a i h1, rd_get b i h2, drop_get b i h2, cmpM, cmp_eq, w64 (x := (i : Int) + 1) (by omega) (by omega)]
      simp only [Option.bind_some]
      by_cases e1 : a[i] < b[i]
      · rw [if_pos e1, if_pos e1, if_neg (by decide)]
      · rw [if_neg e1, if_neg e1]
        by_cases e2 : a[i] > b[i]
        · rw [if_pos e2, if_pos e2, if_neg (by decide)]
        · rw [if_neg e2, if_neg e2, if_pos rfl]
          exact ih k (i + 1) (by omega) (by omega) (by omega)
    · rw [if_pos (by omega), List.drop_of_length_le (l := b) (by omega), cmpM]
theorem slices_Compare_int64_int64_eq (a b : List Int) (k : Nat) (ha : a.length ≤ 1048576) (hb : b.length ≤ 1048576) (hk : a.length < k) : slices_Compare_int64_int64.f k a b = some (cmpM a b) := by
  unfold slices_Compare_int64_int64.f
  exact slices_Compare_int64_int64_l0 a b ha hb a.length k 0 (by omega) (by omega) hk

theorem impl_BestDivision_l1 (slots : Int) (q : List Int) (setup : Int) (best : List Int) (cost m : Int) (hq : q.length ≤ 6) (k0 : Nat) : ∀ (d i : Nat) (acc : List Int), i + d = q.length → acc.length ≤ i → impl_BestDivision.l1 (k0 + d + 1) slots q setup best cost m acc (q.length : Int) (i : Int) = impl_BestDivision.l1 (k0 + 1) slots q setup best cost m (pickBits m d (i : Int) acc) (q.length : Int) (q.length : Int) := by
  intro d
  induction d with
  | zero =>
    intro i acc h ha
    have e : (i : Int) = (q.length : Int) := by omega
    rw [e, pickBits]
  | succ d ih =>
    intro i acc h ha
    rw [show k0 + (d + 1) + 1 = (k0 + d + 1) + 1 by omega, impl_BestDivision.l1, if_pos (by omega), if_pos (by omega), w64 (x := (i : Int) + 1) (by omega) (by omega), pickBits]
    by_cases c : Go.bits .and .i64 (shr .i64 m (i : Int)) 1 = 1
    · rw [if_pos c, if_pos c, if_pos (by omega)]
      exact ih (i + 1) _ (by omega) (by rw [List.length_append, List.length_singleton]; omega)
    · rw [if_neg c, if_neg c]
      exact ih (i + 1) _ (by omega) (by omega)
theorem impl_BestDivision_step (slots : Int) (q : List Int) (setup : Int) (best first : List Int) (cost m : Int) (hf : fits slots q) (hp : 1 ≤ (partIn first q 0).length) (hs : 0 ≤ setup ∧ setup ≤ 1000000) (hl : first.length ≤ 6) (hb : best.length ≤ 6) (hm : 0 ≤ m ∧ m ≤ 100) (k : Nat) (hk : 1000100 < k) :
    impl_BestDivision.l1 (k + 3) slots q setup best cost m first (q.length : Int) (q.length : Int) = if betterM first best (costM slots q first setup) cost = true then impl_BestDivision.l0 k slots q setup first (costM slots q first setup) (m + 2) else impl_BestDivision.l0 k slots q setup best cost (m + 2) := by
  have hq := hf.2.1
  rw [impl_BestDivision.l1, if_neg (by omega), impl_dividedCost_eq slots q first setup (k + 2) hf hp hs (by omega) (by omega)]
  simp only [Option.bind_some, impl_BestDivision.j2, impl_BestDivision.j3]
  rw [slices_Compare_int64_int64_eq first best k (by omega) (by omega) (by omega), w64 (x := m + 2) (by omega) (by omega)]
  simp only [Option.bind_some]
  generalize costM slots q first setup = c
  have e0 : ((best.length : Int) = 0) = (best = []) := propext (by rw [← List.length_eq_zero_iff]; omega)
  have e1 : ((first.length : Int) > (best.length : Int)) = (best.length < first.length) := propext (by omega)
  have e2 : ((first.length : Int) = (best.length : Int)) = (first.length = best.length) := propext (by omega)
  have e3 : (cmpM first best < 0) = (lexLt first best = true) := propext (by rw [← cmpM_neg, decide_eq_true_eq])
  simp only [e0, e1, e2, e3]
  unfold betterM
  by_cases b0 : best = []
  · simp [b0]
  by_cases b1 : c < cost
  · simp [b0, b1]
  by_cases b2 : c = cost
  · by_cases b3 : best.length < first.length
    · simp [b0, b1, b2, b3]
    · by_cases b4 : first.length = best.length
      · cases b5 : lexLt first best <;> simp [b0, b1, b2, b3, b4, b5]
      · simp [b0, b1, b2, b3, b4]
  · simp [b0, b1, b2]
theorem pick_part {slots : Int} {q : List Int} {j : Nat} (hj : j < 32) (hn : 1 ≤ q.length) : 1 ≤ (partIn (pickBits (2 * (j : Int) + 1) q.length 0 []) q 0).length := by
  cases q with
  | nil => simp at hn
  | cons x xs =>
    rw [partIn, if_pos (pick_has0 hj hn)]
    simp
theorem impl_BestDivision_l0 (slots : Int) (q : List Int) (setup : Int) (hf : fits slots q) (hn : 1 ≤ q.length) (hs : 0 ≤ setup ∧ setup ≤ 1000000) : ∀ (d k j : Nat) (best : List Int) (cost : Int), j + d = 2 ^ (q.length - 1) → best.length ≤ 6 → 12 * d + 1000200 < k →
    impl_BestDivision.l0 k slots q setup best cost (2 * (j : Int) + 1) = some (bdLoop slots q setup d j best cost) := by
  intro d
  have hq := hf.2.1
  obtain ⟨g1, g2, g3, g4⟩ := shl_n q.length hq hn
  generalize hN : 2 ^ (q.length - 1) = N at g1 g2 g3
  induction d with
  | zero =>
    intro k j best cost h hb hk
    obtain ⟨k, rfl⟩ : ∃ m, k = m + 1 := ⟨k - 1, by omega⟩
    rw [impl_BestDivision.l0, g2, if_neg (by omega), bdLoop]
  | succ d ih =>
    intro k j best cost h hb hk
    obtain ⟨k, rfl⟩ : ∃ m, k = (m + 2 + q.length + 1) + 1 := ⟨k - q.length - 4, by omega⟩
    have hl := pickBits_len (2 * (j : Int) + 1) q.length 0 []
    simp only [List.length_nil, Nat.zero_add] at hl
    rw [impl_BestDivision.l0, g2, if_pos (by omega)]
    have h1 := impl_BestDivision_l1 slots q setup best cost (2 * (j : Int) + 1) hq (k + 2) q.length 0 [] (by omega) (by simp)
    rw [show ((0 : Nat) : Int) = 0 from rfl] at h1
    rw [h1, impl_BestDivision_step slots q setup best _ cost _ hf (pick_part (slots := slots) (by omega) hn) hs (by omega) hb (by omega) k (by omega), bdLoop, show 2 * (j : Int) + 1 + 2 = 2 * ((j + 1 : Nat) : Int) + 1 by omega]
    split
    · exact ih k (j + 1) _ _ (by omega) (by omega) (by omega)
    · exact ih k (j + 1) _ _ (by omega) hb (by omega)
theorem impl_BestDivision_eq (slots : Int) (q : List Int) (setup : Int) (k : Nat) (hl : q.length ≤ 1048576) (hk : q.length + 1000800 < k) : impl_BestDivision.f k slots q setup = some (bestDivision slots q setup) := by
  unfold impl_BestDivision.f bestDivision
  simp only [impl_IsGang_eq, impl_inRange_eq, Option.bind_some]
  cases hg : gang slots q
  · simp
  · cases hs : inR setup 0 1000000
    · simp
    · simp only [if_true]
      have hgt := gang_true hg
      have := (shl_n q.length (by omega) hgt.2.1.1).2.2.1
      exact impl_BestDivision_l0 slots q setup (gang_fits hg) hgt.2.1.1 (inR_true hs) _ k 0 [] 0 (by omega) (by simp) (by omega)

theorem spec_l01In_eq (a b c : Int) : spec_l01In.f a b c = some (inR a b c) := by
  unfold spec_l01In.f inR
  by_cases h : a ≥ b
  · rw [if_pos h]; simp [show b ≤ a from h]
  · rw [if_neg h]; simp [show ¬ b ≤ a from h]

theorem spec_l01Within_l0 (xs : List Int) (m lo hi : Int) (hl : xs.length ≤ 9223372036854775806) : ∀ (d k i : Nat), i + d = xs.length → d < k → spec_l01Within.l0 k xs m lo hi (i : Int) = some (allR (xs.drop i) lo hi && decide ((xs.length : Int) ≤ m)) := by
  intro d
  induction d with
  | zero =>
    intro k i h hk
    obtain ⟨k, rfl⟩ : ∃ m, k = m + 1 := ⟨k - 1, by omega⟩
    rw [spec_l01Within.l0, if_neg (by omega), List.drop_of_length_le (by omega)]
    rfl
  | succ d ih =>
    intro k i h hk
    obtain ⟨k, rfl⟩ : ∃ m, k = m + 1 := ⟨k - 1, by omega⟩
    have hlt : i < xs.length := by omega
    have e3 := ih k (i + 1) (by omega) (by omega)
    rw [spec_l01Within.l0, if_pos (by omega), if_pos (by omega), rd_get xs i hlt, spec_l01In_eq, drop_get xs i hlt, w64 (by omega) (by omega)]
    simp only [Option.bind_some, allR, List.all_cons]
    cases hx : inR xs[i] lo hi
    · simp
    · simp only [if_true, Bool.true_and]
      exact e3
theorem spec_l01Within_eq (xs : List Int) (m lo hi : Int) (k : Nat) (hl : xs.length ≤ 9223372036854775806) (hk : xs.length < k) : spec_l01Within.f k xs m lo hi = some (allR xs lo hi && decide ((xs.length : Int) ≤ m)) := by
  unfold spec_l01Within.f
  exact spec_l01Within_l0 xs m lo hi hl xs.length k 0 (by omega) hk

theorem spec_IsGang_eq (slots : Int) (q : List Int) (k : Nat) (hl : q.length ≤ 9223372036854775806) (hk : q.length < k) : spec_IsGang.f k slots q = some (gang slots q) := by
  unfold spec_IsGang.f gang
  simp only [spec_l01In_eq, spec_l01Within_eq q _ _ _ k hl hk, Option.bind_some]
  cases h0 : inR slots 1 32
  · simp
  · by_cases h1 : (q.length : Int) ≥ 1
    · by_cases h2 : (q.length : Int) ≤ slots
      · rw [if_pos rfl, if_pos h1, if_pos h2]
        by_cases h3 : (q.length : Int) ≤ 6
        · rw [inR_mk (a := (q.length : Int)) h1 (by omega)]; simp [h3]
        · have e : inR (q.length : Int) 1 (min 6 slots) = false := by simp [inR]; omega
          rw [e]; simp [h3]
      · rw [if_pos rfl, if_pos h1, if_neg h2]
        have e : inR (q.length : Int) 1 (min 6 slots) = false := by simp [inR]; omega
        rw [e]; simp
    · rw [if_pos rfl, if_neg h1]
      have e : inR (q.length : Int) 1 (min 6 slots) = false := by simp [inR]; omega
      rw [e]; simp

theorem spec_l11Code_eq (slots : Int) (q : List Int) (b : Bool) (k : Nat) (hl : q.length ≤ 9223372036854775806) (hk : q.length < k) : spec_l11Code.f k slots q b = some (if gang slots q = true then (if b = true then 0 else 2) else 1) := by
  unfold spec_l11Code.f
  simp only [spec_IsGang_eq slots q k hl hk, Option.bind_some]
  cases gang slots q
  · simp
  · cases b <;> simp

theorem spec_l01Has_l0 (xs : List Int) (x : Int) (hl : xs.length ≤ 9223372036854775806) : ∀ (d k i : Nat), i + d = xs.length → d < k → spec_l01Has.l0 k xs x (i : Int) = some ((xs.drop i).contains x) := by
  intro d
  induction d with
  | zero =>
    intro k i h hk
    obtain ⟨k, rfl⟩ : ∃ m, k = m + 1 := ⟨k - 1, by omega⟩
    rw [spec_l01Has.l0, if_neg (by omega), List.drop_of_length_le (by omega)]
    rfl
  | succ d ih =>
    intro k i h hk
    obtain ⟨k, rfl⟩ : ∃ m, k = m + 1 := ⟨k - 1, by omega⟩
    have hi : i < xs.length := by omega
    have e : xs.drop i = xs[i] :: xs.drop (i + 1) := List.drop_eq_getElem_cons hi
    have e2 : xs.getD i 0 = xs[i] := by simp [List.getD_eq_getElem?_getD, List.getElem?_eq_getElem hi]
    have e3 := ih k (i + 1) (by omega) (by omega)
    rw [spec_l01Has.l0, if_pos (by omega), if_pos (by omega), rd_nat, e2, e, List.contains_cons]
    by_cases hx : xs[i] = x
    · rw [if_pos hx]; simp [hx]
    · rw [if_neg hx, w64 (by omega) (by omega)]
      have e4 : (x == xs[i]) = false := beq_eq_false_iff_ne.mpr (fun h => hx h.symm)
      rw [e4, Bool.false_or]
      exact e3
theorem spec_l01Has_eq (xs : List Int) (x : Int) (k : Nat) (hl : xs.length ≤ 9223372036854775806) (hk : xs.length < k) : spec_l01Has.f k xs x = some (xs.contains x) := by
  unfold spec_l01Has.f
  exact spec_l01Has_l0 xs x hl xs.length k 0 (by omega) hk

theorem spec_l01Ceil_eq (a b : Int) (h0 : 0 ≤ a) (h1 : a ≤ 4611686018427387904) (k0 : 1 ≤ b) (k1 : b ≤ 4611686018427387903) : spec_l01Ceil.f a b = some ((a + b - 1) / b) := by
  unfold spec_l01Ceil.f
  have h3 : 0 ≤ (a + b - 1) / b := Int.ediv_nonneg (by omega) (by omega)
  have h4 : (a + b - 1) / b ≤ a + b - 1 := Int.ediv_le_self _ (by omega)
  rw [if_neg (by omega), w64 (x := a + b) (by omega) (by omega), w64 (x := a + b - 1) (by omega) (by omega), tdiv_n (by omega), w64 (by omega) (by omega)]

theorem upsM_take (q : List Int) (run : Int) (i : Nat) (h : i < q.length) : upsM (q.take (i + 1)) run = upsM (q.take i) run ++ [(q[i] + run - 1) / run] := by
  unfold upsM
  rw [List.take_succ_eq_append_getElem h, List.map_append]
  rfl
theorem upsM_len (q : List Int) (run : Int) : (upsM q run).length = q.length := by simp [upsM]
theorem spec_l11For_l0 (q : List Int) (run : Int) (hq : ∀ x ∈ q, 1 ≤ x ∧ x ≤ 1000000) (hr : 1 ≤ run ∧ run ≤ 1000000) (hb : q.length ≤ 1048576) : ∀ (d k i : Nat), i + d = q.length → d < k → spec_l11For.l0 k q run (upsM (q.take i) run) (i : Int) = some (upsM q run) := by
  intro d
  induction d with
  | zero =>
    intro k i h hk
    obtain ⟨k, rfl⟩ : ∃ m, k = m + 1 := ⟨k - 1, by omega⟩
    rw [spec_l11For.l0, if_neg (by omega), List.take_of_length_le (by omega)]
  | succ d ih =>
    intro k i h hk
    obtain ⟨k, rfl⟩ : ∃ m, k = m + 1 := ⟨k - 1, by omega⟩
    have h1 : i < q.length := by omega
    have b1 := hq q[i] (List.getElem_mem h1)
    rw [spec_l11For.l0, if_pos (by omega), if_pos (by omega), rd_get q i h1, spec_l01Ceil_eq _ _ (by omega) (by omega) (by omega) (by omega), w64 (x := (i : Int) + 1) (by omega) (by omega)]
    simp only [Option.bind_some]
    rw [if_pos (by rw [upsM_len, List.length_take]; omega), ← upsM_take q run i h1]
    exact ih k (i + 1) (by omega) (by omega)
theorem spec_l11For_eq (q : List Int) (run : Int) (k : Nat) (hq : ∀ x ∈ q, 1 ≤ x ∧ x ≤ 1000000) (hr : 1 ≤ run ∧ run ≤ 1000000) (hb : q.length ≤ 1048576) (hk : q.length < k) : spec_l11For.f k q run = some (upsM q run) := by
  unfold spec_l11For.f
  exact spec_l11For_l0 q run hq hr hb q.length k 0 (by omega) hk

theorem spec_l01Sum_l0 (xs : List Int) (hl : xs.length ≤ 9223372036854775806) : ∀ (d k i : Nat) (a : Int), i + d = xs.length → d < k → spec_l01Sum.l0 k xs a (i : Int) = some (wsum a (xs.drop i)) := by
  intro d
  induction d with
  | zero =>
    intro k i a h hk
    obtain ⟨k, rfl⟩ : ∃ m, k = m + 1 := ⟨k - 1, by omega⟩
    rw [spec_l01Sum.l0, if_neg (by omega), List.drop_of_length_le (by omega)]
    rfl
  | succ d ih =>
    intro k i a h hk
    obtain ⟨k, rfl⟩ : ∃ m, k = m + 1 := ⟨k - 1, by omega⟩
    have hi : i < xs.length := by omega
    rw [spec_l01Sum.l0, if_pos (by omega), if_pos (by omega), rd_get xs i hi, drop_get xs i hi, w64 (x := (i : Int) + 1) (by omega) (by omega), wsum_cons]
    exact ih k (i + 1) _ (by omega) (by omega)
theorem spec_l01Sum_eq (xs : List Int) (k : Nat) (hl : xs.length ≤ 9223372036854775806) (hk : xs.length < k) : spec_l01Sum.f k xs = some (wsum 0 xs) := by
  unfold spec_l01Sum.f
  exact spec_l01Sum_l0 xs hl xs.length k 0 0 (by omega) hk

theorem spec_l11Least_l0 (slots : Int) (q : List Int) (hf : fits slots q) : ∀ (d k : Nat) (lo hi : Int), Halves slots q lo hi → hi - lo ≤ d → d + q.length < k → spec_l11Least.l0 k slots q lo hi = some (leastM slots q) := by
  intro d
  induction d with
  | zero =>
    intro k lo hi h hd hk
    obtain ⟨k, rfl⟩ : ∃ m, k = m + 1 := ⟨k - 1, by omega⟩
    rw [spec_l11Least.l0, if_neg (by omega), h.done (by omega)]
  | succ d ih =>
    intro k lo hi h hd hk
    obtain ⟨k, rfl⟩ : ∃ m, k = m + 1 := ⟨k - 1, by omega⟩
    by_cases e : lo < hi
    · have h' := h
      obtain ⟨h1, h2, h3, h4, h5⟩ := h'
      have hl := hf.2.1
      rw [spec_l11Least.l0, if_pos e, w64 (x := lo + hi) (by omega) (by omega), tdiv_n (by omega), w64 (x := (lo + hi) / 2) (by omega) (by omega), spec_l11For_eq q _ k hf.2.2 (by omega) (by omega) (by omega)]
      simp only [Option.bind_some]
      rw [spec_l01Sum_eq _ k (by rw [upsM_len]; omega) (by rw [upsM_len]; omega), w64 (x := (lo + hi) / 2 + 1) (by omega) (by omega)]
      simp only [Option.bind_some]
      by_cases c : wsum 0 (upsM q ((lo + hi) / 2)) ≤ slots
      · rw [if_pos c]
        exact ih k _ _ (h.left e (decide_eq_true c)) (by omega) (by omega)
      · rw [if_neg c]
        exact ih k _ _ (h.right hf e (decide_eq_false c)) (by omega) (by omega)
    · rw [spec_l11Least.l0, if_neg e, h.done e]
theorem spec_l11Least_eq (slots : Int) (q : List Int) (k : Nat) (hf : fits slots q) (hk : q.length + 1000000 < k) : spec_l11Least.f k slots q = some (leastM slots q) := by
  unfold spec_l11Least.f
  exact spec_l11Least_l0 slots q hf 1000000 k 1 1000000 (Halves.start hf (by omega) (fun x hx => (hf.2.2 x hx).2)) (by omega) (by omega)

theorem spec_l11Cost_l0 (slots : Int) (q first : List Int) (setup : Int) (hs : 0 ≤ setup ∧ setup ≤ 1000000) (hb : q.length ≤ 1048576) (hl : first.length ≤ 1048576) : ∀ (d k i : Nat) (a b : List Int), i + d = q.length → d + first.length + 1000010 < k → fits slots (a ++ partIn first (q.drop i) (i : Int)) → fits slots (b ++ partOut first (q.drop i) (i : Int)) →
    spec_l11Cost.l0 k slots q first setup a b (i : Int) = some (costF slots (a ++ partIn first (q.drop i) (i : Int)) (b ++ partOut first (q.drop i) (i : Int)) setup) := by
  intro d
  induction d with
  | zero =>
    intro k i a b h hk ha hb
    obtain ⟨k, rfl⟩ : ∃ m, k = m + 1 := ⟨k - 1, by omega⟩
    rw [List.drop_of_length_le (by omega), partIn, List.append_nil] at ha ⊢
    rw [List.drop_of_length_le (by omega), partOut, List.append_nil] at hb
    rw [partOut, List.append_nil]
    have hla := ha.2.1
    have hlb := hb.2.1
    have h1 := leastM_least ha
    have h2 := leastM_least hb
    have e1 := h1.1.1
    have e2 := h2.1.1
    rw [spec_l11Cost.l0, if_neg (by omega), spec_l11Least_eq slots a k ha (by omega)]
    simp only [Option.bind_some]
    unfold costF
    by_cases hn : b = []
    · subst hn
      rw [if_neg (by simp), if_pos rfl, w64 (by omega) (by omega), Int.add_zero]
    · have : 0 < b.length := List.length_pos_iff.2 hn
      rw [if_pos (by omega), if_neg hn, spec_l11Least_eq slots b k hb (by omega)]
      simp only [Option.bind_some]
      rw [w64 (x := leastM slots a + setup) (by omega) (by omega), w64 (x := leastM slots a + setup + leastM slots b) (by omega) (by omega), w64 (by omega) (by omega), Int.add_assoc (leastM slots a + setup)]
  | succ d ih =>
    intro k i a b h hk ha hb
    obtain ⟨k, rfl⟩ : ∃ m, k = m + 1 := ⟨k - 1, by omega⟩
    have h1 : i < q.length := by omega
    have e : ((i + 1 : Nat) : Int) = (i : Int) + 1 := by omega
    have hla := ha.2.1
    have hlb := hb.2.1
    rw [List.length_append] at hla hlb
    rw [spec_l11Cost.l0, if_pos (by omega), spec_l01Has_eq first _ k (by omega) (by omega), rd_get q i h1, w64 (x := (i : Int) + 1) (by omega) (by omega)]
    simp only [Option.bind_some]
    rw [drop_get q i h1, partIn] at ha ⊢
    rw [drop_get q i h1, partOut] at hb
    rw [partOut]
    by_cases c : first.contains (i : Int) = true
    · rw [if_pos c] at ha hb ⊢
      rw [if_pos c, if_pos c, if_pos (by omega), if_pos (by omega), ← e]
      rw [← e] at ha hb
      rw [List.append_cons a (q[i]) (partIn first (q.drop (i + 1)) ((i + 1 : Nat) : Int))] at ha ⊢
      exact ih k (i + 1) _ _ (by omega) (by omega) ha hb
    · rw [if_neg c] at ha hb ⊢
      rw [if_neg c, if_neg c, if_pos (by omega), if_pos (by omega), ← e]
      rw [← e] at ha hb
      rw [List.append_cons b (q[i]) (partOut first (q.drop (i + 1)) ((i + 1 : Nat) : Int))] at hb ⊢
      exact ih k (i + 1) _ _ (by omega) (by omega) ha hb
theorem spec_l11Cost_eq (slots : Int) (q first : List Int) (setup : Int) (k : Nat) (hf : fits slots q) (hs : 0 ≤ setup ∧ setup ≤ 1000000) (hl : first.length ≤ 1048576) (hk : q.length + first.length + 1000010 < k) : spec_l11Cost.f k slots q first setup = some (costM slots q first setup) := by
  unfold spec_l11Cost.f costM
  have := hf.2.1
  exact spec_l11Cost_l0 slots q first setup hs (by omega) hl q.length k 0 [] [] (by omega) hk (partIn_fits hf first 0) (partOut_fits hf first 0)

theorem lexLt_drop (a b : List Int) (i : Nat) (h : ¬ (i < a.length ∧ i < b.length)) (hi : i ≤ a.length) (hj : i ≤ b.length) : lexLt (a.drop i) (b.drop i) = decide (a.length < b.length) := by
  by_cases h1 : i < a.length
  · have h2 : b.drop i = [] := List.drop_of_length_le (by omega)
    rw [h2, drop_get a i h1, lexLt]
    · simp; omega
    · intro x xs y ys _ e; cases e
  · have h2 : a.drop i = [] := List.drop_of_length_le (by omega)
    rw [h2, lexLt]
    · simp only [List.length_nil, List.length_drop]
      exact decide_eq_decide.2 (by omega)
    · intro x xs y ys e; cases e
theorem spec_l01Less_l0 (a b : List Int) (ha : a.length ≤ 1048576) (hb : b.length ≤ 1048576) : ∀ (d k i : Nat), i + d = a.length → i ≤ b.length → 2 * d + 1 < k → spec_l01Less.l0 k a b (i : Int) = some (lexLt (a.drop i) (b.drop i)) := by
  intro d
  induction d with
  | zero =>
    intro k i h hib hk
    obtain ⟨k, rfl⟩ : ∃ m, k = m + 2 := ⟨k - 2, by omega⟩
    rw [spec_l01Less.l0, if_neg (by omega), spec_l01Less.j1, if_neg (by simp), lexLt_drop a b i (by omega) (by omega) hib]
    exact congrArg some (decide_eq_decide.2 (by omega))
  | succ d ih =>
    intro k i h hib hk
    obtain ⟨k, rfl⟩ : ∃ m, k = m + 2 := ⟨k - 2, by omega⟩
    rw [spec_l01Less.l0, if_pos (by omega), spec_l01Less.j1]
    by_cases hlt : i < b.length
    · have h1 : i < a.length := by omega
      rw [if_pos (decide_eq_true (by omega)), if_pos (by omega), if_pos (by omega), if_pos (by omega), rd_get a i h1, rd_get b i hlt, drop_get a i h1, drop_get b i hlt, lexLt, w64 (x := (i : Int) + 1) (by omega) (by omega)]
      by_cases e : a[i] = b[i]
      · rw [if_pos e, if_pos e]
        exact ih k (i + 1) (by omega) (by omega) (by omega)
      · rw [if_neg e, if_neg e]
    · rw [if_neg (by rw [decide_eq_true_eq]; omega), lexLt_drop a b i (by omega) (by omega) hib]
      exact congrArg some (decide_eq_decide.2 (by omega))
theorem spec_l01Less_eq (a b : List Int) (k : Nat) (ha : a.length ≤ 1048576) (hb : b.length ≤ 1048576) (hk : 2 * a.length + 1 < k) : spec_l01Less.f k a b = some (lexLt a b) := by
  unfold spec_l01Less.f
  exact spec_l01Less_l0 a b ha hb a.length k 0 (by omega) (by omega) hk

theorem spec_BestDivision_l1 (slots : Int) (q : List Int) (setup : Int) (best : List Int) (cost m : Int) (hq : q.length ≤ 6) (k0 : Nat) : ∀ (d i : Nat) (acc : List Int), i + d = q.length → acc.length ≤ i → spec_BestDivision.l1 (k0 + d + 1) slots q setup best cost m acc (i : Int) = spec_BestDivision.l1 (k0 + 1) slots q setup best cost m (pickBits m d (i : Int) acc) (q.length : Int) := by
  intro d
  induction d with
  | zero =>
    intro i acc h ha
    have e : (i : Int) = (q.length : Int) := by omega
    rw [e, pickBits]
  | succ d ih =>
    intro i acc h ha
    rw [show k0 + (d + 1) + 1 = (k0 + d + 1) + 1 by omega, spec_BestDivision.l1, if_pos (by omega), u64_small i (by omega), if_pos (by omega), w64 (x := (i : Int) + 1) (by omega) (by omega), pickBits]
    by_cases c : Go.bits .and .i64 (shr .i64 m (i : Int)) 1 = 1
    · rw [if_pos c, if_pos c, if_pos (by omega)]
      exact ih (i + 1) _ (by omega) (by rw [List.length_append, List.length_singleton]; omega)
    · rw [if_neg c, if_neg c]
      exact ih (i + 1) _ (by omega) (by omega)
theorem spec_BestDivision_step (slots : Int) (q : List Int) (setup : Int) (best first : List Int) (cost m : Int) (hf : fits slots q) (hs : 0 ≤ setup ∧ setup ≤ 1000000) (hl : first.length ≤ 6) (hb : best.length ≤ 6) (hm : 0 ≤ m ∧ m ≤ 100) (k : Nat) (hk : 1000100 < k) :
    spec_BestDivision.l1 (k + 1) slots q setup best cost m first (q.length : Int) = if betterM first best (costM slots q first setup) cost = true then spec_BestDivision.l0 k slots q setup first (costM slots q first setup) (m + 2) else spec_BestDivision.l0 k slots q setup best cost (m + 2) := by
  have hq := hf.2.1
  rw [spec_BestDivision.l1, if_neg (by omega), spec_l11Cost_eq slots q first setup k hf hs (by omega) (by omega), w64 (x := m + 2) (by omega) (by omega)]
  simp only [Option.bind_some]
  rw [spec_l01Less_eq first best k (by omega) (by omega) (by omega)]
  simp only [Option.bind_some]
  generalize costM slots q first setup = c
  have e0 : ((best.length : Int) = 0) = (best = []) := propext (by rw [← List.length_eq_zero_iff]; omega)
  have e1 : ((first.length : Int) > (best.length : Int)) = (best.length < first.length) := propext (by omega)
  have e2 : ((first.length : Int) = (best.length : Int)) = (first.length = best.length) := propext (by omega)
  simp only [e0, e1, e2]
  unfold betterM
  by_cases b0 : best = []
  · simp [b0]
  by_cases b1 : c < cost
  · simp [b0, b1]
  by_cases b2 : c = cost
  · by_cases b3 : best.length < first.length
    · simp [b0, b1, b2, b3]
    · by_cases b4 : first.length = best.length
      · cases b5 : lexLt first best <;> simp [b0, b1, b2, b3, b4, b5]
      · simp [b0, b1, b2, b3, b4]
  · simp [b0, b1, b2]
theorem spec_BestDivision_l0 (slots : Int) (q : List Int) (setup : Int) (hf : fits slots q) (hn : 1 ≤ q.length) (hs : 0 ≤ setup ∧ setup ≤ 1000000) : ∀ (d k j : Nat) (best : List Int) (cost : Int), j + d = 2 ^ (q.length - 1) → best.length ≤ 6 → 12 * d + 1000200 < k →
    spec_BestDivision.l0 k slots q setup best cost (2 * (j : Int) + 1) = some (bdLoop slots q setup d j best cost) := by
  intro d
  have hq := hf.2.1
  obtain ⟨g1, g2, g3, g4⟩ := shl_n q.length hq hn
  generalize hN : 2 ^ (q.length - 1) = N at g1 g2 g3
  induction d with
  | zero =>
    intro k j best cost h hb hk
    obtain ⟨k, rfl⟩ : ∃ m, k = m + 1 := ⟨k - 1, by omega⟩
    rw [spec_BestDivision.l0, if_pos g4, g1, if_neg (by omega), bdLoop]
  | succ d ih =>
    intro k j best cost h hb hk
    obtain ⟨k, rfl⟩ : ∃ m, k = (m + q.length + 1) + 1 := ⟨k - q.length - 2, by omega⟩
    have hl := pickBits_len (2 * (j : Int) + 1) q.length 0 []
    simp only [List.length_nil, Nat.zero_add] at hl
    rw [spec_BestDivision.l0, if_pos g4, g1, if_pos (by omega)]
    have h1 := spec_BestDivision_l1 slots q setup best cost (2 * (j : Int) + 1) hq k q.length 0 [] (by omega) (by simp)
    rw [show ((0 : Nat) : Int) = 0 from rfl] at h1
    rw [h1, spec_BestDivision_step slots q setup best _ cost _ hf hs (by omega) hb (by omega) k (by omega), bdLoop, show 2 * (j : Int) + 1 + 2 = 2 * ((j + 1 : Nat) : Int) + 1 by omega]
    split
    · exact ih k (j + 1) _ _ (by omega) (by omega) (by omega)
    · exact ih k (j + 1) _ _ (by omega) hb (by omega)
theorem spec_BestDivision_eq (slots : Int) (q : List Int) (setup : Int) (k : Nat) (hl : q.length ≤ 1048576) (hk : q.length + 1000800 < k) : spec_BestDivision.f k slots q setup = some (bestDivision slots q setup) := by
  unfold spec_BestDivision.f bestDivision
  simp only [spec_l01In_eq, spec_l11Code_eq slots q _ k (by omega) (by omega), Option.bind_some]
  cases hg : gang slots q
  · simp
  · cases hs : inR setup 0 1000000
    · simp
    · simp only [if_true]
      have hgt := gang_true hg
      have := (shl_n q.length (by omega) hgt.2.1.1).2.2.1
      exact spec_BestDivision_l0 slots q setup (gang_fits hg) hgt.2.1.1 (inR_true hs) _ k 0 [] 0 (by omega) (by simp) (by omega)

theorem DrawDividedCost_j1 {c : List Int} (hc : Code c) (k : Nat) (slots : Int) (q f : List Int) (s : Int × Int) (hs : SOk s) (h1 : q.length ≤ 8) (h2 : f.length ≤ 20) : ∃ p, spec_DrawDividedCost.j1 (k + 1) slots q f c s.1 s.2 = some p ∧ p.2.1.length ≤ 8 ∧ p.2.2.1.length ≤ 20 := by
  rw [spec_DrawDividedCost.j1]
  exact bind_ok (next_ok hc hs 300) fun a ha => bind_ok (next_ok hc ha.1 300) fun b hb => bind_ok (pick_ok hc hb.1 _ (by simp)) fun d hd => bind_ok (pick_ok hc hd.1 _ (by simp)) fun e _ => ⟨_, rfl, h1, h2⟩
theorem DrawDividedCost_l0 {c : List Int} (hc : Code c) (slots : Int) (q : List Int) (h1 : q.length ≤ 8) : ∀ (d k i : Nat) (f : List Int) (s : Int × Int), SOk s → q.length ≤ i + d → i + d ≤ 9 → 1 ≤ f.length → f.length ≤ i → d + 2 < k → ∃ p, spec_DrawDividedCost.l0 k slots q f (i : Int) c s.1 s.2 = some p ∧ p.2.1.length ≤ 8 ∧ p.2.2.1.length ≤ 20 := by
  have stop : ∀ (k i : Nat) (f : List Int) (s : Int × Int), SOk s → q.length ≤ i → i ≤ 9 → 1 ≤ f.length → f.length ≤ i → ∃ p, spec_DrawDividedCost.l0 (k + 2) slots q f (i : Int) c s.1 s.2 = some p ∧ p.2.1.length ≤ 8 ∧ p.2.2.1.length ≤ 20 := by
    intro k i f s hs h2 h3 h4 h5
    rw [spec_DrawDividedCost.l0, if_neg (by omega)]
    exact bind_ok (next_ok hc hs 20) fun a ha => ite_ok (fun _ => ite_ok (fun _ => DrawDividedCost_j1 hc k slots q _ a.2 ha.1 h1 (by rw [List.length_drop]; omega)) (fun hx => absurd (show 1 ≤ (f.length : Int) by omega) hx)) (fun _ => ite_ok (fun _ => bind_ok (pick_ok hc ha.1 _ (by simp)) fun b hb => ite_ok (fun _ => DrawDividedCost_j1 hc k slots q _ b.2 hb.1 h1 (by rw [List.length_append, List.length_singleton]; omega)) (fun hx => absurd (show f.length < 17592186044416 by omega) hx)) (fun _ => DrawDividedCost_j1 hc k slots q _ a.2 ha.1 h1 (by omega)))
  intro d
  induction d with
  | zero =>
    intro k i f s hs h2 h3 h4 h5 hk
    obtain ⟨k, rfl⟩ : ∃ m, k = m + 2 := ⟨k - 2, by omega⟩
    exact stop k i f s hs (by omega) (by omega) h4 h5
  | succ d ih =>
    intro k i f s hs h2 h3 h4 h5 hk
    by_cases e : (i : Int) < (q.length : Int)
    · obtain ⟨k, rfl⟩ : ∃ m, k = m + 1 := ⟨k - 1, by omega⟩
      rw [spec_DrawDividedCost.l0, if_pos e, w64 (x := (i : Int) + 1) (by omega) (by omega)]
      exact bind_ok (next_ok hc hs 2) fun a ha => ite_ok (fun _ => ite_ok (fun _ => ih k (i + 1) _ a.2 ha.1 (by omega) (by omega) (by rw [List.length_append, List.length_singleton]; omega) (by rw [List.length_append, List.length_singleton]; omega) (by omega)) (fun hx => absurd (show f.length < 17592186044416 by omega) hx)) (fun _ => ih k (i + 1) _ a.2 ha.1 (by omega) (by omega) h4 (by omega) (by omega))
    · obtain ⟨k, rfl⟩ : ∃ m, k = m + 2 := ⟨k - 2, by omega⟩
      exact stop k i f s hs (by omega) (by omega) h4 h5
theorem DrawDividedCost_ok {c : List Int} (hc : Code c) {k : Nat} (hk : c.length + 40 < k) : ∃ p, spec_DrawDividedCost.f k c = some p ∧ p.2.1.length ≤ 8 ∧ p.2.2.1.length ≤ 20 := by
  unfold spec_DrawDividedCost.f
  refine bind_ok (from_ok hc (by omega)) fun p hp => ?_
  rw [hp.1]
  exact bind_ok (l11Draw_ok hc hp.2 (by omega)) fun g hg => DrawDividedCost_l0 hc g.1 g.2.1 hg.2 8 k 1 [0] g.2.2 hg.1 (by omega) (by omega) (by simp) (by simp) (by omega)

theorem impl_isFirst_l0 (l : List Int) (hl : l.length ≤ 1048576) : ∀ (d k i : Nat), l.length ≤ i + 1 + d → d < k → impl_isFirst.l0 k l ((i : Int) + 1) = some (rises (l.drop i)) := by
  intro d
  induction d with
  | zero =>
    intro k i h hk
    obtain ⟨k, rfl⟩ : ∃ m, k = m + 1 := ⟨k - 1, by omega⟩
    rw [impl_isFirst.l0, if_neg (by omega), rises_end l i (by omega)]
  | succ d ih =>
    intro k i h hk
    obtain ⟨k, rfl⟩ : ∃ m, k = m + 1 := ⟨k - 1, by omega⟩
    by_cases e : i + 1 < l.length
    · have h0 : i < l.length := by omega
      have e1 : rd l ((i : Int) + 1) = l[i + 1] := rd_get l (i + 1) e
      rw [impl_isFirst.l0, if_pos (by omega), w64 (x := (i : Int) + 1 - 1) (by omega) (by omega), show (i : Int) + 1 - 1 = (i : Int) by omega, if_pos (by omega), if_pos (by omega), if_pos (by omega), rd_get l i h0, e1, w64 (x := (i : Int) + 1 + 1) (by omega) (by omega), rises_drop l i e]
      by_cases c : l[i] ≥ l[i + 1]
      · rw [if_pos c, decide_eq_false (by omega), Bool.false_and]
      · rw [if_neg c, decide_eq_true (by omega), Bool.true_and]
        exact ih k (i + 1) (by omega) (by omega)
    · rw [impl_isFirst.l0, if_neg (by omega), rises_end l i (by omega)]
theorem impl_isFirst_eq (q first : List Int) (k : Nat) (hq : q.length ≤ 1048576) (hl : first.length ≤ 1048576) (hk : first.length + 1 < k) : impl_isFirst.f k first (q.length : Int) = some (firstOk q first) := by
  obtain ⟨k, rfl⟩ : ∃ m, k = m + 1 := ⟨k - 1, by omega⟩
  unfold impl_isFirst.f firstOk
  by_cases h : first = []
  · subst h
    simp [impl_isFirst.j0]
  · have h0 : 0 < first.length := List.length_pos_iff.2 h
    rw [if_neg (by omega), if_pos (by omega), decide_eq_true h, Bool.true_and, w64 (x := (q.length : Int) - 1) (by omega) (by omega), impl_allIn_eq]
    by_cases c : rd first 0 = 0
    · rw [if_pos c, decide_eq_true c, Bool.true_and]
      simp only [Option.bind_some, impl_isFirst.j0]
      cases allR first 0 ((q.length : Int) - 1)
      · rfl
      · have := impl_isFirst_l0 first hl first.length k 0 (by omega) (by omega)
        simpa using this
    · rw [if_neg c, decide_eq_false c, impl_isFirst.j0]
      simp

theorem impl_DividedCost_eq (slots : Int) (q first : List Int) (setup : Int) (k : Nat) (hb : q.length ≤ 1048576) (hl : first.length ≤ 1048576) (hk : q.length + first.length + 1000011 < k) : impl_DividedCost.f k slots q first setup = some (dividedCost slots q first setup) := by
  unfold impl_DividedCost.f dividedCost
  simp only [impl_IsGang_eq, impl_length_int64_eq, impl_inRange_eq, Option.bind_some]
  cases hg : gang slots q
  · simp
  rw [if_pos rfl, if_pos rfl, impl_isFirst_eq q first k hb hl (by omega)]
  simp only [Option.bind_some]
  cases hfi : firstOk q first
  · simp
  cases hs : inR setup 0 1000000
  · simp
  simp only [if_true, Bool.and_true]
  rw [impl_dividedCost_eq slots q first setup k (gang_fits hg) (partIn_ne hfi (gang_true hg).2.1.1) (inR_true hs) hl (by omega)]
  rfl

theorem spec_l01Rises_l0 (l : List Int) (hl : l.length ≤ 1048576) : ∀ (d k i : Nat), l.length ≤ i + 1 + d → d < k → spec_l01Rises.l0 k l ((i : Int) + 1) = some (rises (l.drop i)) := by
  intro d
  induction d with
  | zero =>
    intro k i h hk
    obtain ⟨k, rfl⟩ : ∃ m, k = m + 1 := ⟨k - 1, by omega⟩
    rw [spec_l01Rises.l0, if_neg (by omega), rises_end l i (by omega)]
  | succ d ih =>
    intro k i h hk
    obtain ⟨k, rfl⟩ : ∃ m, k = m + 1 := ⟨k - 1, by omega⟩
    by_cases e : i + 1 < l.length
    · have h0 : i < l.length := by omega
      have e1 : rd l ((i : Int) + 1) = l[i + 1] := rd_get l (i + 1) e
      rw [spec_l01Rises.l0, if_pos (by omega), if_pos (by omega), w64 (x := (i : Int) + 1 - 1) (by omega) (by omega), show (i : Int) + 1 - 1 = (i : Int) by omega, if_pos (by omega), if_pos (by omega), rd_get l i h0, e1, w64 (x := (i : Int) + 1 + 1) (by omega) (by omega), rises_drop l i e]
      by_cases c : l[i + 1] ≤ l[i]
      · rw [if_pos c, decide_eq_false (by omega), Bool.false_and]
      · rw [if_neg c, decide_eq_true (by omega), Bool.true_and]
        exact ih k (i + 1) (by omega) (by omega)
    · rw [spec_l01Rises.l0, if_neg (by omega), rises_end l i (by omega)]
theorem spec_l01Rises_eq (l : List Int) (k : Nat) (hl : l.length ≤ 1048576) (hk : l.length < k) : spec_l01Rises.f k l = some (rises l) := by
  unfold spec_l01Rises.f
  exact spec_l01Rises_l0 l hl l.length k 0 (by omega) hk

theorem spec_DividedCost_j0 (slots : Int) (q first : List Int) (setup : Int) (b : Bool) (k : Nat) (hb : q.length ≤ 1048576) (hl : first.length ≤ 1048576) (hk : q.length + first.length + 1000011 < k) (he : gang slots q = true → b = (firstOk q first && inR setup 0 1000000)) : spec_DividedCost.j0 k slots q first setup b = some (dividedCost slots q first setup) := by
  obtain ⟨k, rfl⟩ : ∃ m, k = m + 1 := ⟨k - 1, by omega⟩
  unfold dividedCost
  rw [spec_DividedCost.j0, spec_l11Code_eq slots q b k (by omega) (by omega)]
  simp only [Option.bind_some]
  cases hg : gang slots q
  · simp
  · rw [he hg]
    by_cases c : (firstOk q first && inR setup 0 1000000) = true
    · have c' := c
      rw [Bool.and_eq_true] at c
      rw [c']
      simp only [if_true]
      rw [spec_l11Cost_eq slots q first setup k (gang_fits hg) (inR_true c.2) hl (by omega)]
      rfl
    · simp only [if_true]
      rw [if_neg c, if_neg (by omega)]
      simp [c]
theorem spec_DividedCost_eq (slots : Int) (q first : List Int) (setup : Int) (k : Nat) (hb : q.length ≤ 1048576) (hl : first.length ≤ 1048576) (hk : q.length + first.length + 1000011 < k) : spec_DividedCost.f k slots q first setup = some (dividedCost slots q first setup) := by
  have J := fun b h => spec_DividedCost_j0 slots q first setup b k hb hl hk h
  unfold spec_DividedCost.f
  simp only [spec_l01In_eq, Option.bind_some]
  cases hs : inR setup 0 1000000
  · simp only [Bool.false_eq_true, if_false]
    exact J false (fun hg => by rw [hs, Bool.and_false])
  simp only [if_true]
  by_cases h0 : first = []
  · subst h0
    rw [if_neg (by simp)]
    exact J false (fun hg => by simp [firstOk])
  have h1 : 0 < first.length := List.length_pos_iff.2 h0
  rw [if_pos (by omega), spec_l01Rises_eq first k hl (by omega), w64 (x := (q.length : Int) - 1) (by omega) (by omega)]
  simp only [Option.bind_some]
  cases hr : rises first
  · simp only [Bool.false_eq_true, if_false]
    exact J false (fun hg => by simp [firstOk, hr])
  rw [if_pos rfl, spec_l01Within_eq first _ _ _ k (by omega) (by omega)]
  simp only [Option.bind_some]
  cases hw : (allR first 0 ((q.length : Int) - 1) && decide ((first.length : Int) ≤ 6))
  · simp only [Bool.false_eq_true, if_false]
    refine J false (fun hg => ?_)
    cases hx : (firstOk q first && inR setup 0 1000000)
    · rfl
    · rw [Bool.and_eq_true] at hx
      have h6 := firstOk_len hg hx.1
      have h7 := hx.1
      simp only [firstOk, Bool.and_eq_true] at h7
      rw [h7.2.2.1, decide_eq_true (by omega)] at hw
      cases hw
  · rw [if_pos rfl, if_pos (by omega)]
    refine J _ (fun hg => ?_)
    rw [Bool.and_eq_true] at hw
    simp only [firstOk, hr, hw.1, hs, decide_eq_true h0, Bool.and_true, Bool.true_and]
    rfl

theorem division_own (slots : Int) (q : List Int) (setup : Int) (h : (bestDivision slots q setup).2.2 = 0) : dividedCost slots q (bestDivision slots q setup).1 setup = ((bestDivision slots q setup).2.1, 0) := by
  unfold bestDivision at h ⊢
  by_cases hg : gang slots q = true
  · rw [if_pos hg] at h ⊢
    by_cases hs : inR setup 0 1000000 = true
    · rw [if_pos hs] at h ⊢
      have hl := (gang_true hg).2.1
      have hN := (shl_n q.length (by omega) hl.1).2.2.1
      obtain ⟨⟨j, g1, g2, g3⟩, _, _, _⟩ := bdLoop_best slots q setup hl.1 hl.2.1 (2 ^ (q.length - 1)) 0 [] 0 (by omega) (fun _ => Nat.two_pow_pos _) (fun h => absurd rfl h)
      have hf := pick_firstOk q.length (by omega) hl.1 j (by omega) g1
      have hf2 : firstOk q (bdLoop slots q setup (2 ^ (q.length - 1)) 0 [] 0).1 = true := by rw [g2]; exact hf
      unfold dividedCost
      rw [if_pos hg, if_pos (by rw [hf2, hs]; rfl), ← g3]
    · rw [if_neg hs] at h
      simp at h
  · rw [if_neg hg] at h
    simp at h
theorem division_least (slots : Int) (q first : List Int) (setup : Int) (h : (dividedCost slots q first setup).2 = 0) : (bestDivision slots q setup).2.2 = 0 ∧ (bestDivision slots q setup).2.1 ≤ (dividedCost slots q first setup).1 := by
  unfold dividedCost at h ⊢
  by_cases hg : gang slots q = true
  · rw [if_pos hg] at h ⊢
    by_cases hs : (firstOk q first && inR setup 0 1000000) = true
    · rw [if_pos hs]
      rw [Bool.and_eq_true] at hs
      unfold bestDivision
      rw [if_pos hg, if_pos hs.2]
      have hl := (gang_true hg).2.1
      obtain ⟨_, g2, _, g4⟩ := bdLoop_best slots q setup hl.1 hl.2.1 (2 ^ (q.length - 1)) 0 [] 0 (by omega) (fun _ => Nat.two_pow_pos _) (fun h => absurd rfl h)
      obtain ⟨j, h1, h2⟩ := cost_pick slots q first setup hl.1 hl.2.1 hs.1
      refine ⟨g2, ?_⟩
      rw [h2]
      exact g4 j (by omega) h1
    · rw [if_neg hs] at h
      simp at h
  · rw [if_neg hg] at h
    simp at h
theorem FnDivisions : laws_FnDivisions.Pure := by
  intro l _ _ hb
  by_cases hbig : (l.length : Int) > 4096
  · exact ⟨1, by unfold laws_FnDivisions.f; rw [laws_big_eq, decide_eq_true hbig]; rfl⟩
  have hc : Code l := ⟨fun x hx => wfByte (hb x hx), by omega⟩
  obtain ⟨⟨slots, q, setup⟩, e1, hq⟩ := DrawBestDivision_ok hc (k := 1010001) (by omega)
  obtain ⟨⟨a, b, f, s⟩, e2, hb2, hf2⟩ := DrawDividedCost_ok hc (k := 1010001) (by omega)
  simp only at hq hb2 hf2
  have hlen := bestDivision_len slots q setup
  have T : ∀ k : Nat, 1005000 < k → (if (bestDivision slots q setup).2.2 = 0 then ((impl_DividedCost.f k slots q (bestDivision slots q setup).1 setup).bind fun bt => (if bt.2 = 0 then (some (bt.1 == (bestDivision slots q setup).2.1)) else (some false))) else (some true)) = some true := by
    intro k hk
    by_cases h0 : (bestDivision slots q setup).2.2 = 0
    · rw [if_pos h0, impl_DividedCost_eq slots q _ setup k (by omega) (by omega) (by omega), division_own slots q setup h0]
      simp
    · rw [if_neg h0]
  refine ⟨1010001, ?_⟩
  unfold laws_FnDivisions.f
  simp (disch := omega) only [laws_big_eq, decide_eq_false hbig, Bool.false_eq_true, if_false, Option.bind_some, e1, e2, impl_BestDivision_eq, spec_BestDivision_eq, impl_DividedCost_eq, spec_DividedCost_eq, laws_likeInts_eq, if_true, bne_self_eq_false]
  simp only [laws_FnDivisions.j0, Bool.false_eq_true, if_false]
  by_cases h0 : (dividedCost a b f s).2 = 0
  · rw [if_pos h0, impl_BestDivision_eq a b s _ (by omega) (by omega)]
    have hd := division_least a b f s h0
    simp only [Option.bind_some]
    rw [if_pos hd.1, decide_eq_false (by omega)]
    simp only [laws_FnDivisions.j1, Bool.false_eq_true, if_false]
    exact T _ (by omega)
  · rw [if_neg h0]
    exact T _ (by omega)

end Go.Proofs.Ytfmmpdhodkkkdaa.Pure
