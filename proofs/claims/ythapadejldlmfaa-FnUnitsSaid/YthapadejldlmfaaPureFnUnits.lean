/- For all arguments the law FnUnits returns true, with no condition beyond the bounds that the printed statement names. -/
import Derived.Test.YthapadejldlmfaaPFnUnitsx4
namespace Go.Proofs.Ythapadejldlmfaa.Pure
open Go.RowKit Go.Proofs.Ythapadejldlmfaa.PFnUnits Go.Proofs.YthapadejldlmfaaW.PrintWords Go.Proofs.YthapadejldlmfaaW.PrintLast
set_option linter.unusedVariables false
set_option linter.unusedSimpArgs false

theorem w64 {x : Int} (h1 : -9223372036854775808 ≤ x) (h2 : x ≤ 9223372036854775807) : wrap64 x = x := by
  unfold wrap64; omega
theorem wf64 {x : Int} (h : (Lit.int .i64 x).wf = true) : -9223372036854775808 ≤ x ∧ x ≤ 9223372036854775807 := by
  simp [Lit.wf, IntKind.min, IntKind.max, IntKind.signed, IntKind.bits] at h
  omega
/-- 'a lies from b to c'. -/
def inR (a b c : Int) : Bool := decide (b ≤ a ∧ a ≤ c)
theorem inR_true {a b c : Int} (h : inR a b c = true) : b ≤ a ∧ a ≤ c := by simpa [inR] using h
theorem inR_mk {a b c : Int} (h1 : b ≤ a) (h2 : a ≤ c) : inR a b c = true := by simp [inR, h1, h2]
theorem inR_false {a b c : Int} (h : inR a b c = false) : a < b ∨ c < a := by
  have : ¬ (b ≤ a ∧ a ≤ c) := by simpa [inR] using h
  omega
theorem rd_nat (xs : List Int) (i : Nat) : rd xs (i : Int) = xs.getD i 0 := by simp [rd]
theorem mul_bd {a b A B : Int} (h0 : 0 ≤ a) (h1 : a ≤ A) (k0 : 0 ≤ b) (k1 : b ≤ B) : 0 ≤ a * b ∧ a * b ≤ A * B :=
  ⟨Int.mul_nonneg h0 k0, Int.mul_le_mul h1 k1 k0 (by omega)⟩
theorem tdiv_n {a b : Int} (h : 0 ≤ a) : Int.tdiv a b = a / b := Int.tdiv_eq_ediv_of_nonneg h
theorem tmod_n {a b : Int} (h : 0 ≤ a) : Int.tmod a b = a % b := Int.tmod_eq_emod_of_nonneg h
theorem mn_min (a b : Int) : mn a b = min a b := by unfold mn; split <;> omega
theorem mx_max (a b : Int) : mx a b = max a b := by unfold mx; split <;> omega

def allR (xs : List Int) (lo hi : Int) : Bool := xs.all fun x => inR x lo hi
theorem allR_mem {xs : List Int} {lo hi : Int} (h : allR xs lo hi = true) : ∀ x ∈ xs, lo ≤ x ∧ x ≤ hi := fun x hx => inR_true (List.all_eq_true.1 h x hx)
theorem drop_get (xs : List Int) (i : Nat) (hi : i < xs.length) : xs.drop i = xs[i] :: xs.drop (i + 1) := List.drop_eq_getElem_cons hi
theorem rd_get (xs : List Int) (i : Nat) (hi : i < xs.length) : rd xs (i : Int) = xs[i] := by rw [rd_nat, List.getD_eq_getElem?_getD, List.getElem?_eq_getElem hi]; rfl
/-- The sum, as the program adds it up. -/
def wsum (a : Int) (xs : List Int) : Int := xs.foldl (fun a x => wrap64 (a + x)) a
theorem wsum_cons (a x : Int) (xs : List Int) : wsum a (x :: xs) = wsum (wrap64 (a + x)) xs := rfl
theorem wsum_eq : ∀ (xs : List Int) (a : Int), (∀ x ∈ xs, 0 ≤ x ∧ x ≤ 1000000) → 0 ≤ a → a + xs.length * 1000000 ≤ 4611686018427387904 → wsum a xs = a + xs.sum ∧ 0 ≤ xs.sum ∧ xs.sum ≤ xs.length * 1000000
  | [], a, _, h0, _ => ⟨by simp [wsum], by simp, by simp⟩
  | x :: xs, a, h, h0, hb => by
    have hx := h x (by simp)
    simp only [List.length_cons] at hb ⊢
    obtain ⟨e, l, u⟩ := wsum_eq xs (a + x) (fun y hy => h y (by simp [hy])) (by omega) (by omega)
    rw [wsum_cons, w64 (by omega) (by omega), e, List.sum_cons]
    exact ⟨by omega, by omega, by omega⟩

/-- A code that is drawn from. -/
def Code (c : List Int) : Prop := (∀ x ∈ c, 0 ≤ x ∧ x ≤ 255) ∧ c.length ≤ 4096
/-- Where a source stands, and its seed. -/
def SOk (q : Int × Int) : Prop := 0 ≤ q.1 ∧ 0 ≤ q.2 ∧ q.2 < 2147483647
theorem wfByte {x : Int} (h : (Lit.int .u8 x).wf = true) : 0 ≤ x ∧ x ≤ 255 := by
  simp [Lit.wf, IntKind.min, IntKind.max, IntKind.signed, IntKind.bits] at h
  omega
theorem rd_byte {c : List Int} (h : Code c) {i : Int} (h0 : 0 ≤ i) (h1 : i < c.length) : 0 ≤ rd c i ∧ rd c i ≤ 255 := by
  obtain ⟨n, rfl⟩ : ∃ n : Nat, i = n := ⟨i.toNat, by omega⟩
  have hn : n < c.length := by omega
  have e : rd c (n : Int) = c[n] := by rw [rd_nat, List.getD_eq_getElem?_getD, List.getElem?_eq_getElem hn]; rfl
  rw [e]
  exact h.1 _ (List.getElem_mem hn)
theorem bind_ok {α β : Type} {x : Option α} {P : α → Prop} {f : α → Option β} {Q : β → Prop} (h : ∃ p, x = some p ∧ P p) (hf : ∀ p, P p → ∃ r, f p = some r ∧ Q r) : ∃ r, x.bind f = some r ∧ Q r := by
  obtain ⟨p, e, hp⟩ := h
  rw [e]
  exact hf p hp
theorem ite_ok {α : Type} {c : Prop} [Decidable c] {a b : Option α} {Q : α → Prop} (h1 : c → ∃ r, a = some r ∧ Q r) (h2 : ¬ c → ∃ r, b = some r ∧ Q r) : ∃ r, (if c then a else b) = some r ∧ Q r := by
  by_cases h : c
  · rw [if_pos h]; exact h1 h
  · rw [if_neg h]; exact h2 h
theorem some_ok {α β : Type} {x : Option α} {v : α} {f : α → Option β} {Q : β → Prop} (h : x = some v) (hf : ∃ r, f v = some r ∧ Q r) : ∃ r, x.bind f = some r ∧ Q r := by
  rw [h]
  exact hf

def isUnit (u : Int) : Bool := u == 4 || u == 8 || u == 16 || u == 32 || u == 64 || u == 128
theorem isUnit_true {u : Int} (h : isUnit u = true) : u = 4 ∨ u = 8 ∨ u = 16 ∨ u = 32 ∨ u = 64 ∨ u = 128 := by
  simp only [isUnit, Bool.or_eq_true, beq_iff_eq] at h
  omega
def sigOf (p u g : Int) : Int × Int × Int := if (inR p 1 4096 && isUnit u && inR g 1 p) = true then ((g - 1) / u, (g - 1) % u + 1, 0) else (0, 0, 2)
def sigCount (p u : Int) : Int × Int := if (inR p 1 4096 && isUnit u) = true then ((p + u - 1) / u, 0) else (0, 2)
def four (n k : Int) : List Int := [4 * n - 2 * k, 2 * k + 1, 2 * k + 2, 4 * n - 2 * k - 1]
def nestedPages (n k : Int) : List Int × Int := if (inR n 1 64 && inR k 0 (n - 1)) = true then (four n k, 0) else ([], 2)
def sheetOf (n p : Int) : Int := (min p (4 * n + 1 - p) - 1) / 2
def placeIn (n k p : Int) : Int := if 4 * n - 2 * k = p then 0 else if 2 * k + 1 = p then 1 else if 2 * k + 2 = p then 2 else 3
def nestedPlace (n p : Int) : Int × Int × Int := if (inR n 1 64 && inR p 1 (4 * n)) = true then (sheetOf n p, placeIn n (sheetOf n p) p, 0) else (0, 0, 2)
theorem unit_bits (a : Int) (h1 : 4 ≤ a) (h2 : a ≤ 128) : ((Go.bits .and .i64 a (wrap64 (a - 1))) == 0) = isUnit a := by
  obtain ⟨n, rfl⟩ : ∃ n : Nat, a = n := ⟨a.toNat, by omega⟩
  have h : ∀ n : Nat, n < 129 → 4 ≤ n → ((Go.bits .and .i64 (n : Int) (wrap64 ((n : Int) - 1))) == 0) = isUnit n := by decide +kernel
  exact h n (by omega) (by omega)
theorem sig_wrap {p u g : Int} (hp : inR p 1 4096 = true) (hu : isUnit u = true) (hg : inR g 1 p = true) : wrap64 (Int.tdiv (wrap64 (g - 1)) u) = (g - 1) / u ∧ wrap64 (Int.tmod (wrap64 (g - 1)) u + 1) = (g - 1) % u + 1 := by
  have h1 := inR_true hp
  have h2 := isUnit_true hu
  have h3 := inR_true hg
  rw [w64 (x := g - 1) (by omega) (by omega), tdiv_n (by omega), tmod_n (by omega)]
  rcases h2 with rfl | rfl | rfl | rfl | rfl | rfl <;> exact ⟨w64 (by omega) (by omega), w64 (by omega) (by omega)⟩

def gang (slots : Int) (q : List Int) : Bool := inR slots 1 32 && (inR (q.length : Int) 1 (min 6 slots) && allR q 1 1000000)
theorem gang_true {slots : Int} {q : List Int} (h : gang slots q = true) : (1 ≤ slots ∧ slots ≤ 32) ∧ (1 ≤ q.length ∧ q.length ≤ 6 ∧ (q.length : Int) ≤ slots) ∧ ∀ x ∈ q, 1 ≤ x ∧ x ≤ 1000000 := by
  simp only [gang, Bool.and_eq_true] at h
  have h2 := inR_true h.2.1
  exact ⟨inR_true h.1, by omega, allR_mem h.2.2⟩
/-- The run of ups. -/
def runM : List Int → List Int → Int → Int
  | q :: qs, u :: us, r => runM qs us (max r ((q + u - 1) / u))
  | _, _, r => r
def upsOk (slots : Int) (q u : List Int) : Bool := decide (u.length = q.length) && (allR u 1 slots && decide (wsum 0 u ≤ slots))
def upsCode (slots : Int) (q u : List Int) : Int := if gang slots q = true then (if upsOk slots q u = true then 0 else 2) else 1
def runFor (slots : Int) (q u : List Int) : Int × Int := if upsCode slots q u = 0 then (runM q u 0, 0) else (0, upsCode slots q u)
theorem upsCode_ok {slots : Int} {q u : List Int} (e : upsCode slots q u = 0) : gang slots q = true ∧ u.length = q.length ∧ (∀ x ∈ u, 1 ≤ x ∧ x ≤ slots) ∧ wsum 0 u ≤ slots := by
  unfold upsCode at e
  cases hg : gang slots q
  · simp [hg] at e
  · cases hu : upsOk slots q u
    · simp [hg, hu] at e
    · simp only [upsOk, Bool.and_eq_true, decide_eq_true_eq] at hu
      exact ⟨rfl, hu.1, allR_mem hu.2.1, hu.2.2⟩
theorem ceil_bd {q u : Int} (hq : 1 ≤ q ∧ q ≤ 1000000) (hu : 1 ≤ u ∧ u ≤ 1000000) : 1 ≤ (q + u - 1) / u ∧ (q + u - 1) / u ≤ q := by
  have h1 : (q + u - 1) / u = (q - 1) / u + 1 := by
    rw [show q + u - 1 = (q - 1) + 1 * u by omega, Int.add_mul_ediv_right _ _ (by omega)]
  have h2 : 0 ≤ (q - 1) / u := Int.ediv_nonneg (by omega) (by omega)
  have h3 : (q - 1) / u ≤ q - 1 := Int.ediv_le_self _ (by omega)
  omega
/-- The least ups of a run. -/
def upsM (q : List Int) (run : Int) : List Int := q.map fun x => (x + run - 1) / run
def upsFor (slots : Int) (q : List Int) (run : Int) : List Int × Int :=
  if gang slots q = true then (if inR run 1 1000000 = true then (if wsum 0 (upsM q run) > slots then ([], 4) else (upsM q run, 0)) else ([], 2)) else ([], 1)

def IsLeast (p : Int → Bool) (r : Int) : Prop := 1 ≤ r ∧ p r = true ∧ ∀ x, 1 ≤ x → x < r → p x = false
/-- The first r from s on with p, among d numbers. -/
def up (p : Int → Bool) : Nat → Int → Int
  | 0, r => r
  | d + 1, r => if p r = true then r else up p d (r + 1)
theorem up_least {p : Int → Bool} {r : Int} (h : IsLeast p r) : ∀ (d : Nat) (s : Int), 1 ≤ s → s ≤ r → r - s ≤ d → up p d s = r := by
  intro d
  induction d with
  | zero => intro s h0 h1 h2; rw [up]; omega
  | succ d ih =>
    intro s h0 h1 h2
    rw [up]
    by_cases e : s = r
    · rw [e, if_pos h.2.1]
    · rw [if_neg (by rw [h.2.2 s h0 (by omega)]; simp)]
      exact ih (s + 1) (by omega) (by omega) (by omega)
/-- 'The run r is enough.' -/
def enough (slots : Int) (q : List Int) (r : Int) : Bool := decide (wsum 0 (upsM q r) ≤ slots)
def leastM (slots : Int) (q : List Int) : Int := up (enough slots q) 1000000 1
/-- What the least run is asked of. -/
def fits (slots : Int) (q : List Int) : Prop := (q.length : Int) ≤ slots ∧ q.length ≤ 6 ∧ ∀ x ∈ q, 1 ≤ x ∧ x ≤ 1000000
theorem ceil_anti {q r s : Int} (hq : 1 ≤ q) (hr : 1 ≤ r) (h : r ≤ s) : (q + s - 1) / s ≤ (q + r - 1) / r := by
  have e1 : (q + s - 1) / s = (q - 1) / s + 1 := by rw [show q + s - 1 = (q - 1) + 1 * s by omega, Int.add_mul_ediv_right _ _ (by omega)]
  have e2 : (q + r - 1) / r = (q - 1) / r + 1 := by rw [show q + r - 1 = (q - 1) + 1 * r by omega, Int.add_mul_ediv_right _ _ (by omega)]
  have h0 : 0 ≤ (q - 1) / s := Int.ediv_nonneg (by omega) (by omega)
  have h1 : (q - 1) / s * s ≤ q - 1 := Int.ediv_mul_le _ (by omega)
  have h2 : (q - 1) / s * r ≤ (q - 1) / s * s := Int.mul_le_mul_of_nonneg_left h h0
  have h3 : (q - 1) / s ≤ (q - 1) / r := Int.le_ediv_of_mul_le (by omega) (by omega)
  omega
theorem upsM_sum_anti {r s : Int} (hr : 1 ≤ r) (h : r ≤ s) : ∀ q : List Int, (∀ x ∈ q, 1 ≤ x ∧ x ≤ 1000000) → (upsM q s).sum ≤ (upsM q r).sum
  | [], _ => by simp [upsM]
  | x :: xs, hq => by
    have h1 := upsM_sum_anti hr h xs (fun y hy => hq y (by simp [hy]))
    have h2 := ceil_anti (hq x (by simp)).1 hr h
    unfold upsM at h1 ⊢
    rw [List.map_cons, List.map_cons, List.sum_cons, List.sum_cons]
    omega
theorem upsM_mem {q : List Int} {r : Int} (hq : ∀ x ∈ q, 1 ≤ x ∧ x ≤ 1000000) (hr : 1 ≤ r ∧ r ≤ 1000000) : ∀ y ∈ upsM q r, 1 ≤ y ∧ y ≤ 1000000 := by
  intro y hy
  obtain ⟨x, hx, rfl⟩ := List.mem_map.1 hy
  have h1 := hq x hx
  have h2 := ceil_bd h1 hr
  omega
theorem wsum_upsM {q : List Int} {r : Int} (hl : q.length ≤ 6) (hq : ∀ x ∈ q, 1 ≤ x ∧ x ≤ 1000000) (hr : 1 ≤ r ∧ r ≤ 1000000) : wsum 0 (upsM q r) = (upsM q r).sum := by
  have e : (upsM q r).length = q.length := by simp [upsM]
  have := (wsum_eq (upsM q r) 0 (fun y hy => by have := upsM_mem hq hr y hy; omega) (by omega) (by rw [e]; omega)).1
  omega
theorem enough_mono {slots : Int} {q : List Int} (hf : fits slots q) {r s : Int} (hr : 1 ≤ r) (h : r ≤ s) (hs : s ≤ 1000000) (he : enough slots q r = true) : enough slots q s = true := by
  unfold enough at he ⊢
  rw [wsum_upsM hf.2.1 hf.2.2 ⟨hr, by omega⟩, decide_eq_true_eq] at he
  rw [wsum_upsM hf.2.1 hf.2.2 ⟨by omega, hs⟩, decide_eq_true_eq]
  have := upsM_sum_anti hr h q hf.2.2
  omega
theorem upsM_ones {r : Int} : ∀ q : List Int, (∀ x ∈ q, 1 ≤ x ∧ x ≤ r) → (upsM q r).sum = q.length
  | [], _ => by simp [upsM]
  | x :: xs, hq => by
    have h1 := upsM_ones xs (fun y hy => hq y (by simp [hy]))
    have h2 := hq x (by simp)
    have e : (x + r - 1) / r = 1 := by rw [show x + r - 1 = (x - 1) + 1 * r by omega, Int.add_mul_ediv_right _ _ (by omega), Int.ediv_eq_zero_of_lt (by omega) (by omega)]; rfl
    unfold upsM at h1 ⊢
    rw [List.map_cons, List.sum_cons, List.length_cons, e, h1]
    omega
theorem enough_top {slots : Int} {q : List Int} (hf : fits slots q) {r : Int} (hr : 1 ≤ r ∧ r ≤ 1000000) (hq : ∀ x ∈ q, x ≤ r) : enough slots q r = true := by
  unfold enough
  rw [wsum_upsM hf.2.1 hf.2.2 hr, upsM_ones q (fun x hx => ⟨(hf.2.2 x hx).1, hq x hx⟩)]
  exact decide_eq_true hf.1
/-- The state of a search by halves. -/
def Halves (slots : Int) (q : List Int) (lo hi : Int) : Prop := 1 ≤ lo ∧ lo ≤ hi ∧ hi ≤ 1000000 ∧ enough slots q hi = true ∧ ∀ x, 1 ≤ x → x < lo → enough slots q x = false
theorem Halves.done {slots : Int} {q : List Int} {lo hi : Int} (h : Halves slots q lo hi) (e : ¬ lo < hi) : leastM slots q = lo := by
  obtain ⟨h1, h2, h3, h4, h5⟩ := h
  have e2 : lo = hi := by omega
  subst e2
  exact up_least ⟨h1, h4, h5⟩ 1000000 1 (by omega) h1 (by omega)
theorem Halves.left {slots : Int} {q : List Int} {lo hi : Int} (h : Halves slots q lo hi) (e : lo < hi) (he : enough slots q ((lo + hi) / 2) = true) : Halves slots q lo ((lo + hi) / 2) := by
  obtain ⟨h1, h2, h3, h4, h5⟩ := h
  exact ⟨h1, by omega, by omega, he, h5⟩
theorem Halves.right {slots : Int} {q : List Int} {lo hi : Int} (hf : fits slots q) (h : Halves slots q lo hi) (e : lo < hi) (he : enough slots q ((lo + hi) / 2) = false) : Halves slots q ((lo + hi) / 2 + 1) hi := by
  obtain ⟨h1, h2, h3, h4, h5⟩ := h
  refine ⟨by omega, by omega, h3, h4, fun x hx hlt => ?_⟩
  cases hc : enough slots q x
  · rfl
  · have := enough_mono hf hx (show x ≤ (lo + hi) / 2 by omega) (by omega) hc
    rw [this] at he
    cases he
theorem Halves.start {slots : Int} {q : List Int} (hf : fits slots q) {hi : Int} (hr : 1 ≤ hi ∧ hi ≤ 1000000) (hq : ∀ x ∈ q, x ≤ hi) : Halves slots q 1 hi :=
  ⟨by omega, hr.1, hr.2, enough_top hf hr hq, fun x h1 h2 => by omega⟩
theorem leastM_least {slots : Int} {q : List Int} (hf : fits slots q) : IsLeast (enough slots q) (leastM slots q) ∧ leastM slots q ≤ 1000000 := by
  have key : ∀ (d : Nat) (s : Int), 1 ≤ s → s + d = 1000001 → (∀ x, 1 ≤ x → x < s → enough slots q x = false) → 0 < d → IsLeast (enough slots q) (up (enough slots q) d s) ∧ up (enough slots q) d s ≤ 1000000 := by
    intro d
    induction d with
    | zero => intro s _ _ _ h; omega
    | succ d ih =>
      intro s h1 h2 h3 _
      rw [up]
      cases hc : enough slots q s
      · rw [if_neg (by simp)]
        by_cases hd : 0 < d
        · exact ih (s + 1) (by omega) (by omega) (fun x hx hlt => by
            by_cases e : x = s
            · rw [e]; exact hc
            · exact h3 x hx (by omega)) hd
        · have e : s = 1000000 := by omega
          have := enough_top hf (r := 1000000) (by omega) (fun x hx => (hf.2.2 x hx).2)
          rw [e, this] at hc
          cases hc
      · rw [if_pos rfl]
        exact ⟨⟨h1, hc, h3⟩, by omega⟩
  exact key 1000000 1 (by omega) (by omega) (fun x h1 h2 => by omega) (by omega)
theorem gang_fits {slots : Int} {q : List Int} (h : gang slots q = true) : fits slots q := by
  obtain ⟨h1, h2, h3⟩ := gang_true h
  exact ⟨h2.2.2, h2.2.1, h3⟩
def leastRun (slots : Int) (q : List Int) : Int × Int := if gang slots q = true then (leastM slots q, 0) else (0, 1)
def bestUps (slots : Int) (q : List Int) : List Int × Int := if gang slots q = true then (upsM q (leastM slots q), 0) else ([], 1)

def rises : List Int → Bool
  | a :: b :: l => decide (a < b) && rises (b :: l)
  | _ => true
def firstOk (q first : List Int) : Bool := decide (first ≠ []) && (decide (rd first 0 = 0) && (allR first 0 ((q.length : Int) - 1) && rises first))
theorem firstOk_true {q first : List Int} (h : firstOk q first = true) : first ≠ [] ∧ rd first 0 = 0 ∧ (∀ x ∈ first, 0 ≤ x ∧ x ≤ (q.length : Int) - 1) ∧ rises first = true := by
  simp only [firstOk, Bool.and_eq_true, decide_eq_true_eq] at h
  exact ⟨h.1, h.2.1, allR_mem h.2.2.1, h.2.2.2⟩
/-- The jobs of the first form, and those of the second one. -/
def partIn (first : List Int) : List Int → Int → List Int
  | [], _ => []
  | x :: xs, i => if first.contains i = true then x :: partIn first xs (i + 1) else partIn first xs (i + 1)
def partOut (first : List Int) : List Int → Int → List Int
  | [], _ => []
  | x :: xs, i => if first.contains i = true then partOut first xs (i + 1) else x :: partOut first xs (i + 1)
theorem partIn_len (first : List Int) : ∀ (xs : List Int) (i : Int), (partIn first xs i).length ≤ xs.length ∧ ∀ y ∈ partIn first xs i, y ∈ xs
  | [], i => by simp [partIn]
  | x :: xs, i => by
    have h := partIn_len first xs (i + 1)
    rw [partIn]
    split
    · simp only [List.length_cons, List.mem_cons]
      exact ⟨by omega, fun y hy => hy.elim .inl (fun hy => .inr (h.2 y hy))⟩
    · simp only [List.length_cons, List.mem_cons]
      exact ⟨by omega, fun y hy => .inr (h.2 y hy)⟩
theorem partOut_len (first : List Int) : ∀ (xs : List Int) (i : Int), (partOut first xs i).length ≤ xs.length ∧ ∀ y ∈ partOut first xs i, y ∈ xs
  | [], i => by simp [partOut]
  | x :: xs, i => by
    have h := partOut_len first xs (i + 1)
    rw [partOut]
    split
    · simp only [List.length_cons, List.mem_cons]
      exact ⟨by omega, fun y hy => .inr (h.2 y hy)⟩
    · simp only [List.length_cons, List.mem_cons]
      exact ⟨by omega, fun y hy => hy.elim .inl (fun hy => .inr (h.2 y hy))⟩
theorem partIn_fits {slots : Int} {q : List Int} (hf : fits slots q) (first : List Int) (i : Int) : fits slots (partIn first q i) := by
  have h := partIn_len first q i
  exact ⟨by have := hf.1; omega, by have := hf.2.1; omega, fun x hx => hf.2.2 x (h.2 x hx)⟩
theorem partOut_fits {slots : Int} {q : List Int} (hf : fits slots q) (first : List Int) (i : Int) : fits slots (partOut first q i) := by
  have h := partOut_len first q i
  exact ⟨by have := hf.1; omega, by have := hf.2.1; omega, fun x hx => hf.2.2 x (h.2 x hx)⟩
def costF (slots : Int) (ins outs : List Int) (setup : Int) : Int := leastM slots ins + setup + (if outs = [] then 0 else leastM slots outs + setup)
def costM (slots : Int) (q first : List Int) (setup : Int) : Int := costF slots (partIn first q 0) (partOut first q 0) setup
theorem costM_bd {slots : Int} {q : List Int} (hf : fits slots q) (first : List Int) {setup : Int} (hs : 0 ≤ setup ∧ setup ≤ 1000000) : 0 ≤ costM slots q first setup ∧ costM slots q first setup ≤ 4000000 := by
  have h1 := leastM_least (partIn_fits hf first 0)
  have h2 := leastM_least (partOut_fits hf first 0)
  have e1 := h1.1.1
  have e2 := h2.1.1
  unfold costM costF
  split <;> omega
def dividedCost (slots : Int) (q first : List Int) (setup : Int) : Int × Int :=
  if gang slots q = true then (if (firstOk q first && inR setup 0 1000000) = true then (costM slots q first setup, 0) else (0, 2)) else (0, 1)
theorem rises_lt : ∀ (l : List Int) (a : Int), rises (a :: l) = true → ∀ x ∈ l, a < x
  | [], a, _ => by simp
  | b :: l, a, h => by
    simp only [rises, Bool.and_eq_true, decide_eq_true_eq] at h
    intro x hx
    rcases List.mem_cons.1 hx with rfl | hx
    · exact h.1
    · have := rises_lt l b h.2 x hx
      omega
theorem rises_tail (a : Int) (l : List Int) (h : rises (a :: l) = true) : rises l = true := by
  cases l with
  | nil => rfl
  | cons b l =>
    simp only [rises, Bool.and_eq_true] at h
    exact h.2
theorem rises_len : ∀ (l : List Int) (lo hi : Int), rises l = true → (∀ x ∈ l, lo ≤ x ∧ x ≤ hi) → l ≠ [] → (l.length : Int) ≤ hi - lo + 1
  | [], _, _, _, _, h => absurd rfl h
  | [a], lo, hi, _, h, _ => by have := h a (by simp); simp only [List.length_cons, List.length_nil]; omega
  | a :: b :: l, lo, hi, hr, h, _ => by
    have h0 := h a (by simp)
    have h1 := rises_lt (b :: l) a hr
    have := rises_len (b :: l) (lo + 1) hi (rises_tail a (b :: l) hr) (fun x hx => by
      have := h1 x hx
      have := h x (by simp only [List.mem_cons] at hx ⊢; exact .inr hx)
      omega) (by simp)
    simp only [List.length_cons] at this ⊢
    omega
theorem firstOk_len {slots : Int} {q first : List Int} (hg : gang slots q = true) (h : firstOk q first = true) : first.length ≤ 6 := by
  obtain ⟨h1, h2, h3, h4⟩ := firstOk_true h
  have := rises_len first 0 _ h4 h3 h1
  have := (gang_true hg).2.1
  omega
theorem firstOk_has {q first : List Int} (h : firstOk q first = true) : first.contains 0 = true := by
  obtain ⟨h1, h2, h3, h4⟩ := firstOk_true h
  cases first with
  | nil => exact absurd rfl h1
  | cons a l =>
    have e : rd (a :: l) 0 = a := rfl
    rw [e] at h2
    subst h2
    simp
theorem partIn_ne {q first : List Int} (h : firstOk q first = true) (hq : 1 ≤ q.length) : 1 ≤ (partIn first q 0).length := by
  cases q with
  | nil => simp at hq
  | cons x xs =>
    rw [partIn, if_pos (firstOk_has h)]
    simp
theorem rises_drop (l : List Int) (i : Nat) (h : i + 1 < l.length) : rises (l.drop i) = (decide (l[i]'(by omega) < l[i + 1]) && rises (l.drop (i + 1))) := by
  rw [drop_get l i (by omega), drop_get l (i + 1) h, rises]
theorem rises_end (l : List Int) (i : Nat) (h : l.length ≤ i + 1) : rises (l.drop i) = true := by
  by_cases e : i < l.length
  · rw [drop_get l i e, List.drop_of_length_le (by omega)]
    rfl
  · rw [List.drop_of_length_le (by omega)]
    rfl

def okU (p : Int) (us : List Int) : Bool := inR p 1 4096 && (decide (us ≠ []) && (us.all isUnit && rises us))
theorem okU_true {p : Int} {us : List Int} (h : okU p us = true) : inR p 1 4096 = true ∧ us ≠ [] ∧ (∀ u ∈ us, isUnit u = true) ∧ rises us = true := by
  simp only [okU, Bool.and_eq_true, decide_eq_true_eq, List.all_eq_true] at h
  exact ⟨h.1, h.2.1, h.2.2.1, h.2.2.2⟩
def padU (p u : Int) : Int := (p + u - 1) / u * u
def bestUnits (p : Int) (us : List Int) : List Int × Int := if okU p us = true then ((HandU.bu us (padU p (rd us 0))).1, 0) else ([], 2)
theorem bestUnits_len (p : Int) (us : List Int) : (bestUnits p us).1.length ≤ us.length := by
  unfold bestUnits
  split
  · simp only; rw [HandU.bu_len]; omega
  · simp
theorem padU_bd {p u : Int} (hp : inR p 1 4096 = true) (hu : isUnit u = true) : p ≤ padU p u ∧ padU p u - p < u ∧ padU p u ≤ 4224 ∧ padU p u % u = 0 := by
  have h1 := inR_true hp
  have h2 := isUnit_true hu
  unfold padU
  refine ⟨?_, ?_, ?_, Int.mul_emod_left _ _⟩ <;> rcases h2 with rfl | rfl | rfl | rfl | rfl | rfl <;> omega
theorem rd0_mem {us : List Int} (h : us ≠ []) : rd us 0 ∈ us := by
  cases us with
  | nil => exact absurd rfl h
  | cons u us => exact List.mem_cons_self

def dot : List Int → List Int → Int
  | x :: xs, u :: us => x * u + dot xs us
  | _, _ => 0
theorem isUnit_dvd {u v : Int} (hu : isUnit u = true) (hv : isUnit v = true) (h : u < v) : u ∣ v := by
  have h1 := isUnit_true hu
  have h2 := isUnit_true hv
  apply Int.dvd_of_emod_eq_zero
  rcases h1 with rfl | rfl | rfl | rfl | rfl | rfl <;> rcases h2 with rfl | rfl | rfl | rfl | rfl | rfl <;> omega
theorem bu_bd (L : Int) (h0 : 0 ≤ L) (h1 : L ≤ 5000) : ∀ us : List Int, (∀ u ∈ us, isUnit u = true) → 0 ≤ (HandU.bu us L).2 ∧ (HandU.bu us L).2 ≤ L
  | [], _ => ⟨h0, Int.le_refl _⟩
  | u :: us, h => by
    obtain ⟨i1, i2⟩ := bu_bd L h0 h1 us (fun v hv => h v (by simp [hv]))
    have hu := isUnit_true (h u (by simp))
    rw [HandU.bu]
    simp only
    rw [tmod_n i1]
    have := Int.emod_lt_of_pos (HandU.bu us L).2 (show 0 < u by omega)
    have h2 := Int.emod_nonneg (HandU.bu us L).2 (show u ≠ 0 by omega)
    have h3 := Int.mul_ediv_add_emod (HandU.bu us L).2 u
    have h4 : 0 ≤ u * ((HandU.bu us L).2 / u) := Int.mul_nonneg (by omega) (Int.ediv_nonneg i1 (by omega))
    omega
theorem bu_cons {L : Int} (h0 : 0 ≤ L) (h1 : L ≤ 5000) {u : Int} {us : List Int} (h : ∀ v ∈ u :: us, isUnit v = true) : HandU.bu (u :: us) L = ((HandU.bu us L).2 / u :: (HandU.bu us L).1, (HandU.bu us L).2 % u) := by
  obtain ⟨i1, i2⟩ := bu_bd L h0 h1 us (fun v hv => h v (by simp [hv]))
  have hu := isUnit_true (h u (by simp))
  have h3 : 0 ≤ (HandU.bu us L).2 / u := Int.ediv_nonneg i1 (by omega)
  have h4 : (HandU.bu us L).2 / u ≤ (HandU.bu us L).2 := Int.ediv_le_self _ i1
  rw [HandU.bu, tmod_n i1, tdiv_n i1, w64 (by omega) (by omega)]
theorem bu_dot {L : Int} (h0 : 0 ≤ L) (h1 : L ≤ 5000) : ∀ us : List Int, (∀ u ∈ us, isUnit u = true) → dot (HandU.bu us L).1 us + (HandU.bu us L).2 = L ∧ (∀ x ∈ (HandU.bu us L).1, 0 ≤ x ∧ x ≤ 5000)
  | [], _ => ⟨by simp [HandU.bu, dot], by simp [HandU.bu]⟩
  | u :: us, h => by
    have hs : ∀ v ∈ us, isUnit v = true := fun v hv => h v (by simp [hv])
    obtain ⟨i1, i2⟩ := bu_bd L h0 h1 us hs
    obtain ⟨e, hb⟩ := bu_dot h0 h1 us hs
    have hu := isUnit_true (h u (by simp))
    have h3 : 0 ≤ (HandU.bu us L).2 / u := Int.ediv_nonneg i1 (by omega)
    have h4 : (HandU.bu us L).2 / u ≤ (HandU.bu us L).2 := Int.ediv_le_self _ i1
    have h5 := Int.mul_ediv_add_emod (HandU.bu us L).2 u
    rw [bu_cons h0 h1 h]
    refine ⟨?_, fun x hx => ?_⟩
    · simp only [dot]
      rw [Int.mul_comm u] at h5
      omega
    · rcases List.mem_cons.1 hx with e | e
      · rw [e]; omega
      · exact hb x e
theorem bu_mod {L u' : Int} (h0 : 0 ≤ L) (h1 : L ≤ 5000) (hu' : isUnit u' = true) : ∀ us : List Int, (∀ u ∈ us, isUnit u = true ∧ u' < u) → (HandU.bu us L).2 % u' = L % u'
  | [], _ => rfl
  | u :: us, h => by
    have hs : ∀ v ∈ u :: us, isUnit v = true := fun v hv => (h v hv).1
    rw [bu_cons h0 h1 hs]
    simp only
    rw [Int.emod_emod_of_dvd _ (isUnit_dvd hu' (h u (by simp)).1 (h u (by simp)).2)]
    exact bu_mod h0 h1 hu' us (fun v hv => h v (by simp [hv]))
theorem bu_all {L u : Int} {us : List Int} (h0 : 0 ≤ L) (h1 : L ≤ 5000) (h : ∀ v ∈ u :: us, isUnit v = true) (hr : rises (u :: us) = true) (hz : L % u = 0) : dot (HandU.bu (u :: us) L).1 (u :: us) = L := by
  have h2 := (bu_dot h0 h1 (u :: us) h).1
  have h3 : (HandU.bu (u :: us) L).2 = 0 := by
    rw [bu_cons h0 h1 h]
    simp only
    rw [bu_mod h0 h1 (h u (by simp)) us (fun v hv => ⟨h v (by simp [hv]), rises_lt us u hr v hv⟩)]
    exact hz
  omega

theorem laws_big_eq (l : List Int) : laws_big.f l = some (decide ((l.length : Int) > 4096)) := rfl

theorem laws_likeInts_l0 (l : List Int) (hl : l.length ≤ 9223372036854775806) : ∀ (d k i : Nat), i + d = l.length → d < k → laws_likeInts.l0 k l l (i : Int) = some true := by
  intro d
  induction d with
  | zero =>
    intro k i h hk
    obtain ⟨k, rfl⟩ : ∃ m, k = m + 1 := ⟨k - 1, by omega⟩
    rw [laws_likeInts.l0, if_neg (by omega)]
  | succ d ih =>
    intro k i h hk
    obtain ⟨k, rfl⟩ : ∃ m, k = m + 1 := ⟨k - 1, by omega⟩
    rw [laws_likeInts.l0, if_pos (by omega), if_pos (by omega), if_pos (by omega), if_pos rfl, w64 (x := (i : Int) + 1) (by omega) (by omega)]
    exact ih k (i + 1) (by omega) (by omega)
theorem laws_likeInts_eq (l : List Int) (k : Nat) (hl : l.length ≤ 9223372036854775806) (hk : l.length < k) : laws_likeInts.f k l l = some true := by
  unfold laws_likeInts.f
  rw [if_pos rfl]
  exact laws_likeInts_l0 l hl l.length k 0 (by omega) hk

theorem spec_l01From_l0 (c : List Int) (hc : Code c) : ∀ (d k i : Nat) (l : List Int) (a s : Int), i + d = c.length → d < k → 0 ≤ a → 0 ≤ s → s < 2147483647 → ∃ q, spec_l01From.l0 k c (i : Int) l a s = some (l, q) ∧ SOk q := by
  intro d
  have hl := hc.2
  induction d with
  | zero =>
    intro k i l a s h hk ha h0 h1
    obtain ⟨k, rfl⟩ : ∃ m, k = m + 1 := ⟨k - 1, by omega⟩
    rw [spec_l01From.l0, if_neg (by omega)]
    exact ⟨(a, s), rfl, ha, h0, h1⟩
  | succ d ih =>
    intro k i l a s h hk ha h0 h1
    obtain ⟨k, rfl⟩ : ∃ m, k = m + 1 := ⟨k - 1, by omega⟩
    rw [spec_l01From.l0, if_pos (by omega)]
    by_cases h64 : (i : Int) < 64
    · have hb := rd_byte hc (i := (i : Int)) (by omega) (by omega)
      rw [if_pos h64, if_pos (by omega), w64 (x := (i : Int) + 1) (by omega) (by omega), w64 (x := rd c (i : Int)) (by omega) (by omega), w64 (x := s * 71) (by omega) (by omega), w64 (x := s * 71 + rd c (i : Int)) (by omega) (by omega), tmod_n (by omega)]
      exact ih k (i + 1) l a _ (by omega) (by omega) ha (by omega) (by omega)
    · rw [if_neg h64]
      exact ⟨(a, s), rfl, ha, h0, h1⟩
theorem from_ok {c : List Int} (hc : Code c) {k : Nat} (hk : c.length < k) : ∃ p, spec_l01From.f k c = some p ∧ p.1 = c ∧ SOk p.2 := by
  obtain ⟨q, e, h⟩ := spec_l01From_l0 c hc c.length k 0 c 0 88007 (by omega) hk (by omega) (by omega) (by omega)
  exact ⟨(c, q), e, rfl, h⟩

theorem next_ok {c : List Int} (hc : Code c) {q : Int × Int} (hq : SOk q) (n : Int) : ∃ p, spec_l01Next.f c q.1 q.2 n = some p ∧ SOk p.2 ∧ 0 ≤ p.1 ∧ (p.1 < n ∨ p.1 = 0) := by
  obtain ⟨a, s⟩ := q
  obtain ⟨ha, h0, h1⟩ := hq
  have hl := hc.2
  simp only at ha h0 h1
  unfold spec_l01Next.f
  simp only
  by_cases hn : n ≤ 1
  · rw [if_pos hn]
    exact ⟨_, rfl, ⟨ha, h0, h1⟩, by simp, .inr rfl⟩
  rw [if_neg hn, w64 (x := s * 48271) (by omega) (by omega), w64 (x := s * 48271 + 61) (by omega) (by omega), tmod_n (a := s * 48271 + 61) (by omega)]
  have hS : 0 ≤ (s * 48271 + 61) % 2147483647 ∧ (s * 48271 + 61) % 2147483647 < 2147483647 := by omega
  generalize (s * 48271 + 61) % 2147483647 = S at hS
  rw [tdiv_n (a := S) (by omega)]
  have hm : ∀ x : Int, 0 ≤ x → 0 ≤ Int.tmod x n ∧ Int.tmod x n < n := fun x hx => by
    rw [tmod_n hx]
    exact ⟨Int.emod_nonneg _ (by omega), Int.emod_lt_of_pos _ (by omega)⟩
  by_cases hlt : a < (c.length : Int)
  · have hb := rd_byte hc ha hlt
    rw [if_pos hlt, if_pos ha, w64 (x := a + 1) (by omega) (by omega), w64 (x := a + 1 - 1) (by omega) (by omega), show a + 1 - 1 = a by omega, w64 (x := rd c a) (by omega) (by omega), w64 (x := S / 31) (by omega) (by omega), w64 (x := S / 31 + rd c a) (by omega) (by omega)]
    have g1 := hm (rd c a) hb.1
    have g2 := hm (S / 31 + rd c a) (by omega)
    split
    · split
      · rw [if_neg (by omega)]
        exact ⟨_, rfl, ⟨by simp only; omega, hS.1, hS.2⟩, g1.1, .inl g1.2⟩
      · rw [if_neg (by omega)]
        exact ⟨_, rfl, ⟨by simp only; omega, hS.1, hS.2⟩, g2.1, .inl g2.2⟩
    · rw [if_neg (by omega)]
      exact ⟨_, rfl, ⟨by simp only; omega, hS.1, hS.2⟩, g2.1, .inl g2.2⟩
  · have g3 := hm (S / 31) (by omega)
    rw [if_neg hlt, if_neg (by omega), w64 (x := S / 31) (by omega) (by omega)]
    exact ⟨_, rfl, ⟨ha, hS.1, hS.2⟩, g3.1, .inl g3.2⟩

theorem pick_ok {c : List Int} (hc : Code c) {q : Int × Int} (hq : SOk q) (l : List Int) (hl : 0 < l.length) : ∃ p, spec_l01Pick.f c q.1 q.2 l = some p ∧ SOk p.2 ∧ p.1 ∈ l := by
  unfold spec_l01Pick.f
  obtain ⟨p, e, h1, h2, h3⟩ := next_ok hc hq (l.length : Int)
  rw [e]
  simp only [Option.bind_some]
  have h4 : p.1 < (l.length : Int) := by omega
  rw [if_pos h2, if_pos h4]
  refine ⟨_, rfl, h1, ?_⟩
  simp only
  obtain ⟨n, hn⟩ : ∃ n : Nat, p.1 = n := ⟨p.1.toNat, by omega⟩
  have hn2 : n < l.length := by omega
  have e2 : rd l (n : Int) = l[n] := by rw [rd_nat, List.getD_eq_getElem?_getD, List.getElem?_eq_getElem hn2]; rfl
  rw [hn, e2]
  exact List.getElem_mem hn2

theorem l06DrawPages_ok {c : List Int} (hc : Code c) {q : Int × Int} (hq : SOk q) : ∃ p, spec_l06DrawPages.f c q.1 q.2 = some p ∧ SOk p.2 := by
  unfold spec_l06DrawPages.f
  exact bind_ok (next_ok hc hq 24) fun p hp => ite_ok (fun _ => bind_ok (pick_ok hc hp.1 _ (by simp)) fun r hr => ⟨_, rfl, hr.1⟩) (fun _ => bind_ok (next_ok hc hp.1 300) fun r hr => ⟨_, rfl, hr.1⟩)

theorem DrawBestUnits_l0 {c : List Int} (hc : Code c) : ∀ (n k : Nat) (u : Int) (xs : List Int) (q : Int × Int), SOk q → 1 ≤ u → u * 2 ^ n > 128 → u ≤ 256 → n < k → n ≤ 10 → xs.length + n ≤ 50 → ∃ p, spec_DrawBestUnits.l0 k xs u c q.1 q.2 = some p ∧ p.2.length ≤ 51 := by
  intro n
  have stop : ∀ (k : Nat) (u : Int) (xs : List Int) (q : Int × Int), SOk q → ¬ u ≤ 128 → xs.length ≤ 50 → ∃ p, spec_DrawBestUnits.l0 (k + 1) xs u c q.1 q.2 = some p ∧ p.2.length ≤ 51 := by
    intro k u xs q hq hu hx
    rw [spec_DrawBestUnits.l0, if_neg hu]
    refine bind_ok (next_ok hc hq 24) fun a ha => ite_ok (fun _ => bind_ok (pick_ok hc ha.1 _ (by simp)) fun b hb => ?_) (fun _ => ite_ok (fun _ => bind_ok (l06DrawPages_ok hc ha.1) fun d hd => ⟨_, rfl, by simp⟩) (fun _ => bind_ok (l06DrawPages_ok hc ha.1) fun d hd => ⟨_, rfl, by simp only; omega⟩))
    rw [if_pos (by omega)]
    exact bind_ok (l06DrawPages_ok hc hb.1) fun d hd => ⟨_, rfl, by simp only [List.length_append, List.length_cons, List.length_nil]; omega⟩
  induction n with
  | zero =>
    intro k u xs q hq h1 h2 h3 hk hn hx
    obtain ⟨k, rfl⟩ : ∃ m, k = m + 1 := ⟨k - 1, by omega⟩
    exact stop k u xs q hq (by simp at h2; omega) (by omega)
  | succ n ih =>
    intro k u xs q hq h1 h2 h3 hk hn hx
    obtain ⟨k, rfl⟩ : ∃ m, k = m + 1 := ⟨k - 1, by omega⟩
    by_cases hu : u ≤ 128
    · rw [spec_DrawBestUnits.l0, if_pos hu, w64 (x := 2 * u) (by omega) (by omega)]
      have h4 : 2 * u * 2 ^ n > 128 := by rw [show 2 * u * 2 ^ n = u * 2 ^ (n + 1) by rw [Int.pow_succ, Int.mul_comm 2 u, Int.mul_assoc, Int.mul_comm 2 (2 ^ n)]]; exact h2
      refine bind_ok (next_ok hc hq 2) fun a ha => ite_ok (fun _ => ?_) (fun _ => ih k _ _ _ ha.1 (by omega) h4 (by omega) (by omega) (by omega) (by omega))
      rw [if_pos (by omega)]
      exact ih k _ _ _ ha.1 (by omega) h4 (by omega) (by omega) (by omega) (by simp only [List.length_append, List.length_cons, List.length_nil]; omega)
    · exact stop k u xs q hq hu (by omega)
theorem DrawBestUnits_ok {c : List Int} (hc : Code c) {k : Nat} (hk : c.length + 30 < k) : ∃ p, spec_DrawBestUnits.f k c = some p ∧ p.2.length ≤ 51 := by
  unfold spec_DrawBestUnits.f
  refine bind_ok (from_ok hc (by omega)) fun p hp => ?_
  rw [hp.1]
  exact DrawBestUnits_l0 hc 6 k 4 [] _ hp.2 (by omega) (by decide) (by omega) (by omega) (by omega) (by simp)

theorem impl_inRange_eq (a b c : Int) : impl_inRange.f a b c = some (inR a b c) := by
  unfold impl_inRange.f inR
  by_cases h : b ≤ a
  · rw [if_pos h]; simp [h]
  · rw [if_neg h]; simp [h]

theorem impl_IsUnit_eq (a : Int) : impl_IsUnit.f a = some (isUnit a) := by
  unfold impl_IsUnit.f
  simp only [impl_inRange_eq, Option.bind_some]
  cases h : inR a 4 128
  · have := inR_false h
    have h2 : isUnit a = false := by
      cases h3 : isUnit a
      · rfl
      · have := isUnit_true h3; omega
    simp [h2]
  · have := inR_true h
    simp only [if_true]
    rw [unit_bits a (by omega) (by omega)]

theorem impl_isPages_eq (a : Int) : impl_isPages.f a = some (inR a 1 4096) := by
  unfold impl_isPages.f; rw [impl_inRange_eq]; rfl

theorem impl_padded_eq (p u : Int) (hp : inR p 1 4096 = true) (hu : isUnit u = true) : impl_padded.f p u = some ((p + u - 1) / u * u) := by
  have h1 := inR_true hp
  have h2 := isUnit_true hu
  unfold impl_padded.f
  rw [if_neg (by omega), w64 (x := p + u) (by omega) (by omega), w64 (x := p + u - 1) (by omega) (by omega), tdiv_n (by omega)]
  have h3 : 0 ≤ (p + u - 1) / u ∧ (p + u - 1) / u ≤ 4224 ∧ (p + u - 1) / u * u ≤ 4224 ∧ 0 ≤ (p + u - 1) / u * u := by
    rcases h2 with rfl | rfl | rfl | rfl | rfl | rfl <;> omega
  rw [w64 (x := (p + u - 1) / u) (by omega) (by omega), w64 (by omega) (by omega)]

theorem impl_BestUnits_l0 (p : Int) (us : List Int) (hp : inR p 1 4096 = true) (hne : us ≠ []) (hl : us.length ≤ 1048576) : ∀ (d k i : Nat), i + d = us.length → d < k → (∀ (j : Nat) (h : j < us.length), j < i → isUnit us[j] = true) →
    impl_BestUnits.l0 k p us us (us.length : Int) (i : Int) = some (if ((us.drop i).all isUnit && rises (us.drop (i - 1))) = true then ((HandU.bu us (padU p (rd us 0))).1, 0) else ([], 2)) := by
  have hpos : 0 < us.length := List.length_pos_iff.2 hne
  intro d
  induction d with
  | zero =>
    intro k i hi hk hu
    obtain ⟨k, rfl⟩ : ∃ m, k = m + 1 := ⟨k - 1, by omega⟩
    have hall : (us.all fun u_ => decide (1 ≤ u_)) = true := by
      simp only [List.all_eq_true, decide_eq_true_eq]
      intro x hx
      obtain ⟨j, hj, rfl⟩ := List.getElem_of_mem hx
      have := isUnit_true (hu j hj (by omega))
      omega
    have h0 : isUnit (rd us 0) = true := by
      have := hu 0 hpos (by omega)
      rwa [← rd_get us 0 hpos] at this
    rw [impl_BestUnits.l0, if_neg (by omega), if_pos (by omega), if_pos (by rw [Int.toNat_natCast]; omega), if_pos (by omega), if_pos hall, impl_padded_eq p _ hp h0]
    simp only [Option.bind_some]
    rw [List.drop_of_length_le (by omega), rises_end us (i - 1) (by omega)]
    rfl
  | succ d ih =>
    intro k i hi hk hu
    obtain ⟨k, rfl⟩ : ∃ m, k = m + 1 := ⟨k - 1, by omega⟩
    have hlt : i < us.length := by omega
    rw [impl_BestUnits.l0, if_pos (by omega), if_pos (by omega), if_pos (by omega), rd_get us i hlt, impl_IsUnit_eq, w64 (x := (i : Int) + 1) (by omega) (by omega)]
    simp only [Option.bind_some]
    rw [drop_get us i hlt, List.all_cons]
    by_cases c : isUnit us[i] = true
    · have hu' : ∀ (j : Nat) (h : j < us.length), j < i + 1 → isUnit us[j] = true := fun j h hj => by
        by_cases e : j = i
        · subst e; exact c
        · exact hu j h (by omega)
      have next := ih k (i + 1) (by omega) (by omega) hu'
      rw [show ((i + 1 : Nat) : Int) = (i : Int) + 1 by omega, Nat.add_sub_cancel] at next
      rw [if_pos c, c, Bool.true_and]
      by_cases z : i = 0
      · subst z
        rw [if_neg (by omega)]
        exact next
      · have hj : i - 1 < us.length := by omega
        have e1 : (i : Int) - 1 = ((i - 1 : Nat) : Int) := by omega
        have hr := rises_drop us (i - 1) (by omega)
        have e2 : i - 1 + 1 = i := by omega
        simp only [e2] at hr
        rw [if_pos (by omega), w64 (x := (i : Int) - 1) (by omega) (by omega), if_pos (by omega), if_pos (by omega), e1, rd_get us (i - 1) hj]
        by_cases g : us[i - 1] ≥ us[i]
        · rw [if_pos g, hr, decide_eq_false (by omega), Bool.false_and, Bool.and_false]
          rfl
        · rw [if_neg g, next, hr, decide_eq_true (by omega), Bool.true_and]
    · rw [if_neg c, Bool.eq_false_iff.2 c, Bool.false_and, Bool.false_and]
      rfl
theorem impl_BestUnits_eq (p : Int) (us : List Int) (k : Nat) (hl : us.length ≤ 1048576) (hk : us.length + 2 < k) : impl_BestUnits.f k p us = some (bestUnits p us) := by
  obtain ⟨k, rfl⟩ : ∃ m, k = m + 1 := ⟨k - 1, by omega⟩
  unfold impl_BestUnits.f bestUnits okU
  rw [impl_isPages_eq]
  simp only [Option.bind_some]
  by_cases hp : inR p 1 4096 = true
  · rw [if_pos hp, hp, Bool.true_and, impl_BestUnits.j0]
    by_cases hne : us = []
    · subst hne
      simp
    · have e : ((us.length : Int) == 0) = false := beq_eq_false_iff_ne.mpr (by have := List.length_pos_iff.2 hne; omega)
      rw [e, if_neg (by simp), decide_eq_true hne, Bool.true_and]
      have := impl_BestUnits_l0 p us hp hne hl us.length k 0 (by omega) (by omega) (fun j _ hj => absurd hj (by omega))
      rw [List.drop_zero] at this
      exact this
  · rw [if_neg hp, Bool.eq_false_iff.2 hp, impl_BestUnits.j0, if_pos rfl, Bool.false_and]
    rfl

theorem spec_l01Has_l0 (xs : List Int) (x : Int) (hl : xs.length ≤ 9223372036854775806) : ∀ (d k i : Nat), i + d = xs.length → d < k → spec_l01Has.l0 k xs x (i : Int) = some ((xs.drop i).contains x) := by
  intro d
  induction d with
  | zero =>
    intro k i h hk
    obtain ⟨k, rfl⟩ : ∃ m, k = m + 1 := ⟨k - 1, by omega⟩
    rw [spec_l01Has.l0, if_neg (by omega), List.drop_of_length_le (by omega)]
    rfl
  | succ d ih =>
    intro k i h hk
    obtain ⟨k, rfl⟩ : ∃ m, k = m + 1 := ⟨k - 1, by omega⟩
    have hi : i < xs.length := by omega
    have e : xs.drop i = xs[i] :: xs.drop (i + 1) := List.drop_eq_getElem_cons hi
    have e2 : xs.getD i 0 = xs[i] := by simp [List.getD_eq_getElem?_getD, List.getElem?_eq_getElem hi]
    have e3 := ih k (i + 1) (by omega) (by omega)
    rw [spec_l01Has.l0, if_pos (by omega), if_pos (by omega), rd_nat, e2, e, List.contains_cons]
    by_cases hx : xs[i] = x
    · rw [if_pos hx]; simp [hx]
    · rw [if_neg hx, w64 (by omega) (by omega)]
      have e4 : (x == xs[i]) = false := beq_eq_false_iff_ne.mpr (fun h => hx h.symm)
      rw [e4, Bool.false_or]
      exact e3
theorem spec_l01Has_eq (xs : List Int) (x : Int) (k : Nat) (hl : xs.length ≤ 9223372036854775806) (hk : xs.length < k) : spec_l01Has.f k xs x = some (xs.contains x) := by
  unfold spec_l01Has.f
  exact spec_l01Has_l0 xs x hl xs.length k 0 (by omega) hk

theorem spec_IsUnit_eq (k : Nat) (a : Int) (hk : 6 < k) : spec_IsUnit.f k a = some (isUnit a) := by
  unfold spec_IsUnit.f
  rw [spec_l01Has_eq _ _ _ (by show (6 : Nat) ≤ 9223372036854775806; omega) (by show (6 : Nat) < k; omega)]
  simp only [Option.bind_some, isUnit, List.contains_cons, List.contains_nil, Bool.or_false, Bool.or_assoc]

theorem spec_l01In_eq (a b c : Int) : spec_l01In.f a b c = some (inR a b c) := by
  unfold spec_l01In.f inR
  by_cases h : a ≥ b
  · rw [if_pos h]; simp [show b ≤ a from h]
  · rw [if_neg h]; simp [show ¬ b ≤ a from h]

theorem spec_l01Ceil_eq (a b : Int) (h0 : 0 ≤ a) (h1 : a ≤ 4611686018427387904) (k0 : 1 ≤ b) (k1 : b ≤ 4611686018427387903) : spec_l01Ceil.f a b = some ((a + b - 1) / b) := by
  unfold spec_l01Ceil.f
  have h3 : 0 ≤ (a + b - 1) / b := Int.ediv_nonneg (by omega) (by omega)
  have h4 : (a + b - 1) / b ≤ a + b - 1 := Int.ediv_le_self _ (by omega)
  rw [if_neg (by omega), w64 (x := a + b) (by omega) (by omega), w64 (x := a + b - 1) (by omega) (by omega), tdiv_n (by omega), w64 (by omega) (by omega)]

theorem spec_l01Rises_l0 (l : List Int) (hl : l.length ≤ 1048576) : ∀ (d k i : Nat), l.length ≤ i + 1 + d → d < k → spec_l01Rises.l0 k l ((i : Int) + 1) = some (rises (l.drop i)) := by
  intro d
  induction d with
  | zero =>
    intro k i h hk
    obtain ⟨k, rfl⟩ : ∃ m, k = m + 1 := ⟨k - 1, by omega⟩
    rw [spec_l01Rises.l0, if_neg (by omega), rises_end l i (by omega)]
  | succ d ih =>
    intro k i h hk
    obtain ⟨k, rfl⟩ : ∃ m, k = m + 1 := ⟨k - 1, by omega⟩
    by_cases e : i + 1 < l.length
    · have h0 : i < l.length := by omega
      have e1 : rd l ((i : Int) + 1) = l[i + 1] := rd_get l (i + 1) e
      rw [spec_l01Rises.l0, if_pos (by omega), if_pos (by omega), w64 (x := (i : Int) + 1 - 1) (by omega) (by omega), show (i : Int) + 1 - 1 = (i : Int) by omega, if_pos (by omega), if_pos (by omega), rd_get l i h0, e1, w64 (x := (i : Int) + 1 + 1) (by omega) (by omega), rises_drop l i e]
      by_cases c : l[i + 1] ≤ l[i]
      · rw [if_pos c, decide_eq_false (by omega), Bool.false_and]
      · rw [if_neg c, decide_eq_true (by omega), Bool.true_and]
        exact ih k (i + 1) (by omega) (by omega)
    · rw [spec_l01Rises.l0, if_neg (by omega), rises_end l i (by omega)]
theorem spec_l01Rises_eq (l : List Int) (k : Nat) (hl : l.length ≤ 1048576) (hk : l.length < k) : spec_l01Rises.f k l = some (rises l) := by
  unfold spec_l01Rises.f
  exact spec_l01Rises_l0 l hl l.length k 0 (by omega) hk

theorem spec_BestUnits_l1 (us : List Int) (left : Int) (hl : us.length ≤ 1048576) (hu : ∀ u ∈ us, isUnit u = true) : ∀ (m k : Nat), m ≤ us.length → m < k →
    spec_BestUnits.l1 k us (HandU.bu (us.drop m) left).2 (List.replicate m 0 ++ (HandU.bu (us.drop m) left).1) ((m : Int) - 1) = some ((HandU.bu us left).1, 0) := by
  intro m
  induction m with
  | zero =>
    intro k hm hk
    obtain ⟨k, rfl⟩ : ∃ n, k = n + 1 := ⟨k - 1, by omega⟩
    rw [spec_BestUnits.l1, if_neg (by omega), List.drop_zero]
    rfl
  | succ m ih =>
    intro k hm hk
    obtain ⟨k, rfl⟩ : ∃ n, k = n + 1 := ⟨k - 1, by omega⟩
    have hlt : m < us.length := by omega
    have hum := isUnit_true (hu us[m] (List.getElem_mem hlt))
    have next := ih k (by omega) (by omega)
    rw [drop_get us m hlt, HandU.bu] at next
    rw [show ((m + 1 : Nat) : Int) - 1 = (m : Int) by omega, spec_BestUnits.l1, if_pos (by omega), if_pos (by omega), if_pos (by omega), rd_get us m hlt, if_neg (by omega), if_pos (by rw [List.length_append, List.length_replicate]; omega), Int.toNat_natCast, HandU.set_rep, w64 (x := (m : Int) - 1) (by omega) (by omega)]
    exact next
theorem spec_BestUnits_l0 (p : Int) (us : List Int) (hp : inR p 1 4096 = true) (hne : us ≠ []) (hl : us.length ≤ 1048576) : ∀ (d k i : Nat), i + d = us.length → d + us.length + 20 < k → (∀ (j : Nat) (h : j < us.length), j < i → isUnit us[j] = true) →
    spec_BestUnits.l0 k p us (i : Int) = some (if (us.drop i).all isUnit = true then ((HandU.bu us (padU p (rd us 0))).1, 0) else ([], 2)) := by
  have hpos : 0 < us.length := List.length_pos_iff.2 hne
  have h1 := inR_true hp
  intro d
  induction d with
  | zero =>
    intro k i hi hk hu
    obtain ⟨k, rfl⟩ : ∃ m, k = m + 1 := ⟨k - 1, by omega⟩
    have hall : ∀ u ∈ us, isUnit u = true := fun u hm => by
      obtain ⟨j, hj, rfl⟩ := List.getElem_of_mem hm
      exact hu j hj (by omega)
    have h0 := hall _ (rd0_mem hne)
    have h2 := isUnit_true h0
    have h3 := padU_bd hp h0
    unfold padU at h3
    have e := spec_BestUnits_l1 us (padU p (rd us 0)) hl hall us.length k (Nat.le_refl _) (by omega)
    rw [List.drop_length, HandU.bu, List.append_nil] at e
    rw [spec_BestUnits.l0, if_neg (by omega), if_pos (by omega), spec_l01Ceil_eq p (rd us 0) (by omega) (by omega) (by omega) (by omega)]
    simp only [Option.bind_some]
    rw [if_pos (by omega), if_pos (by rw [Int.toNat_natCast]; omega), Int.toNat_natCast, w64 (x := (p + rd us 0 - 1) / rd us 0 * rd us 0) (by omega) (by omega), w64 (x := (us.length : Int) - 1) (by omega) (by omega), List.drop_of_length_le (by omega)]
    exact e
  | succ d ih =>
    intro k i hi hk hu
    obtain ⟨k, rfl⟩ : ∃ m, k = m + 1 := ⟨k - 1, by omega⟩
    have hlt : i < us.length := by omega
    rw [spec_BestUnits.l0, if_pos (by omega), if_pos (by omega), rd_get us i hlt, spec_IsUnit_eq k _ (by omega), w64 (x := (i : Int) + 1) (by omega) (by omega)]
    simp only [Option.bind_some]
    rw [drop_get us i hlt, List.all_cons]
    by_cases c : isUnit us[i] = true
    · have next := ih k (i + 1) (by omega) (by omega) (fun j h hj => by
        by_cases e : j = i
        · subst e; exact c
        · exact hu j h (by omega))
      rw [show ((i + 1 : Nat) : Int) = (i : Int) + 1 by omega] at next
      rw [if_pos c, c, Bool.true_and]
      exact next
    · rw [if_neg c, Bool.eq_false_iff.2 c, Bool.false_and]
      rfl
theorem spec_BestUnits_eq (p : Int) (us : List Int) (k : Nat) (hl : us.length ≤ 1048576) (hk : 2 * us.length + 30 < k) : spec_BestUnits.f k p us = some (bestUnits p us) := by
  obtain ⟨k, rfl⟩ : ∃ m, k = m + 1 := ⟨k - 1, by omega⟩
  unfold spec_BestUnits.f bestUnits okU
  rw [spec_l01In_eq]
  simp only [Option.bind_some]
  by_cases hp : inR p 1 4096 = true
  · rw [if_pos hp, hp, Bool.true_and]
    by_cases hne : us = []
    · subst hne
      simp [spec_BestUnits.j0]
    · rw [if_neg (by have := List.length_pos_iff.2 hne; omega), spec_l01Rises_eq us (k + 1) hl (by omega), decide_eq_true hne, Bool.true_and]
      simp only [Option.bind_some]
      rw [spec_BestUnits.j0]
      by_cases hr : rises us = true
      · have := spec_BestUnits_l0 p us hp hne hl us.length k 0 (by omega) (by omega) (fun j _ hj => absurd hj (by omega))
        rw [List.drop_zero] at this
        rw [hr, if_neg (by simp), Bool.and_true]
        exact this
      · rw [Bool.eq_false_iff.2 hr, if_pos (by rfl), Bool.and_false]
        rfl
  · rw [if_neg hp, Bool.eq_false_iff.2 hp, spec_BestUnits.j0, if_pos rfl, Bool.false_and]
    rfl

theorem dot_nn : ∀ (xs us : List Int), (∀ x ∈ xs, 0 ≤ x) → (∀ u ∈ us, 0 ≤ u) → 0 ≤ dot xs us
  | [], _, _, _ => by simp [dot]
  | x :: xs, [], _, _ => by simp [dot]
  | x :: xs, u :: us, h, g => by
    have := dot_nn xs us (fun y hy => h y (by simp [hy])) (fun y hy => g y (by simp [hy]))
    have := Int.mul_nonneg (h x (by simp)) (g u (by simp))
    rw [dot]
    omega
theorem FnUnits_l0 (p : Int) (xs us : List Int) (hl : xs.length = us.length) (hx : ∀ x ∈ xs, 0 ≤ x) (hu : ∀ u ∈ us, 0 ≤ u) (hll : us.length ≤ 1000) : ∀ (d m i : Nat) (a : Int), i + d = xs.length → 0 ≤ a → a + dot (xs.drop i) (us.drop i) ≤ 5000 → laws_FnUnits.l0 (m + d + 1) p us xs a (i : Int) = laws_FnUnits.l1 m p us xs (a + dot (xs.drop i) (us.drop i)) 0 := by
  intro d
  induction d with
  | zero =>
    intro m i a hi h0 h1
    rw [laws_FnUnits.l0, if_neg (by omega), List.drop_of_length_le (l := xs) (by omega)]
    simp [dot]
  | succ d ih =>
    intro m i a hi h0 h1
    have hlt : i < xs.length := by omega
    have hlu : i < us.length := by omega
    rw [drop_get xs i hlt, drop_get us i hlu, dot] at h1 ⊢
    have n1 := Int.mul_nonneg (hx _ (List.getElem_mem hlt)) (hu _ (List.getElem_mem hlu))
    have n2 := dot_nn (xs.drop (i + 1)) (us.drop (i + 1)) (fun y hy => hx y (List.mem_of_mem_drop hy)) (fun y hy => hu y (List.mem_of_mem_drop hy))
    have next := ih m (i + 1) (a + xs[i] * us[i]) (by omega) (by omega) (by omega)
    rw [show ((i + 1 : Nat) : Int) = (i : Int) + 1 by omega] at next
    rw [show m + (d + 1) + 1 = (m + d + 1) + 1 by omega, laws_FnUnits.l0, if_pos (by omega), if_pos (by omega), if_pos (by omega), rd_get xs i hlt, rd_get us i hlu, w64 (x := xs[i] * us[i]) (by omega) (by omega), w64 (x := a + xs[i] * us[i]) (by omega) (by omega), w64 (x := (i : Int) + 1) (by omega) (by omega), next, Int.add_assoc]
theorem FnUnits_l1 (p t : Int) (xs us : List Int) (hl : xs.length = us.length) (ht : 0 ≤ t) (ht2 : t ≤ 5000) (hp : 1 ≤ p) (hpt : p ≤ t) (hu : ∀ u ∈ us, 1 ≤ u ∧ u ≤ 128 ∧ t - u < p) (hll : us.length ≤ 1000) (hne : us ≠ []) : ∀ (d k i : Nat), i + d = xs.length → d < k → laws_FnUnits.l1 k p us xs t (i : Int) = some true := by
  intro d
  induction d with
  | zero =>
    intro k i hi hk
    obtain ⟨k, rfl⟩ : ∃ m, k = m + 1 := ⟨k - 1, by omega⟩
    have h0 := hu _ (rd0_mem hne)
    rw [laws_FnUnits.l1, if_neg (by omega), if_pos (by omega), if_pos (by have := List.length_pos_iff.2 hne; omega), w64 (x := t - p) (by omega) (by omega), decide_eq_true (by omega)]
  | succ d ih =>
    intro k i hi hk
    obtain ⟨k, rfl⟩ : ∃ m, k = m + 1 := ⟨k - 1, by omega⟩
    have hlt : i < us.length := by omega
    have h1 := hu us[i] (List.getElem_mem hlt)
    have next := ih k (i + 1) (by omega) (by omega)
    rw [show ((i + 1 : Nat) : Int) = (i : Int) + 1 by omega] at next
    rw [laws_FnUnits.l1, if_pos (by omega), if_pos (by omega), w64 (x := (i : Int) + 1) (by omega) (by omega), next]
    by_cases g : rd xs (i : Int) > 0
    · rw [if_pos g, if_pos (by omega), rd_get us i hlt, w64 (x := t - us[i]) (by omega) (by omega), if_neg (show ¬ (t - us[i] ≥ p) by omega)]
    · rw [if_neg g]
theorem FnUnits : laws_FnUnits.Pure := by
  intro l _ _ hb
  by_cases hbig : (l.length : Int) > 4096
  · exact ⟨1, by unfold laws_FnUnits.f; rw [laws_big_eq, decide_eq_true hbig]; rfl⟩
  have hc : Code l := ⟨fun x hx => wfByte (hb x hx), by omega⟩
  obtain ⟨⟨p, us⟩, e1, h1⟩ := DrawBestUnits_ok hc (k := 5001) (by omega)
  simp only at h1
  have l1 := bestUnits_len p us
  refine ⟨5001, ?_⟩
  unfold laws_FnUnits.f
  rw [laws_big_eq, decide_eq_false hbig, e1]
  simp only [Option.bind_some, Bool.false_eq_true, if_false]
  rw [impl_BestUnits_eq p us 5001 (by omega) (by omega), spec_BestUnits_eq p us 5001 (by omega) (by omega)]
  simp only [Option.bind_some, if_true]
  rw [laws_likeInts_eq _ 5001 (by omega) (by omega)]
  simp only [Option.bind_some, Bool.not_true]
  rw [laws_FnUnits.j0, if_neg (by simp)]
  by_cases h : okU p us = true
  · obtain ⟨hp, hne, hu, hr⟩ := okU_true h
    have e : bestUnits p us = ((HandU.bu us (padU p (rd us 0))).1, 0) := by unfold bestUnits; rw [if_pos h]
    have q := padU_bd hp (hu _ (rd0_mem hne))
    have p1 := inR_true hp
    rw [e, if_pos rfl]
    simp only
    generalize padU p (rd us 0) = L at *
    have hdot := bu_dot (L := L) (by omega) (by omega) us hu
    have hlen := HandU.bu_len us L
    have hall : dot (HandU.bu us L).1 us = L := by
      cases us with
      | nil => exact absurd rfl hne
      | cons u us => exact bu_all (by omega) (by omega) hu hr q.2.2.2
    have hu2 : ∀ u ∈ us, 1 ≤ u ∧ u ≤ 128 ∧ L - u < p := fun u hm => by
      have h2 := isUnit_true (hu u hm)
      have h3 : rd us 0 ≤ u := by
        cases us with
        | nil => exact absurd rfl hne
        | cons v us =>
          rcases List.mem_cons.1 hm with e | e
          · rw [e]; exact Int.le_refl _
          · exact Int.le_of_lt (rises_lt us v hr u e)
      omega
    have e0 := FnUnits_l0 p (HandU.bu us L).1 us hlen (fun x hx => (hdot.2 x hx).1) (fun u hm => by have := hu2 u hm; omega) (by omega) us.length (4999 - us.length) 0 0 (by omega) (Int.le_refl _) (by rw [List.drop_zero, List.drop_zero, hall]; omega)
    rw [List.drop_zero, List.drop_zero, hall, Int.zero_add, show 4999 - us.length + us.length + 1 = 5000 by omega] at e0
    refine Eq.trans e0 ?_
    exact FnUnits_l1 p L (HandU.bu us L).1 us hlen (by omega) (by omega) (by omega) (by omega) hu2 (by omega) hne us.length _ 0 (by omega) (by omega)
  · have e : bestUnits p us = ([], 2) := by unfold bestUnits; rw [if_neg h]
    rw [e, if_neg (by simp)]

end Go.Proofs.Ythapadejldlmfaa.Pure
