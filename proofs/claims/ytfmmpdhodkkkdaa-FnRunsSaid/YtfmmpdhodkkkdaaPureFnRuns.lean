/- For all arguments the law FnRuns returns true, with no condition beyond the bounds that the printed statement names. -/
import Derived.Test.YtfmmpdhodkkkdaaPFnRunsx7
namespace Go.Proofs.Ytfmmpdhodkkkdaa.Pure
open Go.RowKit Go.Proofs.Ytfmmpdhodkkkdaa.PFnRuns Go.Proofs.YtfmmpdhodkkkdaaW.PrintWords Go.Proofs.YtfmmpdhodkkkdaaW.PrintLast
set_option linter.unusedVariables false
set_option linter.unusedSimpArgs false

theorem w64 {x : Int} (h1 : -9223372036854775808 ≤ x) (h2 : x ≤ 9223372036854775807) : wrap64 x = x := by
  unfold wrap64; omega
theorem wf64 {x : Int} (h : (Lit.int .i64 x).wf = true) : -9223372036854775808 ≤ x ∧ x ≤ 9223372036854775807 := by
  simp [Lit.wf, IntKind.min, IntKind.max, IntKind.signed, IntKind.bits] at h
  omega
/-- 'a lies from b to c'. -/
def inR (a b c : Int) : Bool := decide (b ≤ a ∧ a ≤ c)
theorem inR_true {a b c : Int} (h : inR a b c = true) : b ≤ a ∧ a ≤ c := by simpa [inR] using h
theorem inR_mk {a b c : Int} (h1 : b ≤ a) (h2 : a ≤ c) : inR a b c = true := by simp [inR, h1, h2]
theorem inR_false {a b c : Int} (h : inR a b c = false) : a < b ∨ c < a := by
  have : ¬ (b ≤ a ∧ a ≤ c) := by simpa [inR] using h
  omega
theorem rd_nat (xs : List Int) (i : Nat) : rd xs (i : Int) = xs.getD i 0 := by simp [rd]
theorem mul_bd {a b A B : Int} (h0 : 0 ≤ a) (h1 : a ≤ A) (k0 : 0 ≤ b) (k1 : b ≤ B) : 0 ≤ a * b ∧ a * b ≤ A * B :=
  ⟨Int.mul_nonneg h0 k0, Int.mul_le_mul h1 k1 k0 (by omega)⟩
theorem tdiv_n {a b : Int} (h : 0 ≤ a) : Int.tdiv a b = a / b := Int.tdiv_eq_ediv_of_nonneg h
theorem tmod_n {a b : Int} (h : 0 ≤ a) : Int.tmod a b = a % b := Int.tmod_eq_emod_of_nonneg h
theorem mn_min (a b : Int) : mn a b = min a b := by unfold mn; split <;> omega
theorem mx_max (a b : Int) : mx a b = max a b := by unfold mx; split <;> omega

def allR (xs : List Int) (lo hi : Int) : Bool := xs.all fun x => inR x lo hi
theorem allR_mem {xs : List Int} {lo hi : Int} (h : allR xs lo hi = true) : ∀ x ∈ xs, lo ≤ x ∧ x ≤ hi := fun x hx => inR_true (List.all_eq_true.1 h x hx)
theorem drop_get (xs : List Int) (i : Nat) (hi : i < xs.length) : xs.drop i = xs[i] :: xs.drop (i + 1) := List.drop_eq_getElem_cons hi
theorem rd_get (xs : List Int) (i : Nat) (hi : i < xs.length) : rd xs (i : Int) = xs[i] := by rw [rd_nat, List.getD_eq_getElem?_getD, List.getElem?_eq_getElem hi]; rfl
/-- The sum, as the program adds it up. -/
def wsum (a : Int) (xs : List Int) : Int := xs.foldl (fun a x => wrap64 (a + x)) a
theorem wsum_cons (a x : Int) (xs : List Int) : wsum a (x :: xs) = wsum (wrap64 (a + x)) xs := rfl
theorem wsum_eq : ∀ (xs : List Int) (a : Int), (∀ x ∈ xs, 0 ≤ x ∧ x ≤ 1000000) → 0 ≤ a → a + xs.length * 1000000 ≤ 4611686018427387904 → wsum a xs = a + xs.sum ∧ 0 ≤ xs.sum ∧ xs.sum ≤ xs.length * 1000000
  | [], a, _, h0, _ => ⟨by simp [wsum], by simp, by simp⟩
  | x :: xs, a, h, h0, hb => by
    have hx := h x (by simp)
    simp only [List.length_cons] at hb ⊢
    obtain ⟨e, l, u⟩ := wsum_eq xs (a + x) (fun y hy => h y (by simp [hy])) (by omega) (by omega)
    rw [wsum_cons, w64 (by omega) (by omega), e, List.sum_cons]
    exact ⟨by omega, by omega, by omega⟩

/-- A code that is drawn from. -/
def Code (c : List Int) : Prop := (∀ x ∈ c, 0 ≤ x ∧ x ≤ 255) ∧ c.length ≤ 4096
/-- Where a source stands, and its seed. -/
def SOk (q : Int × Int) : Prop := 0 ≤ q.1 ∧ 0 ≤ q.2 ∧ q.2 < 2147483647
theorem wfByte {x : Int} (h : (Lit.int .u8 x).wf = true) : 0 ≤ x ∧ x ≤ 255 := by
  simp [Lit.wf, IntKind.min, IntKind.max, IntKind.signed, IntKind.bits] at h
  omega
theorem rd_byte {c : List Int} (h : Code c) {i : Int} (h0 : 0 ≤ i) (h1 : i < c.length) : 0 ≤ rd c i ∧ rd c i ≤ 255 := by
  obtain ⟨n, rfl⟩ : ∃ n : Nat, i = n := ⟨i.toNat, by omega⟩
  have hn : n < c.length := by omega
  have e : rd c (n : Int) = c[n] := by rw [rd_nat, List.getD_eq_getElem?_getD, List.getElem?_eq_getElem hn]; rfl
  rw [e]
  exact h.1 _ (List.getElem_mem hn)
theorem bind_ok {α β : Type} {x : Option α} {P : α → Prop} {f : α → Option β} {Q : β → Prop} (h : ∃ p, x = some p ∧ P p) (hf : ∀ p, P p → ∃ r, f p = some r ∧ Q r) : ∃ r, x.bind f = some r ∧ Q r := by
  obtain ⟨p, e, hp⟩ := h
  rw [e]
  exact hf p hp
theorem ite_ok {α : Type} {c : Prop} [Decidable c] {a b : Option α} {Q : α → Prop} (h1 : c → ∃ r, a = some r ∧ Q r) (h2 : ¬ c → ∃ r, b = some r ∧ Q r) : ∃ r, (if c then a else b) = some r ∧ Q r := by
  by_cases h : c
  · rw [if_pos h]; exact h1 h
  · rw [if_neg h]; exact h2 h
theorem some_ok {α β : Type} {x : Option α} {v : α} {f : α → Option β} {Q : β → Prop} (h : x = some v) (hf : ∃ r, f v = some r ∧ Q r) : ∃ r, x.bind f = some r ∧ Q r := by
  rw [h]
  exact hf

def gang (slots : Int) (q : List Int) : Bool := inR slots 1 32 && (inR (q.length : Int) 1 (min 6 slots) && allR q 1 1000000)
theorem gang_true {slots : Int} {q : List Int} (h : gang slots q = true) : (1 ≤ slots ∧ slots ≤ 32) ∧ (1 ≤ q.length ∧ q.length ≤ 6 ∧ (q.length : Int) ≤ slots) ∧ ∀ x ∈ q, 1 ≤ x ∧ x ≤ 1000000 := by
  simp only [gang, Bool.and_eq_true] at h
  have h2 := inR_true h.2.1
  exact ⟨inR_true h.1, by omega, allR_mem h.2.2⟩
/-- The run of ups. -/
def runM : List Int → List Int → Int → Int
  | q :: qs, u :: us, r => runM qs us (max r ((q + u - 1) / u))
  | _, _, r => r
def upsOk (slots : Int) (q u : List Int) : Bool := decide (u.length = q.length) && (allR u 1 slots && decide (wsum 0 u ≤ slots))
def upsCode (slots : Int) (q u : List Int) : Int := if gang slots q = true then (if upsOk slots q u = true then 0 else 2) else 1
def runFor (slots : Int) (q u : List Int) : Int × Int := if upsCode slots q u = 0 then (runM q u 0, 0) else (0, upsCode slots q u)
theorem upsCode_ok {slots : Int} {q u : List Int} (e : upsCode slots q u = 0) : gang slots q = true ∧ u.length = q.length ∧ (∀ x ∈ u, 1 ≤ x ∧ x ≤ slots) ∧ wsum 0 u ≤ slots := by
  unfold upsCode at e
  cases hg : gang slots q
  · simp [hg] at e
  · cases hu : upsOk slots q u
    · simp [hg, hu] at e
    · simp only [upsOk, Bool.and_eq_true, decide_eq_true_eq] at hu
      exact ⟨rfl, hu.1, allR_mem hu.2.1, hu.2.2⟩
theorem ceil_bd {q u : Int} (hq : 1 ≤ q ∧ q ≤ 1000000) (hu : 1 ≤ u ∧ u ≤ 1000000) : 1 ≤ (q + u - 1) / u ∧ (q + u - 1) / u ≤ q := by
  have h1 : (q + u - 1) / u = (q - 1) / u + 1 := by
    rw [show q + u - 1 = (q - 1) + 1 * u by omega, Int.add_mul_ediv_right _ _ (by omega)]
  have h2 : 0 ≤ (q - 1) / u := Int.ediv_nonneg (by omega) (by omega)
  have h3 : (q - 1) / u ≤ q - 1 := Int.ediv_le_self _ (by omega)
  omega
/-- The least ups of a run. -/
def upsM (q : List Int) (run : Int) : List Int := q.map fun x => (x + run - 1) / run
def upsFor (slots : Int) (q : List Int) (run : Int) : List Int × Int :=
  if gang slots q = true then (if inR run 1 1000000 = true then (if wsum 0 (upsM q run) > slots then ([], 4) else (upsM q run, 0)) else ([], 2)) else ([], 1)

def IsLeast (p : Int → Bool) (r : Int) : Prop := 1 ≤ r ∧ p r = true ∧ ∀ x, 1 ≤ x → x < r → p x = false
/-- The first r from s on with p, among d numbers. -/
def up (p : Int → Bool) : Nat → Int → Int
  | 0, r => r
  | d + 1, r => if p r = true then r else up p d (r + 1)
theorem up_least {p : Int → Bool} {r : Int} (h : IsLeast p r) : ∀ (d : Nat) (s : Int), 1 ≤ s → s ≤ r → r - s ≤ d → up p d s = r := by
  intro d
  induction d with
  | zero => intro s h0 h1 h2; rw [up]; omega
  | succ d ih =>
    intro s h0 h1 h2
    rw [up]
    by_cases e : s = r
    · rw [e, if_pos h.2.1]
    · rw [if_neg (by rw [h.2.2 s h0 (by omega)]; simp)]
      exact ih (s + 1) (by omega) (by omega) (by omega)
/-- 'The run r is enough.' -/
def enough (slots : Int) (q : List Int) (r : Int) : Bool := decide (wsum 0 (upsM q r) ≤ slots)
def leastM (slots : Int) (q : List Int) : Int := up (enough slots q) 1000000 1
/-- What the least run is asked of. -/
def fits (slots : Int) (q : List Int) : Prop := (q.length : Int) ≤ slots ∧ q.length ≤ 6 ∧ ∀ x ∈ q, 1 ≤ x ∧ x ≤ 1000000
theorem ceil_anti {q r s : Int} (hq : 1 ≤ q) (hr : 1 ≤ r) (h : r ≤ s) : (q + s - 1) / s ≤ (q + r - 1) / r := by
  have e1 : (q + s - 1) / s = (q - 1) / s + 1 := by rw [show q + s - 1 = (q - 1) + 1 * s by omega, Int.add_mul_ediv_right _ _ (by omega)]
  have e2 : (q + r - 1) / r = (q - 1) / r + 1 := by rw [show q + r - 1 = (q - 1) + 1 * r by omega, Int.add_mul_ediv_right _ _ (by omega)]
  have h0 : 0 ≤ (q - 1) / s := Int.ediv_nonneg (by omega) (by omega)
  have h1 : (q - 1) / s * s ≤ q - 1 := Int.ediv_mul_le _ (by omega)
  have h2 : (q - 1) / s * r ≤ (q - 1) / s * s := Int.mul_le_mul_of_nonneg_left h h0
  have h3 : (q - 1) / s ≤ (q - 1) / r := Int.le_ediv_of_mul_le (by omega) (by omega)
  omega
theorem upsM_sum_anti {r s : Int} (hr : 1 ≤ r) (h : r ≤ s) : ∀ q : List Int, (∀ x ∈ q, 1 ≤ x ∧ x ≤ 1000000) → (upsM q s).sum ≤ (upsM q r).sum
  | [], _ => by simp [upsM]
  | x :: xs, hq => by
    have h1 := upsM_sum_anti hr h xs (fun y hy => hq y (by simp [hy]))
    have h2 := ceil_anti (hq x (by simp)).1 hr h
    unfold upsM at h1 ⊢
    rw [List.map_cons, List.map_cons, List.sum_cons, List.sum_cons]
    omega
theorem upsM_mem {q : List Int} {r : Int} (hq : ∀ x ∈ q, 1 ≤ x ∧ x ≤ 1000000) (hr : 1 ≤ r ∧ r ≤ 1000000) : ∀ y ∈ upsM q r, 1 ≤ y ∧ y ≤ 1000000 := by
  intro y hy
  obtain ⟨x, hx, rfl⟩ := List.mem_map.1 hy
  have h1 := hq x hx
  have h2 := ceil_bd h1 hr
  omega
theorem wsum_upsM {q : List Int} {r : Int} (hl : q.length ≤ 6) (hq : ∀ x ∈ q, 1 ≤ x ∧ x ≤ 1000000) (hr : 1 ≤ r ∧ r ≤ 1000000) : wsum 0 (upsM q r) = (upsM q r).sum := by
  have e : (upsM q r).length = q.length := by simp [upsM]
  have := (wsum_eq (upsM q r) 0 (fun y hy => by have := upsM_mem hq hr y hy; omega) (by omega) (by rw [e]; omega)).1
  omega
theorem enough_mono {slots : Int} {q : List Int} (hf : fits slots q) {r s : Int} (hr : 1 ≤ r) (h : r ≤ s) (hs : s ≤ 1000000) (he : enough slots q r = true) : enough slots q s = true := by
  unfold enough at he ⊢
  rw [wsum_upsM hf.2.1 hf.2.2 ⟨hr, by omega⟩, decide_eq_true_eq] at he
  rw [wsum_upsM hf.2.1 hf.2.2 ⟨by omega, hs⟩, decide_eq_true_eq]
  have := upsM_sum_anti hr h q hf.2.2
  omega
theorem upsM_ones {r : Int} : ∀ q : List Int, (∀ x ∈ q, 1 ≤ x ∧ x ≤ r) → (upsM q r).sum = q.length
  | [], _ => by simp [upsM]
  | x :: xs, hq => by
    have h1 := upsM_ones xs (fun y hy => hq y (by simp [hy]))
    have h2 := hq x (by simp)
    have e : (x + r - 1) / r = 1 := by rw [show x + r - 1 = (x - 1) + 1 * r by omega, Int.add_mul_ediv_right _ _ (by omega), Int.ediv_eq_zero_of_lt (by omega) (by omega)]; rfl
    unfold upsM at h1 ⊢
    rw [List.map_cons, List.sum_cons, List.length_cons, e, h1]
    omega
theorem enough_top {slots : Int} {q : List Int} (hf : fits slots q) {r : Int} (hr : 1 ≤ r ∧ r ≤ 1000000) (hq : ∀ x ∈ q, x ≤ r) : enough slots q r = true := by
  unfold enough
  rw [wsum_upsM hf.2.1 hf.2.2 hr, upsM_ones q (fun x hx => ⟨(hf.2.2 x hx).1, hq x hx⟩)]
  exact decide_eq_true hf.1
/-- The state of a search by halves. -/
def Halves (slots : Int) (q : List Int) (lo hi : Int) : Prop := 1 ≤ lo ∧ lo ≤ hi ∧ hi ≤ 1000000 ∧ enough slots q hi = true ∧ ∀ x, 1 ≤ x → x < lo → enough slots q x = false
theorem Halves.done {slots : Int} {q : List Int} {lo hi : Int} (h : Halves slots q lo hi) (e : ¬ lo < hi) : leastM slots q = lo := by
  obtain ⟨h1, h2, h3, h4, h5⟩ := h
  have e2 : lo = hi := by omega
  subst e2
  exact up_least ⟨h1, h4, h5⟩ 1000000 1 (by omega) h1 (by omega)
theorem Halves.left {slots : Int} {q : List Int} {lo hi : Int} (h : Halves slots q lo hi) (e : lo < hi) (he : enough slots q ((lo + hi) / 2) = true) : Halves slots q lo ((lo + hi) / 2) := by
  obtain ⟨h1, h2, h3, h4, h5⟩ := h
  exact ⟨h1, by omega, by omega, he, h5⟩
theorem Halves.right {slots : Int} {q : List Int} {lo hi : Int} (hf : fits slots q) (h : Halves slots q lo hi) (e : lo < hi) (he : enough slots q ((lo + hi) / 2) = false) : Halves slots q ((lo + hi) / 2 + 1) hi := by
  obtain ⟨h1, h2, h3, h4, h5⟩ := h
  refine ⟨by omega, by omega, h3, h4, fun x hx hlt => ?_⟩
  cases hc : enough slots q x
  · rfl
  · have := enough_mono hf hx (show x ≤ (lo + hi) / 2 by omega) (by omega) hc
    rw [this] at he
    cases he
theorem Halves.start {slots : Int} {q : List Int} (hf : fits slots q) {hi : Int} (hr : 1 ≤ hi ∧ hi ≤ 1000000) (hq : ∀ x ∈ q, x ≤ hi) : Halves slots q 1 hi :=
  ⟨by omega, hr.1, hr.2, enough_top hf hr hq, fun x h1 h2 => by omega⟩
theorem leastM_least {slots : Int} {q : List Int} (hf : fits slots q) : IsLeast (enough slots q) (leastM slots q) ∧ leastM slots q ≤ 1000000 := by
  have key : ∀ (d : Nat) (s : Int), 1 ≤ s → s + d = 1000001 → (∀ x, 1 ≤ x → x < s → enough slots q x = false) → 0 < d → IsLeast (enough slots q) (up (enough slots q) d s) ∧ up (enough slots q) d s ≤ 1000000 := by
    intro d
    induction d with
    | zero => intro s _ _ _ h; omega
    | succ d ih =>
      intro s h1 h2 h3 _
      rw [up]
      cases hc : enough slots q s
      · rw [if_neg (by simp)]
        by_cases hd : 0 < d
        · exact ih (s + 1) (by omega) (by omega) (fun x hx hlt => by
            by_cases e : x = s
            · rw [e]; exact hc
            · exact h3 x hx (by omega)) hd
        · have e : s = 1000000 := by omega
          have := enough_top hf (r := 1000000) (by omega) (fun x hx => (hf.2.2 x hx).2)
          rw [e, this] at hc
          cases hc
      · rw [if_pos rfl]
        exact ⟨⟨h1, hc, h3⟩, by omega⟩
  exact key 1000000 1 (by omega) (by omega) (fun x h1 h2 => by omega) (by omega)
theorem gang_fits {slots : Int} {q : List Int} (h : gang slots q = true) : fits slots q := by
  obtain ⟨h1, h2, h3⟩ := gang_true h
  exact ⟨h2.2.2, h2.2.1, h3⟩
def leastRun (slots : Int) (q : List Int) : Int × Int := if gang slots q = true then (leastM slots q, 0) else (0, 1)
def bestUps (slots : Int) (q : List Int) : List Int × Int := if gang slots q = true then (upsM q (leastM slots q), 0) else ([], 1)

theorem spec_upsCode (slots : Int) (q u : List Int) : (if gang slots q = true then (if (decide (u.length = q.length) && ((allR u 1 slots && decide ((u.length : Int) ≤ 6)) && decide (wsum 0 u ≤ slots))) = true then (0 : Int) else 2) else 1) = upsCode slots q u := by
  unfold upsCode upsOk
  cases hg : gang slots q
  · simp
  · have hl := (gang_true hg).2.1.2.1
    by_cases h : u.length = q.length
    · rw [decide_eq_true h, decide_eq_true (show (u.length : Int) ≤ 6 by omega), Bool.and_true]
    · rw [decide_eq_false h, Bool.false_and, Bool.false_and]

def oversM : List Int → List Int → Int → List Int
  | q :: qs, u :: us, r => (u * r - q) :: oversM qs us r
  | _, _, _ => []
theorem oversM_len : ∀ (q u : List Int) (r : Int), (oversM q u r).length ≤ q.length
  | [], _, _ => by simp [oversM]
  | _ :: _, [], _ => by simp [oversM]
  | _ :: qs, _ :: us, r => by have := oversM_len qs us r; simp only [oversM, List.length_cons]; omega
theorem runM_bd : ∀ (q u : List Int) (r : Int), (∀ x ∈ q, 1 ≤ x ∧ x ≤ 1000000) → (∀ x ∈ u, 1 ≤ x ∧ x ≤ 1000000) → 0 ≤ r → r ≤ 1000000 → 0 ≤ runM q u r ∧ runM q u r ≤ 1000000
  | [], _, r, _, _, h0, h1 => by simp only [runM]; omega
  | _ :: _, [], r, _, _, h0, h1 => by simp only [runM]; omega
  | x :: qs, y :: us, r, hq, hu, h0, h1 => by
    rw [runM]
    have h2 := hq x (by simp)
    have h3 := ceil_bd h2 (hu y (by simp))
    exact runM_bd qs us _ (fun z hz => hq z (by simp [hz])) (fun z hz => hu z (by simp [hz])) (by omega) (by omega)
def oversOf (slots : Int) (q u : List Int) : List Int × Int := if upsCode slots q u = 0 then (oversM q u (runM q u 0), 0) else ([], upsCode slots q u)
theorem oversOf_len (slots : Int) (q u : List Int) : (oversOf slots q u).1.length ≤ q.length := by
  unfold oversOf
  split
  · exact oversM_len q u _
  · simp
theorem over_w {a b c : Int} (ha : 1 ≤ a ∧ a ≤ 32) (hb : 0 ≤ b ∧ b ≤ 1000000) (hc : 1 ≤ c ∧ c ≤ 1000000) : wrap64 (wrap64 (a * b) - c) = a * b - c := by
  have h1 : 0 ≤ a * b := Int.mul_nonneg (by omega) (by omega)
  have h2 : a * b ≤ 32 * b := Int.mul_le_mul_of_nonneg_right (by omega) (by omega)
  rw [w64 (x := a * b) (by omega) (by omega), w64 (by omega) (by omega)]

/-- A run that is long enough for each job needs no more ups than it has. -/
def covers : List Int → List Int → Int → Prop
  | q :: qs, u :: us, r => (q + u - 1) / u ≤ r ∧ covers qs us r
  | _, _, _ => True
theorem runM_ge : ∀ (q u : List Int) (r : Int), r ≤ runM q u r
  | [], _, r => by simp [runM]
  | _ :: _, [], r => by simp [runM]
  | x :: qs, y :: us, r => by rw [runM]; have := runM_ge qs us (max r ((x + y - 1) / y)); omega
theorem runM_covers : ∀ (q u : List Int) (r : Int), covers q u (runM q u r)
  | [], _, r => by simp [covers]
  | _ :: _, [], r => by simp [covers]
  | x :: qs, y :: us, r => by
    rw [runM, covers]
    have := runM_ge qs us (max r ((x + y - 1) / y))
    exact ⟨by omega, runM_covers qs us _⟩
theorem runM_le : ∀ (q u : List Int) (r b : Int), r ≤ b → covers q u b → runM q u r ≤ b
  | [], _, r, b, h, _ => by simpa [runM] using h
  | _ :: _, [], r, b, h, _ => by simpa [runM] using h
  | x :: qs, y :: us, r, b, h, hc => by
    rw [runM]
    rw [covers] at hc
    exact runM_le qs us _ b (by omega) hc.2
theorem ceil_swap {q u r : Int} (hq : 1 ≤ q) (hu : 1 ≤ u) (hr : 1 ≤ r) (h : (q + u - 1) / u ≤ r) : q ≤ u * r ∧ (q + r - 1) / r ≤ u := by
  have h1 : q + u - 1 < ((q + u - 1) / u + 1) * u := Int.lt_ediv_add_one_mul_self _ (by omega)
  have h2 : ((q + u - 1) / u + 1) * u ≤ (r + 1) * u := Int.mul_le_mul_of_nonneg_right (by omega) (by omega)
  have e1 : (r + 1) * u = u * r + u := by rw [Int.add_mul, Int.one_mul, Int.mul_comm]
  have h3 : q ≤ u * r := by omega
  refine ⟨h3, ?_⟩
  have h4 : (q + r - 1) / r < u + 1 := Int.ediv_lt_of_lt_mul (by omega) (by rw [Int.add_mul, Int.one_mul]; omega)
  omega
theorem covers_sum {r : Int} (hr : 1 ≤ r) : ∀ q u : List Int, u.length = q.length → (∀ x ∈ q, 1 ≤ x ∧ x ≤ 1000000) → (∀ x ∈ u, 1 ≤ x) → covers q u r → (upsM q r).sum ≤ u.sum
  | [], u, hl, _, _, _ => by
    have : u = [] := List.length_eq_zero_iff.1 hl
    subst this
    simp [upsM]
  | x :: qs, [], hl, _, _, _ => by simp at hl
  | x :: qs, y :: us, hl, hq, hu, hc => by
    rw [covers] at hc
    have ih := covers_sum hr qs us (by simpa using hl) (fun z hz => hq z (by simp [hz])) (fun z hz => hu z (by simp [hz])) hc.2
    have h1 := (ceil_swap (hq x (by simp)).1 (hu y (by simp)) hr hc.1).2
    unfold upsM at ih ⊢
    rw [List.map_cons, List.sum_cons, List.sum_cons]
    omega
theorem covers_ups {r : Int} (hr : 1 ≤ r) : ∀ q : List Int, (∀ x ∈ q, 1 ≤ x ∧ x ≤ 1000000) → covers q (upsM q r) r
  | [], _ => by simp [covers, upsM]
  | x :: qs, hq => by
    have h1 := hq x (by simp)
    have h2 : 1 ≤ (x + r - 1) / r := Int.le_ediv_of_mul_le (by omega) (by omega)
    show (x + (x + r - 1) / r - 1) / ((x + r - 1) / r) ≤ r ∧ covers qs (upsM qs r) r
    exact ⟨(ceil_swap (q := x) (u := r) (r := (x + r - 1) / r) h1.1 hr h2 (Int.le_refl _)).2, covers_ups hr qs (fun z hz => hq z (by simp [hz]))⟩
theorem runM_pos : ∀ (q u : List Int), 1 ≤ q.length → u.length = q.length → (∀ x ∈ q, 1 ≤ x ∧ x ≤ 1000000) → (∀ x ∈ u, 1 ≤ x ∧ x ≤ 1000000) → 1 ≤ runM q u 0
  | [], _, h, _, _, _ => by simp at h
  | x :: qs, [], _, h, _, _ => by simp at h
  | x :: qs, y :: us, _, _, hq, hu => by
    rw [runM]
    have h1 := (ceil_bd (hq x (by simp)) (hu y (by simp))).1
    have := runM_ge qs us (max 0 ((x + y - 1) / y))
    omega
theorem wsum_ups {u : List Int} (hl : u.length ≤ 6) (hu : ∀ x ∈ u, 1 ≤ x ∧ x ≤ 1000000) : wsum 0 u = u.sum := by
  have := (wsum_eq u 0 (fun x hx => by have := hu x hx; omega) (by omega) (by omega)).1
  omega
/-- The run of good ups is enough, and so at least the least one. -/
theorem run_enough {slots : Int} {q u : List Int} (hg : gang slots q = true) (hl : u.length = q.length) (hu : ∀ x ∈ u, 1 ≤ x ∧ x ≤ slots) (hs : wsum 0 u ≤ slots) : leastM slots q ≤ runM q u 0 ∧ 1 ≤ runM q u 0 ∧ runM q u 0 ≤ 1000000 := by
  obtain ⟨g1, g2, g3⟩ := gang_true hg
  have hu2 : ∀ x ∈ u, 1 ≤ x ∧ x ≤ 1000000 := fun x hx => by have := hu x hx; omega
  have hp := runM_pos q u g2.1 hl g3 hu2
  have hb := runM_bd q u 0 g3 hu2 (by omega) (by omega)
  refine ⟨?_, hp, hb.2⟩
  have hf := gang_fits hg
  have hc := covers_sum hp q u hl g3 (fun x hx => (hu x hx).1) (runM_covers q u 0)
  rw [wsum_ups (by omega) hu2] at hs
  have he : enough slots q (runM q u 0) = true := by
    unfold enough
    rw [wsum_upsM hf.2.1 hf.2.2 ⟨hp, hb.2⟩]
    exact decide_eq_true (by omega)
  have hm := (leastM_least hf).1.2.2
  by_cases h : leastM slots q ≤ runM q u 0
  · exact h
  · have := hm (runM q u 0) hp (by omega)
    rw [he] at this
    cases this
theorem sum_ge : ∀ (u : List Int), (∀ x ∈ u, 1 ≤ x) → 0 ≤ u.sum ∧ ∀ x ∈ u, x ≤ u.sum
  | [], _ => by simp
  | y :: us, h => by
    have ih := sum_ge us (fun x hx => h x (by simp [hx]))
    have h1 := h y (by simp)
    rw [List.sum_cons]
    refine ⟨by omega, fun x hx => ?_⟩
    rcases List.mem_cons.1 hx with rfl | hx
    · omega
    · have := ih.2 x hx
      omega
theorem best_own {slots : Int} {q : List Int} (hg : gang slots q = true) : runFor slots q (upsM q (leastM slots q)) = (leastM slots q, 0) := by
  obtain ⟨g1, g2, g3⟩ := gang_true hg
  have hf := gang_fits hg
  obtain ⟨⟨h1, h2, h3⟩, h4⟩ := leastM_least hf
  have hm := upsM_mem g3 (r := leastM slots q) ⟨h1, h4⟩
  have hlen : (upsM q (leastM slots q)).length = q.length := by simp [upsM]
  have hw := wsum_upsM hf.2.1 hf.2.2 (r := leastM slots q) ⟨h1, h4⟩
  unfold enough at h2
  rw [decide_eq_true_eq] at h2
  have hsg := sum_ge (upsM q (leastM slots q)) (fun x hx => (hm x hx).1)
  have hall : ∀ x ∈ upsM q (leastM slots q), 1 ≤ x ∧ x ≤ slots := fun x hx => ⟨(hm x hx).1, by have := hsg.2 x hx; omega⟩
  have hok : upsOk slots q (upsM q (leastM slots q)) = true := by
    unfold upsOk
    rw [decide_eq_true hlen, decide_eq_true h2, show allR (upsM q (leastM slots q)) 1 slots = true from List.all_eq_true.2 (fun x hx => inR_mk (hall x hx).1 (hall x hx).2)]
    rfl
  have hc : upsCode slots q (upsM q (leastM slots q)) = 0 := by unfold upsCode; rw [if_pos hg, if_pos hok]
  have hr := run_enough hg hlen hall h2
  have hle := runM_le q (upsM q (leastM slots q)) 0 (leastM slots q) (by omega) (covers_ups h1 q g3)
  unfold runFor
  rw [if_pos hc, show runM q (upsM q (leastM slots q)) 0 = leastM slots q by omega]
theorem fewer {slots : Int} {q : List Int} (hg : gang slots q = true) (h : leastM slots q ≠ 1) : (upsFor slots q (leastM slots q - 1)).2 = 4 := by
  have hf := gang_fits hg
  obtain ⟨⟨h1, h2, h3⟩, h4⟩ := leastM_least hf
  have := h3 (leastM slots q - 1) (by omega) (by omega)
  unfold enough at this
  rw [decide_eq_false_iff_not] at this
  unfold upsFor
  rw [if_pos hg, if_pos (inR_mk (by omega) (by omega)), if_pos (by omega)]
theorem rd_cons_zero (x : Int) (xs : List Int) : rd (x :: xs) 0 = x := rfl
theorem rd_oversM : ∀ (q u : List Int) (r : Int) (i : Nat), u.length = q.length → (h : i < q.length) → (oversM q u r).length = q.length ∧ rd (oversM q u r) (i : Int) = rd u (i : Int) * r - rd q (i : Int)
  | [], _, _, _, _, h => by simp at h
  | x :: qs, [], _, _, hl, _ => by simp at hl
  | [x], [y], r, 0, _, _ => ⟨rfl, rfl⟩
  | [x], [y], r, i + 1, _, h => by simp at h
  | [x], y :: z :: us, r, i, hl, h => by simp at hl
  | x :: x2 :: qs, y :: us, r, 0, hl, h => by
    have ih := rd_oversM (x2 :: qs) us r 0 (by simpa using hl) (by simp)
    exact ⟨by rw [oversM, List.length_cons, ih.1]; rfl, rfl⟩
  | x :: x2 :: qs, y :: us, r, i + 1, hl, h => by
    have ih := rd_oversM (x2 :: qs) us r i (by simpa using hl) (by simpa using h)
    refine ⟨by rw [oversM, List.length_cons, ih.1]; rfl, ?_⟩
    have e := ih.2
    simp only [rd_nat] at e ⊢
    simpa [oversM] using e
theorem covers_rd {r : Int} : ∀ (q u : List Int) (i : Nat), u.length = q.length → i < q.length → covers q u r → (rd q (i : Int) + rd u (i : Int) - 1) / rd u (i : Int) ≤ r
  | [], _, i, _, h, _ => by simp at h
  | x :: qs, [], i, hl, _, _ => by simp at hl
  | x :: qs, y :: us, 0, _, _, hc => by rw [covers] at hc; exact hc.1
  | x :: qs, y :: us, i + 1, hl, h, hc => by
    rw [covers] at hc
    have := covers_rd qs us i (by simpa using hl) (by simpa using h) hc.2
    simp only [rd_nat] at this ⊢
    simpa using this

theorem laws_big_eq (l : List Int) : laws_big.f l = some (decide ((l.length : Int) > 4096)) := rfl

theorem laws_likeInts_l0 (l : List Int) (hl : l.length ≤ 9223372036854775806) : ∀ (d k i : Nat), i + d = l.length → d < k → laws_likeInts.l0 k l l (i : Int) = some true := by
  intro d
  induction d with
  | zero =>
    intro k i h hk
    obtain ⟨k, rfl⟩ : ∃ m, k = m + 1 := ⟨k - 1, by omega⟩
    rw [laws_likeInts.l0, if_neg (by omega)]
  | succ d ih =>
    intro k i h hk
    obtain ⟨k, rfl⟩ : ∃ m, k = m + 1 := ⟨k - 1, by omega⟩
    rw [laws_likeInts.l0, if_pos (by omega), if_pos (by omega), if_pos (by omega), if_pos rfl, w64 (x := (i : Int) + 1) (by omega) (by omega)]
    exact ih k (i + 1) (by omega) (by omega)
theorem laws_likeInts_eq (l : List Int) (k : Nat) (hl : l.length ≤ 9223372036854775806) (hk : l.length < k) : laws_likeInts.f k l l = some true := by
  unfold laws_likeInts.f
  rw [if_pos rfl]
  exact laws_likeInts_l0 l hl l.length k 0 (by omega) hk

theorem spec_l01From_l0 (c : List Int) (hc : Code c) : ∀ (d k i : Nat) (l : List Int) (a s : Int), i + d = c.length → d < k → 0 ≤ a → 0 ≤ s → s < 2147483647 → ∃ q, spec_l01From.l0 k c (i : Int) l a s = some (l, q) ∧ SOk q := by
  intro d
  have hl := hc.2
  induction d with
  | zero =>
    intro k i l a s h hk ha h0 h1
    obtain ⟨k, rfl⟩ : ∃ m, k = m + 1 := ⟨k - 1, by omega⟩
    rw [spec_l01From.l0, if_neg (by omega)]
    exact ⟨(a, s), rfl, ha, h0, h1⟩
  | succ d ih =>
    intro k i l a s h hk ha h0 h1
    obtain ⟨k, rfl⟩ : ∃ m, k = m + 1 := ⟨k - 1, by omega⟩
    rw [spec_l01From.l0, if_pos (by omega)]
    by_cases h64 : (i : Int) < 64
    · have hb := rd_byte hc (i := (i : Int)) (by omega) (by omega)
      rw [if_pos h64, if_pos (by omega), w64 (x := (i : Int) + 1) (by omega) (by omega), w64 (x := rd c (i : Int)) (by omega) (by omega), w64 (x := s * 71) (by omega) (by omega), w64 (x := s * 71 + rd c (i : Int)) (by omega) (by omega), tmod_n (by omega)]
      exact ih k (i + 1) l a _ (by omega) (by omega) ha (by omega) (by omega)
    · rw [if_neg h64]
      exact ⟨(a, s), rfl, ha, h0, h1⟩
theorem from_ok {c : List Int} (hc : Code c) {k : Nat} (hk : c.length < k) : ∃ p, spec_l01From.f k c = some p ∧ p.1 = c ∧ SOk p.2 := by
  obtain ⟨q, e, h⟩ := spec_l01From_l0 c hc c.length k 0 c 0 88007 (by omega) hk (by omega) (by omega) (by omega)
  exact ⟨(c, q), e, rfl, h⟩

theorem next_ok {c : List Int} (hc : Code c) {q : Int × Int} (hq : SOk q) (n : Int) : ∃ p, spec_l01Next.f c q.1 q.2 n = some p ∧ SOk p.2 ∧ 0 ≤ p.1 ∧ (p.1 < n ∨ p.1 = 0) := by
  obtain ⟨a, s⟩ := q
  obtain ⟨ha, h0, h1⟩ := hq
  have hl := hc.2
  simp only at ha h0 h1
  unfold spec_l01Next.f
  simp only
  by_cases hn : n ≤ 1
  · rw [if_pos hn]
    exact ⟨_, rfl, ⟨ha, h0, h1⟩, by simp, .inr rfl⟩
  rw [if_neg hn, w64 (x := s * 48271) (by omega) (by omega), w64 (x := s * 48271 + 61) (by omega) (by omega), tmod_n (a := s * 48271 + 61) (by omega)]
  have hS : 0 ≤ (s * 48271 + 61) % 2147483647 ∧ (s * 48271 + 61) % 2147483647 < 2147483647 := by omega
  generalize (s * 48271 + 61) % 2147483647 = S at hS
  rw [tdiv_n (a := S) (by omega)]
  have hm : ∀ x : Int, 0 ≤ x → 0 ≤ Int.tmod x n ∧ Int.tmod x n < n := fun x hx => by
    rw [tmod_n hx]
    exact ⟨Int.emod_nonneg _ (by omega), Int.emod_lt_of_pos _ (by omega)⟩
  by_cases hlt : a < (c.length : Int)
  · have hb := rd_byte hc ha hlt
    rw [if_pos hlt, if_pos ha, w64 (x := a + 1) (by omega) (by omega), w64 (x := a + 1 - 1) (by omega) (by omega), show a + 1 - 1 = a by omega, w64 (x := rd c a) (by omega) (by omega), w64 (x := S / 31) (by omega) (by omega), w64 (x := S / 31 + rd c a) (by omega) (by omega)]
    have g1 := hm (rd c a) hb.1
    have g2 := hm (S / 31 + rd c a) (by omega)
    split
    · split
      · rw [if_neg (by omega)]
        exact ⟨_, rfl, ⟨by simp only; omega, hS.1, hS.2⟩, g1.1, .inl g1.2⟩
      · rw [if_neg (by omega)]
        exact ⟨_, rfl, ⟨by simp only; omega, hS.1, hS.2⟩, g2.1, .inl g2.2⟩
    · rw [if_neg (by omega)]
      exact ⟨_, rfl, ⟨by simp only; omega, hS.1, hS.2⟩, g2.1, .inl g2.2⟩
  · have g3 := hm (S / 31) (by omega)
    rw [if_neg hlt, if_neg (by omega), w64 (x := S / 31) (by omega) (by omega)]
    exact ⟨_, rfl, ⟨ha, hS.1, hS.2⟩, g3.1, .inl g3.2⟩

theorem pick_ok {c : List Int} (hc : Code c) {q : Int × Int} (hq : SOk q) (l : List Int) (hl : 0 < l.length) : ∃ p, spec_l01Pick.f c q.1 q.2 l = some p ∧ SOk p.2 ∧ p.1 ∈ l := by
  unfold spec_l01Pick.f
  obtain ⟨p, e, h1, h2, h3⟩ := next_ok hc hq (l.length : Int)
  rw [e]
  simp only [Option.bind_some]
  have h4 : p.1 < (l.length : Int) := by omega
  rw [if_pos h2, if_pos h4]
  refine ⟨_, rfl, h1, ?_⟩
  simp only
  obtain ⟨n, hn⟩ : ∃ n : Nat, p.1 = n := ⟨p.1.toNat, by omega⟩
  have hn2 : n < l.length := by omega
  have e2 : rd l (n : Int) = l[n] := by rw [rd_nat, List.getD_eq_getElem?_getD, List.getElem?_eq_getElem hn2]; rfl
  rw [hn, e2]
  exact List.getElem_mem hn2

theorem l11Draw_l1 (c : List Int) : ∀ (e k i : Nat) (acc : List Int) (a s : Int), i + e = acc.length → acc.length ≤ 100 → e < k → ∃ r, spec_l11Draw.l1 k acc (i : Int) c a s = some r ∧ r.2.2 = (a, s) ∧ r.2.1.length = acc.length := by
  intro e
  induction e with
  | zero =>
    intro k i acc a s h hb hk
    obtain ⟨k, rfl⟩ : ∃ m, k = m + 1 := ⟨k - 1, by omega⟩
    rw [spec_l11Draw.l1, if_neg (by omega)]
    exact ⟨_, rfl, rfl, rfl⟩
  | succ e ih =>
    intro k i acc a s h hb hk
    obtain ⟨k, rfl⟩ : ∃ m, k = m + 1 := ⟨k - 1, by omega⟩
    rw [spec_l11Draw.l1, if_pos (by omega), if_pos (by omega), w64 (x := (i : Int) + 1) (by omega) (by omega)]
    obtain ⟨r, h1, h2, h3⟩ := ih k (i + 1) (acc.set ((i : Int)).toNat 3) a s (by rw [List.length_set]; omega) (by rw [List.length_set]; exact hb) (by omega)
    exact ⟨r, h1, h2, by rw [h3, List.length_set]⟩
theorem l11Draw_l0 {c : List Int} (hc : Code c) : ∀ (d k : Nat) (acc : List Int) (q : Int × Int), SOk q → 1 ≤ acc.length + d → acc.length + d ≤ 8 → d + 20 < k → ∃ r, spec_l11Draw.l0 k acc (d : Int) c q.1 q.2 = some r ∧ SOk r.2.2 ∧ r.2.1.length ≤ 8 ∧ 1 ≤ r.2.1.length := by
  intro d
  induction d with
  | zero =>
    intro k acc q hq h1 h2 hk
    obtain ⟨k, rfl⟩ : ∃ m, k = m + 1 := ⟨k - 1, by omega⟩
    rw [spec_l11Draw.l0, if_neg (by omega)]
    refine bind_ok (next_ok hc hq 12) fun p hp => bind_ok (next_ok hc hp.1 40) fun r hr => ite_ok (fun _ => bind_ok (pick_ok hc hr.1 _ (by simp)) fun t ht => ⟨_, rfl, ht.1, by simp only; omega, by simp only; omega⟩) (fun _ => ite_ok (fun _ => bind_ok (pick_ok hc hr.1 _ (by simp)) fun t ht => ite_ok (fun _ => ⟨_, rfl, ht.1, by simp only [List.length_set]; omega, by simp only [List.length_set]; omega⟩) (fun hx => absurd (show 0 < (acc.length : Int) by omega) hx)) (fun _ => ite_ok (fun _ => bind_ok (next_ok hc hr.1 2) fun t ht => ?_) (fun _ => ⟨_, rfl, hr.1, by simp only; omega, by simp only; omega⟩)))
    obtain ⟨u1, u2, u3⟩ := ht
    have hw : wrap64 (6 + t.1) = 6 + t.1 := w64 (by omega) (by omega)
    rw [hw, if_pos (by omega), if_pos (by omega)]
    obtain ⟨r, g1, g2, g3⟩ := l11Draw_l1 c (6 + t.1).toNat k 0 (List.replicate (6 + t.1).toNat 0) t.2.1 t.2.2 (by simp) (by rw [List.length_replicate]; omega) (by omega)
    exact ⟨r, g1, by rw [g2]; exact u1, by rw [g3, List.length_replicate]; omega, by rw [g3, List.length_replicate]; omega⟩
  | succ d ih =>
    intro k acc q hq h1 h2 hk
    obtain ⟨k, rfl⟩ : ∃ m, k = m + 1 := ⟨k - 1, by omega⟩
    rw [spec_l11Draw.l0, if_pos (by omega), w64 (x := ((d + 1 : Nat) : Int) - 1) (by omega) (by omega), show ((d + 1 : Nat) : Int) - 1 = (d : Int) by omega]
    exact bind_ok (pick_ok hc hq _ (by simp)) fun p hp => bind_ok (next_ok hc hp.1 _) fun r hr => ite_ok (fun _ => ih k _ r.2 hr.1 (by rw [List.length_append, List.length_singleton]; omega) (by rw [List.length_append, List.length_singleton]; omega) (by omega)) (fun hx => absurd (show acc.length < 17592186044416 by omega) hx)
theorem l11Draw_ok {c : List Int} (hc : Code c) {q : Int × Int} (hq : SOk q) {k : Nat} (hk : 40 < k) : ∃ r, spec_l11Draw.f k c q.1 q.2 = some r ∧ SOk r.2.2 ∧ r.2.1.length ≤ 8 ∧ 1 ≤ r.2.1.length := by
  unfold spec_l11Draw.f
  refine bind_ok (next_ok hc hq 5) fun p hp => ?_
  obtain ⟨u1, u2, u3⟩ := hp
  rw [w64 (x := 1 + p.1) (by omega) (by omega)]
  have := l11Draw_l0 hc (1 + p.1).toNat k [] p.2 u1 (by simp only [List.length_nil]; omega) (by simp only [List.length_nil]; omega) (by omega)
  rw [show (((1 + p.1).toNat : Nat) : Int) = 1 + p.1 by omega] at this
  exact this

theorem DrawBestUps_ok {c : List Int} (hc : Code c) {k : Nat} (hk : c.length + 40 < k) : ∃ p, spec_DrawBestUps.f k c = some p ∧ p.2.length ≤ 8 := by
  unfold spec_DrawBestUps.f
  refine bind_ok (from_ok hc (by omega)) fun p hp => ?_
  rw [hp.1]
  exact bind_ok (l11Draw_ok hc hp.2 (by omega)) fun g hg => ⟨_, rfl, hg.2.1⟩

theorem impl_inRange_eq (a b c : Int) : impl_inRange.f a b c = some (inR a b c) := by
  unfold impl_inRange.f inR
  by_cases h : b ≤ a
  · rw [if_pos h]; simp [h]
  · rw [if_neg h]; simp [h]

theorem impl_length_int64_eq (xs : List Int) : impl_length_int64.f xs = some (xs.length : Int) := rfl

theorem impl_allIn_eq (xs : List Int) (lo hi : Int) : impl_allIn.f xs lo hi = some (allR xs lo hi) := rfl

theorem impl_IsGang_eq (slots : Int) (q : List Int) : impl_IsGang.f slots q = some (gang slots q) := by
  unfold impl_IsGang.f gang
  simp only [impl_inRange_eq, impl_allIn_eq, impl_length_int64_eq, Option.bind_some, mn_min]
  cases inR slots 1 32
  · simp
  · cases inR (q.length : Int) 1 (min 6 slots) <;> simp

theorem impl_quotient_eq (a b : Int) (h0 : 0 ≤ a) (h1 : a ≤ 4611686018427387904) (k0 : 1 ≤ b) (k1 : b ≤ 4611686018427387903) : impl_quotient.f a b = some ((a + b - 1) / b) := by
  unfold impl_quotient.f
  have h3 : 0 ≤ (a + b - 1) / b := Int.ediv_nonneg (by omega) (by omega)
  have h4 : (a + b - 1) / b ≤ a + b - 1 := Int.ediv_le_self _ (by omega)
  rw [if_neg (by omega), w64 (x := a + b) (by omega) (by omega), w64 (x := a + b - 1) (by omega) (by omega), tdiv_n (by omega), w64 (by omega) (by omega)]

theorem impl_upsM_take (q : List Int) (run : Int) (i : Nat) (h : i < q.length) : upsM (q.take (i + 1)) run = upsM (q.take i) run ++ [(q[i] + run - 1) / run] := by
  unfold upsM
  rw [List.take_succ_eq_append_getElem h, List.map_append]
  rfl
theorem impl_upsM_len (q : List Int) (run : Int) : (upsM q run).length = q.length := by simp [upsM]
theorem impl_upsFor_l0 (q : List Int) (run : Int) (hq : ∀ x ∈ q, 1 ≤ x ∧ x ≤ 1000000) (hr : 1 ≤ run ∧ run ≤ 1000000) (hb : q.length ≤ 1048576) : ∀ (d k i : Nat), i + d = q.length → d < k → impl_upsFor.l0 k run (upsM (q.take i) run) q (q.length : Int) (i : Int) = some (upsM q run) := by
  intro d
  induction d with
  | zero =>
    intro k i h hk
    obtain ⟨k, rfl⟩ : ∃ m, k = m + 1 := ⟨k - 1, by omega⟩
    rw [impl_upsFor.l0, if_neg (by omega), List.take_of_length_le (by omega)]
  | succ d ih =>
    intro k i h hk
    obtain ⟨k, rfl⟩ : ∃ m, k = m + 1 := ⟨k - 1, by omega⟩
    have h1 : i < q.length := by omega
    have b1 := hq q[i] (List.getElem_mem h1)
    rw [impl_upsFor.l0, if_pos (by omega), if_pos (by omega), if_pos (by omega), rd_get q i h1, impl_quotient_eq _ _ (by omega) (by omega) (by omega) (by omega), w64 (x := (i : Int) + 1) (by omega) (by omega)]
    simp only [Option.bind_some]
    rw [if_pos (by rw [impl_upsM_len, List.length_take]; omega), ← impl_upsM_take q run i h1]
    exact ih k (i + 1) (by omega) (by omega)
theorem impl_upsFor_eq (q : List Int) (run : Int) (k : Nat) (hq : ∀ x ∈ q, 1 ≤ x ∧ x ≤ 1000000) (hr : 1 ≤ run ∧ run ≤ 1000000) (hb : q.length ≤ 1048576) (hk : q.length < k) : impl_upsFor.f k q run = some (upsM q run) := by
  unfold impl_upsFor.f
  exact impl_upsFor_l0 q run hq hr hb q.length k 0 (by omega) hk

theorem impl_sumOf_l0 (xs : List Int) (hl : xs.length ≤ 9223372036854775806) : ∀ (d k i : Nat) (a : Int), i + d = xs.length → d < k → impl_sumOf.l0 k a xs (xs.length : Int) (i : Int) = some (wsum a (xs.drop i)) := by
  intro d
  induction d with
  | zero =>
    intro k i a h hk
    obtain ⟨k, rfl⟩ : ∃ m, k = m + 1 := ⟨k - 1, by omega⟩
    rw [impl_sumOf.l0, if_neg (by omega), List.drop_of_length_le (by omega)]
    rfl
  | succ d ih =>
    intro k i a h hk
    obtain ⟨k, rfl⟩ : ∃ m, k = m + 1 := ⟨k - 1, by omega⟩
    have hi : i < xs.length := by omega
    rw [impl_sumOf.l0, if_pos (by omega), if_pos (by omega), if_pos (by omega), rd_get xs i hi, drop_get xs i hi, w64 (x := (i : Int) + 1) (by omega) (by omega), wsum_cons]
    exact ih k (i + 1) _ (by omega) (by omega)
theorem impl_sumOf_eq (xs : List Int) (k : Nat) (hl : xs.length ≤ 9223372036854775806) (hk : xs.length < k) : impl_sumOf.f k xs = some (wsum 0 xs) := by
  unfold impl_sumOf.f
  exact impl_sumOf_l0 xs hl xs.length k 0 0 (by omega) hk

theorem slices_Max_int64_int64_l0 (xs : List Int) (hl : xs.length ≤ 9223372036854775806) : ∀ (d k i : Nat) (m : Int), i + d = xs.length → d < k → slices_Max_int64_int64.l0 k xs m (i : Int) = some ((xs.drop i).foldl max m) := by
  intro d
  induction d with
  | zero =>
    intro k i m h hk
    obtain ⟨k, rfl⟩ : ∃ m, k = m + 1 := ⟨k - 1, by omega⟩
    rw [slices_Max_int64_int64.l0, if_neg (by omega), List.drop_of_length_le (by omega)]
    rfl
  | succ d ih =>
    intro k i m h hk
    obtain ⟨k, rfl⟩ : ∃ m, k = m + 1 := ⟨k - 1, by omega⟩
    have hi : i < xs.length := by omega
    rw [slices_Max_int64_int64.l0, if_pos (by omega), if_pos (by omega), rd_get xs i hi, drop_get xs i hi, w64 (x := (i : Int) + 1) (by omega) (by omega), List.foldl_cons, mx_max]
    exact ih k (i + 1) _ (by omega) (by omega)
theorem slices_Max_int64_int64_eq (xs : List Int) (k : Nat) (h0 : 1 ≤ xs.length) (hl : xs.length ≤ 9223372036854775806) (hk : xs.length < k) : slices_Max_int64_int64.f k xs = some ((xs.drop 1).foldl max (rd xs 0)) := by
  unfold slices_Max_int64_int64.f
  rw [if_neg (by omega), if_pos (by omega)]
  exact slices_Max_int64_int64_l0 xs hl (xs.length - 1) k 1 _ (by omega) (by omega)

theorem impl_leastRun_l0 (slots : Int) (q : List Int) (hf : fits slots q) : ∀ (d k : Nat) (lo hi : Int), Halves slots q lo hi → hi - lo ≤ d → d + q.length < k → impl_leastRun.l0 k slots q lo hi = some (leastM slots q) := by
  intro d
  induction d with
  | zero =>
    intro k lo hi h hd hk
    obtain ⟨k, rfl⟩ : ∃ m, k = m + 1 := ⟨k - 1, by omega⟩
    rw [impl_leastRun.l0, if_neg (by omega), h.done (by omega)]
  | succ d ih =>
    intro k lo hi h hd hk
    obtain ⟨k, rfl⟩ : ∃ m, k = m + 1 := ⟨k - 1, by omega⟩
    by_cases e : lo < hi
    · have h' := h
      obtain ⟨h1, h2, h3, h4, h5⟩ := h'
      have hl := hf.2.1
      rw [impl_leastRun.l0, if_pos e, w64 (x := lo + hi) (by omega) (by omega), tdiv_n (by omega), w64 (x := (lo + hi) / 2) (by omega) (by omega), impl_upsFor_eq q _ k hf.2.2 (by omega) (by omega) (by omega)]
      simp only [Option.bind_some]
      rw [impl_sumOf_eq _ k (by rw [impl_upsM_len]; omega) (by rw [impl_upsM_len]; omega), w64 (x := (lo + hi) / 2 + 1) (by omega) (by omega)]
      simp only [Option.bind_some]
      by_cases c : wsum 0 (upsM q ((lo + hi) / 2)) ≤ slots
      · rw [if_pos c]
        exact ih k _ _ (h.left e (decide_eq_true c)) (by omega) (by omega)
      · rw [if_neg c]
        exact ih k _ _ (h.right hf e (decide_eq_false c)) (by omega) (by omega)
    · rw [impl_leastRun.l0, if_neg e, h.done e]
theorem foldl_max_le : ∀ (xs : List Int) (m b : Int), m ≤ b → (∀ x ∈ xs, x ≤ b) → xs.foldl max m ≤ b
  | [], m, b, h, _ => h
  | x :: xs, m, b, h, hx => foldl_max_le xs (max m x) b (by have := hx x (by simp); omega) (fun y hy => hx y (by simp [hy]))
theorem foldl_max_ge : ∀ (xs : List Int) (m : Int), m ≤ xs.foldl max m ∧ ∀ x ∈ xs, x ≤ xs.foldl max m
  | [], m => by simp
  | x :: xs, m => by
    have h := foldl_max_ge xs (max m x)
    rw [List.foldl_cons]
    refine ⟨by omega, fun y hy => ?_⟩
    rcases List.mem_cons.1 hy with rfl | hy
    · omega
    · exact h.2 y hy
theorem impl_leastRun_eq (slots : Int) (q : List Int) (k : Nat) (hf : fits slots q) (h0 : 1 ≤ q.length) (hk : q.length + 1000000 < k) : impl_leastRun.f k slots q = some (leastM slots q) := by
  unfold impl_leastRun.f
  have hl := hf.2.1
  rw [slices_Max_int64_int64_eq q k h0 (by omega) (by omega)]
  simp only [Option.bind_some]
  cases q with
  | nil => simp at h0
  | cons x xs =>
    have hx := hf.2.2 x (by simp)
    have e : rd (x :: xs) 0 = x := rfl
    rw [e, List.drop_one, List.tail_cons]
    have g := foldl_max_ge xs x
    have u := foldl_max_le xs x 1000000 hx.2 (fun y hy => (hf.2.2 y (by simp [hy])).2)
    exact impl_leastRun_l0 slots (x :: xs) hf 1000000 k 1 _ (Halves.start hf (by omega) (fun y hy => by
      rcases List.mem_cons.1 hy with rfl | hy
      · exact g.1
      · exact g.2 y hy)) (by omega) (by omega)

theorem impl_BestUps_eq (slots : Int) (q : List Int) (k : Nat) (hl : q.length ≤ 1048576) (hk : q.length + 1000000 < k) : impl_BestUps.f k slots q = some (bestUps slots q) := by
  unfold impl_BestUps.f bestUps
  simp only [impl_IsGang_eq, Option.bind_some]
  cases hg : gang slots q
  · simp
  · have hf := gang_fits hg
    have h := leastM_least hf
    have h1 := h.1.1
    simp only [if_true]
    rw [impl_leastRun_eq slots q k hf (gang_true hg).2.1.1 hk]
    simp only [Option.bind_some]
    rw [impl_upsFor_eq q _ k hf.2.2 (by omega) (by omega) (by omega)]
    rfl

theorem spec_l01In_eq (a b c : Int) : spec_l01In.f a b c = some (inR a b c) := by
  unfold spec_l01In.f inR
  by_cases h : a ≥ b
  · rw [if_pos h]; simp [show b ≤ a from h]
  · rw [if_neg h]; simp [show ¬ b ≤ a from h]

theorem spec_l01Within_l0 (xs : List Int) (m lo hi : Int) (hl : xs.length ≤ 9223372036854775806) : ∀ (d k i : Nat), i + d = xs.length → d < k → spec_l01Within.l0 k xs m lo hi (i : Int) = some (allR (xs.drop i) lo hi && decide ((xs.length : Int) ≤ m)) := by
  intro d
  induction d with
  | zero =>
    intro k i h hk
    obtain ⟨k, rfl⟩ : ∃ m, k = m + 1 := ⟨k - 1, by omega⟩
    rw [spec_l01Within.l0, if_neg (by omega), List.drop_of_length_le (by omega)]
    rfl
  | succ d ih =>
    intro k i h hk
    obtain ⟨k, rfl⟩ : ∃ m, k = m + 1 := ⟨k - 1, by omega⟩
    have hlt : i < xs.length := by omega
    have e3 := ih k (i + 1) (by omega) (by omega)
    rw [spec_l01Within.l0, if_pos (by omega), if_pos (by omega), rd_get xs i hlt, spec_l01In_eq, drop_get xs i hlt, w64 (by omega) (by omega)]
    simp only [Option.bind_some, allR, List.all_cons]
    cases hx : inR xs[i] lo hi
    · simp
    · simp only [if_true, Bool.true_and]
      exact e3
theorem spec_l01Within_eq (xs : List Int) (m lo hi : Int) (k : Nat) (hl : xs.length ≤ 9223372036854775806) (hk : xs.length < k) : spec_l01Within.f k xs m lo hi = some (allR xs lo hi && decide ((xs.length : Int) ≤ m)) := by
  unfold spec_l01Within.f
  exact spec_l01Within_l0 xs m lo hi hl xs.length k 0 (by omega) hk

theorem spec_IsGang_eq (slots : Int) (q : List Int) (k : Nat) (hl : q.length ≤ 9223372036854775806) (hk : q.length < k) : spec_IsGang.f k slots q = some (gang slots q) := by
  unfold spec_IsGang.f gang
  simp only [spec_l01In_eq, spec_l01Within_eq q _ _ _ k hl hk, Option.bind_some]
  cases h0 : inR slots 1 32
  · simp
  · by_cases h1 : (q.length : Int) ≥ 1
    · by_cases h2 : (q.length : Int) ≤ slots
      · rw [if_pos rfl, if_pos h1, if_pos h2]
        by_cases h3 : (q.length : Int) ≤ 6
        · rw [inR_mk (a := (q.length : Int)) h1 (by omega)]; simp [h3]
        · have e : inR (q.length : Int) 1 (min 6 slots) = false := by simp [inR]; omega
          rw [e]; simp [h3]
      · rw [if_pos rfl, if_pos h1, if_neg h2]
        have e : inR (q.length : Int) 1 (min 6 slots) = false := by simp [inR]; omega
        rw [e]; simp
    · rw [if_pos rfl, if_neg h1]
      have e : inR (q.length : Int) 1 (min 6 slots) = false := by simp [inR]; omega
      rw [e]; simp

theorem spec_l11Code_eq (slots : Int) (q : List Int) (b : Bool) (k : Nat) (hl : q.length ≤ 9223372036854775806) (hk : q.length < k) : spec_l11Code.f k slots q b = some (if gang slots q = true then (if b = true then 0 else 2) else 1) := by
  unfold spec_l11Code.f
  simp only [spec_IsGang_eq slots q k hl hk, Option.bind_some]
  cases gang slots q
  · simp
  · cases b <;> simp

theorem spec_l01Ceil_eq (a b : Int) (h0 : 0 ≤ a) (h1 : a ≤ 4611686018427387904) (k0 : 1 ≤ b) (k1 : b ≤ 4611686018427387903) : spec_l01Ceil.f a b = some ((a + b - 1) / b) := by
  unfold spec_l01Ceil.f
  have h3 : 0 ≤ (a + b - 1) / b := Int.ediv_nonneg (by omega) (by omega)
  have h4 : (a + b - 1) / b ≤ a + b - 1 := Int.ediv_le_self _ (by omega)
  rw [if_neg (by omega), w64 (x := a + b) (by omega) (by omega), w64 (x := a + b - 1) (by omega) (by omega), tdiv_n (by omega), w64 (by omega) (by omega)]

theorem upsM_take (q : List Int) (run : Int) (i : Nat) (h : i < q.length) : upsM (q.take (i + 1)) run = upsM (q.take i) run ++ [(q[i] + run - 1) / run] := by
  unfold upsM
  rw [List.take_succ_eq_append_getElem h, List.map_append]
  rfl
theorem upsM_len (q : List Int) (run : Int) : (upsM q run).length = q.length := by simp [upsM]
theorem spec_l11For_l0 (q : List Int) (run : Int) (hq : ∀ x ∈ q, 1 ≤ x ∧ x ≤ 1000000) (hr : 1 ≤ run ∧ run ≤ 1000000) (hb : q.length ≤ 1048576) : ∀ (d k i : Nat), i + d = q.length → d < k → spec_l11For.l0 k q run (upsM (q.take i) run) (i : Int) = some (upsM q run) := by
  intro d
  induction d with
  | zero =>
    intro k i h hk
    obtain ⟨k, rfl⟩ : ∃ m, k = m + 1 := ⟨k - 1, by omega⟩
    rw [spec_l11For.l0, if_neg (by omega), List.take_of_length_le (by omega)]
  | succ d ih =>
    intro k i h hk
    obtain ⟨k, rfl⟩ : ∃ m, k = m + 1 := ⟨k - 1, by omega⟩
    have h1 : i < q.length := by omega
    have b1 := hq q[i] (List.getElem_mem h1)
    rw [spec_l11For.l0, if_pos (by omega), if_pos (by omega), rd_get q i h1, spec_l01Ceil_eq _ _ (by omega) (by omega) (by omega) (by omega), w64 (x := (i : Int) + 1) (by omega) (by omega)]
    simp only [Option.bind_some]
    rw [if_pos (by rw [upsM_len, List.length_take]; omega), ← upsM_take q run i h1]
    exact ih k (i + 1) (by omega) (by omega)
theorem spec_l11For_eq (q : List Int) (run : Int) (k : Nat) (hq : ∀ x ∈ q, 1 ≤ x ∧ x ≤ 1000000) (hr : 1 ≤ run ∧ run ≤ 1000000) (hb : q.length ≤ 1048576) (hk : q.length < k) : spec_l11For.f k q run = some (upsM q run) := by
  unfold spec_l11For.f
  exact spec_l11For_l0 q run hq hr hb q.length k 0 (by omega) hk

theorem spec_l01Sum_l0 (xs : List Int) (hl : xs.length ≤ 9223372036854775806) : ∀ (d k i : Nat) (a : Int), i + d = xs.length → d < k → spec_l01Sum.l0 k xs a (i : Int) = some (wsum a (xs.drop i)) := by
  intro d
  induction d with
  | zero =>
    intro k i a h hk
    obtain ⟨k, rfl⟩ : ∃ m, k = m + 1 := ⟨k - 1, by omega⟩
    rw [spec_l01Sum.l0, if_neg (by omega), List.drop_of_length_le (by omega)]
    rfl
  | succ d ih =>
    intro k i a h hk
    obtain ⟨k, rfl⟩ : ∃ m, k = m + 1 := ⟨k - 1, by omega⟩
    have hi : i < xs.length := by omega
    rw [spec_l01Sum.l0, if_pos (by omega), if_pos (by omega), rd_get xs i hi, drop_get xs i hi, w64 (x := (i : Int) + 1) (by omega) (by omega), wsum_cons]
    exact ih k (i + 1) _ (by omega) (by omega)
theorem spec_l01Sum_eq (xs : List Int) (k : Nat) (hl : xs.length ≤ 9223372036854775806) (hk : xs.length < k) : spec_l01Sum.f k xs = some (wsum 0 xs) := by
  unfold spec_l01Sum.f
  exact spec_l01Sum_l0 xs hl xs.length k 0 0 (by omega) hk

theorem spec_l11Least_l0 (slots : Int) (q : List Int) (hf : fits slots q) : ∀ (d k : Nat) (lo hi : Int), Halves slots q lo hi → hi - lo ≤ d → d + q.length < k → spec_l11Least.l0 k slots q lo hi = some (leastM slots q) := by
  intro d
  induction d with
  | zero =>
    intro k lo hi h hd hk
    obtain ⟨k, rfl⟩ : ∃ m, k = m + 1 := ⟨k - 1, by omega⟩
    rw [spec_l11Least.l0, if_neg (by omega), h.done (by omega)]
  | succ d ih =>
    intro k lo hi h hd hk
    obtain ⟨k, rfl⟩ : ∃ m, k = m + 1 := ⟨k - 1, by omega⟩
    by_cases e : lo < hi
    · have h' := h
      obtain ⟨h1, h2, h3, h4, h5⟩ := h'
      have hl := hf.2.1
      rw [spec_l11Least.l0, if_pos e, w64 (x := lo + hi) (by omega) (by omega), tdiv_n (by omega), w64 (x := (lo + hi) / 2) (by omega) (by omega), spec_l11For_eq q _ k hf.2.2 (by omega) (by omega) (by omega)]
      simp only [Option.bind_some]
      rw [spec_l01Sum_eq _ k (by rw [upsM_len]; omega) (by rw [upsM_len]; omega), w64 (x := (lo + hi) / 2 + 1) (by omega) (by omega)]
      simp only [Option.bind_some]
      by_cases c : wsum 0 (upsM q ((lo + hi) / 2)) ≤ slots
      · rw [if_pos c]
        exact ih k _ _ (h.left e (decide_eq_true c)) (by omega) (by omega)
      · rw [if_neg c]
        exact ih k _ _ (h.right hf e (decide_eq_false c)) (by omega) (by omega)
    · rw [spec_l11Least.l0, if_neg e, h.done e]
theorem spec_l11Least_eq (slots : Int) (q : List Int) (k : Nat) (hf : fits slots q) (hk : q.length + 1000000 < k) : spec_l11Least.f k slots q = some (leastM slots q) := by
  unfold spec_l11Least.f
  exact spec_l11Least_l0 slots q hf 1000000 k 1 1000000 (Halves.start hf (by omega) (fun x hx => (hf.2.2 x hx).2)) (by omega) (by omega)

theorem spec_BestUps_eq (slots : Int) (q : List Int) (k : Nat) (hl : q.length ≤ 1048576) (hk : q.length + 1000000 < k) : spec_BestUps.f k slots q = some (bestUps slots q) := by
  unfold spec_BestUps.f bestUps
  simp only [spec_l11Code_eq slots q _ k (by omega) (by omega), Option.bind_some]
  cases hg : gang slots q
  · simp
  · have hf := gang_fits hg
    have h := leastM_least hf
    have h1 := h.1.1
    simp only [if_true]
    rw [spec_l11Least_eq slots q k hf hk]
    simp only [Option.bind_some]
    rw [spec_l11For_eq q _ k hf.2.2 (by omega) (by omega) (by omega)]
    rfl

theorem impl_LeastRun_eq (slots : Int) (q : List Int) (k : Nat) (hk : q.length + 1000000 < k) : impl_LeastRun.f k slots q = some (leastRun slots q) := by
  unfold impl_LeastRun.f leastRun
  simp only [impl_IsGang_eq, Option.bind_some]
  cases hg : gang slots q
  · simp
  · simp [impl_leastRun_eq slots q k (gang_fits hg) (gang_true hg).2.1.1 hk]

theorem spec_LeastRun_eq (slots : Int) (q : List Int) (k : Nat) (hl : q.length ≤ 1048576) (hk : q.length + 1000000 < k) : spec_LeastRun.f k slots q = some (leastRun slots q) := by
  unfold spec_LeastRun.f leastRun
  simp only [spec_l11Code_eq slots q _ k (by omega) (by omega), Option.bind_some]
  cases hg : gang slots q
  · simp
  · simp [spec_l11Least_eq slots q k (gang_fits hg) hk]

theorem DrawRunFor_l0 {c : List Int} (hc : Code c) (slots : Int) (q : List Int) (h1 : q.length ≤ 8) (h0 : 1 ≤ q.length) : ∀ (d k i : Nat) (u : List Int) (left : Int) (s : Int × Int), SOk s → i + d = q.length → u.length = i → d < k → ∃ p, spec_DrawRunFor.l0 k slots q u left (i : Int) c s.1 s.2 = some p ∧ p.2.1.length ≤ 8 ∧ p.2.2.length ≤ 20 := by
  intro d
  induction d with
  | zero =>
    intro k i u left s hs h2 h3 hk
    obtain ⟨k, rfl⟩ : ∃ m, k = m + 1 := ⟨k - 1, by omega⟩
    rw [spec_DrawRunFor.l0, if_neg (by omega)]
    exact bind_ok (next_ok hc hs 20) fun a ha => ite_ok (fun _ => bind_ok (pick_ok hc ha.1 _ (by simp)) fun b hb => ite_ok (fun _ => ⟨_, rfl, h1, by simp only [List.length_set]; omega⟩) (fun hx => absurd (show 0 < (u.length : Int) by omega) hx)) (fun _ => ite_ok (fun _ => ite_ok (fun _ => ⟨_, rfl, h1, by simp only [List.length_append, List.length_singleton]; omega⟩) (fun hx => absurd (show u.length < 17592186044416 by omega) hx)) (fun _ => ⟨_, rfl, h1, by simp only; omega⟩))
  | succ d ih =>
    intro k i u left s hs h2 h3 hk
    obtain ⟨k, rfl⟩ : ∃ m, k = m + 1 := ⟨k - 1, by omega⟩
    rw [spec_DrawRunFor.l0, if_pos (by omega), w64 (x := (i : Int) + 1) (by omega) (by omega)]
    exact bind_ok (next_ok hc hs _) fun a ha => ite_ok (fun _ => ih k (i + 1) _ _ a.2 ha.1 (by omega) (by rw [List.length_append, List.length_singleton]; omega) (by omega)) (fun hx => absurd (show u.length < 17592186044416 by omega) hx)
theorem DrawRunFor_ok {c : List Int} (hc : Code c) {k : Nat} (hk : c.length + 40 < k) : ∃ p, spec_DrawRunFor.f k c = some p ∧ p.2.1.length ≤ 8 ∧ p.2.2.length ≤ 20 := by
  unfold spec_DrawRunFor.f
  refine bind_ok (from_ok hc (by omega)) fun p hp => ?_
  rw [hp.1]
  exact bind_ok (l11Draw_ok hc hp.2 (by omega)) fun g hg => DrawRunFor_l0 hc g.1 g.2.1 hg.2.1 hg.2.2 g.2.1.length k 0 [] _ g.2.2 hg.1 (by omega) (by simp) (by have := hg.2.1; omega)

theorem impl_checkUps_eq (slots : Int) (q u : List Int) (k : Nat) (hl : u.length ≤ 9223372036854775806) (hk : u.length < k) : impl_checkUps.f k slots q u = some (upsCode slots q u) := by
  unfold impl_checkUps.f upsCode upsOk
  simp only [impl_IsGang_eq, impl_allIn_eq, impl_sumOf_eq u k hl hk, Option.bind_some]
  cases gang slots q
  · simp
  · by_cases h : (u.length : Int) = (q.length : Int)
    · rw [if_pos rfl, if_pos h, decide_eq_true (show u.length = q.length by omega)]
      cases allR u 1 slots
      · simp
      · by_cases h2 : wsum 0 u > slots
        · rw [if_pos rfl, if_pos h2, decide_eq_false (show ¬ wsum 0 u ≤ slots by omega)]; simp
        · rw [if_pos rfl, if_neg h2, decide_eq_true (show wsum 0 u ≤ slots by omega)]; simp
    · rw [if_pos rfl, if_neg h, decide_eq_false (show ¬ u.length = q.length by omega)]; simp

theorem impl_runFor_l0 (q u : List Int) (hq : ∀ x ∈ q, 1 ≤ x ∧ x ≤ 1000000) (hu : ∀ x ∈ u, 1 ≤ x ∧ x ≤ 1000000) (hl : u.length = q.length) (hb : q.length ≤ 1048576) : ∀ (d k i : Nat) (r : Int), i + d = q.length → d < k → impl_runFor.l0 k u r q (q.length : Int) (i : Int) = some (runM (q.drop i) (u.drop i) r) := by
  intro d
  induction d with
  | zero =>
    intro k i r h hk
    obtain ⟨k, rfl⟩ : ∃ m, k = m + 1 := ⟨k - 1, by omega⟩
    rw [impl_runFor.l0, if_neg (by omega), List.drop_of_length_le (by omega), runM]
    simp
  | succ d ih =>
    intro k i r h hk
    obtain ⟨k, rfl⟩ : ∃ m, k = m + 1 := ⟨k - 1, by omega⟩
    have h1 : i < q.length := by omega
    have h2 : i < u.length := by omega
    have b1 := hq q[i] (List.getElem_mem h1)
    have b2 := hu u[i] (List.getElem_mem h2)
    rw [impl_runFor.l0, if_pos (by omega), if_pos (by omega), if_pos (by omega), if_pos (by omega), rd_get q i h1, rd_get u i h2, drop_get q i h1, drop_get u i h2, impl_quotient_eq _ _ (by omega) (by omega) (by omega) (by omega), w64 (x := (i : Int) + 1) (by omega) (by omega), runM]
    simp only [Option.bind_some, mx_max]
    exact ih k (i + 1) _ (by omega) (by omega)
theorem impl_runFor_eq (q u : List Int) (k : Nat) (hq : ∀ x ∈ q, 1 ≤ x ∧ x ≤ 1000000) (hu : ∀ x ∈ u, 1 ≤ x ∧ x ≤ 1000000) (hl : u.length = q.length) (hb : q.length ≤ 1048576) (hk : q.length < k) : impl_runFor.f k q u = some (runM q u 0) := by
  unfold impl_runFor.f
  exact impl_runFor_l0 q u hq hu hl hb q.length k 0 0 (by omega) hk

theorem impl_RunFor_eq (slots : Int) (q u : List Int) (k : Nat) (hl : u.length ≤ 9223372036854775806) (hkq : q.length < k) (hk : u.length < k) : impl_RunFor.f k slots q u = some (runFor slots q u) := by
  unfold impl_RunFor.f runFor
  simp only [impl_checkUps_eq slots q u k hl hk, Option.bind_some]
  by_cases e : upsCode slots q u = 0
  · obtain ⟨h1, h2, h3, h4⟩ := upsCode_ok e
    obtain ⟨g1, g2, g3⟩ := gang_true h1
    rw [if_pos e, if_pos e, impl_runFor_eq q u k g3 (fun x hx => by have := h3 x hx; omega) h2 (by omega) hkq]
    rfl
  · rw [if_neg e, if_neg e]

theorem spec_l11Ups_eq (slots : Int) (q u : List Int) (k : Nat) (hl : u.length ≤ 9223372036854775806) (hk : u.length < k) : spec_l11Ups.f k slots q u = some (decide (u.length = q.length) && ((allR u 1 slots && decide ((u.length : Int) ≤ 6)) && decide (wsum 0 u ≤ slots))) := by
  unfold spec_l11Ups.f
  by_cases h : (u.length : Int) = (q.length : Int)
  · rw [if_pos h, decide_eq_true (show u.length = q.length by omega), spec_l01Within_eq u _ _ _ k hl hk]
    simp only [Option.bind_some, Bool.true_and]
    cases (allR u 1 slots && decide ((u.length : Int) ≤ 6))
    · simp
    · simp only [if_true, spec_l01Sum_eq u k hl hk, Option.bind_some, Bool.true_and]
  · rw [if_neg h, decide_eq_false (show ¬ u.length = q.length by omega), Bool.false_and]

theorem spec_l11Run_l0 (q u : List Int) (hq : ∀ x ∈ q, 1 ≤ x ∧ x ≤ 1000000) (hu : ∀ x ∈ u, 1 ≤ x ∧ x ≤ 1000000) (hl : u.length = q.length) (hb : q.length ≤ 1048576) : ∀ (d k i : Nat) (r : Int), i + d = q.length → d < k → spec_l11Run.l0 k q u r (i : Int) = some (runM (q.drop i) (u.drop i) r) := by
  intro d
  induction d with
  | zero =>
    intro k i r h hk
    obtain ⟨k, rfl⟩ : ∃ m, k = m + 1 := ⟨k - 1, by omega⟩
    rw [spec_l11Run.l0, if_neg (by omega), List.drop_of_length_le (by omega), runM]
    simp
  | succ d ih =>
    intro k i r h hk
    obtain ⟨k, rfl⟩ : ∃ m, k = m + 1 := ⟨k - 1, by omega⟩
    have h1 : i < q.length := by omega
    have h2 : i < u.length := by omega
    have b1 := hq q[i] (List.getElem_mem h1)
    have b2 := hu u[i] (List.getElem_mem h2)
    rw [spec_l11Run.l0, if_pos (by omega), if_pos (by omega), if_pos (by omega), rd_get q i h1, rd_get u i h2, drop_get q i h1, drop_get u i h2, spec_l01Ceil_eq _ _ (by omega) (by omega) (by omega) (by omega), w64 (x := (i : Int) + 1) (by omega) (by omega), runM]
    simp only [Option.bind_some, mx_max]
    exact ih k (i + 1) _ (by omega) (by omega)
theorem spec_l11Run_eq (q u : List Int) (k : Nat) (hq : ∀ x ∈ q, 1 ≤ x ∧ x ≤ 1000000) (hu : ∀ x ∈ u, 1 ≤ x ∧ x ≤ 1000000) (hl : u.length = q.length) (hb : q.length ≤ 1048576) (hk : q.length < k) : spec_l11Run.f k q u = some (runM q u 0) := by
  unfold spec_l11Run.f
  exact spec_l11Run_l0 q u hq hu hl hb q.length k 0 0 (by omega) hk

theorem spec_RunFor_eq (slots : Int) (q u : List Int) (k : Nat) (hq : q.length ≤ 9223372036854775806) (hl : u.length ≤ 9223372036854775806) (hkq : q.length < k) (hk : u.length < k) : spec_RunFor.f k slots q u = some (runFor slots q u) := by
  unfold spec_RunFor.f runFor
  simp only [spec_l11Ups_eq slots q u k hl hk, spec_l11Code_eq slots q _ k hq hkq, Option.bind_some, spec_upsCode]
  by_cases e : upsCode slots q u = 0
  · obtain ⟨h1, h2, h3, h4⟩ := upsCode_ok e
    obtain ⟨g1, g2, g3⟩ := gang_true h1
    rw [if_pos e, if_pos e, spec_l11Run_eq q u k g3 (fun x hx => by have := h3 x hx; omega) h2 (by omega) hkq]
    rfl
  · rw [if_neg e, if_neg e]

theorem impl_OversOf_l0 (q u : List Int) (r : Int) (hq : ∀ x ∈ q, 1 ≤ x ∧ x ≤ 1000000) (hu : ∀ x ∈ u, 1 ≤ x ∧ x ≤ 32) (hl : u.length = q.length) (hb : q.length ≤ 1048576) (hr : 0 ≤ r ∧ r ≤ 1000000) : ∀ (d k i : Nat) (acc : List Int), i + d = q.length → d < k → acc.length ≤ i → impl_OversOf.l0 k u acc r q (q.length : Int) (i : Int) = some (acc ++ oversM (q.drop i) (u.drop i) r, 0) := by
  intro d
  induction d with
  | zero =>
    intro k i acc h hk ha
    obtain ⟨k, rfl⟩ : ∃ m, k = m + 1 := ⟨k - 1, by omega⟩
    rw [impl_OversOf.l0, if_neg (by omega), List.drop_of_length_le (l := q) (by omega), oversM]
    simp
    simp
  | succ d ih =>
    intro k i acc h hk ha
    obtain ⟨k, rfl⟩ : ∃ m, k = m + 1 := ⟨k - 1, by omega⟩
    have h1 : i < q.length := by omega
    have h2 : i < u.length := by omega
    have b1 := hq q[i] (List.getElem_mem h1)
    have b2 := hu u[i] (List.getElem_mem h2)
    rw [impl_OversOf.l0, if_pos (by omega), if_pos (by omega), if_pos (by omega), if_pos (by omega), if_pos (by omega), rd_get q i h1, rd_get u i h2, over_w b2 hr b1, w64 (x := (i : Int) + 1) (by omega) (by omega), drop_get q i h1, drop_get u i h2, oversM, show acc ++ (u[i] * r - q[i]) :: oversM (q.drop (i + 1)) (u.drop (i + 1)) r = (acc ++ [u[i] * r - q[i]]) ++ oversM (q.drop (i + 1)) (u.drop (i + 1)) r by simp]
    exact ih k (i + 1) _ (by omega) (by omega) (by rw [List.length_append, List.length_singleton]; omega)
theorem impl_OversOf_eq (slots : Int) (q u : List Int) (k : Nat) (hl : u.length ≤ 9223372036854775806) (hkq : q.length < k) (hk : u.length < k) : impl_OversOf.f k slots q u = some (oversOf slots q u) := by
  unfold impl_OversOf.f oversOf
  simp only [impl_checkUps_eq slots q u k hl hk, Option.bind_some]
  by_cases e : upsCode slots q u = 0
  · obtain ⟨h1, h2, h3, h4⟩ := upsCode_ok e
    obtain ⟨g1, g2, g3⟩ := gang_true h1
    rw [if_pos e, if_pos e, impl_runFor_eq q u k g3 (fun x hx => by have := h3 x hx; omega) h2 (by omega) hkq]
    simp only [Option.bind_some]
    exact (impl_OversOf_l0 q u _ g3 (fun x hx => by have := h3 x hx; omega) h2 (by omega) (runM_bd q u 0 g3 (fun x hx => by have := h3 x hx; omega) (by omega) (by omega)) q.length k 0 [] (by omega) hkq (by simp)).trans rfl
  · rw [if_neg e, if_neg e]

theorem spec_OversOf_l0 (q u : List Int) (r : Int) (hq : ∀ x ∈ q, 1 ≤ x ∧ x ≤ 1000000) (hu : ∀ x ∈ u, 1 ≤ x ∧ x ≤ 32) (hl : u.length = q.length) (hb : q.length ≤ 1048576) (hr : 0 ≤ r ∧ r ≤ 1000000) : ∀ (d k i : Nat) (acc : List Int), i + d = q.length → d < k → acc.length ≤ i → spec_OversOf.l0 k q u r acc (i : Int) = some (acc ++ oversM (q.drop i) (u.drop i) r, 0) := by
  intro d
  induction d with
  | zero =>
    intro k i acc h hk ha
    obtain ⟨k, rfl⟩ : ∃ m, k = m + 1 := ⟨k - 1, by omega⟩
    rw [spec_OversOf.l0, if_neg (by omega), List.drop_of_length_le (l := q) (by omega), oversM]
    simp
    simp
  | succ d ih =>
    intro k i acc h hk ha
    obtain ⟨k, rfl⟩ : ∃ m, k = m + 1 := ⟨k - 1, by omega⟩
    have h1 : i < q.length := by omega
    have h2 : i < u.length := by omega
    have b1 := hq q[i] (List.getElem_mem h1)
    have b2 := hu u[i] (List.getElem_mem h2)
    rw [spec_OversOf.l0, if_pos (by omega), if_pos (by omega), if_pos (by omega), if_pos (by omega), rd_get q i h1, rd_get u i h2, over_w b2 hr b1, w64 (x := (i : Int) + 1) (by omega) (by omega), drop_get q i h1, drop_get u i h2, oversM, show acc ++ (u[i] * r - q[i]) :: oversM (q.drop (i + 1)) (u.drop (i + 1)) r = (acc ++ [u[i] * r - q[i]]) ++ oversM (q.drop (i + 1)) (u.drop (i + 1)) r by simp]
    exact ih k (i + 1) _ (by omega) (by omega) (by rw [List.length_append, List.length_singleton]; omega)
theorem spec_OversOf_eq (slots : Int) (q u : List Int) (k : Nat) (hq : q.length ≤ 9223372036854775806) (hl : u.length ≤ 9223372036854775806) (hkq : q.length < k) (hk : u.length < k) : spec_OversOf.f k slots q u = some (oversOf slots q u) := by
  unfold spec_OversOf.f oversOf
  simp only [spec_l11Ups_eq slots q u k hl hk, spec_l11Code_eq slots q _ k hq hkq, Option.bind_some, spec_upsCode]
  by_cases e : upsCode slots q u = 0
  · obtain ⟨h1, h2, h3, h4⟩ := upsCode_ok e
    obtain ⟨g1, g2, g3⟩ := gang_true h1
    rw [if_pos e, if_pos e, spec_l11Run_eq q u k g3 (fun x hx => by have := h3 x hx; omega) h2 (by omega) hkq]
    simp only [Option.bind_some]
    exact (spec_OversOf_l0 q u _ g3 (fun x hx => by have := h3 x hx; omega) h2 (by omega) (runM_bd q u 0 g3 (fun x hx => by have := h3 x hx; omega) (by omega) (by omega)) q.length k 0 [] (by omega) hkq (by simp)).trans rfl
  · rw [if_neg e, if_neg e]

theorem DrawUpsFor_ok {c : List Int} (hc : Code c) {k : Nat} (hk : c.length + 1000100 < k) : ∃ p, spec_DrawUpsFor.f k c = some p ∧ p.2.1.length ≤ 8 := by
  obtain ⟨k, rfl⟩ : ∃ m, k = m + 1 := ⟨k - 1, by omega⟩
  have J : ∀ (q : Int × Int) (a : Int) (l : List Int) (b : Int) (g : Bool), SOk q → l.length ≤ 8 → ∃ p, spec_DrawUpsFor.j0 (k + 1) a l b g c q.1 q.2 = some p ∧ p.2.1.length ≤ 8 := fun q a l b g hq hl => by
    rw [spec_DrawUpsFor.j0]
    exact ite_ok (fun _ => bind_ok (next_ok hc hq 900) fun r hr => bind_ok (pick_ok hc hr.1 _ (by simp)) fun t _ => ⟨_, rfl, hl⟩) (fun _ => bind_ok (next_ok hc hq 5) fun r _ => ⟨_, rfl, hl⟩)
  unfold spec_DrawUpsFor.f
  refine bind_ok (from_ok hc (by omega)) fun p hp => ?_
  rw [hp.1]
  exact bind_ok (l11Draw_ok hc hp.2 (by omega)) fun g hg => some_ok (spec_LeastRun_eq g.1 g.2.1 (k + 1) (by have := hg.2.1; omega) (by have := hg.2.1; omega)) (ite_ok (fun _ => bind_ok (next_ok hc hg.1 6) fun t ht => J _ _ _ _ _ ht.1 hg.2.1) (fun _ => J _ _ _ _ _ hg.1 hg.2.1))

theorem impl_UpsFor_eq (slots : Int) (q : List Int) (run : Int) (k : Nat) (hk : q.length < k) : impl_UpsFor.f k slots q run = some (upsFor slots q run) := by
  unfold impl_UpsFor.f upsFor
  simp only [impl_inRange_eq, impl_IsGang_eq, Option.bind_some]
  cases hg : gang slots q
  · simp
  cases hr : inR run 1 1000000
  · simp
  obtain ⟨g1, g2, g3⟩ := gang_true hg
  simp only [if_true]
  rw [impl_upsFor_eq q run k g3 (inR_true hr) (by omega) hk]
  simp only [Option.bind_some]
  rw [impl_sumOf_eq _ k (by rw [impl_upsM_len]; omega) (by rw [impl_upsM_len]; omega)]
  simp only [Option.bind_some]
  split <;> rfl

theorem spec_UpsFor_eq (slots : Int) (q : List Int) (run : Int) (k : Nat) (hl : q.length ≤ 9223372036854775806) (hk : q.length < k) : spec_UpsFor.f k slots q run = some (upsFor slots q run) := by
  unfold spec_UpsFor.f upsFor
  simp only [spec_l01In_eq, spec_l11Code_eq slots q _ k hl hk, Option.bind_some]
  cases hg : gang slots q
  · simp
  cases hr : inR run 1 1000000
  · simp
  obtain ⟨g1, g2, g3⟩ := gang_true hg
  simp only [if_true]
  rw [spec_l11For_eq q run k g3 (inR_true hr) (by omega) hk]
  simp only [Option.bind_some]
  rw [spec_l01Sum_eq _ k (by rw [upsM_len]; omega) (by rw [upsM_len]; omega)]
  simp only [Option.bind_some]
  split <;> rfl

theorem bestUps_len (slots : Int) (q : List Int) : (bestUps slots q).1.length ≤ q.length := by
  unfold bestUps
  split <;> simp [upsM]
theorem upsFor_len (slots : Int) (q : List Int) (run : Int) : (upsFor slots q run).1.length ≤ q.length := by
  unfold upsFor
  repeat' split
  all_goals simp [upsM]
theorem runs_tail (k : Nat) (hk : 100 < k) (slots : Int) (q : List Int) (hq : q.length ≤ 8) : laws_FnRuns.j3 (k + 1) slots q (bestUps slots q).1 (bestUps slots q).2 (leastRun slots q).1 = some true := by
  rw [laws_FnRuns.j3]
  cases hg : gang slots q
  · have e : bestUps slots q = ([], 1) := by unfold bestUps; rw [hg]; rfl
    rw [e]
    rfl
  · have e : bestUps slots q = (upsM q (leastM slots q), 0) := if_pos hg
    have e2 : leastRun slots q = (leastM slots q, 0) := if_pos hg
    have hl : (upsM q (leastM slots q)).length = q.length := by simp [upsM]
    obtain ⟨⟨h1, h2, h3⟩, h4⟩ := leastM_least (gang_fits hg)
    rw [e, e2]
    simp only [if_true]
    rw [impl_RunFor_eq slots q _ k (by omega) (by omega) (by omega), best_own hg, impl_UpsFor_eq slots q _ k (by omega), w64 (x := leastM slots q - 1) (by omega) (by omega)]
    simp only [Option.bind_some, if_true]
    by_cases h : leastM slots q = 1
    · rw [if_pos h]
    · rw [if_neg h, fewer hg h]
      rfl
theorem runs_loop (slots : Int) (q : List Int) (hq : q.length ≤ 8) (a : Int) (b c : List Int) (hg : gang a b = true) (hl : c.length = b.length) (hc : ∀ x ∈ c, 1 ≤ x ∧ x ≤ a) (r : Int) (hr : 1 ≤ r ∧ r ≤ 1000000) (hcov : covers b c r) : ∀ (d k i : Nat), i + d = b.length → d + 200 < k → laws_FnRuns.l0 k slots q (bestUps slots q).1 (bestUps slots q).2 (leastRun slots q).1 b c r (oversM b c r) (i : Int) = some true := by
  obtain ⟨g1, g2, g3⟩ := gang_true hg
  have hlen : (oversM b c r).length = b.length := (rd_oversM b c r 0 hl (by omega)).1
  intro d
  induction d with
  | zero =>
    intro k i h hk
    obtain ⟨k, rfl⟩ : ∃ m, k = m + 2 := ⟨k - 2, by omega⟩
    rw [laws_FnRuns.l0, if_neg (by omega)]
    exact runs_tail k (by omega) slots q hq
  | succ d ih =>
    intro k i h hk
    obtain ⟨k, rfl⟩ : ∃ m, k = m + 1 := ⟨k - 1, by omega⟩
    have hi : i < b.length := by omega
    have e := (rd_oversM b c r i hl hi).2
    have hcv := covers_rd b c i hl hi hcov
    have m1 : 1 ≤ rd b (i : Int) ∧ rd b (i : Int) ≤ 1000000 := by rw [rd_get b i hi]; exact g3 _ (List.getElem_mem hi)
    have m2 : 1 ≤ rd c (i : Int) ∧ rd c (i : Int) ≤ a := by rw [rd_get c i (by omega)]; exact hc _ (List.getElem_mem (by omega))
    have hsw := (ceil_swap m1.1 m2.1 hr.1 hcv).1
    rw [laws_FnRuns.l0, if_pos (by omega), if_pos (by omega), if_pos (by omega), if_pos (by omega), e, over_w (by omega) (by omega) m1, if_pos rfl, if_neg (by omega), w64 (x := (i : Int) + 1) (by omega) (by omega)]
    exact ih k (i + 1) (by omega) (by omega)
theorem FnRuns : laws_FnRuns.Pure := by
  intro l _ _ hb
  by_cases hbig : (l.length : Int) > 4096
  · exact ⟨1, by unfold laws_FnRuns.f; rw [laws_big_eq, decide_eq_true hbig]; rfl⟩
  have hc : Code l := ⟨fun x hx => wfByte (hb x hx), by omega⟩
  obtain ⟨⟨slots, q⟩, e1, hq⟩ := DrawBestUps_ok hc (k := 1010001) (by omega)
  obtain ⟨⟨a, b, c⟩, e2, hb2, hc2⟩ := DrawRunFor_ok hc (k := 1010001) (by omega)
  obtain ⟨⟨d, e, f⟩, e3, he⟩ := DrawUpsFor_ok hc (k := 1010001) (by omega)
  simp only at hq hb2 hc2 he
  have l1 := bestUps_len slots q
  have l2 := oversOf_len a b c
  have l3 := upsFor_len d e f
  have hgb : gang slots q = ((bestUps slots q).2 == 0) := by
    unfold bestUps
    cases gang slots q <;> rfl
  refine ⟨1010001, ?_⟩
  unfold laws_FnRuns.f
  simp only [laws_big_eq, decide_eq_false hbig, Bool.false_eq_true, if_false, Option.bind_some, e1]
  rw [impl_BestUps_eq slots q _ (by omega) (by omega), spec_BestUps_eq slots q _ (by omega) (by omega), impl_LeastRun_eq slots q _ (by omega), spec_LeastRun_eq slots q _ (by omega) (by omega)]
  simp only [Option.bind_some, e2]
  rw [impl_RunFor_eq a b c _ (by omega) (by omega) (by omega), spec_RunFor_eq a b c _ (by omega) (by omega) (by omega) (by omega), impl_OversOf_eq a b c _ (by omega) (by omega) (by omega), spec_OversOf_eq a b c _ (by omega) (by omega) (by omega) (by omega)]
  simp only [Option.bind_some, e3]
  rw [impl_UpsFor_eq d e f _ (by omega), spec_UpsFor_eq d e f _ (by omega) (by omega), impl_IsGang_eq, laws_likeInts_eq (bestUps slots q).1 _ (by omega) (by omega), laws_likeInts_eq (oversOf a b c).1 _ (by omega) (by omega)]
  simp only [Option.bind_some, if_true]
  rw [laws_likeInts_eq (upsFor d e f).1 _ (by omega) (by omega)]
  simp only [Option.bind_some, if_true]
  rw [hgb, bne_self_eq_false]
  simp only [laws_FnRuns.j0, Bool.false_eq_true, if_false]
  by_cases h0 : (runFor a b c).2 = 0
  · have hcode : upsCode a b c = 0 := by
      unfold runFor at h0
      by_cases h : upsCode a b c = 0
      · exact h
      · rw [if_neg h] at h0; exact absurd h0 h
    obtain ⟨h1, h2, h3, h4⟩ := upsCode_ok hcode
    have hr := run_enough h1 h2 h3 h4
    have er : runFor a b c = (runM b c 0, 0) := if_pos hcode
    have eo : oversOf a b c = (oversM b c (runM b c 0), 0) := if_pos hcode
    have el : leastRun a b = (leastM a b, 0) := if_pos h1
    rw [if_pos h0, impl_LeastRun_eq a b _ (by omega), er, eo, el]
    simp only [Option.bind_some, if_true]
    rw [if_neg (by omega), bne_self_eq_false]
    simp only [laws_FnRuns.j1, Bool.false_eq_true, if_false]
    exact runs_loop slots q hq a b c h1 h2 h3 (runM b c 0) hr.2 (runM_covers b c 0) b.length _ 0 (by omega) (by omega)
  · rw [if_neg h0]
    exact runs_tail _ (by omega) slots q hq

end Go.Proofs.Ytfmmpdhodkkkdaa.Pure
