/- For all arguments the law FnNested returns true, with no condition beyond the bounds that the printed statement names. -/
import Derived.Test.YtfmmpdhodkkkdaaPFnNestedx3
namespace Go.Proofs.Ytfmmpdhodkkkdaa.Pure
open Go.RowKit Go.Proofs.Ytfmmpdhodkkkdaa.PFnNested Go.Proofs.YtfmmpdhodkkkdaaW.PrintWords Go.Proofs.YtfmmpdhodkkkdaaW.PrintLast
set_option linter.unusedVariables false
set_option linter.unusedSimpArgs false

theorem w64 {x : Int} (h1 : -9223372036854775808 ≤ x) (h2 : x ≤ 9223372036854775807) : wrap64 x = x := by
  unfold wrap64; omega
theorem wf64 {x : Int} (h : (Lit.int .i64 x).wf = true) : -9223372036854775808 ≤ x ∧ x ≤ 9223372036854775807 := by
  simp [Lit.wf, IntKind.min, IntKind.max, IntKind.signed, IntKind.bits] at h
  omega
/-- 'a lies from b to c'. -/
def inR (a b c : Int) : Bool := decide (b ≤ a ∧ a ≤ c)
theorem inR_true {a b c : Int} (h : inR a b c = true) : b ≤ a ∧ a ≤ c := by simpa [inR] using h
theorem inR_mk {a b c : Int} (h1 : b ≤ a) (h2 : a ≤ c) : inR a b c = true := by simp [inR, h1, h2]
theorem inR_false {a b c : Int} (h : inR a b c = false) : a < b ∨ c < a := by
  have : ¬ (b ≤ a ∧ a ≤ c) := by simpa [inR] using h
  omega
theorem rd_nat (xs : List Int) (i : Nat) : rd xs (i : Int) = xs.getD i 0 := by simp [rd]
theorem mul_bd {a b A B : Int} (h0 : 0 ≤ a) (h1 : a ≤ A) (k0 : 0 ≤ b) (k1 : b ≤ B) : 0 ≤ a * b ∧ a * b ≤ A * B :=
  ⟨Int.mul_nonneg h0 k0, Int.mul_le_mul h1 k1 k0 (by omega)⟩
theorem tdiv_n {a b : Int} (h : 0 ≤ a) : Int.tdiv a b = a / b := Int.tdiv_eq_ediv_of_nonneg h
theorem tmod_n {a b : Int} (h : 0 ≤ a) : Int.tmod a b = a % b := Int.tmod_eq_emod_of_nonneg h
theorem mn_min (a b : Int) : mn a b = min a b := by unfold mn; split <;> omega
theorem mx_max (a b : Int) : mx a b = max a b := by unfold mx; split <;> omega

/-- A code that is drawn from. -/
def Code (c : List Int) : Prop := (∀ x ∈ c, 0 ≤ x ∧ x ≤ 255) ∧ c.length ≤ 4096
/-- Where a source stands, and its seed. -/
def SOk (q : Int × Int) : Prop := 0 ≤ q.1 ∧ 0 ≤ q.2 ∧ q.2 < 2147483647
theorem wfByte {x : Int} (h : (Lit.int .u8 x).wf = true) : 0 ≤ x ∧ x ≤ 255 := by
  simp [Lit.wf, IntKind.min, IntKind.max, IntKind.signed, IntKind.bits] at h
  omega
theorem rd_byte {c : List Int} (h : Code c) {i : Int} (h0 : 0 ≤ i) (h1 : i < c.length) : 0 ≤ rd c i ∧ rd c i ≤ 255 := by
  obtain ⟨n, rfl⟩ : ∃ n : Nat, i = n := ⟨i.toNat, by omega⟩
  have hn : n < c.length := by omega
  have e : rd c (n : Int) = c[n] := by rw [rd_nat, List.getD_eq_getElem?_getD, List.getElem?_eq_getElem hn]; rfl
  rw [e]
  exact h.1 _ (List.getElem_mem hn)
theorem bind_ok {α β : Type} {x : Option α} {P : α → Prop} {f : α → Option β} {Q : β → Prop} (h : ∃ p, x = some p ∧ P p) (hf : ∀ p, P p → ∃ r, f p = some r ∧ Q r) : ∃ r, x.bind f = some r ∧ Q r := by
  obtain ⟨p, e, hp⟩ := h
  rw [e]
  exact hf p hp
theorem ite_ok {α : Type} {c : Prop} [Decidable c] {a b : Option α} {Q : α → Prop} (h1 : c → ∃ r, a = some r ∧ Q r) (h2 : ¬ c → ∃ r, b = some r ∧ Q r) : ∃ r, (if c then a else b) = some r ∧ Q r := by
  by_cases h : c
  · rw [if_pos h]; exact h1 h
  · rw [if_neg h]; exact h2 h

def isUnit (u : Int) : Bool := u == 4 || u == 8 || u == 16 || u == 32 || u == 64 || u == 128
theorem isUnit_true {u : Int} (h : isUnit u = true) : u = 4 ∨ u = 8 ∨ u = 16 ∨ u = 32 ∨ u = 64 ∨ u = 128 := by
  simp only [isUnit, Bool.or_eq_true, beq_iff_eq] at h
  omega
def sigOf (p u g : Int) : Int × Int × Int := if (inR p 1 4096 && isUnit u && inR g 1 p) = true then ((g - 1) / u, (g - 1) % u + 1, 0) else (0, 0, 2)
def sigCount (p u : Int) : Int × Int := if (inR p 1 4096 && isUnit u) = true then ((p + u - 1) / u, 0) else (0, 2)
def four (n k : Int) : List Int := [4 * n - 2 * k, 2 * k + 1, 2 * k + 2, 4 * n - 2 * k - 1]
def nestedPages (n k : Int) : List Int × Int := if (inR n 1 64 && inR k 0 (n - 1)) = true then (four n k, 0) else ([], 2)
def sheetOf (n p : Int) : Int := (min p (4 * n + 1 - p) - 1) / 2
def placeIn (n k p : Int) : Int := if 4 * n - 2 * k = p then 0 else if 2 * k + 1 = p then 1 else if 2 * k + 2 = p then 2 else 3
def nestedPlace (n p : Int) : Int × Int × Int := if (inR n 1 64 && inR p 1 (4 * n)) = true then (sheetOf n p, placeIn n (sheetOf n p) p, 0) else (0, 0, 2)
theorem unit_bits (a : Int) (h1 : 4 ≤ a) (h2 : a ≤ 128) : ((Go.bits .and .i64 a (wrap64 (a - 1))) == 0) = isUnit a := by
  obtain ⟨n, rfl⟩ : ∃ n : Nat, a = n := ⟨a.toNat, by omega⟩
  have h : ∀ n : Nat, n < 129 → 4 ≤ n → ((Go.bits .and .i64 (n : Int) (wrap64 ((n : Int) - 1))) == 0) = isUnit n := by decide +kernel
  exact h n (by omega) (by omega)

theorem four_wrap {n k : Int} (hn : inR n 1 64 = true) (hk : inR k 0 (n - 1) = true) : [wrap64 (wrap64 (4 * n) - wrap64 (2 * k)), wrap64 (wrap64 (2 * k) + 1), wrap64 (wrap64 (2 * k) + 2), wrap64 (wrap64 (wrap64 (4 * n) - wrap64 (2 * k)) - 1)] = four n k := by
  have h1 := inR_true hn
  have h2 := inR_true hk
  rw [w64 (x := 4 * n) (by omega) (by omega), w64 (x := 2 * k) (by omega) (by omega), w64 (x := 4 * n - 2 * k) (by omega) (by omega), w64 (x := 2 * k + 1) (by omega) (by omega), w64 (x := 2 * k + 2) (by omega) (by omega), w64 (by omega) (by omega)]
  rfl

/-- The place of the first x in a list, counted from i on, or -1. -/
def idxFrom : List Int → Int → Nat → Int
  | [], _, _ => -1
  | y :: ys, x, i => if x = y then (i : Int) else idxFrom ys x (i + 1)

theorem sheet_bd {n p : Int} (hn : inR n 1 64 = true) (hp : inR p 1 (4 * n) = true) : 0 ≤ sheetOf n p ∧ sheetOf n p ≤ n - 1 ∧
    (4 * n - 2 * sheetOf n p = p ∨ 2 * sheetOf n p + 1 = p ∨ 2 * sheetOf n p + 2 = p ∨ 4 * n - 2 * sheetOf n p - 1 = p) ∧
    ∀ s, 0 ≤ s → s < sheetOf n p → 4 * n - 2 * s ≠ p ∧ 2 * s + 1 ≠ p ∧ 2 * s + 2 ≠ p ∧ 4 * n - 2 * s - 1 ≠ p := by
  have h1 := inR_true hn
  have h2 := inR_true hp
  unfold sheetOf
  refine ⟨by omega, by omega, by omega, fun s h3 h4 => ?_⟩
  omega

def partnerOf (n p : Int) : Int × Int := if (inR n 1 64 && inR p 1 (4 * n)) = true then (4 * n + 1 - p, 0) else (0, 2)

def allR (xs : List Int) (lo hi : Int) : Bool := xs.all fun x => inR x lo hi
theorem allR_mem {xs : List Int} {lo hi : Int} (h : allR xs lo hi = true) : ∀ x ∈ xs, lo ≤ x ∧ x ≤ hi := fun x hx => inR_true (List.all_eq_true.1 h x hx)
theorem drop_get (xs : List Int) (i : Nat) (hi : i < xs.length) : xs.drop i = xs[i] :: xs.drop (i + 1) := List.drop_eq_getElem_cons hi
theorem rd_get (xs : List Int) (i : Nat) (hi : i < xs.length) : rd xs (i : Int) = xs[i] := by rw [rd_nat, List.getD_eq_getElem?_getD, List.getElem?_eq_getElem hi]; rfl
/-- The sum, as the program adds it up. -/
def wsum (a : Int) (xs : List Int) : Int := xs.foldl (fun a x => wrap64 (a + x)) a
theorem wsum_cons (a x : Int) (xs : List Int) : wsum a (x :: xs) = wsum (wrap64 (a + x)) xs := rfl
theorem wsum_eq : ∀ (xs : List Int) (a : Int), (∀ x ∈ xs, 0 ≤ x ∧ x ≤ 1000000) → 0 ≤ a → a + xs.length * 1000000 ≤ 4611686018427387904 → wsum a xs = a + xs.sum ∧ 0 ≤ xs.sum ∧ xs.sum ≤ xs.length * 1000000
  | [], a, _, h0, _ => ⟨by simp [wsum], by simp, by simp⟩
  | x :: xs, a, h, h0, hb => by
    have hx := h x (by simp)
    simp only [List.length_cons] at hb ⊢
    obtain ⟨e, l, u⟩ := wsum_eq xs (a + x) (fun y hy => h y (by simp [hy])) (by omega) (by omega)
    rw [wsum_cons, w64 (by omega) (by omega), e, List.sum_cons]
    exact ⟨by omega, by omega, by omega⟩

theorem laws_big_eq (l : List Int) : laws_big.f l = some (decide ((l.length : Int) > 4096)) := rfl

theorem spec_l01From_l0 (c : List Int) (hc : Code c) : ∀ (d k i : Nat) (l : List Int) (a s : Int), i + d = c.length → d < k → 0 ≤ a → 0 ≤ s → s < 2147483647 → ∃ q, spec_l01From.l0 k c (i : Int) l a s = some (l, q) ∧ SOk q := by
  intro d
  have hl := hc.2
  induction d with
  | zero =>
    intro k i l a s h hk ha h0 h1
    obtain ⟨k, rfl⟩ : ∃ m, k = m + 1 := ⟨k - 1, by omega⟩
    rw [spec_l01From.l0, if_neg (by omega)]
    exact ⟨(a, s), rfl, ha, h0, h1⟩
  | succ d ih =>
    intro k i l a s h hk ha h0 h1
    obtain ⟨k, rfl⟩ : ∃ m, k = m + 1 := ⟨k - 1, by omega⟩
    rw [spec_l01From.l0, if_pos (by omega)]
    by_cases h64 : (i : Int) < 64
    · have hb := rd_byte hc (i := (i : Int)) (by omega) (by omega)
      rw [if_pos h64, if_pos (by omega), w64 (x := (i : Int) + 1) (by omega) (by omega), w64 (x := rd c (i : Int)) (by omega) (by omega), w64 (x := s * 71) (by omega) (by omega), w64 (x := s * 71 + rd c (i : Int)) (by omega) (by omega), tmod_n (by omega)]
      exact ih k (i + 1) l a _ (by omega) (by omega) ha (by omega) (by omega)
    · rw [if_neg h64]
      exact ⟨(a, s), rfl, ha, h0, h1⟩
theorem from_ok {c : List Int} (hc : Code c) {k : Nat} (hk : c.length < k) : ∃ p, spec_l01From.f k c = some p ∧ p.1 = c ∧ SOk p.2 := by
  obtain ⟨q, e, h⟩ := spec_l01From_l0 c hc c.length k 0 c 0 88007 (by omega) hk (by omega) (by omega) (by omega)
  exact ⟨(c, q), e, rfl, h⟩

theorem next_ok {c : List Int} (hc : Code c) {q : Int × Int} (hq : SOk q) (n : Int) : ∃ p, spec_l01Next.f c q.1 q.2 n = some p ∧ SOk p.2 ∧ 0 ≤ p.1 ∧ (p.1 < n ∨ p.1 = 0) := by
  obtain ⟨a, s⟩ := q
  obtain ⟨ha, h0, h1⟩ := hq
  have hl := hc.2
  simp only at ha h0 h1
  unfold spec_l01Next.f
  simp only
  by_cases hn : n ≤ 1
  · rw [if_pos hn]
    exact ⟨_, rfl, ⟨ha, h0, h1⟩, by simp, .inr rfl⟩
  rw [if_neg hn, w64 (x := s * 48271) (by omega) (by omega), w64 (x := s * 48271 + 61) (by omega) (by omega), tmod_n (a := s * 48271 + 61) (by omega)]
  have hS : 0 ≤ (s * 48271 + 61) % 2147483647 ∧ (s * 48271 + 61) % 2147483647 < 2147483647 := by omega
  generalize (s * 48271 + 61) % 2147483647 = S at hS
  rw [tdiv_n (a := S) (by omega)]
  have hm : ∀ x : Int, 0 ≤ x → 0 ≤ Int.tmod x n ∧ Int.tmod x n < n := fun x hx => by
    rw [tmod_n hx]
    exact ⟨Int.emod_nonneg _ (by omega), Int.emod_lt_of_pos _ (by omega)⟩
  by_cases hlt : a < (c.length : Int)
  · have hb := rd_byte hc ha hlt
    rw [if_pos hlt, if_pos ha, w64 (x := a + 1) (by omega) (by omega), w64 (x := a + 1 - 1) (by omega) (by omega), show a + 1 - 1 = a by omega, w64 (x := rd c a) (by omega) (by omega), w64 (x := S / 31) (by omega) (by omega), w64 (x := S / 31 + rd c a) (by omega) (by omega)]
    have g1 := hm (rd c a) hb.1
    have g2 := hm (S / 31 + rd c a) (by omega)
    split
    · split
      · rw [if_neg (by omega)]
        exact ⟨_, rfl, ⟨by simp only; omega, hS.1, hS.2⟩, g1.1, .inl g1.2⟩
      · rw [if_neg (by omega)]
        exact ⟨_, rfl, ⟨by simp only; omega, hS.1, hS.2⟩, g2.1, .inl g2.2⟩
    · rw [if_neg (by omega)]
      exact ⟨_, rfl, ⟨by simp only; omega, hS.1, hS.2⟩, g2.1, .inl g2.2⟩
  · have g3 := hm (S / 31) (by omega)
    rw [if_neg hlt, if_neg (by omega), w64 (x := S / 31) (by omega) (by omega)]
    exact ⟨_, rfl, ⟨ha, hS.1, hS.2⟩, g3.1, .inl g3.2⟩

theorem pick_ok {c : List Int} (hc : Code c) {q : Int × Int} (hq : SOk q) (l : List Int) (hl : 0 < l.length) : ∃ p, spec_l01Pick.f c q.1 q.2 l = some p ∧ SOk p.2 ∧ p.1 ∈ l := by
  unfold spec_l01Pick.f
  obtain ⟨p, e, h1, h2, h3⟩ := next_ok hc hq (l.length : Int)
  rw [e]
  simp only [Option.bind_some]
  have h4 : p.1 < (l.length : Int) := by omega
  rw [if_pos h2, if_pos h4]
  refine ⟨_, rfl, h1, ?_⟩
  simp only
  obtain ⟨n, hn⟩ : ∃ n : Nat, p.1 = n := ⟨p.1.toNat, by omega⟩
  have hn2 : n < l.length := by omega
  have e2 : rd l (n : Int) = l[n] := by rw [rd_nat, List.getD_eq_getElem?_getD, List.getElem?_eq_getElem hn2]; rfl
  rw [hn, e2]
  exact List.getElem_mem hn2

theorem l06DrawNest_ok {c : List Int} (hc : Code c) {q : Int × Int} (hq : SOk q) : ∃ p, spec_l06DrawNest.f c q.1 q.2 = some p ∧ SOk p.2 := by
  unfold spec_l06DrawNest.f
  exact bind_ok (next_ok hc hq 24) fun p hp => ite_ok (fun _ => bind_ok (pick_ok hc hp.1 _ (by simp)) fun r hr => ⟨_, rfl, hr.1⟩) (fun _ => bind_ok (next_ok hc hp.1 20) fun r hr => ⟨_, rfl, hr.1⟩)

theorem DrawNestedPages_ok {c : List Int} (hc : Code c) {k : Nat} (hk : c.length < k) : ∃ p, spec_DrawNestedPages.f k c = some p ∧ True := by
  unfold spec_DrawNestedPages.f
  refine bind_ok (from_ok hc hk) fun p hp => ?_
  rw [hp.1]
  exact bind_ok (l06DrawNest_ok hc hp.2) fun n hn => bind_ok (next_ok hc hn 20) fun r hr => ite_ok (fun _ => bind_ok (pick_ok hc hr.1 _ (by simp)) fun t _ => ⟨_, rfl, trivial⟩) (fun _ => bind_ok (next_ok hc hr.1 _) fun t _ => ⟨_, rfl, trivial⟩)

theorem impl_inRange_eq (a b c : Int) : impl_inRange.f a b c = some (inR a b c) := by
  unfold impl_inRange.f inR
  by_cases h : b ≤ a
  · rw [if_pos h]; simp [h]
  · rw [if_neg h]; simp [h]

theorem impl_isNest_eq (a : Int) : impl_isNest.f a = some (inR a 1 64) := by
  unfold impl_isNest.f; rw [impl_inRange_eq]; rfl

theorem impl_nestedPages_eq (n k : Int) (hn : inR n 1 64 = true) (hk : inR k 0 (n - 1) = true) : impl_nestedPages.f n k = some (four n k) := by
  unfold impl_nestedPages.f; rw [four_wrap hn hk]

theorem impl_NestedPages_eq (n k : Int) : impl_NestedPages.f n k = some (nestedPages n k) := by
  unfold impl_NestedPages.f nestedPages
  simp only [impl_isNest_eq, impl_inRange_eq, Option.bind_some]
  cases hn : inR n 1 64
  · simp
  have h1 := inR_true hn
  rw [w64 (x := n - 1) (by omega) (by omega)]
  cases hk : inR k 0 (n - 1)
  · simp
  simp only [Bool.and_self, if_true, impl_nestedPages_eq n k hn hk, Option.bind_some]

theorem spec_l01In_eq (a b c : Int) : spec_l01In.f a b c = some (inR a b c) := by
  unfold spec_l01In.f inR
  by_cases h : a ≥ b
  · rw [if_pos h]; simp [show b ≤ a from h]
  · rw [if_neg h]; simp [show ¬ b ≤ a from h]

theorem spec_l06Four_eq (n k : Int) (hn : inR n 1 64 = true) (hk : inR k 0 (n - 1) = true) : spec_l06Four.f n k = some (four n k) := by
  unfold spec_l06Four.f; rw [four_wrap hn hk]

theorem spec_NestedPages_eq (n k : Int) : spec_NestedPages.f n k = some (nestedPages n k) := by
  unfold spec_NestedPages.f nestedPages
  simp only [spec_l01In_eq, Option.bind_some]
  cases hn : inR n 1 64
  · simp
  have h1 := inR_true hn
  rw [w64 (x := n - 1) (by omega) (by omega)]
  cases hk : inR k 0 (n - 1)
  · simp
  simp only [Bool.and_self, if_true, spec_l06Four_eq n k hn hk, Option.bind_some]

theorem DrawNestedPlace_ok {c : List Int} (hc : Code c) {k : Nat} (hk : c.length < k) : ∃ p, spec_DrawNestedPlace.f k c = some p ∧ True := by
  unfold spec_DrawNestedPlace.f
  refine bind_ok (from_ok hc hk) fun p hp => ?_
  rw [hp.1]
  exact bind_ok (l06DrawNest_ok hc hp.2) fun n hn => bind_ok (next_ok hc hn 20) fun r hr => ite_ok (fun _ => bind_ok (pick_ok hc hr.1 _ (by simp)) fun t _ => ⟨_, rfl, trivial⟩) (fun _ => bind_ok (next_ok hc hr.1 _) fun t _ => ⟨_, rfl, trivial⟩)

theorem slices_Index_int64_int64_l0 (xs : List Int) (x : Int) (hl : xs.length ≤ 9223372036854775806) : ∀ (d k i : Nat), i + d = xs.length → d < k → slices_Index_int64_int64.l0 k xs x (xs.length : Int) (i : Int) = some (idxFrom (xs.drop i) x i) := by
  intro d
  induction d with
  | zero =>
    intro k i h hk
    obtain ⟨k, rfl⟩ : ∃ m, k = m + 1 := ⟨k - 1, by omega⟩
    rw [slices_Index_int64_int64.l0, if_neg (by omega), List.drop_of_length_le (by omega)]
    rfl
  | succ d ih =>
    intro k i h hk
    obtain ⟨k, rfl⟩ : ∃ m, k = m + 1 := ⟨k - 1, by omega⟩
    have hi : i < xs.length := by omega
    have e : xs.drop i = xs[i] :: xs.drop (i + 1) := List.drop_eq_getElem_cons hi
    have e2 : xs.getD i 0 = xs[i] := by simp [List.getD_eq_getElem?_getD, List.getElem?_eq_getElem hi]
    have e3 := ih k (i + 1) (by omega) (by omega)
    rw [slices_Index_int64_int64.l0, if_pos (by omega), if_pos (by omega), if_pos (by omega), rd_nat, e2, e, idxFrom]
    by_cases hx : x = xs[i]
    · rw [if_pos hx, if_pos hx]
    · rw [if_neg hx, if_neg hx, w64 (by omega) (by omega)]
      exact e3
theorem slices_Index_int64_int64_eq (xs : List Int) (x : Int) (k : Nat) (hl : xs.length ≤ 9223372036854775806) (hk : xs.length < k) : slices_Index_int64_int64.f k xs x = some (idxFrom xs x 0) := by
  unfold slices_Index_int64_int64.f
  exact slices_Index_int64_int64_l0 xs x hl xs.length k 0 (by omega) hk

theorem impl_NestedPlace_eq (k : Nat) (n p : Int) (hk : 6 < k) : impl_NestedPlace.f k n p = some (nestedPlace n p) := by
  obtain ⟨k, rfl⟩ : ∃ m, k = m + 1 := ⟨k - 1, by omega⟩
  unfold impl_NestedPlace.f nestedPlace
  simp only [impl_isNest_eq, impl_inRange_eq, Option.bind_some]
  cases hn : inR n 1 64
  · simp [impl_NestedPlace.j0]
  have h1 := inR_true hn
  rw [w64 (x := 4 * n) (by omega) (by omega)]
  cases hp : inR p 1 (4 * n)
  · simp [impl_NestedPlace.j0]
  have h2 := inR_true hp
  obtain ⟨b0, b1, b2, _⟩ := sheet_bd hn hp
  have hk2 : inR (sheetOf n p) 0 (n - 1) = true := inR_mk b0 b1
  have e : wrap64 (Int.tdiv (wrap64 (mn p (wrap64 (wrap64 (wrap64 (4 * n) + 1) - p)) - 1)) 2) = sheetOf n p := by
    unfold sheetOf
    rw [w64 (x := 4 * n) (by omega) (by omega), w64 (x := 4 * n + 1) (by omega) (by omega), w64 (x := 4 * n + 1 - p) (by omega) (by omega), mn_min, w64 (x := min p (4 * n + 1 - p) - 1) (by omega) (by omega), tdiv_n (by omega), w64 (by omega) (by omega)]
  simp only [if_true, Bool.not_true, impl_NestedPlace.j0, Bool.false_eq_true, if_false, Bool.and_self, e, impl_nestedPages_eq n _ hn hk2, Option.bind_some]
  rw [slices_Index_int64_int64_eq _ _ _ (by show (4 : Nat) ≤ 9223372036854775806; omega) (by show (4 : Nat) < k; omega)]
  simp only [Option.bind_some, four, idxFrom, placeIn]
  have e2 : idxFrom [4 * n - 2 * sheetOf n p, 2 * sheetOf n p + 1, 2 * sheetOf n p + 2, 4 * n - 2 * sheetOf n p - 1] p 0 = placeIn n (sheetOf n p) p := by
    simp only [idxFrom, placeIn]
    repeat' split
    all_goals first | rfl | (exfalso; omega)
  simp only [idxFrom, placeIn] at e2
  rw [e2]

theorem spec_NestedPlace_l1 (k : Nat) (n p s : Int) : spec_NestedPlace.l1 (k + 5) n p s (four n s) 0 =
    if 4 * n - 2 * s = p then some (s, 0, 0) else if 2 * s + 1 = p then some (s, 1, 0) else if 2 * s + 2 = p then some (s, 2, 0) else if 4 * n - 2 * s - 1 = p then some (s, 3, 0) else spec_NestedPlace.l0 k n p (wrap64 (s + 1)) := by
  have w1 : wrap64 (0 + 1) = 1 := by unfold wrap64; omega
  have w2 : wrap64 (1 + 1) = 2 := by unfold wrap64; omega
  have w3 : wrap64 (2 + 1) = 3 := by unfold wrap64; omega
  have w4 : wrap64 (3 + 1) = 4 := by unfold wrap64; omega
  have r0 : rd (four n s) 0 = 4 * n - 2 * s := rfl
  have r1 : rd (four n s) 1 = 2 * s + 1 := rfl
  have r2 : rd (four n s) 2 = 2 * s + 2 := rfl
  have r3 : rd (four n s) 3 = 4 * n - 2 * s - 1 := rfl
  have hl : ((four n s).length : Int) = 4 := rfl
  have step : ∀ (k : Nat) (j : Int), 0 ≤ j → j < 4 → spec_NestedPlace.l1 (k + 1) n p s (four n s) j = if rd (four n s) j = p then some (s, j, 0) else spec_NestedPlace.l1 k n p s (four n s) (wrap64 (j + 1)) := by
    intro k j h0 h1
    rw [spec_NestedPlace.l1, if_pos h1, if_pos h0, if_pos (by omega)]
  rw [step _ 0 (by omega) (by omega), r0, w1, step _ 1 (by omega) (by omega), r1, w2, step _ 2 (by omega) (by omega), r2, w3, step _ 3 (by omega) (by omega), r3, w4]
  have last : spec_NestedPlace.l1 (k + 1) n p s (four n s) 4 = spec_NestedPlace.l0 k n p (wrap64 (s + 1)) := by
    rw [spec_NestedPlace.l1, if_neg (by omega)]
  rw [last]
theorem spec_NestedPlace_l0 (n p : Int) (hn : inR n 1 64 = true) (hp : inR p 1 (4 * n) = true) : ∀ (d k : Nat) (i : Int), 0 ≤ i → i + d = sheetOf n p → 6 * d + 7 ≤ k → spec_NestedPlace.l0 k n p i = some (sheetOf n p, placeIn n (sheetOf n p) p, 0) := by
  have h1 := inR_true hn
  obtain ⟨b0, b1, b2, b3⟩ := sheet_bd hn hp
  intro d
  induction d with
  | zero =>
    intro k i h0 h hk
    obtain ⟨k, rfl⟩ : ∃ m, k = m + 5 + 1 := ⟨k - 6, by omega⟩
    have e : i = sheetOf n p := by omega
    subst e
    rw [spec_NestedPlace.l0, if_pos (by omega), spec_l06Four_eq n _ hn (inR_mk b0 b1)]
    simp only [Option.bind_some, spec_NestedPlace_l1, placeIn]
    repeat' split
    all_goals first | rfl | (exfalso; omega)
  | succ d ih =>
    intro k i h0 h hk
    obtain ⟨k, rfl⟩ : ∃ m, k = m + 5 + 1 := ⟨k - 6, by omega⟩
    obtain ⟨c1, c2, c3, c4⟩ := b3 i h0 (by omega)
    rw [spec_NestedPlace.l0, if_pos (by omega), spec_l06Four_eq n _ hn (inR_mk h0 (by omega))]
    simp only [Option.bind_some, spec_NestedPlace_l1]
    rw [if_neg c1, if_neg c2, if_neg c3, if_neg c4, w64 (by omega) (by omega)]
    exact ih k (i + 1) (by omega) (by omega) (by omega)
theorem spec_NestedPlace_eq (k : Nat) (n p : Int) (hk : 400 < k) : spec_NestedPlace.f k n p = some (nestedPlace n p) := by
  obtain ⟨k, rfl⟩ : ∃ m, k = m + 1 := ⟨k - 1, by omega⟩
  unfold spec_NestedPlace.f nestedPlace
  simp only [spec_l01In_eq, Option.bind_some]
  cases hn : inR n 1 64
  · simp [spec_NestedPlace.j0]
  have h1 := inR_true hn
  rw [w64 (x := 4 * n) (by omega) (by omega)]
  cases hp : inR p 1 (4 * n)
  · simp [spec_NestedPlace.j0]
  obtain ⟨b0, b1, b2, b3⟩ := sheet_bd hn hp
  simp only [if_true, Bool.not_true, spec_NestedPlace.j0, Bool.false_eq_true, if_false, Bool.and_self]
  exact spec_NestedPlace_l0 n p hn hp (sheetOf n p).toNat k 0 (by omega) (by omega) (by omega)

theorem impl_PartnerOf_eq (n p : Int) : impl_PartnerOf.f n p = some (partnerOf n p) := by
  unfold impl_PartnerOf.f partnerOf
  simp only [impl_isNest_eq, impl_inRange_eq, Option.bind_some]
  cases hn : inR n 1 64
  · simp
  · have h1 := inR_true hn
    rw [w64 (x := 4 * n) (by omega) (by omega), w64 (x := 4 * n + 1) (by omega) (by omega)]
    cases hp : inR p 1 (4 * n)
    · simp
    · have h2 := inR_true hp
      rw [w64 (by omega) (by omega)]
      simp

theorem spec_PartnerOf_eq (n p : Int) : spec_PartnerOf.f n p = some (partnerOf n p) := by
  unfold spec_PartnerOf.f partnerOf
  simp only [spec_l01In_eq, Option.bind_some]
  cases hn : inR n 1 64
  · simp
  · have h1 := inR_true hn
    rw [w64 (x := 4 * n) (by omega) (by omega), w64 (x := 4 * n + 1) (by omega) (by omega)]
    cases hp : inR p 1 (4 * n)
    · simp
    · have h2 := inR_true hp
      rw [w64 (by omega) (by omega)]
      simp

theorem laws_likeInts_l0 (l : List Int) (hl : l.length ≤ 9223372036854775806) : ∀ (d k i : Nat), i + d = l.length → d < k → laws_likeInts.l0 k l l (i : Int) = some true := by
  intro d
  induction d with
  | zero =>
    intro k i h hk
    obtain ⟨k, rfl⟩ : ∃ m, k = m + 1 := ⟨k - 1, by omega⟩
    rw [laws_likeInts.l0, if_neg (by omega)]
  | succ d ih =>
    intro k i h hk
    obtain ⟨k, rfl⟩ : ∃ m, k = m + 1 := ⟨k - 1, by omega⟩
    rw [laws_likeInts.l0, if_pos (by omega), if_pos (by omega), if_pos (by omega), if_pos rfl, w64 (x := (i : Int) + 1) (by omega) (by omega)]
    exact ih k (i + 1) (by omega) (by omega)
theorem laws_likeInts_eq (l : List Int) (k : Nat) (hl : l.length ≤ 9223372036854775806) (hk : l.length < k) : laws_likeInts.f k l l = some true := by
  unfold laws_likeInts.f
  rw [if_pos rfl]
  exact laws_likeInts_l0 l hl l.length k 0 (by omega) hk

theorem nested_tail (n q : Int) : (if (nestedPages n q).2 = 0 then (if ((nestedPages n q).1.length : Int) = 4 then (if 0 < ((nestedPages n q).1.length : Int) then (if 1 < ((nestedPages n q).1.length : Int) then (if (wrap64 ((rd (nestedPages n q).1 0) + (rd (nestedPages n q).1 1))) = (wrap64 ((wrap64 (4 * n)) + 1)) then (if 2 < ((nestedPages n q).1.length : Int) then (if 3 < ((nestedPages n q).1.length : Int) then (some ((wrap64 ((rd (nestedPages n q).1 2) + (rd (nestedPages n q).1 3))) == (wrap64 ((wrap64 (4 * n)) + 1)))) else (none)) else (none)) else (some false)) else (none)) else (none)) else (some false)) else (some true)) = some true := by
  unfold nestedPages
  split
  · rename_i h
    have e0 : rd (four n q) 0 = 4 * n - 2 * q := rfl
    have e1 : rd (four n q) 1 = 2 * q + 1 := rfl
    have e2 : rd (four n q) 2 = 2 * q + 2 := rfl
    have e3 : rd (four n q) 3 = 4 * n - 2 * q - 1 := rfl
    have el : ((four n q).length : Int) = 4 := rfl
    simp only [Bool.and_eq_true] at h
    have h1 := inR_true h.1
    have h2 := inR_true h.2
    simp only [el, e0, e1, e2, e3, if_true, show (0 : Int) < 4 from by decide, show (1 : Int) < 4 from by decide, show (2 : Int) < 4 from by decide, show (3 : Int) < 4 from by decide]
    rw [w64 (x := 4 * n) (by omega) (by omega), w64 (x := 4 * n + 1) (by omega) (by omega), w64 (x := 4 * n - 2 * q + (2 * q + 1)) (by omega) (by omega), w64 (x := 2 * q + 2 + (4 * n - 2 * q - 1)) (by omega) (by omega), if_pos (by omega)]
    have e : 2 * q + 2 + (4 * n - 2 * q - 1) = 4 * n + 1 := by omega
    rw [e]
    simp
  · rw [if_neg (by simp)]
theorem nestedPages_len (n q : Int) : (nestedPages n q).1.length ≤ 4 := by
  unfold nestedPages
  split <;> simp [four]
theorem FnNested : laws_FnNested.Pure := by
  intro l _ _ hb
  by_cases hbig : (l.length : Int) > 4096
  · exact ⟨1, by unfold laws_FnNested.f; rw [laws_big_eq, decide_eq_true hbig]; rfl⟩
  have hc : Code l := ⟨fun x hx => wfByte (hb x hx), by omega⟩
  obtain ⟨⟨n, q⟩, e1, _⟩ := DrawNestedPages_ok hc (k := 5001) (by omega)
  obtain ⟨⟨m, p⟩, e2, _⟩ := DrawNestedPlace_ok hc (k := 5001) (by omega)
  have hl := nestedPages_len n q
  refine ⟨5001, ?_⟩
  unfold laws_FnNested.f
  simp (disch := omega) only [laws_big_eq, decide_eq_false hbig, Bool.false_eq_true, if_false, Option.bind_some, e1, e2, impl_NestedPages_eq, spec_NestedPages_eq, impl_NestedPlace_eq, spec_NestedPlace_eq, impl_PartnerOf_eq, spec_PartnerOf_eq, laws_likeInts_eq, if_true, bne_self_eq_false]
  simp only [laws_FnNested.j0, Bool.false_eq_true, if_false]
  by_cases hok : (inR m 1 64 && inR p 1 (4 * m)) = true
  · have e3 : nestedPlace m p = (sheetOf m p, placeIn m (sheetOf m p) p, 0) := if_pos hok
    have e4 : partnerOf m p = (4 * m + 1 - p, 0) := if_pos hok
    simp only [Bool.and_eq_true] at hok
    have h1 := inR_true hok.1
    have h2 := inR_true hok.2
    have hp' : inR (4 * m + 1 - p) 1 (4 * m) = true := inR_mk (by omega) (by omega)
    have e5 : nestedPlace m (4 * m + 1 - p) = (sheetOf m (4 * m + 1 - p), placeIn m (sheetOf m (4 * m + 1 - p)) (4 * m + 1 - p), 0) := if_pos (by rw [hok.1, hp']; rfl)
    have hs := sheet_bd hok.1 hok.2
    have es : sheetOf m (4 * m + 1 - p) = sheetOf m p := by unfold sheetOf; omega
    have e6 : nestedPages m (sheetOf m p) = (four m (sheetOf m p), 0) := if_pos (by rw [hok.1, inR_mk hs.1 hs.2.1]; rfl)
    rw [e3, e4]
    rw [impl_NestedPages_eq, impl_NestedPlace_eq _ _ _ (by omega), e5, e6]
    simp only [Option.bind_some, es, if_true]
    have el : ((four m (sheetOf m p)).length : Int) = 4 := rfl
    have hi : 0 ≤ placeIn m (sheetOf m p) p ∧ placeIn m (sheetOf m p) p ≤ 3 := by unfold placeIn; omega
    have hr : rd (four m (sheetOf m p)) (placeIn m (sheetOf m p) p) = p := by
      unfold placeIn
      have r0 : rd (four m (sheetOf m p)) 0 = 4 * m - 2 * sheetOf m p := rfl
      have r1 : rd (four m (sheetOf m p)) 1 = 2 * sheetOf m p + 1 := rfl
      have r2 : rd (four m (sheetOf m p)) 2 = 2 * sheetOf m p + 2 := rfl
      have r3 : rd (four m (sheetOf m p)) 3 = 4 * m - 2 * sheetOf m p - 1 := rfl
      split
      · rw [r0]; assumption
      · split
        · rw [r1]; assumption
        · split
          · rw [r2]; assumption
          · rw [r3]; omega
    have hd : placeIn m (sheetOf m p) (4 * m + 1 - p) / 2 = placeIn m (sheetOf m p) p / 2 ∧ placeIn m (sheetOf m p) (4 * m + 1 - p) ≠ placeIn m (sheetOf m p) p ∧ 0 ≤ placeIn m (sheetOf m p) (4 * m + 1 - p) ∧ placeIn m (sheetOf m p) (4 * m + 1 - p) ≤ 3 := by
      unfold placeIn
      omega
    rw [if_pos el, if_pos hi.1, el, if_pos (by omega), if_pos hr, tdiv_n hd.2.2.1, tdiv_n hi.1, w64 (x := placeIn m (sheetOf m p) p / 2) (by omega) (by omega), w64 (x := placeIn m (sheetOf m p) (4 * m + 1 - p) / 2) (by omega) (by omega), if_pos hd.1, if_neg hd.2.1, w64 (x := 4 * m) (by omega) (by omega), w64 (x := 4 * m + 1) (by omega) (by omega), w64 (x := 4 * m + 1 - p + p) (by omega) (by omega), if_pos (by omega)]
    exact nested_tail n q
  · have e3 : nestedPlace m p = (0, 0, 2) := if_neg hok
    rw [e3]
    simp only
    rw [if_neg (by decide)]
    exact nested_tail n q

end Go.Proofs.Ytfmmpdhodkkkdaa.Pure
