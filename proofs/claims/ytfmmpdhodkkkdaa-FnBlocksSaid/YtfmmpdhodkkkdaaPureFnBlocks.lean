/- For all arguments the law FnBlocks returns true, with no condition beyond the bounds that the printed statement names. -/
import Derived.Test.YtfmmpdhodkkkdaaPFnBlocksx3
namespace Go.Proofs.Ytfmmpdhodkkkdaa.Pure
open Go.RowKit Go.Proofs.Ytfmmpdhodkkkdaa.PFnBlocks Go.Proofs.YtfmmpdhodkkkdaaW.PrintWords Go.Proofs.YtfmmpdhodkkkdaaW.PrintLast
set_option linter.unusedVariables false
set_option linter.unusedSimpArgs false

theorem w64 {x : Int} (h1 : -9223372036854775808 ≤ x) (h2 : x ≤ 9223372036854775807) : wrap64 x = x := by
  unfold wrap64; omega
theorem wf64 {x : Int} (h : (Lit.int .i64 x).wf = true) : -9223372036854775808 ≤ x ∧ x ≤ 9223372036854775807 := by
  simp [Lit.wf, IntKind.min, IntKind.max, IntKind.signed, IntKind.bits] at h
  omega
/-- 'a lies from b to c'. -/
def inR (a b c : Int) : Bool := decide (b ≤ a ∧ a ≤ c)
theorem inR_true {a b c : Int} (h : inR a b c = true) : b ≤ a ∧ a ≤ c := by simpa [inR] using h
theorem inR_mk {a b c : Int} (h1 : b ≤ a) (h2 : a ≤ c) : inR a b c = true := by simp [inR, h1, h2]
theorem inR_false {a b c : Int} (h : inR a b c = false) : a < b ∨ c < a := by
  have : ¬ (b ≤ a ∧ a ≤ c) := by simpa [inR] using h
  omega
theorem rd_nat (xs : List Int) (i : Nat) : rd xs (i : Int) = xs.getD i 0 := by simp [rd]
theorem mul_bd {a b A B : Int} (h0 : 0 ≤ a) (h1 : a ≤ A) (k0 : 0 ≤ b) (k1 : b ≤ B) : 0 ≤ a * b ∧ a * b ≤ A * B :=
  ⟨Int.mul_nonneg h0 k0, Int.mul_le_mul h1 k1 k0 (by omega)⟩
theorem tdiv_n {a b : Int} (h : 0 ≤ a) : Int.tdiv a b = a / b := Int.tdiv_eq_ediv_of_nonneg h
theorem tmod_n {a b : Int} (h : 0 ≤ a) : Int.tmod a b = a % b := Int.tmod_eq_emod_of_nonneg h
theorem mn_min (a b : Int) : mn a b = min a b := by unfold mn; split <;> omega
theorem mx_max (a b : Int) : mx a b = max a b := by unfold mx; split <;> omega

def creepOf (n k t : Int) : Int × Int := if (inR n 1 64 && inR k 0 (n - 1) && inR t 1 2000) = true then (k * t, 0) else (0, 2)
def trimLoss (n t : Int) : Int × Int := if (inR n 1 64 && inR t 1 2000) = true then ((n - 1) * t, 0) else (0, 2)
def mostNested (t l : Int) : Int × Int := if (inR t 1 2000 && inR l 0 1000000000) = true then (min 64 (l / t + 1), 0) else (0, 2)
def blockT (p t : Int) : Int × Int := if (inR p 1 4096 && inR t 1 2000) = true then ((p + 1) / 2 * t, 0) else (0, 2)
def spineW (p t g : Int) : Int × Int := if (inR p 1 4096 && inR t 1 2000 && inR g 0 2000) = true then (((p + 1) / 2 * t + g + 99) / 100, 0) else (0, 2)
theorem block_bd {p t : Int} (hp : inR p 1 4096 = true) (ht : inR t 1 2000 = true) : 0 ≤ (p + 1) / 2 * t ∧ (p + 1) / 2 * t ≤ 4096000 := by
  have h1 := inR_true hp
  have h2 := inR_true ht
  exact mul_bd (A := 2048) (B := 2000) (by omega) (by omega) (by omega) (by omega)
theorem block_wrap {p t : Int} (hp : inR p 1 4096 = true) (ht : inR t 1 2000 = true) : wrap64 (wrap64 (Int.tdiv (wrap64 (p + 1)) 2) * t) = (p + 1) / 2 * t := by
  have h1 := inR_true hp
  have h3 := block_bd hp ht
  rw [w64 (x := p + 1) (by omega) (by omega), tdiv_n (by omega), w64 (x := (p + 1) / 2) (by omega) (by omega), w64 (by omega) (by omega)]

/-- A code that is drawn from. -/
def Code (c : List Int) : Prop := (∀ x ∈ c, 0 ≤ x ∧ x ≤ 255) ∧ c.length ≤ 4096
/-- Where a source stands, and its seed. -/
def SOk (q : Int × Int) : Prop := 0 ≤ q.1 ∧ 0 ≤ q.2 ∧ q.2 < 2147483647
theorem wfByte {x : Int} (h : (Lit.int .u8 x).wf = true) : 0 ≤ x ∧ x ≤ 255 := by
  simp [Lit.wf, IntKind.min, IntKind.max, IntKind.signed, IntKind.bits] at h
  omega
theorem rd_byte {c : List Int} (h : Code c) {i : Int} (h0 : 0 ≤ i) (h1 : i < c.length) : 0 ≤ rd c i ∧ rd c i ≤ 255 := by
  obtain ⟨n, rfl⟩ : ∃ n : Nat, i = n := ⟨i.toNat, by omega⟩
  have hn : n < c.length := by omega
  have e : rd c (n : Int) = c[n] := by rw [rd_nat, List.getD_eq_getElem?_getD, List.getElem?_eq_getElem hn]; rfl
  rw [e]
  exact h.1 _ (List.getElem_mem hn)
theorem bind_ok {α β : Type} {x : Option α} {P : α → Prop} {f : α → Option β} {Q : β → Prop} (h : ∃ p, x = some p ∧ P p) (hf : ∀ p, P p → ∃ r, f p = some r ∧ Q r) : ∃ r, x.bind f = some r ∧ Q r := by
  obtain ⟨p, e, hp⟩ := h
  rw [e]
  exact hf p hp
theorem ite_ok {α : Type} {c : Prop} [Decidable c] {a b : Option α} {Q : α → Prop} (h1 : c → ∃ r, a = some r ∧ Q r) (h2 : ¬ c → ∃ r, b = some r ∧ Q r) : ∃ r, (if c then a else b) = some r ∧ Q r := by
  by_cases h : c
  · rw [if_pos h]; exact h1 h
  · rw [if_neg h]; exact h2 h
theorem some_ok {α β : Type} {x : Option α} {v : α} {f : α → Option β} {Q : β → Prop} (h : x = some v) (hf : ∃ r, f v = some r ∧ Q r) : ∃ r, x.bind f = some r ∧ Q r := by
  rw [h]
  exact hf

/-- The least and the greatest thickness with a width, from t on, d of them; lo 0: none yet. -/
def thr (p b : Int) : Nat → Int → Int → Int → Int × Int × Int
  | 0, lo, hi, _ => if lo = 0 then (0, 0, 4) else (lo, hi, 0)
  | d + 1, lo, hi, t => if ((p + 1) / 2 * t + 99) / 100 = b then (if lo = 0 then thr p b d t t (t + 1) else thr p b d lo t (t + 1)) else thr p b d lo hi (t + 1)
def thickRange (p b : Int) : Int × Int × Int := if (inR p 1 4096 && inR b 0 1000000000) = true then thr p b 2000 0 0 1 else (0, 0, 2)

def wid (p t : Int) : Int := ((p + 1) / 2 * t + 99) / 100
theorem wid_mono {p s t : Int} (hp : 0 ≤ p) (h : s ≤ t) : wid p s ≤ wid p t := by
  unfold wid
  have := Int.mul_le_mul_of_nonneg_left h (show 0 ≤ (p + 1) / 2 by omega)
  omega
def ThrInv (p b lo hi t : Int) : Prop := (lo = 0 ∧ ∀ x, 1 ≤ x → x < t → wid p x ≠ b) ∨ (1 ≤ lo ∧ lo ≤ hi ∧ hi < t ∧ ∀ x, 1 ≤ x → x < t → (wid p x = b ↔ lo ≤ x ∧ x ≤ hi))
theorem thr_inv {p b : Int} (hp : 0 ≤ p) : ∀ (d : Nat) (lo hi t : Int), 1 ≤ t → t + d = 2001 → ThrInv p b lo hi t → ∀ l h, thr p b d lo hi t = (l, h, 0) → 1 ≤ l ∧ l ≤ h ∧ h ≤ 2000 ∧ ∀ x, 1 ≤ x → x ≤ 2000 → (wid p x = b ↔ l ≤ x ∧ x ≤ h) := by
  intro d
  induction d with
  | zero =>
    intro lo hi t h1 h2 hi' l h e
    rw [thr] at e
    rcases hi' with ⟨h0, _⟩ | ⟨h3, h4, h5, h6⟩
    · rw [if_pos h0] at e
      simp at e
    · rw [if_neg (by omega)] at e
      simp only [Prod.mk.injEq, and_true] at e
      obtain ⟨rfl, rfl⟩ := e
      exact ⟨h3, h4, by omega, fun x hx1 hx2 => h6 x hx1 (by omega)⟩
  | succ d ih =>
    intro lo hi t h1 h2 hi' l h e
    rw [thr] at e
    have ew : ((p + 1) / 2 * t + 99) / 100 = wid p t := rfl
    rw [ew] at e
    by_cases c : wid p t = b
    · rw [if_pos c] at e
      by_cases h0 : lo = 0
      · rw [if_pos h0] at e
        refine ih t t (t + 1) (by omega) (by omega) (.inr ⟨h1, by omega, by omega, fun x hx1 hx2 => ?_⟩) l h e
        rcases hi' with ⟨_, hn⟩ | ⟨h3, _⟩
        · by_cases ht : x = t
          · subst ht; exact ⟨fun _ => by omega, fun _ => c⟩
          · exact ⟨fun hh => absurd hh (hn x hx1 (by omega)), fun hh => by omega⟩
        · omega
      · rw [if_neg h0] at e
        refine ih lo t (t + 1) (by omega) (by omega) ?_ l h e
        rcases hi' with ⟨hz, _⟩ | ⟨h3, h4, h5, h6⟩
        · exact absurd hz h0
        · refine .inr ⟨h3, by omega, by omega, fun x hx1 hx2 => ⟨fun hh => ?_, fun hh => ?_⟩⟩
          · by_cases ht : x = t
            · omega
            · have := (h6 x hx1 (by omega)).1 hh
              omega
          · have e1 := (h6 lo h3 (by omega)).2 ⟨by omega, h4⟩
            have e2 := wid_mono (s := lo) (t := x) hp hh.1
            have e3 := wid_mono (s := x) (t := t) hp hh.2
            omega
    · rw [if_neg c] at e
      refine ih lo hi (t + 1) (by omega) (by omega) ?_ l h e
      rcases hi' with ⟨hz, hn⟩ | ⟨h3, h4, h5, h6⟩
      · refine .inl ⟨hz, fun x hx1 hx2 => ?_⟩
        by_cases ht : x = t
        · subst ht; exact c
        · exact hn x hx1 (by omega)
      · refine .inr ⟨h3, h4, by omega, fun x hx1 hx2 => ?_⟩
        by_cases ht : x = t
        · subst ht; exact ⟨fun hh => absurd hh c, fun hh => by omega⟩
        · exact h6 x hx1 (by omega)
theorem thickRange_ok {p b l h : Int} (e : thickRange p b = (l, h, 0)) : inR p 1 4096 = true ∧ 1 ≤ l ∧ l ≤ h ∧ h ≤ 2000 ∧ ∀ x, 1 ≤ x → x ≤ 2000 → (wid p x = b ↔ l ≤ x ∧ x ≤ h) := by
  unfold thickRange at e
  split at e
  · rename_i hc
    simp only [Bool.and_eq_true] at hc
    have := inR_true hc.1
    exact ⟨hc.1, thr_inv (by omega) 2000 0 0 1 (by omega) (by omega) (.inl ⟨rfl, fun x h1 h2 => by omega⟩) l h e⟩
  · simp at e

theorem laws_big_eq (l : List Int) : laws_big.f l = some (decide ((l.length : Int) > 4096)) := rfl

theorem spec_l01In_eq (a b c : Int) : spec_l01In.f a b c = some (inR a b c) := by
  unfold spec_l01In.f inR
  by_cases h : a ≥ b
  · rw [if_pos h]; simp [show b ≤ a from h]
  · rw [if_neg h]; simp [show ¬ b ≤ a from h]

theorem spec_l01Ceil_eq (a b : Int) (h0 : 0 ≤ a) (h1 : a ≤ 4611686018427387904) (k0 : 1 ≤ b) (k1 : b ≤ 4611686018427387903) : spec_l01Ceil.f a b = some ((a + b - 1) / b) := by
  unfold spec_l01Ceil.f
  have h3 : 0 ≤ (a + b - 1) / b := Int.ediv_nonneg (by omega) (by omega)
  have h4 : (a + b - 1) / b ≤ a + b - 1 := Int.ediv_le_self _ (by omega)
  rw [if_neg (by omega), w64 (x := a + b) (by omega) (by omega), w64 (x := a + b - 1) (by omega) (by omega), tdiv_n (by omega), w64 (by omega) (by omega)]

theorem spec_l07Block_eq (p t : Int) (hp : inR p 1 4096 = true) (ht : inR t 1 2000 = true) : spec_l07Block.f p t = some ((p + 1) / 2 * t) := by
  unfold spec_l07Block.f; rw [block_wrap hp ht]

theorem spec_l07Fits_eq (a b : Int) : spec_l07Fits.f a b = some (inR a 1 64 && inR b 1 2000) := by
  unfold spec_l07Fits.f
  simp only [spec_l01In_eq, Option.bind_some]
  cases inR a 1 64 <;> rfl

theorem spec_SpineWidth_eq (k : Nat) (p t g : Int) : spec_SpineWidth.f (k + 1) p t g = some (spineW p t g) := by
  unfold spec_SpineWidth.f spineW
  simp only [spec_l07Fits_eq, spec_l01In_eq, Option.bind_some, show inR 1 1 64 = true from rfl, Bool.true_and]
  cases hp : inR p 1 4096
  · simp [spec_SpineWidth.j0]
  cases ht : inR t 1 2000
  · simp [spec_SpineWidth.j0]
  cases hg : inR g 0 2000
  · simp [spec_SpineWidth.j0]
  have h1 := block_bd hp ht
  have h2 := inR_true hg
  simp only [Bool.and_self, if_true, Bool.not_true, spec_SpineWidth.j0, Bool.false_eq_true, if_false, spec_l07Block_eq p t hp ht, Option.bind_some]
  rw [w64 (x := (p + 1) / 2 * t + g) (by omega) (by omega), spec_l01Ceil_eq _ _ (by omega) (by omega) (by omega) (by omega)]
  simp only [Option.bind_some]
  rw [show (p + 1) / 2 * t + g + 100 - 1 = (p + 1) / 2 * t + g + 99 by omega]

theorem spec_l01From_l0 (c : List Int) (hc : Code c) : ∀ (d k i : Nat) (l : List Int) (a s : Int), i + d = c.length → d < k → 0 ≤ a → 0 ≤ s → s < 2147483647 → ∃ q, spec_l01From.l0 k c (i : Int) l a s = some (l, q) ∧ SOk q := by
  intro d
  have hl := hc.2
  induction d with
  | zero =>
    intro k i l a s h hk ha h0 h1
    obtain ⟨k, rfl⟩ : ∃ m, k = m + 1 := ⟨k - 1, by omega⟩
    rw [spec_l01From.l0, if_neg (by omega)]
    exact ⟨(a, s), rfl, ha, h0, h1⟩
  | succ d ih =>
    intro k i l a s h hk ha h0 h1
    obtain ⟨k, rfl⟩ : ∃ m, k = m + 1 := ⟨k - 1, by omega⟩
    rw [spec_l01From.l0, if_pos (by omega)]
    by_cases h64 : (i : Int) < 64
    · have hb := rd_byte hc (i := (i : Int)) (by omega) (by omega)
      rw [if_pos h64, if_pos (by omega), w64 (x := (i : Int) + 1) (by omega) (by omega), w64 (x := rd c (i : Int)) (by omega) (by omega), w64 (x := s * 71) (by omega) (by omega), w64 (x := s * 71 + rd c (i : Int)) (by omega) (by omega), tmod_n (by omega)]
      exact ih k (i + 1) l a _ (by omega) (by omega) ha (by omega) (by omega)
    · rw [if_neg h64]
      exact ⟨(a, s), rfl, ha, h0, h1⟩
theorem from_ok {c : List Int} (hc : Code c) {k : Nat} (hk : c.length < k) : ∃ p, spec_l01From.f k c = some p ∧ p.1 = c ∧ SOk p.2 := by
  obtain ⟨q, e, h⟩ := spec_l01From_l0 c hc c.length k 0 c 0 88007 (by omega) hk (by omega) (by omega) (by omega)
  exact ⟨(c, q), e, rfl, h⟩

theorem next_ok {c : List Int} (hc : Code c) {q : Int × Int} (hq : SOk q) (n : Int) : ∃ p, spec_l01Next.f c q.1 q.2 n = some p ∧ SOk p.2 ∧ 0 ≤ p.1 ∧ (p.1 < n ∨ p.1 = 0) := by
  obtain ⟨a, s⟩ := q
  obtain ⟨ha, h0, h1⟩ := hq
  have hl := hc.2
  simp only at ha h0 h1
  unfold spec_l01Next.f
  simp only
  by_cases hn : n ≤ 1
  · rw [if_pos hn]
    exact ⟨_, rfl, ⟨ha, h0, h1⟩, by simp, .inr rfl⟩
  rw [if_neg hn, w64 (x := s * 48271) (by omega) (by omega), w64 (x := s * 48271 + 61) (by omega) (by omega), tmod_n (a := s * 48271 + 61) (by omega)]
  have hS : 0 ≤ (s * 48271 + 61) % 2147483647 ∧ (s * 48271 + 61) % 2147483647 < 2147483647 := by omega
  generalize (s * 48271 + 61) % 2147483647 = S at hS
  rw [tdiv_n (a := S) (by omega)]
  have hm : ∀ x : Int, 0 ≤ x → 0 ≤ Int.tmod x n ∧ Int.tmod x n < n := fun x hx => by
    rw [tmod_n hx]
    exact ⟨Int.emod_nonneg _ (by omega), Int.emod_lt_of_pos _ (by omega)⟩
  by_cases hlt : a < (c.length : Int)
  · have hb := rd_byte hc ha hlt
    rw [if_pos hlt, if_pos ha, w64 (x := a + 1) (by omega) (by omega), w64 (x := a + 1 - 1) (by omega) (by omega), show a + 1 - 1 = a by omega, w64 (x := rd c a) (by omega) (by omega), w64 (x := S / 31) (by omega) (by omega), w64 (x := S / 31 + rd c a) (by omega) (by omega)]
    have g1 := hm (rd c a) hb.1
    have g2 := hm (S / 31 + rd c a) (by omega)
    split
    · split
      · rw [if_neg (by omega)]
        exact ⟨_, rfl, ⟨by simp only; omega, hS.1, hS.2⟩, g1.1, .inl g1.2⟩
      · rw [if_neg (by omega)]
        exact ⟨_, rfl, ⟨by simp only; omega, hS.1, hS.2⟩, g2.1, .inl g2.2⟩
    · rw [if_neg (by omega)]
      exact ⟨_, rfl, ⟨by simp only; omega, hS.1, hS.2⟩, g2.1, .inl g2.2⟩
  · have g3 := hm (S / 31) (by omega)
    rw [if_neg hlt, if_neg (by omega), w64 (x := S / 31) (by omega) (by omega)]
    exact ⟨_, rfl, ⟨ha, hS.1, hS.2⟩, g3.1, .inl g3.2⟩

theorem pick_ok {c : List Int} (hc : Code c) {q : Int × Int} (hq : SOk q) (l : List Int) (hl : 0 < l.length) : ∃ p, spec_l01Pick.f c q.1 q.2 l = some p ∧ SOk p.2 ∧ p.1 ∈ l := by
  unfold spec_l01Pick.f
  obtain ⟨p, e, h1, h2, h3⟩ := next_ok hc hq (l.length : Int)
  rw [e]
  simp only [Option.bind_some]
  have h4 : p.1 < (l.length : Int) := by omega
  rw [if_pos h2, if_pos h4]
  refine ⟨_, rfl, h1, ?_⟩
  simp only
  obtain ⟨n, hn⟩ : ∃ n : Nat, p.1 = n := ⟨p.1.toNat, by omega⟩
  have hn2 : n < l.length := by omega
  have e2 : rd l (n : Int) = l[n] := by rw [rd_nat, List.getD_eq_getElem?_getD, List.getElem?_eq_getElem hn2]; rfl
  rw [hn, e2]
  exact List.getElem_mem hn2

theorem l06DrawPages_ok {c : List Int} (hc : Code c) {q : Int × Int} (hq : SOk q) : ∃ p, spec_l06DrawPages.f c q.1 q.2 = some p ∧ SOk p.2 := by
  unfold spec_l06DrawPages.f
  exact bind_ok (next_ok hc hq 24) fun p hp => ite_ok (fun _ => bind_ok (pick_ok hc hp.1 _ (by simp)) fun r hr => ⟨_, rfl, hr.1⟩) (fun _ => bind_ok (next_ok hc hp.1 300) fun r hr => ⟨_, rfl, hr.1⟩)

theorem l07DrawThickness_ok {c : List Int} (hc : Code c) {q : Int × Int} (hq : SOk q) : ∃ p, spec_l07DrawThickness.f c q.1 q.2 = some p ∧ SOk p.2 := by
  unfold spec_l07DrawThickness.f
  exact bind_ok (next_ok hc hq 24) fun p hp => ite_ok (fun _ => bind_ok (pick_ok hc hp.1 _ (by simp)) fun r hr => ⟨_, rfl, hr.1⟩) (fun _ => bind_ok (next_ok hc hp.1 200) fun r hr => ⟨_, rfl, hr.1⟩)

theorem DrawThicknessRange_ok {c : List Int} (hc : Code c) {k : Nat} (hk : c.length + 1 < k) : ∃ p, spec_DrawThicknessRange.f k c = some p ∧ True := by
  obtain ⟨k, rfl⟩ : ∃ m, k = m + 1 := ⟨k - 1, by omega⟩
  have J : ∀ (q : Int × Int) (a b : Int) (g : Bool), SOk q → ∃ p, spec_DrawThicknessRange.j0 (k + 1) a b g c q.1 q.2 = some p ∧ True := fun q a b g hq => by
    rw [spec_DrawThicknessRange.j0]
    exact ite_ok (fun _ => bind_ok (next_ok hc hq 300) fun r hr => bind_ok (pick_ok hc hr.1 _ (by simp)) fun t _ => ⟨_, rfl, trivial⟩) (fun _ => ⟨_, rfl, trivial⟩)
  unfold spec_DrawThicknessRange.f
  refine bind_ok (from_ok hc (by omega)) fun p hp => ?_
  rw [hp.1]
  exact bind_ok (l06DrawPages_ok hc hp.2) fun n hn => bind_ok (l07DrawThickness_ok hc hn) fun r hr => some_ok (spec_SpineWidth_eq k _ _ _) (ite_ok (fun _ => bind_ok (next_ok hc hr 6) fun t ht => J _ _ _ _ ht.1) (fun _ => J _ _ _ _ hr))

theorem impl_inRange_eq (a b c : Int) : impl_inRange.f a b c = some (inR a b c) := by
  unfold impl_inRange.f inR
  by_cases h : b ≤ a
  · rw [if_pos h]; simp [h]
  · rw [if_neg h]; simp [h]

theorem impl_isPages_eq (a : Int) : impl_isPages.f a = some (inR a 1 4096) := by
  unfold impl_isPages.f; rw [impl_inRange_eq]; rfl

theorem impl_isThickness_eq (a : Int) : impl_isThickness.f a = some (inR a 1 2000) := by
  unfold impl_isThickness.f; rw [impl_inRange_eq]; rfl

theorem impl_block_eq (p t : Int) (hp : inR p 1 4096 = true) (ht : inR t 1 2000 = true) : impl_block.f p t = some ((p + 1) / 2 * t) := by
  unfold impl_block.f; rw [block_wrap hp ht]

theorem impl_SpineWidth_eq (p t g : Int) : impl_SpineWidth.f p t g = some (spineW p t g) := by
  unfold impl_SpineWidth.f spineW
  simp only [impl_isPages_eq, impl_isThickness_eq, impl_inRange_eq, Option.bind_some]
  cases hp : inR p 1 4096
  · simp
  cases ht : inR t 1 2000
  · simp
  cases hg : inR g 0 2000
  · simp
  have h1 := block_bd hp ht
  have h2 := inR_true hg
  simp only [Bool.and_self, if_true, impl_block_eq p t hp ht, Option.bind_some]
  rw [w64 (x := (p + 1) / 2 * t + g) (by omega) (by omega), w64 (x := (p + 1) / 2 * t + g + 99) (by omega) (by omega), tdiv_n (by omega), w64 (by omega) (by omega)]

theorem impl_isLength_eq (a : Int) : impl_isLength.f a = some (inR a 0 1000000000) := by
  unfold impl_isLength.f; rw [impl_inRange_eq]; rfl

theorem impl_ThicknessRange_l0 (p b : Int) (hp : inR p 1 4096 = true) : ∀ (d k : Nat) (lo hi t : Int), 1 ≤ t → t + d = 2001 → d < k → impl_ThicknessRange.l0 k p b lo hi t = some (thr p b d lo hi t) := by
  intro d
  induction d with
  | zero =>
    intro k lo hi t h0 h hk
    obtain ⟨k, rfl⟩ : ∃ m, k = m + 1 := ⟨k - 1, by omega⟩
    rw [impl_ThicknessRange.l0, if_neg (by omega), thr]
    split <;> rfl
  | succ d ih =>
    intro k lo hi t h0 h hk
    obtain ⟨k, rfl⟩ : ∃ m, k = m + 1 := ⟨k - 1, by omega⟩
    have ht : inR t 1 2000 = true := inR_mk (by omega) (by omega)
    have e : spineW p t 0 = (((p + 1) / 2 * t + 99) / 100, 0) := by
      unfold spineW
      rw [hp, ht, show inR 0 0 2000 = true from rfl]
      simp
    rw [impl_ThicknessRange.l0, if_pos (by omega), impl_SpineWidth_eq, e]
    simp only [Option.bind_some]
    rw [w64 (x := t + 1) (by omega) (by omega), thr]
    split
    · split
      · exact ih k t t (t + 1) (by omega) (by omega) (by omega)
      · exact ih k lo t (t + 1) (by omega) (by omega) (by omega)
    · exact ih k lo hi (t + 1) (by omega) (by omega) (by omega)
theorem impl_ThicknessRange_eq (k : Nat) (p b : Int) (hk : 2002 < k) : impl_ThicknessRange.f k p b = some (thickRange p b) := by
  obtain ⟨k, rfl⟩ : ∃ m, k = m + 1 := ⟨k - 1, by omega⟩
  unfold impl_ThicknessRange.f thickRange
  simp only [impl_isPages_eq, impl_isLength_eq, Option.bind_some]
  cases hp : inR p 1 4096
  · simp [impl_ThicknessRange.j0]
  cases hb : inR b 0 1000000000
  · simp [impl_ThicknessRange.j0]
  simp only [if_true, Bool.and_self, Bool.not_true, impl_ThicknessRange.j0, Bool.false_eq_true, if_false]
  exact impl_ThicknessRange_l0 p b hp 2000 k 0 0 1 (by omega) (by omega) (by omega)

theorem spec_ThicknessRange_l0 (p b : Int) (hp : inR p 1 4096 = true) : ∀ (d k : Nat) (lo hi t : Int), 1 ≤ t → t + d = 2001 → d < k → spec_ThicknessRange.l0 k p b lo hi t = some (thr p b d lo hi t) := by
  intro d
  induction d with
  | zero =>
    intro k lo hi t h0 h hk
    obtain ⟨k, rfl⟩ : ∃ m, k = m + 1 := ⟨k - 1, by omega⟩
    rw [spec_ThicknessRange.l0, if_neg (by omega), thr]
    split <;> rfl
  | succ d ih =>
    intro k lo hi t h0 h hk
    obtain ⟨k, rfl⟩ : ∃ m, k = m + 1 := ⟨k - 1, by omega⟩
    have ht : inR t 1 2000 = true := inR_mk (by omega) (by omega)
    have hb := block_bd hp ht
    rw [spec_ThicknessRange.l0, if_pos (by omega), spec_l07Block_eq p t hp ht]
    simp only [Option.bind_some]
    rw [spec_l01Ceil_eq _ _ (by omega) (by omega) (by omega) (by omega), w64 (x := t + 1) (by omega) (by omega), thr, show (p + 1) / 2 * t + 100 - 1 = (p + 1) / 2 * t + 99 by omega]
    simp only [Option.bind_some]
    split
    · split
      · exact ih k t t (t + 1) (by omega) (by omega) (by omega)
      · exact ih k lo t (t + 1) (by omega) (by omega) (by omega)
    · exact ih k lo hi (t + 1) (by omega) (by omega) (by omega)
theorem spec_ThicknessRange_eq (k : Nat) (p b : Int) (hk : 2002 < k) : spec_ThicknessRange.f k p b = some (thickRange p b) := by
  obtain ⟨k, rfl⟩ : ∃ m, k = m + 1 := ⟨k - 1, by omega⟩
  unfold spec_ThicknessRange.f thickRange
  simp only [spec_l01In_eq, Option.bind_some]
  cases hp : inR p 1 4096
  · simp [spec_ThicknessRange.j0]
  cases hb : inR b 0 1000000000
  · simp [spec_ThicknessRange.j0]
  simp only [if_true, Bool.and_self, Bool.not_true, spec_ThicknessRange.j0, Bool.false_eq_true, if_false]
  exact spec_ThicknessRange_l0 p b hp 2000 k 0 0 1 (by omega) (by omega) (by omega)

theorem DrawSpineWidth_ok {c : List Int} (hc : Code c) {k : Nat} (hk : c.length < k) : ∃ p, spec_DrawSpineWidth.f k c = some p ∧ True := by
  unfold spec_DrawSpineWidth.f
  refine bind_ok (from_ok hc hk) fun p hp => ?_
  rw [hp.1]
  exact bind_ok (l06DrawPages_ok hc hp.2) fun n hn => bind_ok (l07DrawThickness_ok hc hn) fun r hr => bind_ok (next_ok hc hr 500) fun s hs => bind_ok (next_ok hc hs.1 500) fun t ht => bind_ok (pick_ok hc ht.1 _ (by simp)) fun u hu => bind_ok (pick_ok hc hu.1 _ (by simp)) fun v _ => ⟨_, rfl, trivial⟩

theorem DrawBlockThickness_ok {c : List Int} (hc : Code c) {k : Nat} (hk : c.length < k) : ∃ p, spec_DrawBlockThickness.f k c = some p ∧ True := by
  unfold spec_DrawBlockThickness.f
  refine bind_ok (from_ok hc hk) fun p hp => ?_
  rw [hp.1]
  exact bind_ok (l06DrawPages_ok hc hp.2) fun n hn => bind_ok (l07DrawThickness_ok hc hn) fun r hr => ⟨_, rfl, trivial⟩

theorem impl_BlockThickness_eq (p t : Int) : impl_BlockThickness.f p t = some (blockT p t) := by
  unfold impl_BlockThickness.f blockT
  simp only [impl_isPages_eq, impl_isThickness_eq, Option.bind_some]
  cases hp : inR p 1 4096
  · simp
  cases ht : inR t 1 2000
  · simp
  simp only [Bool.and_self, if_true, impl_block_eq p t hp ht, Option.bind_some]

theorem spec_BlockThickness_eq (p t : Int) : spec_BlockThickness.f p t = some (blockT p t) := by
  unfold spec_BlockThickness.f blockT
  simp only [spec_l07Fits_eq, spec_l01In_eq, Option.bind_some, show inR 1 1 64 = true from rfl, Bool.true_and]
  cases hp : inR p 1 4096
  · simp
  cases ht : inR t 1 2000
  · simp
  simp only [Bool.and_self, if_true, spec_l07Block_eq p t hp ht, Option.bind_some]

theorem blocks_loop {p b lo hi : Int} (hp : inR p 1 4096 = true) (h1 : 1 ≤ lo) (h2 : lo ≤ hi) (h3 : hi ≤ 2000) (h4 : ∀ x, 1 ≤ x → x ≤ 2000 → (wid p x = b ↔ lo ≤ x ∧ x ≤ hi)) : ∀ (d k : Nat) (x : Int), lo - 1 ≤ x → x + d = hi + 2 → d < k → laws_FnBlocks.l0 k p b lo hi x = some true := by
  intro d
  induction d with
  | zero =>
    intro k x hx e hk
    obtain ⟨k, rfl⟩ : ∃ m, k = m + 1 := ⟨k - 1, by omega⟩
    rw [laws_FnBlocks.l0, w64 (x := hi + 1) (by omega) (by omega), if_neg (by omega), decide_eq_true h2]
  | succ d ih =>
    intro k x hx e hk
    obtain ⟨k, rfl⟩ : ∃ m, k = m + 1 := ⟨k - 1, by omega⟩
    rw [laws_FnBlocks.l0, w64 (x := hi + 1) (by omega) (by omega), if_pos (by omega), impl_SpineWidth_eq, w64 (x := x + 1) (by omega) (by omega)]
    simp only [Option.bind_some]
    have n := ih k (x + 1) (by omega) (by omega) (by omega)
    rw [n]
    by_cases hx2 : 1 ≤ x ∧ x ≤ 2000
    · have es : spineW p x 0 = (wid p x, 0) := by
        unfold spineW wid
        rw [hp, inR_mk hx2.1 hx2.2, inR_mk (a := 0) (by omega) (by omega), Int.add_zero]
        rfl
      have h5 := h4 x hx2.1 hx2.2
      rw [es]
      simp only [if_true]
      by_cases hlo : x ≥ lo
      · rw [if_pos hlo]
        by_cases hhi : x ≤ hi
        · have : wid p x = b := h5.2 ⟨hlo, hhi⟩
          simp [this, hhi]
        · have : ¬ wid p x = b := fun h => hhi (h5.1 h).2
          simp [this, hhi]
      · rw [if_neg hlo]
        have : ¬ wid p x = b := fun h => hlo (h5.1 h).1
        simp [this]
    · have es : spineW p x 0 = (0, 2) := by
        unfold spineW
        rw [hp, show inR x 1 2000 = false by unfold inR; exact decide_eq_false hx2]
        rfl
      rw [es]
      simp
theorem FnBlocks : laws_FnBlocks.Pure := by
  intro l _ _ hb
  by_cases hbig : (l.length : Int) > 4096
  · exact ⟨1, by unfold laws_FnBlocks.f; rw [laws_big_eq, decide_eq_true hbig]; rfl⟩
  have hc : Code l := ⟨fun x hx => wfByte (hb x hx), by omega⟩
  obtain ⟨⟨p, b⟩, e1, _⟩ := DrawThicknessRange_ok hc (k := 7001) (by omega)
  obtain ⟨⟨q, t, g⟩, e2, _⟩ := DrawSpineWidth_ok hc (k := 7001) (by omega)
  obtain ⟨⟨u, v⟩, e3, _⟩ := DrawBlockThickness_ok hc (k := 7001) (by omega)
  have J : laws_FnBlocks.j1 7000 p b (thickRange p b).1 (thickRange p b).2.1 (thickRange p b).2.2 = some true := by
    simp only [laws_FnBlocks.j1]
    by_cases h0 : (thickRange p b).2.2 = 0
    · rw [if_pos h0]
      obtain ⟨h1, h2, h3, h4, h5⟩ := thickRange_ok (p := p) (b := b) (l := (thickRange p b).1) (h := (thickRange p b).2.1) (by rw [← h0])
      rw [w64 (x := (thickRange p b).1 - 1) (by omega) (by omega)]
      exact blocks_loop h1 h2 h3 h4 h5 ((thickRange p b).2.1 - (thickRange p b).1 + 3).toNat 6999 _ (by omega) (by omega) (by omega)
    · rw [if_neg h0]
  have e4 := spec_SpineWidth_eq 7000 q t g
  refine ⟨7001, ?_⟩
  unfold laws_FnBlocks.f
  simp (disch := omega) only [laws_big_eq, decide_eq_false hbig, Bool.false_eq_true, if_false, Option.bind_some, e1, e2, e3, e4, impl_ThicknessRange_eq, spec_ThicknessRange_eq, impl_SpineWidth_eq, impl_BlockThickness_eq, spec_BlockThickness_eq, if_true, bne_self_eq_false]
  simp only [laws_FnBlocks.j0, Bool.false_eq_true, if_false]
  by_cases h0 : (spineW q t g).2 = 0
  · rw [if_pos h0, impl_BlockThickness_eq]
    simp only [Option.bind_some]
    unfold spineW at h0
    split at h0
    · rename_i hok
      have e5 : spineW q t g = (((q + 1) / 2 * t + g + 99) / 100, 0) := if_pos hok
      simp only [Bool.and_eq_true] at hok
      have e6 : blockT q t = ((q + 1) / 2 * t, 0) := if_pos (by rw [hok.1.1, hok.1.2]; rfl)
      have hbd := block_bd hok.1.1 hok.1.2
      have hg := inR_true hok.2
      rw [e5, e6]
      simp only [if_true]
      rw [w64 (x := 100 * (((q + 1) / 2 * t + g + 99) / 100)) (by omega) (by omega), w64 (x := (q + 1) / 2 * t + g) (by omega) (by omega), w64 (x := (q + 1) / 2 * t + g + 100) (by omega) (by omega), if_neg (by omega), if_neg (by omega)]
      exact J
    · simp at h0
  · rw [if_neg h0]
    exact J

end Go.Proofs.Ytfmmpdhodkkkdaa.Pure
