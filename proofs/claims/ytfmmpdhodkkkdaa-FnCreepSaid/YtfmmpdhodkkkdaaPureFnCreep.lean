/- For all arguments the law FnCreep returns true, with no condition beyond the bounds that the printed statement names. -/
import Derived.Test.YtfmmpdhodkkkdaaPFnCreepx4
namespace Go.Proofs.Ytfmmpdhodkkkdaa.Pure
open Go.RowKit Go.Proofs.Ytfmmpdhodkkkdaa.PFnCreep Go.Proofs.YtfmmpdhodkkkdaaW.PrintWords Go.Proofs.YtfmmpdhodkkkdaaW.PrintLast
set_option linter.unusedVariables false
set_option linter.unusedSimpArgs false

theorem w64 {x : Int} (h1 : -9223372036854775808 ≤ x) (h2 : x ≤ 9223372036854775807) : wrap64 x = x := by
  unfold wrap64; omega
theorem wf64 {x : Int} (h : (Lit.int .i64 x).wf = true) : -9223372036854775808 ≤ x ∧ x ≤ 9223372036854775807 := by
  simp [Lit.wf, IntKind.min, IntKind.max, IntKind.signed, IntKind.bits] at h
  omega
/-- 'a lies from b to c'. -/
def inR (a b c : Int) : Bool := decide (b ≤ a ∧ a ≤ c)
theorem inR_true {a b c : Int} (h : inR a b c = true) : b ≤ a ∧ a ≤ c := by simpa [inR] using h
theorem inR_mk {a b c : Int} (h1 : b ≤ a) (h2 : a ≤ c) : inR a b c = true := by simp [inR, h1, h2]
theorem inR_false {a b c : Int} (h : inR a b c = false) : a < b ∨ c < a := by
  have : ¬ (b ≤ a ∧ a ≤ c) := by simpa [inR] using h
  omega
theorem rd_nat (xs : List Int) (i : Nat) : rd xs (i : Int) = xs.getD i 0 := by simp [rd]
theorem mul_bd {a b A B : Int} (h0 : 0 ≤ a) (h1 : a ≤ A) (k0 : 0 ≤ b) (k1 : b ≤ B) : 0 ≤ a * b ∧ a * b ≤ A * B :=
  ⟨Int.mul_nonneg h0 k0, Int.mul_le_mul h1 k1 k0 (by omega)⟩
theorem tdiv_n {a b : Int} (h : 0 ≤ a) : Int.tdiv a b = a / b := Int.tdiv_eq_ediv_of_nonneg h
theorem tmod_n {a b : Int} (h : 0 ≤ a) : Int.tmod a b = a % b := Int.tmod_eq_emod_of_nonneg h
theorem mn_min (a b : Int) : mn a b = min a b := by unfold mn; split <;> omega
theorem mx_max (a b : Int) : mx a b = max a b := by unfold mx; split <;> omega

def allR (xs : List Int) (lo hi : Int) : Bool := xs.all fun x => inR x lo hi
theorem allR_mem {xs : List Int} {lo hi : Int} (h : allR xs lo hi = true) : ∀ x ∈ xs, lo ≤ x ∧ x ≤ hi := fun x hx => inR_true (List.all_eq_true.1 h x hx)
theorem drop_get (xs : List Int) (i : Nat) (hi : i < xs.length) : xs.drop i = xs[i] :: xs.drop (i + 1) := List.drop_eq_getElem_cons hi
theorem rd_get (xs : List Int) (i : Nat) (hi : i < xs.length) : rd xs (i : Int) = xs[i] := by rw [rd_nat, List.getD_eq_getElem?_getD, List.getElem?_eq_getElem hi]; rfl
/-- The sum, as the program adds it up. -/
def wsum (a : Int) (xs : List Int) : Int := xs.foldl (fun a x => wrap64 (a + x)) a
theorem wsum_cons (a x : Int) (xs : List Int) : wsum a (x :: xs) = wsum (wrap64 (a + x)) xs := rfl
theorem wsum_eq : ∀ (xs : List Int) (a : Int), (∀ x ∈ xs, 0 ≤ x ∧ x ≤ 1000000) → 0 ≤ a → a + xs.length * 1000000 ≤ 4611686018427387904 → wsum a xs = a + xs.sum ∧ 0 ≤ xs.sum ∧ xs.sum ≤ xs.length * 1000000
  | [], a, _, h0, _ => ⟨by simp [wsum], by simp, by simp⟩
  | x :: xs, a, h, h0, hb => by
    have hx := h x (by simp)
    simp only [List.length_cons] at hb ⊢
    obtain ⟨e, l, u⟩ := wsum_eq xs (a + x) (fun y hy => h y (by simp [hy])) (by omega) (by omega)
    rw [wsum_cons, w64 (by omega) (by omega), e, List.sum_cons]
    exact ⟨by omega, by omega, by omega⟩

/-- A code that is drawn from. -/
def Code (c : List Int) : Prop := (∀ x ∈ c, 0 ≤ x ∧ x ≤ 255) ∧ c.length ≤ 4096
/-- Where a source stands, and its seed. -/
def SOk (q : Int × Int) : Prop := 0 ≤ q.1 ∧ 0 ≤ q.2 ∧ q.2 < 2147483647
theorem wfByte {x : Int} (h : (Lit.int .u8 x).wf = true) : 0 ≤ x ∧ x ≤ 255 := by
  simp [Lit.wf, IntKind.min, IntKind.max, IntKind.signed, IntKind.bits] at h
  omega
theorem rd_byte {c : List Int} (h : Code c) {i : Int} (h0 : 0 ≤ i) (h1 : i < c.length) : 0 ≤ rd c i ∧ rd c i ≤ 255 := by
  obtain ⟨n, rfl⟩ : ∃ n : Nat, i = n := ⟨i.toNat, by omega⟩
  have hn : n < c.length := by omega
  have e : rd c (n : Int) = c[n] := by rw [rd_nat, List.getD_eq_getElem?_getD, List.getElem?_eq_getElem hn]; rfl
  rw [e]
  exact h.1 _ (List.getElem_mem hn)
theorem bind_ok {α β : Type} {x : Option α} {P : α → Prop} {f : α → Option β} {Q : β → Prop} (h : ∃ p, x = some p ∧ P p) (hf : ∀ p, P p → ∃ r, f p = some r ∧ Q r) : ∃ r, x.bind f = some r ∧ Q r := by
  obtain ⟨p, e, hp⟩ := h
  rw [e]
  exact hf p hp
theorem ite_ok {α : Type} {c : Prop} [Decidable c] {a b : Option α} {Q : α → Prop} (h1 : c → ∃ r, a = some r ∧ Q r) (h2 : ¬ c → ∃ r, b = some r ∧ Q r) : ∃ r, (if c then a else b) = some r ∧ Q r := by
  by_cases h : c
  · rw [if_pos h]; exact h1 h
  · rw [if_neg h]; exact h2 h
theorem some_ok {α β : Type} {x : Option α} {v : α} {f : α → Option β} {Q : β → Prop} (h : x = some v) (hf : ∃ r, f v = some r ∧ Q r) : ∃ r, x.bind f = some r ∧ Q r := by
  rw [h]
  exact hf

def creepOf (n k t : Int) : Int × Int := if (inR n 1 64 && inR k 0 (n - 1) && inR t 1 2000) = true then (k * t, 0) else (0, 2)
def trimLoss (n t : Int) : Int × Int := if (inR n 1 64 && inR t 1 2000) = true then ((n - 1) * t, 0) else (0, 2)
def mostNested (t l : Int) : Int × Int := if (inR t 1 2000 && inR l 0 1000000000) = true then (min 64 (l / t + 1), 0) else (0, 2)
def blockT (p t : Int) : Int × Int := if (inR p 1 4096 && inR t 1 2000) = true then ((p + 1) / 2 * t, 0) else (0, 2)
def spineW (p t g : Int) : Int × Int := if (inR p 1 4096 && inR t 1 2000 && inR g 0 2000) = true then (((p + 1) / 2 * t + g + 99) / 100, 0) else (0, 2)
theorem block_bd {p t : Int} (hp : inR p 1 4096 = true) (ht : inR t 1 2000 = true) : 0 ≤ (p + 1) / 2 * t ∧ (p + 1) / 2 * t ≤ 4096000 := by
  have h1 := inR_true hp
  have h2 := inR_true ht
  exact mul_bd (A := 2048) (B := 2000) (by omega) (by omega) (by omega) (by omega)
theorem block_wrap {p t : Int} (hp : inR p 1 4096 = true) (ht : inR t 1 2000 = true) : wrap64 (wrap64 (Int.tdiv (wrap64 (p + 1)) 2) * t) = (p + 1) / 2 * t := by
  have h1 := inR_true hp
  have h3 := block_bd hp ht
  rw [w64 (x := p + 1) (by omega) (by omega), tdiv_n (by omega), w64 (x := (p + 1) / 2) (by omega) (by omega), w64 (by omega) (by omega)]
theorem mostNested_wrap {t l : Int} (ht : inR t 1 2000 = true) (hl : inR l 0 1000000000 = true) : mn 64 (wrap64 (wrap64 (Int.tdiv l t) + 1)) = min 64 (l / t + 1) := by
  have h1 := inR_true ht
  have h2 := inR_true hl
  have h3 : 0 ≤ l / t := Int.ediv_nonneg (by omega) (by omega)
  have h4 : l / t ≤ l := Int.ediv_le_self _ (by omega)
  rw [tdiv_n (by omega), w64 (x := l / t) (by omega) (by omega), w64 (by omega) (by omega), mn_min]

def creep1 (k t : Int) : Int := (k * t + 50) / 100
def creeps (n : Nat) (t : Int) : List Int := (List.range n).map fun j : Nat => creep1 (j : Int) t
theorem creeps_succ (n : Nat) (t : Int) : creeps (n + 1) t = creeps n t ++ [creep1 (n : Int) t] := by simp [creeps, List.range_succ]
theorem creeps_len (n : Nat) (t : Int) : (creeps n t).length = n := by simp [creeps]
def creepTenths (n t : Int) : List Int × Int := if (inR n 1 64 && inR t 1 2000) = true then (creeps n.toNat t, 0) else ([], 2)
theorem creep1_bd {k t : Int} (h0 : 0 ≤ k) (h1 : k ≤ 64) (ht : inR t 1 2000 = true) : 0 ≤ k * t ∧ k * t ≤ 128000 ∧ 0 ≤ creep1 k t ∧ creep1 k t ≤ 1281 := by
  have h2 := inR_true ht
  have b1 := mul_bd (a := k) (b := t) (A := 64) (B := 2000) (by omega) (by omega) (by omega) (by omega)
  unfold creep1
  omega
/-- The margins from sheet i on, d of them, behind those that are there. -/
def marg (m t : Int) : Nat → Int → List Int → List Int × Int
  | 0, _, l => (l, 0)
  | d + 1, i, l => if m - creep1 i t < 0 then ([], 5) else marg m t d (i + 1) (l ++ [m - creep1 i t])
def marginsFor (n t m : Int) : List Int × Int := if (inR n 1 64 && inR t 1 2000 && inR m 0 1000000000) = true then marg m t n.toNat 0 [] else ([], 2)
theorem marg_len (m t : Int) : ∀ (d : Nat) (i : Int) (l : List Int), (marg m t d i l).1.length ≤ l.length + d := by
  intro d
  induction d with
  | zero => intro i l; simp [marg]
  | succ d ih =>
    intro i l
    rw [marg]
    split
    · simp
    · have := ih (i + 1) (l ++ [m - creep1 i t])
      simp only [List.length_append, List.length_singleton] at this
      omega
theorem marginsFor_len (n t m : Int) : (marginsFor n t m).1.length ≤ 64 := by
  unfold marginsFor
  split
  · rename_i h
    simp only [Bool.and_eq_true] at h
    have h1 := inR_true h.1.1
    have := marg_len m t n.toNat 0 []
    simp only [List.length_nil] at this
    omega
  · simp
theorem creepTenths_len (n t : Int) : (creepTenths n t).1.length ≤ 64 := by
  unfold creepTenths
  split
  · rename_i h
    simp only [Bool.and_eq_true] at h
    have h1 := inR_true h.1
    rw [creeps_len]
    omega
  · simp

theorem marg_tells (m t : Int) : ∀ (d : Nat) (i : Int) (l L : List Int), marg m t d i l = (L, 0) → L.length = l.length + d ∧ (∀ j : Nat, j < l.length → L.getD j 0 = l.getD j 0) ∧ ∀ j : Nat, j < d → L.getD (l.length + j) 0 = m - creep1 (i + j) t := by
  intro d
  induction d with
  | zero =>
    intro i l L h
    rw [marg] at h
    simp only [Prod.mk.injEq, and_true] at h
    subst h
    exact ⟨rfl, fun j _ => rfl, fun j hj => by omega⟩
  | succ d ih =>
    intro i l L h
    rw [marg] at h
    by_cases c : m - creep1 i t < 0
    · rw [if_pos c] at h
      simp at h
    · rw [if_neg c] at h
      obtain ⟨h1, h2, h3⟩ := ih _ _ _ h
      rw [List.length_append, List.length_singleton] at h1 h2 h3
      refine ⟨by omega, fun j hj => ?_, fun j hj => ?_⟩
      · rw [h2 j (by omega)]
        simp only [List.getD_eq_getElem?_getD]
        rw [List.getElem?_append_left hj]
      · cases j with
        | zero =>
          have := h2 l.length (by omega)
          rw [Nat.add_zero, this]
          simp
        | succ j =>
          have := h3 j (by omega)
          rw [show l.length + (j + 1) = l.length + 1 + j by omega, this, show i + 1 + (j : Int) = i + ((j + 1 : Nat) : Int) by omega]
theorem rd_creeps (n : Nat) (t : Int) (i : Nat) (h : i < n) : rd (creeps n t) (i : Int) = creep1 (i : Int) t := by
  rw [rd_nat, List.getD_eq_getElem?_getD, List.getElem?_eq_getElem (by rw [creeps_len]; exact h)]
  simp [creeps]

theorem laws_big_eq (l : List Int) : laws_big.f l = some (decide ((l.length : Int) > 4096)) := rfl

theorem laws_likeInts_l0 (l : List Int) (hl : l.length ≤ 9223372036854775806) : ∀ (d k i : Nat), i + d = l.length → d < k → laws_likeInts.l0 k l l (i : Int) = some true := by
  intro d
  induction d with
  | zero =>
    intro k i h hk
    obtain ⟨k, rfl⟩ : ∃ m, k = m + 1 := ⟨k - 1, by omega⟩
    rw [laws_likeInts.l0, if_neg (by omega)]
  | succ d ih =>
    intro k i h hk
    obtain ⟨k, rfl⟩ : ∃ m, k = m + 1 := ⟨k - 1, by omega⟩
    rw [laws_likeInts.l0, if_pos (by omega), if_pos (by omega), if_pos (by omega), if_pos rfl, w64 (x := (i : Int) + 1) (by omega) (by omega)]
    exact ih k (i + 1) (by omega) (by omega)
theorem laws_likeInts_eq (l : List Int) (k : Nat) (hl : l.length ≤ 9223372036854775806) (hk : l.length < k) : laws_likeInts.f k l l = some true := by
  unfold laws_likeInts.f
  rw [if_pos rfl]
  exact laws_likeInts_l0 l hl l.length k 0 (by omega) hk

theorem spec_l01From_l0 (c : List Int) (hc : Code c) : ∀ (d k i : Nat) (l : List Int) (a s : Int), i + d = c.length → d < k → 0 ≤ a → 0 ≤ s → s < 2147483647 → ∃ q, spec_l01From.l0 k c (i : Int) l a s = some (l, q) ∧ SOk q := by
  intro d
  have hl := hc.2
  induction d with
  | zero =>
    intro k i l a s h hk ha h0 h1
    obtain ⟨k, rfl⟩ : ∃ m, k = m + 1 := ⟨k - 1, by omega⟩
    rw [spec_l01From.l0, if_neg (by omega)]
    exact ⟨(a, s), rfl, ha, h0, h1⟩
  | succ d ih =>
    intro k i l a s h hk ha h0 h1
    obtain ⟨k, rfl⟩ : ∃ m, k = m + 1 := ⟨k - 1, by omega⟩
    rw [spec_l01From.l0, if_pos (by omega)]
    by_cases h64 : (i : Int) < 64
    · have hb := rd_byte hc (i := (i : Int)) (by omega) (by omega)
      rw [if_pos h64, if_pos (by omega), w64 (x := (i : Int) + 1) (by omega) (by omega), w64 (x := rd c (i : Int)) (by omega) (by omega), w64 (x := s * 71) (by omega) (by omega), w64 (x := s * 71 + rd c (i : Int)) (by omega) (by omega), tmod_n (by omega)]
      exact ih k (i + 1) l a _ (by omega) (by omega) ha (by omega) (by omega)
    · rw [if_neg h64]
      exact ⟨(a, s), rfl, ha, h0, h1⟩
theorem from_ok {c : List Int} (hc : Code c) {k : Nat} (hk : c.length < k) : ∃ p, spec_l01From.f k c = some p ∧ p.1 = c ∧ SOk p.2 := by
  obtain ⟨q, e, h⟩ := spec_l01From_l0 c hc c.length k 0 c 0 88007 (by omega) hk (by omega) (by omega) (by omega)
  exact ⟨(c, q), e, rfl, h⟩

theorem next_ok {c : List Int} (hc : Code c) {q : Int × Int} (hq : SOk q) (n : Int) : ∃ p, spec_l01Next.f c q.1 q.2 n = some p ∧ SOk p.2 ∧ 0 ≤ p.1 ∧ (p.1 < n ∨ p.1 = 0) := by
  obtain ⟨a, s⟩ := q
  obtain ⟨ha, h0, h1⟩ := hq
  have hl := hc.2
  simp only at ha h0 h1
  unfold spec_l01Next.f
  simp only
  by_cases hn : n ≤ 1
  · rw [if_pos hn]
    exact ⟨_, rfl, ⟨ha, h0, h1⟩, by simp, .inr rfl⟩
  rw [if_neg hn, w64 (x := s * 48271) (by omega) (by omega), w64 (x := s * 48271 + 61) (by omega) (by omega), tmod_n (a := s * 48271 + 61) (by omega)]
  have hS : 0 ≤ (s * 48271 + 61) % 2147483647 ∧ (s * 48271 + 61) % 2147483647 < 2147483647 := by omega
  generalize (s * 48271 + 61) % 2147483647 = S at hS
  rw [tdiv_n (a := S) (by omega)]
  have hm : ∀ x : Int, 0 ≤ x → 0 ≤ Int.tmod x n ∧ Int.tmod x n < n := fun x hx => by
    rw [tmod_n hx]
    exact ⟨Int.emod_nonneg _ (by omega), Int.emod_lt_of_pos _ (by omega)⟩
  by_cases hlt : a < (c.length : Int)
  · have hb := rd_byte hc ha hlt
    rw [if_pos hlt, if_pos ha, w64 (x := a + 1) (by omega) (by omega), w64 (x := a + 1 - 1) (by omega) (by omega), show a + 1 - 1 = a by omega, w64 (x := rd c a) (by omega) (by omega), w64 (x := S / 31) (by omega) (by omega), w64 (x := S / 31 + rd c a) (by omega) (by omega)]
    have g1 := hm (rd c a) hb.1
    have g2 := hm (S / 31 + rd c a) (by omega)
    split
    · split
      · rw [if_neg (by omega)]
        exact ⟨_, rfl, ⟨by simp only; omega, hS.1, hS.2⟩, g1.1, .inl g1.2⟩
      · rw [if_neg (by omega)]
        exact ⟨_, rfl, ⟨by simp only; omega, hS.1, hS.2⟩, g2.1, .inl g2.2⟩
    · rw [if_neg (by omega)]
      exact ⟨_, rfl, ⟨by simp only; omega, hS.1, hS.2⟩, g2.1, .inl g2.2⟩
  · have g3 := hm (S / 31) (by omega)
    rw [if_neg hlt, if_neg (by omega), w64 (x := S / 31) (by omega) (by omega)]
    exact ⟨_, rfl, ⟨ha, hS.1, hS.2⟩, g3.1, .inl g3.2⟩

theorem pick_ok {c : List Int} (hc : Code c) {q : Int × Int} (hq : SOk q) (l : List Int) (hl : 0 < l.length) : ∃ p, spec_l01Pick.f c q.1 q.2 l = some p ∧ SOk p.2 ∧ p.1 ∈ l := by
  unfold spec_l01Pick.f
  obtain ⟨p, e, h1, h2, h3⟩ := next_ok hc hq (l.length : Int)
  rw [e]
  simp only [Option.bind_some]
  have h4 : p.1 < (l.length : Int) := by omega
  rw [if_pos h2, if_pos h4]
  refine ⟨_, rfl, h1, ?_⟩
  simp only
  obtain ⟨n, hn⟩ : ∃ n : Nat, p.1 = n := ⟨p.1.toNat, by omega⟩
  have hn2 : n < l.length := by omega
  have e2 : rd l (n : Int) = l[n] := by rw [rd_nat, List.getD_eq_getElem?_getD, List.getElem?_eq_getElem hn2]; rfl
  rw [hn, e2]
  exact List.getElem_mem hn2

theorem l06DrawNest_ok {c : List Int} (hc : Code c) {q : Int × Int} (hq : SOk q) : ∃ p, spec_l06DrawNest.f c q.1 q.2 = some p ∧ SOk p.2 := by
  unfold spec_l06DrawNest.f
  exact bind_ok (next_ok hc hq 24) fun p hp => ite_ok (fun _ => bind_ok (pick_ok hc hp.1 _ (by simp)) fun r hr => ⟨_, rfl, hr.1⟩) (fun _ => bind_ok (next_ok hc hp.1 20) fun r hr => ⟨_, rfl, hr.1⟩)

theorem l07DrawThickness_ok {c : List Int} (hc : Code c) {q : Int × Int} (hq : SOk q) : ∃ p, spec_l07DrawThickness.f c q.1 q.2 = some p ∧ SOk p.2 := by
  unfold spec_l07DrawThickness.f
  exact bind_ok (next_ok hc hq 24) fun p hp => ite_ok (fun _ => bind_ok (pick_ok hc hp.1 _ (by simp)) fun r hr => ⟨_, rfl, hr.1⟩) (fun _ => bind_ok (next_ok hc hp.1 200) fun r hr => ⟨_, rfl, hr.1⟩)

theorem DrawCreepTenths_ok {c : List Int} (hc : Code c) {k : Nat} (hk : c.length < k) : ∃ p, spec_DrawCreepTenths.f k c = some p ∧ True := by
  unfold spec_DrawCreepTenths.f
  refine bind_ok (from_ok hc hk) fun p hp => ?_
  rw [hp.1]
  exact bind_ok (l06DrawNest_ok hc hp.2) fun n hn => bind_ok (l07DrawThickness_ok hc hn) fun r _ => ⟨_, rfl, trivial⟩

theorem DrawMarginsFor_ok {c : List Int} (hc : Code c) {k : Nat} (hk : c.length < k) : ∃ p, spec_DrawMarginsFor.f k c = some p ∧ True := by
  unfold spec_DrawMarginsFor.f
  refine bind_ok (from_ok hc hk) fun p hp => ?_
  rw [hp.1]
  exact bind_ok (DrawCreepTenths_ok hc hk) fun n _ => bind_ok (next_ok hc hp.2 40) fun s hs => bind_ok (pick_ok hc hs.1 _ (by simp)) fun t ht => bind_ok (pick_ok hc ht.1 _ (by simp)) fun u _ => ⟨_, rfl, trivial⟩

theorem impl_inRange_eq (a b c : Int) : impl_inRange.f a b c = some (inR a b c) := by
  unfold impl_inRange.f inR
  by_cases h : b ≤ a
  · rw [if_pos h]; simp [h]
  · rw [if_neg h]; simp [h]

theorem impl_isNest_eq (a : Int) : impl_isNest.f a = some (inR a 1 64) := by
  unfold impl_isNest.f; rw [impl_inRange_eq]; rfl

theorem impl_isLength_eq (a : Int) : impl_isLength.f a = some (inR a 0 1000000000) := by
  unfold impl_isLength.f; rw [impl_inRange_eq]; rfl

theorem impl_isThickness_eq (a : Int) : impl_isThickness.f a = some (inR a 1 2000) := by
  unfold impl_isThickness.f; rw [impl_inRange_eq]; rfl

theorem impl_creepTenths_l0 (n t : Int) (hn : inR n 1 64 = true) (ht : inR t 1 2000 = true) : ∀ (d k i : Nat), (i : Int) + d = n → d < k → impl_creepTenths.l0 k t (creeps i t) n (i : Int) = some (creeps n.toNat t) := by
  have h1 := inR_true hn
  intro d
  induction d with
  | zero =>
    intro k i h hk
    obtain ⟨k, rfl⟩ : ∃ m, k = m + 1 := ⟨k - 1, by omega⟩
    rw [impl_creepTenths.l0, if_neg (by omega), show i = n.toNat by omega]
  | succ d ih =>
    intro k i h hk
    obtain ⟨k, rfl⟩ : ∃ m, k = m + 1 := ⟨k - 1, by omega⟩
    have hb := creep1_bd (k := (i : Int)) (by omega) (by omega) ht
    have e : wrap64 (Int.tdiv (wrap64 (wrap64 ((i : Int) * t) + 50)) 100) = creep1 (i : Int) t := by
      rw [w64 (x := (i : Int) * t) (by omega) (by omega), w64 (x := (i : Int) * t + 50) (by omega) (by omega), tdiv_n (by omega)]
      unfold creep1 at hb ⊢
      rw [w64 (by omega) (by omega)]
    rw [impl_creepTenths.l0, if_pos (by omega), if_pos (by rw [creeps_len]; omega), e, w64 (by omega) (by omega), ← creeps_succ]
    exact ih k (i + 1) (by omega) (by omega)
theorem impl_creepTenths_eq (k : Nat) (n t : Int) (hn : inR n 1 64 = true) (ht : inR t 1 2000 = true) (hk : 64 < k) : impl_creepTenths.f k n t = some (creeps n.toNat t) := by
  have h1 := inR_true hn
  exact impl_creepTenths_l0 n t hn ht n.toNat k 0 (by omega) (by omega)

theorem impl_MarginsFor_l0 (n t m : Int) (hn : inR n 1 64 = true) (ht : inR t 1 2000 = true) (hm : inR m 0 1000000000 = true) : ∀ (d k i : Nat) (l : List Int), (i : Int) + d = n → d < k → l.length = i → impl_MarginsFor.l0 k m l (creeps n.toNat t) n (i : Int) = some (marg m t d (i : Int) l) := by
  have h1 := inR_true hn
  have h2 := inR_true hm
  intro d
  induction d with
  | zero =>
    intro k i l h hk hl
    obtain ⟨k, rfl⟩ : ∃ m, k = m + 1 := ⟨k - 1, by omega⟩
    rw [impl_MarginsFor.l0, if_neg (by omega), marg]
  | succ d ih =>
    intro k i l h hk hl
    obtain ⟨k, rfl⟩ : ∃ m, k = m + 1 := ⟨k - 1, by omega⟩
    have hb := creep1_bd (k := (i : Int)) (by omega) (by omega) ht
    have e : rd (creeps n.toNat t) (i : Int) = creep1 (i : Int) t := by
      rw [rd_nat, creeps, List.getD_eq_getElem?_getD, List.getElem?_map, List.getElem?_range (by omega)]
      rfl
    rw [impl_MarginsFor.l0, if_pos (by omega), if_pos (by omega), if_pos (by rw [creeps_len]; omega), e, marg]
    by_cases hc : creep1 (i : Int) t > m
    · rw [if_pos hc, if_pos (by omega)]
    · rw [if_neg hc, if_pos (by omega), if_neg (by omega), w64 (x := m - creep1 (i : Int) t) (by omega) (by omega), w64 (by omega) (by omega)]
      exact ih k (i + 1) _ (by omega) (by omega) (by simp [hl])
theorem impl_MarginsFor_eq (k : Nat) (n t m : Int) (hk : 65 < k) : impl_MarginsFor.f k n t m = some (marginsFor n t m) := by
  obtain ⟨k, rfl⟩ : ∃ m, k = m + 1 := ⟨k - 1, by omega⟩
  unfold impl_MarginsFor.f marginsFor
  simp only [impl_isNest_eq, impl_isThickness_eq, impl_isLength_eq, Option.bind_some]
  cases hn : inR n 1 64
  · simp [impl_MarginsFor.j0]
  cases ht : inR t 1 2000
  · simp [impl_MarginsFor.j0]
  cases hm : inR m 0 1000000000
  · simp [impl_MarginsFor.j0]
  have h1 := inR_true hn
  simp only [if_true, Bool.and_self, Bool.not_true, impl_MarginsFor.j0, Bool.false_eq_true, if_false, impl_creepTenths_eq k n t hn ht (by omega), Option.bind_some, creeps_len]
  rw [show ((n.toNat : Nat) : Int) = n by omega]
  exact impl_MarginsFor_l0 n t m hn ht hm n.toNat k 0 [] (by omega) (by omega) rfl

theorem spec_l01In_eq (a b c : Int) : spec_l01In.f a b c = some (inR a b c) := by
  unfold spec_l01In.f inR
  by_cases h : a ≥ b
  · rw [if_pos h]; simp [show b ≤ a from h]
  · rw [if_neg h]; simp [show ¬ b ≤ a from h]

theorem spec_l07Fits_eq (a b : Int) : spec_l07Fits.f a b = some (inR a 1 64 && inR b 1 2000) := by
  unfold spec_l07Fits.f
  simp only [spec_l01In_eq, Option.bind_some]
  cases inR a 1 64 <;> rfl

theorem spec_l07Tenths_eq (k t : Int) (h0 : 0 ≤ k) (h1 : k ≤ 64) (ht : inR t 1 2000 = true) : spec_l07Tenths.f (wrap64 (k * t)) = some (creep1 k t) := by
  have hb := creep1_bd h0 h1 ht
  unfold spec_l07Tenths.f
  rw [w64 (x := k * t) (by omega) (by omega), w64 (x := k * t + 50) (by omega) (by omega), tdiv_n (by omega)]
  unfold creep1 at hb ⊢
  rw [w64 (by omega) (by omega)]

theorem spec_MarginsFor_l0 (n t m : Int) (hn : inR n 1 64 = true) (ht : inR t 1 2000 = true) (hm : inR m 0 1000000000 = true) : ∀ (d k i : Nat) (l : List Int), (i : Int) + d = n → d < k → l.length = i → spec_MarginsFor.l0 k n t m l (i : Int) = some (marg m t d (i : Int) l) := by
  have h1 := inR_true hn
  have h2 := inR_true hm
  intro d
  induction d with
  | zero =>
    intro k i l h hk hl
    obtain ⟨k, rfl⟩ : ∃ m, k = m + 1 := ⟨k - 1, by omega⟩
    rw [spec_MarginsFor.l0, if_neg (by omega), marg]
  | succ d ih =>
    intro k i l h hk hl
    obtain ⟨k, rfl⟩ : ∃ m, k = m + 1 := ⟨k - 1, by omega⟩
    have hb := creep1_bd (k := (i : Int)) (by omega) (by omega) ht
    rw [spec_MarginsFor.l0, if_pos (by omega), spec_l07Tenths_eq _ _ (by omega) (by omega) ht]
    simp only [Option.bind_some]
    rw [w64 (x := m - creep1 (i : Int) t) (by omega) (by omega), marg]
    split
    · rfl
    · rw [if_pos (by omega), w64 (by omega) (by omega)]
      exact ih k (i + 1) _ (by omega) (by omega) (by simp [hl])
theorem spec_MarginsFor_eq (k : Nat) (n t m : Int) (hk : 65 < k) : spec_MarginsFor.f k n t m = some (marginsFor n t m) := by
  obtain ⟨k, rfl⟩ : ∃ m, k = m + 1 := ⟨k - 1, by omega⟩
  unfold spec_MarginsFor.f marginsFor
  simp only [spec_l07Fits_eq, spec_l01In_eq, Option.bind_some]
  cases hn : inR n 1 64
  · simp [spec_MarginsFor.j0]
  cases ht : inR t 1 2000
  · simp [spec_MarginsFor.j0]
  cases hm : inR m 0 1000000000
  · simp [spec_MarginsFor.j0]
  have h1 := inR_true hn
  simp only [if_true, Bool.and_self, Bool.not_true, spec_MarginsFor.j0, Bool.false_eq_true, if_false]
  exact spec_MarginsFor_l0 n t m hn ht hm n.toNat k 0 [] (by omega) (by omega) rfl

theorem impl_CreepTenths_eq (k : Nat) (n t : Int) (hk : 64 < k) : impl_CreepTenths.f k n t = some (creepTenths n t) := by
  unfold impl_CreepTenths.f creepTenths
  simp only [impl_isNest_eq, impl_isThickness_eq, Option.bind_some]
  cases hn : inR n 1 64
  · simp
  cases ht : inR t 1 2000
  · simp
  simp only [if_true, Bool.and_self, impl_creepTenths_eq k n t hn ht hk, Option.bind_some]

theorem spec_CreepTenths_l0 (n t : Int) (hn : inR n 1 64 = true) (ht : inR t 1 2000 = true) : ∀ (d k i : Nat), (i : Int) + d = n → d < k → spec_CreepTenths.l0 k n t (creeps i t) (i : Int) = some (creeps n.toNat t, 0) := by
  have h1 := inR_true hn
  intro d
  induction d with
  | zero =>
    intro k i h hk
    obtain ⟨k, rfl⟩ : ∃ m, k = m + 1 := ⟨k - 1, by omega⟩
    rw [spec_CreepTenths.l0, if_neg (by omega), show i = n.toNat by omega]
  | succ d ih =>
    intro k i h hk
    obtain ⟨k, rfl⟩ : ∃ m, k = m + 1 := ⟨k - 1, by omega⟩
    rw [spec_CreepTenths.l0, if_pos (by omega), spec_l07Tenths_eq _ _ (by omega) (by omega) ht]
    simp only [Option.bind_some]
    rw [if_pos (by rw [creeps_len]; omega), w64 (by omega) (by omega), ← creeps_succ]
    exact ih k (i + 1) (by omega) (by omega)
theorem spec_CreepTenths_eq (k : Nat) (n t : Int) (hk : 64 < k) : spec_CreepTenths.f k n t = some (creepTenths n t) := by
  unfold spec_CreepTenths.f creepTenths
  simp only [spec_l07Fits_eq, Option.bind_some]
  cases hn : inR n 1 64
  · simp
  cases ht : inR t 1 2000
  · simp
  have h1 := inR_true hn
  simp only [if_true, Bool.and_self]
  exact spec_CreepTenths_l0 n t hn ht n.toNat k 0 (by omega) (by omega)

theorem DrawNestedPages_ok {c : List Int} (hc : Code c) {k : Nat} (hk : c.length < k) : ∃ p, spec_DrawNestedPages.f k c = some p ∧ True := by
  unfold spec_DrawNestedPages.f
  refine bind_ok (from_ok hc hk) fun p hp => ?_
  rw [hp.1]
  exact bind_ok (l06DrawNest_ok hc hp.2) fun n hn => bind_ok (next_ok hc hn 20) fun r hr => ite_ok (fun _ => bind_ok (pick_ok hc hr.1 _ (by simp)) fun t _ => ⟨_, rfl, trivial⟩) (fun _ => bind_ok (next_ok hc hr.1 _) fun t _ => ⟨_, rfl, trivial⟩)

theorem DrawCreepOf_ok {c : List Int} (hc : Code c) {k : Nat} (hk : c.length < k) : ∃ p, spec_DrawCreepOf.f k c = some p ∧ True := by
  unfold spec_DrawCreepOf.f
  refine bind_ok (from_ok hc hk) fun p hp => ?_
  rw [hp.1]
  exact bind_ok (DrawNestedPages_ok hc hk) fun n _ => bind_ok (l07DrawThickness_ok hc hp.2) fun r _ => ⟨_, rfl, trivial⟩

theorem impl_CreepOf_eq (n k t : Int) : impl_CreepOf.f n k t = some (creepOf n k t) := by
  unfold impl_CreepOf.f creepOf
  simp only [impl_isNest_eq, impl_isThickness_eq, impl_inRange_eq, Option.bind_some]
  cases hn : inR n 1 64
  · simp
  have h1 := inR_true hn
  rw [w64 (x := n - 1) (by omega) (by omega)]
  cases hk : inR k 0 (n - 1)
  · cases inR t 1 2000 <;> simp
  cases ht : inR t 1 2000
  · simp
  have h2 := inR_true hk
  have h3 := inR_true ht
  have h4 := mul_bd (a := k) (b := t) (A := 64) (B := 2000) (by omega) (by omega) (by omega) (by omega)
  simp only [Bool.and_self, if_true]
  rw [w64 (by omega) (by omega)]

theorem spec_CreepOf_eq (n k t : Int) : spec_CreepOf.f n k t = some (creepOf n k t) := by
  unfold spec_CreepOf.f creepOf
  simp only [spec_l07Fits_eq, spec_l01In_eq, Option.bind_some]
  cases hn : inR n 1 64
  · simp
  have h1 := inR_true hn
  rw [w64 (x := n - 1) (by omega) (by omega)]
  cases hk : inR k 0 (n - 1)
  · cases inR t 1 2000 <;> simp
  cases ht : inR t 1 2000
  · simp
  have h2 := inR_true hk
  have h3 := inR_true ht
  have h4 := mul_bd (a := k) (b := t) (A := 64) (B := 2000) (by omega) (by omega) (by omega) (by omega)
  simp only [Bool.and_self, if_true]
  rw [w64 (by omega) (by omega)]

theorem impl_TrimLoss_eq (n t : Int) : impl_TrimLoss.f n t = some (trimLoss n t) := by
  unfold impl_TrimLoss.f trimLoss
  simp only [impl_CreepOf_eq, Option.bind_some, creepOf]
  cases hn : inR n 1 64
  · simp
  have h1 := inR_true hn
  rw [w64 (x := n - 1) (by omega) (by omega), inR_mk (a := n - 1) (by omega) (by omega)]
  cases ht : inR t 1 2000 <;> simp

theorem trimLoss_wrap {n t : Int} (hn : inR n 1 64 = true) (ht : inR t 1 2000 = true) : wrap64 (wrap64 (n - 1) * t) = (n - 1) * t := by
  have h1 := inR_true hn
  have h3 := inR_true ht
  have h4 := mul_bd (a := n - 1) (b := t) (A := 64) (B := 2000) (by omega) (by omega) (by omega) (by omega)
  rw [w64 (x := n - 1) (by omega) (by omega), w64 (by omega) (by omega)]
theorem spec_TrimLoss_eq (n t : Int) : spec_TrimLoss.f n t = some (trimLoss n t) := by
  unfold spec_TrimLoss.f trimLoss
  simp only [spec_l07Fits_eq, Option.bind_some]
  cases hn : inR n 1 64
  · simp
  cases ht : inR t 1 2000
  · simp
  simp only [Bool.and_self, if_true]
  rw [trimLoss_wrap hn ht]

theorem DrawMostNested_ok {c : List Int} (hc : Code c) {k : Nat} (hk : c.length < k) : ∃ p, spec_DrawMostNested.f k c = some p ∧ True := by
  unfold spec_DrawMostNested.f
  refine bind_ok (from_ok hc hk) fun p hp => ?_
  rw [hp.1]
  exact bind_ok (l07DrawThickness_ok hc hp.2) fun r hr => bind_ok (next_ok hc hr 3000) fun s hs => bind_ok (next_ok hc hs.1 20000) fun t ht => bind_ok (pick_ok hc ht.1 _ (by simp)) fun u hu => bind_ok (pick_ok hc hu.1 _ (by simp)) fun v _ => ⟨_, rfl, trivial⟩

theorem impl_MostNested_eq (t l : Int) : impl_MostNested.f t l = some (mostNested t l) := by
  unfold impl_MostNested.f mostNested
  simp only [impl_isThickness_eq, impl_inRange_eq, Option.bind_some]
  cases ht : inR t 1 2000
  · simp
  have h1 := inR_true ht
  cases hl : inR l 0 1000000000
  · simp
  simp only [Bool.and_self, if_true]
  rw [if_neg (by omega), mostNested_wrap ht hl]

theorem spec_MostNested_eq (t l : Int) : spec_MostNested.f t l = some (mostNested t l) := by
  unfold spec_MostNested.f mostNested
  simp only [spec_l07Fits_eq, spec_l01In_eq, Option.bind_some, show inR 1 1 64 = true from rfl, Bool.true_and]
  cases ht : inR t 1 2000
  · simp
  have h1 := inR_true ht
  cases hl : inR l 0 1000000000
  · simp
  simp only [Bool.and_self, if_true]
  rw [if_neg (by omega), mostNested_wrap ht hl]

theorem creep_loop (n t m : Int) (hn : inR n 1 64 = true) (ht : inR t 1 2000 = true) : ∀ (d k i : Nat), (i : Int) + d = n → 2 * d + 2 < k → laws_FnCreep.l0 k n t m (marginsFor n t m).1 (marginsFor n t m).2 (creepTenths n t).1 (creepTenths n t).2 (i : Int) = some true := by
  have h1 := inR_true hn
  have h2 := inR_true ht
  have ec : creepTenths n t = (creeps n.toNat t, 0) := if_pos (by rw [hn, ht]; rfl)
  rw [ec]
  simp only
  intro d
  induction d with
  | zero =>
    intro k i h hk
    obtain ⟨k, rfl⟩ : ∃ m, k = m + 2 := ⟨k - 2, by omega⟩
    rw [laws_FnCreep.l0, if_pos rfl, decide_eq_false (by omega), laws_FnCreep.j3, if_neg (by simp)]
  | succ d ih =>
    intro k i h hk
    obtain ⟨k, rfl⟩ : ∃ m, k = m + 2 := ⟨k - 2, by omega⟩
    have hi : i < n.toNat := by omega
    have eo : creepOf n (i : Int) t = ((i : Int) * t, 0) := if_pos (by rw [hn, ht, inR_mk (a := (i : Int)) (by omega) (by omega)]; rfl)
    have hcb := creep1_bd (k := (i : Int)) (by omega) (by omega) ht
    have hrd := rd_creeps n.toNat t i hi
    rw [laws_FnCreep.l0, if_pos rfl, decide_eq_true (by omega), laws_FnCreep.j3, if_pos rfl, impl_CreepOf_eq, eo]
    simp only [Option.bind_some, if_true]
    rw [if_pos (by omega), if_pos (by rw [creeps_len]; omega), hrd, w64 (x := 100 * creep1 (i : Int) t) (by omega) (by omega), w64 (x := 100 * creep1 (i : Int) t - (i : Int) * t) (by omega) (by omega), w64 (x := (i : Int) * t - 100 * creep1 (i : Int) t) (by omega) (by omega), w64 (x := (i : Int) + 1) (by omega) (by omega)]
    have e1 : creep1 (i : Int) t = ((i : Int) * t + 50) / 100 := rfl
    rw [if_neg (by omega), if_neg (by omega)]
    have n1 := ih k (i + 1) (by omega) (by omega)
    rw [show ((i + 1 : Nat) : Int) = (i : Int) + 1 by omega] at n1
    by_cases hm : (marginsFor n t m).2 = 0
    · rw [if_pos hm]
      have em : marg m t n.toNat 0 [] = ((marginsFor n t m).1, 0) := by
        by_cases c : (inR n 1 64 && inR t 1 2000 && inR m 0 1000000000) = true
        · have e2 : marginsFor n t m = marg m t n.toNat 0 [] := if_pos c
          rw [← e2]
          exact Prod.ext rfl hm
        · have e2 : marginsFor n t m = ([], 2) := if_neg c
          rw [e2] at hm
          simp at hm
      have hmr : inR m 0 1000000000 = true := by
        unfold marginsFor at hm
        by_cases c : (inR n 1 64 && inR t 1 2000 && inR m 0 1000000000) = true
        · rw [Bool.and_eq_true] at c
          exact c.2
        · rw [if_neg c] at hm
          simp at hm
      have hmb := inR_true hmr
      obtain ⟨t1, _, t3⟩ := marg_tells m t n.toNat 0 [] _ em
      have t4 := t3 i hi
      simp only [List.length_nil, Nat.zero_add, Int.zero_add] at t1 t4
      have t5 : rd (marginsFor n t m).1 (i : Int) = m - creep1 (i : Int) t := by rw [rd_nat]; exact t4
      rw [if_pos (by omega), t5, w64 (x := m - creep1 (i : Int) t + creep1 (i : Int) t) (by omega) (by omega), if_pos (by omega)]
      exact n1
    · rw [if_neg hm]
      exact n1
theorem creep_tail (n t m : Int) (k : Nat) (hk : 200 < k) : laws_FnCreep.j1 k n t m (marginsFor n t m).1 (marginsFor n t m).2 (creepTenths n t).1 (creepTenths n t).2 = some true := by
  obtain ⟨k, rfl⟩ : ∃ m, k = m + 1 := ⟨k - 1, by omega⟩
  rw [laws_FnCreep.j1]
  by_cases h : (inR n 1 64 && inR t 1 2000) = true
  · rw [Bool.and_eq_true] at h
    have := inR_true h.1
    exact creep_loop n t m h.1 h.2 n.toNat k 0 (by omega) (by omega)
  · have e : creepTenths n t = ([], 2) := if_neg h
    obtain ⟨k, rfl⟩ : ∃ m, k = m + 2 := ⟨k - 2, by omega⟩
    rw [e, laws_FnCreep.l0, if_neg (by decide), laws_FnCreep.j3, if_neg (by simp)]
theorem FnCreep : laws_FnCreep.Pure := by
  intro l _ _ hb
  by_cases hbig : (l.length : Int) > 4096
  · exact ⟨1, by unfold laws_FnCreep.f; rw [laws_big_eq, decide_eq_true hbig]; rfl⟩
  have hc : Code l := ⟨fun x hx => wfByte (hb x hx), by omega⟩
  obtain ⟨⟨n, t, m⟩, e1, _⟩ := DrawMarginsFor_ok hc (k := 5001) (by omega)
  obtain ⟨⟨a, i, s⟩, e2, _⟩ := DrawCreepOf_ok hc (k := 5001) (by omega)
  obtain ⟨⟨b, limit⟩, e3, _⟩ := DrawMostNested_ok hc (k := 5001) (by omega)
  have l1 := marginsFor_len n t m
  have l2 := creepTenths_len n t
  refine ⟨5001, ?_⟩
  unfold laws_FnCreep.f
  simp only [laws_big_eq, decide_eq_false hbig, Bool.false_eq_true, if_false, Option.bind_some, e1]
  rw [impl_MarginsFor_eq _ n t m (by omega), spec_MarginsFor_eq _ n t m (by omega), impl_CreepTenths_eq _ n t (by omega), spec_CreepTenths_eq _ n t (by omega)]
  simp only [Option.bind_some, e2, impl_CreepOf_eq, spec_CreepOf_eq, impl_TrimLoss_eq, spec_TrimLoss_eq]
  rw [laws_likeInts_eq (marginsFor n t m).1 _ (by omega) (by omega), laws_likeInts_eq (creepTenths n t).1 _ (by omega) (by omega)]
  simp only [Option.bind_some, e3, impl_MostNested_eq, spec_MostNested_eq, if_true, bne_self_eq_false]
  simp only [laws_FnCreep.j0, Bool.false_eq_true, if_false]
  by_cases h0 : (inR b 1 2000 && inR limit 0 1000000000) = true
  · have em : mostNested b limit = (min 64 (limit / b + 1), 0) := if_pos h0
    rw [Bool.and_eq_true] at h0
    have hb1 := inR_true h0.1
    have hb2 := inR_true h0.2
    have hd0 : 0 ≤ limit / b := Int.ediv_nonneg (by omega) (by omega)
    have hd1 : limit / b * b ≤ limit := Int.ediv_mul_le _ (by omega)
    have hd2 : limit < (limit / b + 1) * b := Int.lt_ediv_add_one_mul_self _ (by omega)
    rw [em]
    simp only [if_true]
    have e4 : trimLoss (min 64 (limit / b + 1)) b = ((min 64 (limit / b + 1) - 1) * b, 0) := if_pos (by rw [inR_mk (a := min 64 (limit / b + 1)) (by omega) (by omega), h0.1]; rfl)
    have hle : (min 64 (limit / b + 1) - 1) * b ≤ limit / b * b := Int.mul_le_mul_of_nonneg_right (by omega) (by omega)
    rw [w64 (x := min 64 (limit / b + 1) + 1) (by omega) (by omega), impl_TrimLoss_eq, impl_TrimLoss_eq, e4]
    simp only [Option.bind_some, if_true]
    rw [if_neg (by omega)]
    by_cases h5 : limit / b + 1 < 64
    · have e5 : trimLoss (min 64 (limit / b + 1) + 1) b = ((min 64 (limit / b + 1) + 1 - 1) * b, 0) := if_pos (by rw [inR_mk (a := min 64 (limit / b + 1) + 1) (by omega) (by omega), h0.1]; rfl)
      rw [e5]
      simp only [if_true]
      rw [show min 64 (limit / b + 1) + 1 - 1 = limit / b + 1 by omega, if_neg (by omega)]
      exact creep_tail n t m _ (by omega)
    · have e5 : trimLoss (min 64 (limit / b + 1) + 1) b = (0, 2) := if_neg (by
        rw [Bool.and_eq_true]
        intro h
        have := inR_true h.1
        omega)
      rw [e5]
      simp only
      rw [if_neg (by decide)]
      exact creep_tail n t m _ (by omega)
  · have em : mostNested b limit = (0, 2) := if_neg h0
    rw [em]
    simp only
    rw [if_neg (by decide)]
    exact creep_tail n t m _ (by omega)

end Go.Proofs.Ytfmmpdhodkkkdaa.Pure
