/- For all arguments the law FnCuts returns true, with no condition beyond the bounds that the printed statement names. -/
import Derived.Test.YthapadejldlmfaaPFnCutsx12
namespace Go.Proofs.Ythapadejldlmfaa.Pure
open Go.RowKit Go.Proofs.Ythapadejldlmfaa.PFnCuts Go.Proofs.YthapadejldlmfaaW.PrintWords Go.Proofs.YthapadejldlmfaaW.PrintLast
set_option linter.unusedVariables false
set_option linter.unusedSimpArgs false

theorem w64 {x : Int} (h1 : -9223372036854775808 ≤ x) (h2 : x ≤ 9223372036854775807) : wrap64 x = x := by
  unfold wrap64; omega
theorem wf64 {x : Int} (h : (Lit.int .i64 x).wf = true) : -9223372036854775808 ≤ x ∧ x ≤ 9223372036854775807 := by
  simp [Lit.wf, IntKind.min, IntKind.max, IntKind.signed, IntKind.bits] at h
  omega
/-- 'a lies from b to c'. -/
def inR (a b c : Int) : Bool := decide (b ≤ a ∧ a ≤ c)
theorem inR_true {a b c : Int} (h : inR a b c = true) : b ≤ a ∧ a ≤ c := by simpa [inR] using h
theorem inR_mk {a b c : Int} (h1 : b ≤ a) (h2 : a ≤ c) : inR a b c = true := by simp [inR, h1, h2]
theorem inR_false {a b c : Int} (h : inR a b c = false) : a < b ∨ c < a := by
  have : ¬ (b ≤ a ∧ a ≤ c) := by simpa [inR] using h
  omega
theorem rd_nat (xs : List Int) (i : Nat) : rd xs (i : Int) = xs.getD i 0 := by simp [rd]
theorem mul_bd {a b A B : Int} (h0 : 0 ≤ a) (h1 : a ≤ A) (k0 : 0 ≤ b) (k1 : b ≤ B) : 0 ≤ a * b ∧ a * b ≤ A * B :=
  ⟨Int.mul_nonneg h0 k0, Int.mul_le_mul h1 k1 k0 (by omega)⟩
theorem tdiv_n {a b : Int} (h : 0 ≤ a) : Int.tdiv a b = a / b := Int.tdiv_eq_ediv_of_nonneg h
theorem tmod_n {a b : Int} (h : 0 ≤ a) : Int.tmod a b = a % b := Int.tmod_eq_emod_of_nonneg h
theorem mn_min (a b : Int) : mn a b = min a b := by unfold mn; split <;> omega
theorem mx_max (a b : Int) : mx a b = max a b := by unfold mx; split <;> omega

/-- A code that is drawn from. -/
def Code (c : List Int) : Prop := (∀ x ∈ c, 0 ≤ x ∧ x ≤ 255) ∧ c.length ≤ 4096
/-- Where a source stands, and its seed. -/
def SOk (q : Int × Int) : Prop := 0 ≤ q.1 ∧ 0 ≤ q.2 ∧ q.2 < 2147483647
theorem wfByte {x : Int} (h : (Lit.int .u8 x).wf = true) : 0 ≤ x ∧ x ≤ 255 := by
  simp [Lit.wf, IntKind.min, IntKind.max, IntKind.signed, IntKind.bits] at h
  omega
theorem rd_byte {c : List Int} (h : Code c) {i : Int} (h0 : 0 ≤ i) (h1 : i < c.length) : 0 ≤ rd c i ∧ rd c i ≤ 255 := by
  obtain ⟨n, rfl⟩ : ∃ n : Nat, i = n := ⟨i.toNat, by omega⟩
  have hn : n < c.length := by omega
  have e : rd c (n : Int) = c[n] := by rw [rd_nat, List.getD_eq_getElem?_getD, List.getElem?_eq_getElem hn]; rfl
  rw [e]
  exact h.1 _ (List.getElem_mem hn)
theorem bind_ok {α β : Type} {x : Option α} {P : α → Prop} {f : α → Option β} {Q : β → Prop} (h : ∃ p, x = some p ∧ P p) (hf : ∀ p, P p → ∃ r, f p = some r ∧ Q r) : ∃ r, x.bind f = some r ∧ Q r := by
  obtain ⟨p, e, hp⟩ := h
  rw [e]
  exact hf p hp
theorem ite_ok {α : Type} {c : Prop} [Decidable c] {a b : Option α} {Q : α → Prop} (h1 : c → ∃ r, a = some r ∧ Q r) (h2 : ¬ c → ∃ r, b = some r ∧ Q r) : ∃ r, (if c then a else b) = some r ∧ Q r := by
  by_cases h : c
  · rw [if_pos h]; exact h1 h
  · rw [if_neg h]; exact h2 h
theorem some_ok {α β : Type} {x : Option α} {v : α} {f : α → Option β} {Q : β → Prop} (h : x = some v) (hf : ∃ r, f v = some r ∧ Q r) : ∃ r, x.bind f = some r ∧ Q r := by
  rw [h]
  exact hf

def isPiece (a b : Int) : Bool := inR a 1 20000 && inR b 1 20000

theorem rdIPiece (xs : List S77) (i : Nat) (h : i < xs.length) : rd_T77 xs (i : Int) = xs[i] := by simp [rd_T77, List.getD_eq_getElem?_getD, List.getElem?_eq_getElem h]
theorem dropIPiece (xs : List S77) (i : Nat) (h : i < xs.length) : xs.drop i = xs[i] :: xs.drop (i + 1) := List.drop_eq_getElem_cons h

def arePieces (l : List S77) : Bool := decide (l.length ≤ 80) && l.all fun x => isPiece x.f0 x.f1
theorem arePieces_true {l : List S77} (h : arePieces l = true) : l.length ≤ 80 ∧ ∀ x ∈ l, (1 ≤ x.f0 ∧ x.f0 ≤ 20000) ∧ (1 ≤ x.f1 ∧ x.f1 ≤ 20000) := by
  simp only [arePieces, Bool.and_eq_true, decide_eq_true_eq, List.all_eq_true, isPiece] at h
  exact ⟨h.1, fun x hx => ⟨inR_true (h.2 x hx).1, inR_true (h.2 x hx).2⟩⟩
/-- The area, as the program adds it up. -/
def warea (a : Int) (l : List S77) : Int := l.foldl (fun a x => wrap64 (a + wrap64 (x.f0 * x.f1))) a
def areaOf (l : List S77) : Int × Int := if arePieces l = true then (warea 0 l, 0) else (0, 1)

def sideOf (l : List S77) (i : Int) (acr : Bool) : Int := if acr = true then (rd_T77 l i).f1 else (rd_T77 l i).f0
def possible (l : List S77) (i : Int) (acr : Bool) (at_ : Int) : Bool := inR i 0 ((l.length : Int) - 1) && (decide (l.length < 80) && inR at_ 1 (sideOf l i acr - 1))
theorem sideOf_bd {l : List S77} {i : Int} {acr : Bool} (h : arePieces l = true) (hi : inR i 0 ((l.length : Int) - 1) = true) : 1 ≤ sideOf l i acr ∧ sideOf l i acr ≤ 20000 := by
  have h1 := inR_true hi
  obtain ⟨n, rfl⟩ : ∃ n : Nat, i = n := ⟨i.toNat, by omega⟩
  have hlt : n < l.length := by omega
  have h2 := (arePieces_true h).2 l[n] (List.getElem_mem hlt)
  unfold sideOf
  rw [rdIPiece l n hlt]
  split
  · exact h2.2
  · exact h2.1

/-- The pieces after a cut. -/
def cutP (l : List S77) (i : Int) (acr : Bool) (at_ : Int) : List S77 :=
  l.take i.toNat ++ ((if acr = true then [⟨(rd_T77 l i).f0, at_⟩, ⟨(rd_T77 l i).f0, (rd_T77 l i).f1 - at_⟩] else [⟨at_, (rd_T77 l i).f1⟩, ⟨(rd_T77 l i).f0 - at_, (rd_T77 l i).f1⟩]) ++ l.drop (i.toNat + 1))
theorem possible_true {l : List S77} {i : Int} {acr : Bool} {at_ : Int} (h : possible l i acr at_ = true) : (0 ≤ i ∧ i < (l.length : Int)) ∧ l.length < 80 ∧ 1 ≤ at_ ∧ at_ ≤ sideOf l i acr - 1 := by
  simp only [possible, Bool.and_eq_true, decide_eq_true_eq] at h
  have h1 := inR_true h.1
  have h2 := inR_true h.2.2
  exact ⟨⟨h1.1, by omega⟩, h.2.1, h2.1, h2.2⟩
theorem cutP_len {l : List S77} {i : Int} {acr : Bool} {at_ : Int} (h0 : 0 ≤ i) (h1 : i < (l.length : Int)) : (cutP l i acr at_).length = l.length + 1 := by
  unfold cutP
  cases acr <;> simp only [if_true, if_false, Bool.false_eq_true, List.length_append, List.length_take, List.length_drop, List.length_cons, List.length_nil] <;> omega
theorem rdP_ok {l : List S77} (h : arePieces l = true) {i : Int} (h0 : 0 ≤ i) (h1 : i < (l.length : Int)) : (1 ≤ (rd_T77 l i).f0 ∧ (rd_T77 l i).f0 ≤ 20000) ∧ (1 ≤ (rd_T77 l i).f1 ∧ (rd_T77 l i).f1 ≤ 20000) := by
  obtain ⟨n, rfl⟩ : ∃ n : Nat, i = n := ⟨i.toNat, by omega⟩
  have hlt : n < l.length := by omega
  rw [rdIPiece l n hlt]
  exact (arePieces_true h).2 l[n] (List.getElem_mem hlt)
theorem cutP_ok {l : List S77} {i : Int} {acr : Bool} {at_ : Int} (h : arePieces l = true) (hp : possible l i acr at_ = true) : arePieces (cutP l i acr at_) = true := by
  obtain ⟨⟨h0, h1⟩, h2, h3, h4⟩ := possible_true hp
  have hr := rdP_ok h h0 h1
  have hall := (arePieces_true h).2
  have hv : ∀ a b : Int, 1 ≤ a → a ≤ 20000 → 1 ≤ b → b ≤ 20000 → isPiece a b = true := fun a b _ _ _ _ => by
    unfold isPiece; rw [inR_mk (by omega) (by omega), inR_mk (by omega) (by omega)]; rfl
  simp only [arePieces, Bool.and_eq_true, decide_eq_true_eq, List.all_eq_true]
  refine ⟨by rw [cutP_len h0 h1]; omega, fun x hx => ?_⟩
  unfold cutP at hx
  unfold sideOf at h4
  rcases List.mem_append.1 hx with hx | hx
  · have := hall x (List.mem_of_mem_take hx)
    exact hv _ _ (by omega) (by omega) (by omega) (by omega)
  rcases List.mem_append.1 hx with hx | hx
  · cases acr
    · simp only [Bool.false_eq_true, if_false] at hx h4
      rcases List.mem_cons.1 hx with e | hx
      · rw [e]; exact hv _ _ (by simp only; omega) (by simp only; omega) (by simp only; omega) (by simp only; omega)
      · rw [List.mem_singleton.1 hx]; exact hv _ _ (by simp only; omega) (by simp only; omega) (by simp only; omega) (by simp only; omega)
    · simp only [if_true] at hx h4
      rcases List.mem_cons.1 hx with e | hx
      · rw [e]; exact hv _ _ (by simp only; omega) (by simp only; omega) (by simp only; omega) (by simp only; omega)
      · rw [List.mem_singleton.1 hx]; exact hv _ _ (by simp only; omega) (by simp only; omega) (by simp only; omega) (by simp only; omega)
  · have := hall x (List.mem_of_mem_drop hx)
    exact hv _ _ (by omega) (by omega) (by omega) (by omega)
def makeCut (l : List S77) (i : Int) (acr : Bool) (at_ : Int) : List S77 × Int :=
  if arePieces l = true then (if possible l i acr at_ = true then (cutP l i acr at_, 0) else ([], 5)) else ([], 1)
theorem makeCut_len (l : List S77) (i : Int) (acr : Bool) (at_ : Int) : (makeCut l i acr at_).1.length ≤ 80 := by
  unfold makeCut
  split
  · split
    · rename_i h2
      obtain ⟨⟨h0, h1⟩, h3, _, _⟩ := possible_true h2
      simp only
      rw [cutP_len h0 h1]
      omega
    · simp
  · simp

theorem rdICut (xs : List S85) (i : Nat) (h : i < xs.length) : rd_T85 xs (i : Int) = xs[i] := by simp [rd_T85, List.getD_eq_getElem?_getD, List.getElem?_eq_getElem h]
theorem dropICut (xs : List S85) (i : Nat) (h : i < xs.length) : xs.drop i = xs[i] :: xs.drop (i + 1) := List.drop_eq_getElem_cons h

/-- The pieces after cuts, one after another. -/
def runL : List S77 → List S85 → List S77 × Int
  | l, [] => (l, 0)
  | l, c :: cs => if possible l c.f0 c.f1 c.f2 = true then runL (cutP l c.f0 c.f1 c.f2) cs else ([], 5)
theorem runL_len : ∀ (cs : List S85) (l : List S77), arePieces l = true → (runL l cs).1.length ≤ 80
  | [], l, h => by rw [runL]; exact (arePieces_true h).1
  | c :: cs, l, h => by
    rw [runL]
    split
    · rename_i hp
      exact runL_len cs _ (cutP_ok h hp)
    · simp
def runCuts (a b : Int) (cs : List S85) : List S77 × Int :=
  if isPiece a b = true then (if (cs.length : Int) > 79 then ([], 3) else runL [⟨a, b⟩] cs) else ([], 1)
theorem are_one {a b : Int} (h : isPiece a b = true) : arePieces [(⟨a, b⟩ : S77)] = true := by
  simp [arePieces, h]
theorem runCuts_len (a b : Int) (cs : List S85) : (runCuts a b cs).1.length ≤ 80 := by
  unfold runCuts
  split
  · rename_i h
    split
    · simp
    · exact runL_len cs _ (are_one h)
  · simp

def cntP (a b : Int) : List S77 → Int
  | [] => 0
  | x :: xs => (if (x.f0 == a && (x.f1 == b)) = true then 1 else 0) + cntP a b xs
def countPieces (l : List S77) (a b : Int) : Int × Int := if (arePieces l && isPiece a b) = true then (cntP a b l, 0) else (0, 1)

def area : List S77 → Int
  | [] => 0
  | x :: xs => x.f0 * x.f1 + area xs
theorem area_app : ∀ xs ys : List S77, area (xs ++ ys) = area xs + area ys
  | [], ys => by simp [area]
  | x :: xs, ys => by rw [List.cons_append, area, area, area_app xs ys]; omega
theorem prod_bd {a b : Int} (h1 : 1 ≤ a) (h2 : a ≤ 20000) (h3 : 1 ≤ b) (h4 : b ≤ 20000) : 0 ≤ a * b ∧ a * b ≤ 400000000 := by
  refine ⟨Int.mul_nonneg (by omega) (by omega), ?_⟩
  have := Int.mul_le_mul (a := a) (b := b) (c := 20000) (d := 20000) h2 h4 (by omega) (by omega)
  omega
theorem warea_eq : ∀ (xs : List S77) (a : Int), (∀ x ∈ xs, (1 ≤ x.f0 ∧ x.f0 ≤ 20000) ∧ (1 ≤ x.f1 ∧ x.f1 ≤ 20000)) → 0 ≤ a → a + 400000000 * xs.length ≤ 1000000000000 → warea a xs = a + area xs
  | [], a, _, _, _ => by simp [warea, area]
  | x :: xs, a, h, h0, h1 => by
    have hx := h x (by simp)
    have hp := prod_bd hx.1.1 hx.1.2 hx.2.1 hx.2.2
    rw [List.length_cons] at h1
    have e : warea a (x :: xs) = warea (wrap64 (a + wrap64 (x.f0 * x.f1))) xs := rfl
    rw [e, w64 (x := x.f0 * x.f1) (by omega) (by omega), w64 (by omega) (by omega), warea_eq xs _ (fun y hy => h y (by simp [hy])) (by omega) (by omega), area]
    omega
theorem areaOf_ok {l : List S77} (h : arePieces l = true) : areaOf l = (area l, 0) := by
  obtain ⟨h1, h2⟩ := arePieces_true h
  unfold areaOf
  rw [if_pos h, warea_eq l 0 h2 (by omega) (by omega), Int.zero_add]
theorem area_cut {l : List S77} {i : Int} {acr : Bool} {at_ : Int} (h0 : 0 ≤ i) (h1 : i < (l.length : Int)) : area (cutP l i acr at_) = area l := by
  obtain ⟨n, rfl⟩ : ∃ n : Nat, i = n := ⟨i.toNat, by omega⟩
  have hlt : n < l.length := by omega
  have e : area l = area (l.take n) + (l[n].f0 * l[n].f1 + area (l.drop (n + 1))) := by
    have := congrArg area (List.take_append_drop n l)
    rw [dropIPiece l n hlt, area_app, area] at this
    exact this.symm
  unfold cutP
  rw [Int.toNat_natCast, rdIPiece l n hlt, e, area_app, area_app]
  cases acr
  · simp only [Bool.false_eq_true, if_false, area]
    rw [Int.sub_mul]
    omega
  · simp only [if_true, area]
    rw [Int.mul_sub]
    omega
theorem runL_law : ∀ (cs : List S85) (l : List S77), arePieces l = true → (runL l cs).2 = 0 → area (runL l cs).1 = area l ∧ (runL l cs).1.length = l.length + cs.length ∧ arePieces (runL l cs).1 = true
  | [], l, h, _ => by rw [runL]; exact ⟨rfl, by simp, h⟩
  | c :: cs, l, h, hz => by
    rw [runL] at hz ⊢
    by_cases hp : possible l c.f0 c.f1 c.f2 = true
    · rw [if_pos hp] at hz ⊢
      obtain ⟨⟨h0, h1⟩, _⟩ := possible_true hp
      obtain ⟨r1, r2, r3⟩ := runL_law cs _ (cutP_ok h hp) hz
      refine ⟨by rw [r1, area_cut h0 h1], ?_, r3⟩
      rw [r2, cutP_len h0 h1, List.length_cons]
      omega
    · rw [if_neg hp] at hz
      simp at hz
theorem makeCut_zero {l : List S77} {i : Int} {acr : Bool} {at_ : Int} : (makeCut l i acr at_).2 = 0 ↔ (arePieces l && possible l i acr at_) = true := by
  unfold makeCut
  by_cases h : arePieces l = true
  · by_cases h2 : possible l i acr at_ = true
    · simp [h, h2]
    · simp [h, h2]
  · simp [h]
theorem runCuts_zero {a b : Int} {cs : List S85} (h : (runCuts a b cs).2 = 0) : isPiece a b = true ∧ area (runCuts a b cs).1 = a * b ∧ (runCuts a b cs).1.length = cs.length + 1 ∧ arePieces (runCuts a b cs).1 = true := by
  unfold runCuts at h ⊢
  by_cases hp : isPiece a b = true
  · rw [if_pos hp] at h ⊢
    by_cases hc : (cs.length : Int) > 79
    · rw [if_pos hc] at h
      simp at h
    · rw [if_neg hc] at h ⊢
      obtain ⟨r1, r2, r3⟩ := runL_law cs _ (are_one hp) h
      refine ⟨hp, by rw [r1]; simp [area], by rw [r2]; simp; omega, r3⟩
  · rw [if_neg hp] at h
    simp at h

theorem laws_big_eq (l : List Int) : laws_big.f l = some (decide ((l.length : Int) > 4096)) := rfl

theorem spec_l01From_l0 (c : List Int) (hc : Code c) : ∀ (d k i : Nat) (l : List Int) (a s : Int), i + d = c.length → d < k → 0 ≤ a → 0 ≤ s → s < 2147483647 → ∃ q, spec_l01From.l0 k c (i : Int) l a s = some (l, q) ∧ SOk q := by
  intro d
  have hl := hc.2
  induction d with
  | zero =>
    intro k i l a s h hk ha h0 h1
    obtain ⟨k, rfl⟩ : ∃ m, k = m + 1 := ⟨k - 1, by omega⟩
    rw [spec_l01From.l0, if_neg (by omega)]
    exact ⟨(a, s), rfl, ha, h0, h1⟩
  | succ d ih =>
    intro k i l a s h hk ha h0 h1
    obtain ⟨k, rfl⟩ : ∃ m, k = m + 1 := ⟨k - 1, by omega⟩
    rw [spec_l01From.l0, if_pos (by omega)]
    by_cases h64 : (i : Int) < 64
    · have hb := rd_byte hc (i := (i : Int)) (by omega) (by omega)
      rw [if_pos h64, if_pos (by omega), w64 (x := (i : Int) + 1) (by omega) (by omega), w64 (x := rd c (i : Int)) (by omega) (by omega), w64 (x := s * 71) (by omega) (by omega), w64 (x := s * 71 + rd c (i : Int)) (by omega) (by omega), tmod_n (by omega)]
      exact ih k (i + 1) l a _ (by omega) (by omega) ha (by omega) (by omega)
    · rw [if_neg h64]
      exact ⟨(a, s), rfl, ha, h0, h1⟩
theorem from_ok {c : List Int} (hc : Code c) {k : Nat} (hk : c.length < k) : ∃ p, spec_l01From.f k c = some p ∧ p.1 = c ∧ SOk p.2 := by
  obtain ⟨q, e, h⟩ := spec_l01From_l0 c hc c.length k 0 c 0 88007 (by omega) hk (by omega) (by omega) (by omega)
  exact ⟨(c, q), e, rfl, h⟩

theorem next_ok {c : List Int} (hc : Code c) {q : Int × Int} (hq : SOk q) (n : Int) : ∃ p, spec_l01Next.f c q.1 q.2 n = some p ∧ SOk p.2 ∧ 0 ≤ p.1 ∧ (p.1 < n ∨ p.1 = 0) := by
  obtain ⟨a, s⟩ := q
  obtain ⟨ha, h0, h1⟩ := hq
  have hl := hc.2
  simp only at ha h0 h1
  unfold spec_l01Next.f
  simp only
  by_cases hn : n ≤ 1
  · rw [if_pos hn]
    exact ⟨_, rfl, ⟨ha, h0, h1⟩, by simp, .inr rfl⟩
  rw [if_neg hn, w64 (x := s * 48271) (by omega) (by omega), w64 (x := s * 48271 + 61) (by omega) (by omega), tmod_n (a := s * 48271 + 61) (by omega)]
  have hS : 0 ≤ (s * 48271 + 61) % 2147483647 ∧ (s * 48271 + 61) % 2147483647 < 2147483647 := by omega
  generalize (s * 48271 + 61) % 2147483647 = S at hS
  rw [tdiv_n (a := S) (by omega)]
  have hm : ∀ x : Int, 0 ≤ x → 0 ≤ Int.tmod x n ∧ Int.tmod x n < n := fun x hx => by
    rw [tmod_n hx]
    exact ⟨Int.emod_nonneg _ (by omega), Int.emod_lt_of_pos _ (by omega)⟩
  by_cases hlt : a < (c.length : Int)
  · have hb := rd_byte hc ha hlt
    rw [if_pos hlt, if_pos ha, w64 (x := a + 1) (by omega) (by omega), w64 (x := a + 1 - 1) (by omega) (by omega), show a + 1 - 1 = a by omega, w64 (x := rd c a) (by omega) (by omega), w64 (x := S / 31) (by omega) (by omega), w64 (x := S / 31 + rd c a) (by omega) (by omega)]
    have g1 := hm (rd c a) hb.1
    have g2 := hm (S / 31 + rd c a) (by omega)
    split
    · split
      · rw [if_neg (by omega)]
        exact ⟨_, rfl, ⟨by simp only; omega, hS.1, hS.2⟩, g1.1, .inl g1.2⟩
      · rw [if_neg (by omega)]
        exact ⟨_, rfl, ⟨by simp only; omega, hS.1, hS.2⟩, g2.1, .inl g2.2⟩
    · rw [if_neg (by omega)]
      exact ⟨_, rfl, ⟨by simp only; omega, hS.1, hS.2⟩, g2.1, .inl g2.2⟩
  · have g3 := hm (S / 31) (by omega)
    rw [if_neg hlt, if_neg (by omega), w64 (x := S / 31) (by omega) (by omega)]
    exact ⟨_, rfl, ⟨ha, hS.1, hS.2⟩, g3.1, .inl g3.2⟩

theorem pick_ok {c : List Int} (hc : Code c) {q : Int × Int} (hq : SOk q) (l : List Int) (hl : 0 < l.length) : ∃ p, spec_l01Pick.f c q.1 q.2 l = some p ∧ SOk p.2 ∧ p.1 ∈ l := by
  unfold spec_l01Pick.f
  obtain ⟨p, e, h1, h2, h3⟩ := next_ok hc hq (l.length : Int)
  rw [e]
  simp only [Option.bind_some]
  have h4 : p.1 < (l.length : Int) := by omega
  rw [if_pos h2, if_pos h4]
  refine ⟨_, rfl, h1, ?_⟩
  simp only
  obtain ⟨n, hn⟩ : ∃ n : Nat, p.1 = n := ⟨p.1.toNat, by omega⟩
  have hn2 : n < l.length := by omega
  have e2 : rd l (n : Int) = l[n] := by rw [rd_nat, List.getD_eq_getElem?_getD, List.getElem?_eq_getElem hn2]; rfl
  rw [hn, e2]
  exact List.getElem_mem hn2

theorem l09DrawPiece_ok {c : List Int} (hc : Code c) {q : Int × Int} (hq : SOk q) : ∃ p, spec_l09DrawPiece.f c q.1 q.2 = some p ∧ SOk p.2.2 := by
  unfold spec_l09DrawPiece.f
  exact bind_ok (next_ok hc hq 40) fun a ha => ite_ok (fun _ => bind_ok (pick_ok hc ha.1 _ (by simp)) fun b hb => bind_ok (pick_ok hc hb.1 _ (by simp)) fun d hd => ⟨_, rfl, hd.1⟩) (fun _ => bind_ok (next_ok hc ha.1 60) fun b hb => bind_ok (next_ok hc hb.1 60) fun d hd => ⟨_, rfl, hd.1⟩)

theorem l09DrawCut_j0 {c : List Int} (hc : Code c) {q : Int × Int} (hq : SOk q) (k : Nat) (l : List S77) (x6 i : Int) (acr : Bool) (z : Int) : ∃ p, spec_l09DrawCut.j0 (k + 1) l x6 c q.1 q.2 i acr z = some p ∧ SOk p.2.2.2 := by
  rw [spec_l09DrawCut.j0]
  exact bind_ok (next_ok hc hq _) fun a ha => bind_ok (next_ok hc ha.1 24) fun b hb => ite_ok (fun _ => bind_ok (pick_ok hc hb.1 _ (by simp)) fun d hd => ⟨_, rfl, hd.1⟩) (fun _ => ite_ok (fun _ => bind_ok (pick_ok hc hb.1 _ (by simp)) fun d hd => ⟨_, rfl, hd.1⟩) (fun _ => ⟨_, rfl, hb.1⟩))
theorem l09DrawCut_ok {c : List Int} (hc : Code c) {q : Int × Int} (hq : SOk q) (k : Nat) (l : List S77) : ∃ p, spec_l09DrawCut.f (k + 1) c q.1 q.2 l = some p ∧ SOk p.2.2.2 := by
  unfold spec_l09DrawCut.f
  refine bind_ok (next_ok hc hq _) fun a ha => bind_ok (next_ok hc ha.1 2) fun b hb => ite_ok (fun _ => ⟨_, rfl, hb.1⟩) (fun hl => ?_)
  have h1 := ha.2.1
  have h2 := ha.2.2
  rw [if_pos h1, if_pos (by omega)]
  exact ite_ok (fun _ => l09DrawCut_j0 hc hb.1 k l _ _ _ _) (fun _ => l09DrawCut_j0 hc hb.1 k l _ _ _ _)

theorem spec_l01In_eq (a b c : Int) : spec_l01In.f a b c = some (inR a b c) := by
  unfold spec_l01In.f inR
  by_cases h : a ≥ b
  · rw [if_pos h]; simp [show b ≤ a from h]
  · rw [if_neg h]; simp [show ¬ b ≤ a from h]

theorem spec_IsPiece_eq (a b : Int) : spec_IsPiece.f a b = some (isPiece a b) := by
  unfold spec_IsPiece.f isPiece
  simp only [spec_l01In_eq, Option.bind_some]
  cases inR a 1 20000 <;> rfl

theorem spec_l09List_l0 (xs : List S77) (hl : xs.length ≤ 9223372036854775806) : ∀ (d k i : Nat), i + d = xs.length → d < k → spec_l09List.l0 k xs (i : Int) = some ((xs.drop i).all (fun x => isPiece x.f0 x.f1) && decide (xs.length ≤ 80)) := by
  intro d
  induction d with
  | zero =>
    intro k i h hk
    obtain ⟨k, rfl⟩ : ∃ m, k = m + 1 := ⟨k - 1, by omega⟩
    rw [spec_l09List.l0, if_neg (by omega), List.drop_of_length_le (by omega)]
    have e : decide ((xs.length : Int) ≤ 80) = decide (xs.length ≤ 80) := by rw [decide_eq_decide]; omega
    rw [e]
    rfl
  | succ d ih =>
    intro k i h hk
    obtain ⟨k, rfl⟩ : ∃ m, k = m + 1 := ⟨k - 1, by omega⟩
    have hlt : i < xs.length := by omega
    have e3 := ih k (i + 1) (by omega) (by omega)
    rw [spec_l09List.l0, if_pos (by omega), if_pos (by omega), rdIPiece xs i hlt, spec_IsPiece_eq, dropIPiece xs i hlt, w64 (by omega) (by omega)]
    simp only [Option.bind_some, List.all_cons]
    cases hx : isPiece xs[i].f0 xs[i].f1
    · simp
    · simp only [if_true, Bool.true_and]
      exact e3
theorem spec_l09List_eq (xs : List S77) (k : Nat) (hl : xs.length ≤ 9223372036854775806) (hk : xs.length < k) : spec_l09List.f k xs = some (arePieces xs) := by
  unfold spec_l09List.f arePieces
  have := spec_l09List_l0 xs hl xs.length k 0 (by omega) hk
  rw [List.drop_zero, Bool.and_comm] at this
  exact this

theorem spec_CanCut_eq (k : Nat) (l : List S77) (i : Int) (acr : Bool) (at_ : Int) (hl0 : l.length ≤ 9223372036854775806) (hk : l.length + 1 < k) : spec_CanCut.f k l i acr at_ = some (arePieces l && possible l i acr at_) := by
  obtain ⟨k, rfl⟩ : ∃ m, k = m + 1 := ⟨k - 1, by omega⟩
  unfold spec_CanCut.f possible
  simp only [spec_l09List_eq l (k + 1) hl0 (by omega), spec_l01In_eq, Option.bind_some]
  cases h : arePieces l
  · simp [spec_CanCut.j0]
  have hl := (arePieces_true h).1
  rw [w64 (x := (l.length : Int) - 1) (by omega) (by omega)]
  cases hi : inR i 0 ((l.length : Int) - 1)
  · simp [spec_CanCut.j0]
  have h1 := inR_true hi
  have hs := sideOf_bd (acr := acr) h hi
  unfold sideOf at hs ⊢
  by_cases hf : l.length < 80
  · have e : ((l.length : Int) == 80) = false := beq_eq_false_iff_ne.mpr (by omega)
    rw [decide_eq_true hf, e]
    simp only [if_true, spec_CanCut.j0, Bool.false_eq_true, if_false, Bool.true_and]
    rw [if_pos (by omega), if_pos (by omega), spec_l01In_eq, spec_l01In_eq]
    cases acr
    · simp only [Bool.false_eq_true, if_false, Option.bind_some] at hs ⊢
      rw [w64 (by omega) (by omega)]
    · simp only [if_true, Option.bind_some] at hs ⊢
      rw [w64 (by omega) (by omega)]
  · have e : ((l.length : Int) == 80) = true := beq_iff_eq.mpr (by omega)
    rw [decide_eq_false hf, e]
    simp [spec_CanCut.j0]

theorem spec_l09Cut_eq (l : List S77) (i : Int) (acr : Bool) (at_ : Int) (h : arePieces l = true) (hp : possible l i acr at_ = true) : spec_l09Cut.f l i acr at_ = some (cutP l i acr at_) := by
  obtain ⟨⟨h0, h1⟩, h2, h3, h4⟩ := possible_true hp
  have hr := rdP_ok h h0 h1
  obtain ⟨n, rfl⟩ : ∃ n : Nat, i = n := ⟨i.toNat, by omega⟩
  have e1 : wrap64 ((n : Int) + 1) = ((n + 1 : Nat) : Int) := w64 (by omega) (by omega)
  unfold sideOf at h4
  unfold spec_l09Cut.f cutP
  rw [if_pos h0, if_pos h1]
  cases acr
  · simp only [Bool.false_eq_true, if_false] at h4 ⊢
    simp only [Option.bind_some, e1, Int.toNat_natCast]
    rw [if_pos (by omega), if_pos (by simp only [List.length_take, List.length_nil]; omega), if_pos (by simp only [List.length_append, List.length_take, List.length_nil, List.length_cons]; omega), if_pos (by omega), if_pos (by omega), if_pos (by simp only [List.length_append, List.length_take, List.length_drop, List.length_nil, List.length_cons]; omega), w64 (x := (rd_T77 l (n : Int)).f0 - at_) (by omega) (by omega)]
    simp
  · simp only [if_true] at h4 ⊢
    simp only [Option.bind_some, e1, Int.toNat_natCast]
    rw [if_pos (by omega), if_pos (by simp only [List.length_take, List.length_nil]; omega), if_pos (by simp only [List.length_append, List.length_take, List.length_nil, List.length_cons]; omega), if_pos (by omega), if_pos (by omega), if_pos (by simp only [List.length_append, List.length_take, List.length_drop, List.length_nil, List.length_cons]; omega), w64 (x := (rd_T77 l (n : Int)).f1 - at_) (by omega) (by omega)]
    simp

theorem DrawRunCuts_l1 : ∀ (n k : Nat) (xs : List S85), n < k → xs.length + n ≤ 1000 → ∃ p, spec_DrawRunCuts.l1 k xs (n : Int) = some p ∧ p.2.2.length = xs.length + n := by
  intro n
  induction n with
  | zero =>
    intro k xs hk hx
    obtain ⟨k, rfl⟩ : ∃ m, k = m + 1 := ⟨k - 1, by omega⟩
    rw [spec_DrawRunCuts.l1, if_neg (by omega)]
    exact ⟨_, rfl, by simp⟩
  | succ n ih =>
    intro k xs hk hx
    obtain ⟨k, rfl⟩ : ∃ m, k = m + 1 := ⟨k - 1, by omega⟩
    rw [spec_DrawRunCuts.l1, if_pos (by omega), if_pos (by omega), w64 (x := ((n + 1 : Nat) : Int) - 1) (by omega) (by omega), show ((n + 1 : Nat) : Int) - 1 = (n : Int) by omega]
    obtain ⟨p, e, hp⟩ := ih k (xs ++ [⟨0, false, ((n + 1 : Nat) : Int)⟩]) (by omega) (by rw [List.length_append, List.length_cons, List.length_nil]; omega)
    exact ⟨p, e, by rw [hp, List.length_append, List.length_cons, List.length_nil]; omega⟩
theorem DrawRunCuts_l0 {c : List Int} (hc : Code c) (a b : Int) : ∀ (n k : Nat) (xs : List S85) (l : List S77) (q : Int × Int), SOk q → n + 200 ≤ k → xs.length + n ≤ 20 → l.length ≤ 80 → ∃ p, spec_DrawRunCuts.l0 k xs l (n : Int) c q.1 q.2 a b = some p ∧ p.2.2.length ≤ 100 := by
  intro n
  induction n with
  | zero =>
    intro k xs l q hq hk hx hl
    obtain ⟨k, rfl⟩ : ∃ m, k = m + 1 := ⟨k - 1, by omega⟩
    rw [spec_DrawRunCuts.l0, if_neg (by omega)]
    refine bind_ok (next_ok hc hq 40) fun d hd => ite_ok (fun _ => bind_ok (next_ok hc hd.1 2) fun r hr => ?_) (fun _ => ⟨_, rfl, by simp only; omega⟩)
    have h1 := hr.2.1
    have h2 := hr.2.2
    obtain ⟨m, hm⟩ : ∃ m : Nat, wrap64 (79 + r.1) = m := ⟨(79 + r.1).toNat, by rw [w64 (by omega) (by omega)]; omega⟩
    have hm2 : wrap64 (79 + r.1) = 79 + r.1 := w64 (by omega) (by omega)
    rw [hm]
    obtain ⟨p, e, hp⟩ := DrawRunCuts_l1 m k [] (by omega) (by simp; omega)
    exact ⟨p, e, by rw [hp]; simp; omega⟩
  | succ n ih =>
    intro k xs l q hq hk hx hl
    obtain ⟨k, rfl⟩ : ∃ m, k = (m + 1) + 1 := ⟨k - 2, by omega⟩
    have hs : ∀ x : S85, (xs ++ [x]).length + n ≤ 20 := fun x => by rw [List.length_append, List.length_cons, List.length_nil]; omega
    rw [spec_DrawRunCuts.l0, if_pos (by omega), w64 (x := ((n + 1 : Nat) : Int) - 1) (by omega) (by omega), show ((n + 1 : Nat) : Int) - 1 = (n : Int) by omega]
    refine bind_ok (l09DrawCut_ok hc hq k l) fun d hd => ?_
    rw [spec_CanCut_eq (k + 1) l _ _ _ (by omega) (by omega)]
    simp only [Option.bind_some]
    refine ite_ok (fun h => ?_) (fun h => bind_ok (next_ok hc hd 5) fun r hr => ite_ok (fun _ => ih _ _ _ _ hr.1 (by omega) (by omega) hl) (fun _ => ?_))
    · simp only [Bool.and_eq_true] at h
      obtain ⟨⟨h0, h1⟩, h3, _⟩ := possible_true h.2
      rw [spec_l09Cut_eq l _ _ _ h.1 h.2]
      simp only [Option.bind_some]
      rw [if_pos (by omega)]
      exact ih _ _ _ _ hd (by omega) (hs _) (by rw [cutP_len h0 h1]; omega)
    · rw [if_pos (by omega)]
      exact ih _ _ _ _ hr.1 (by omega) (hs _) hl
theorem DrawRunCuts_ok {c : List Int} (hc : Code c) {k : Nat} (hk : c.length + 300 < k) : ∃ p, spec_DrawRunCuts.f k c = some p ∧ p.2.2.length ≤ 100 := by
  unfold spec_DrawRunCuts.f
  refine bind_ok (from_ok hc (by omega)) fun p hp => ?_
  rw [hp.1]
  refine bind_ok (l09DrawPiece_ok hc hp.2) fun d hd => bind_ok (next_ok hc hd 9) fun r hr => ?_
  have h1 := hr.2.1
  have h2 := hr.2.2
  obtain ⟨n, hn⟩ : ∃ n : Nat, r.1 = n := ⟨r.1.toNat, by omega⟩
  rw [hn]
  exact DrawRunCuts_l0 hc _ _ n k [] _ _ hr.1 (by omega) (by simp; omega) (by simp)

theorem impl_inRange_eq (a b c : Int) : impl_inRange.f a b c = some (inR a b c) := by
  unfold impl_inRange.f inR
  by_cases h : b ≤ a
  · rw [if_pos h]; simp [h]
  · rw [if_neg h]; simp [h]

theorem impl_IsPiece_eq (a b : Int) : impl_IsPiece.f a b = some (isPiece a b) := by
  unfold impl_IsPiece.f isPiece
  simp only [impl_inRange_eq, Option.bind_some]
  cases inR a 1 20000 <;> rfl

theorem impl_Piece_191_eq (l : List S77) : impl_Piece_191.f l = some (l.length : Int) := rfl
theorem impl_lengthPiece (l : List S77) : impl_Piece_191.f l = some (l.length : Int) := rfl

theorem impl_possible_eq (k : Nat) (l : List S77) (i : Int) (acr : Bool) (at_ : Int) (h : arePieces l = true) : impl_possible.f (k + 1) l i acr at_ = some (possible l i acr at_) := by
  have hl := (arePieces_true h).1
  unfold impl_possible.f possible
  simp only [impl_lengthPiece, impl_inRange_eq, Option.bind_some]
  rw [w64 (x := (l.length : Int) - 1) (by omega) (by omega)]
  cases hi : inR i 0 ((l.length : Int) - 1)
  · simp [impl_possible.j0]
  have h1 := inR_true hi
  have hs := sideOf_bd (acr := acr) h hi
  unfold sideOf at hs ⊢
  by_cases hf : l.length < 80
  · rw [decide_eq_true hf, decide_eq_false (show ¬ (l.length : Int) ≥ 80 by omega)]
    simp only [if_true, impl_possible.j0, Bool.false_eq_true, if_false, Bool.true_and]
    rw [if_pos (by omega), if_pos (by omega)]
    cases acr
    · simp only [Bool.false_eq_true, if_false] at hs ⊢
      rw [w64 (by omega) (by omega), impl_inRange_eq]
      rfl
    · simp only [if_true] at hs ⊢
      rw [w64 (by omega) (by omega), impl_inRange_eq]
      rfl
  · rw [decide_eq_false hf, decide_eq_true (show (l.length : Int) ≥ 80 by omega)]
    simp [impl_possible.j0]

theorem slices_ConcatPiece_three (a b c : List S77) (k : Nat) (ha : a.length ≤ 1000) (hb : b.length ≤ 1000) (hc : c.length ≤ 1000) : slices_ConcatPiece.f (k + 8) [a, b, c] = some (a ++ (b ++ c)) := by
  have r0 : rd_L5 [a, b, c] 0 = a := rfl
  have r1 : rd_L5 [a, b, c] 1 = b := rfl
  have r2 : rd_L5 [a, b, c] 2 = c := rfl
  have e0 : wrap64 (0 + (a.length : Int)) = (a.length : Int) := by rw [w64 (by omega) (by omega)]; omega
  have e1 : wrap64 ((a.length : Int) + (b.length : Int)) = (a.length : Int) + (b.length : Int) := w64 (by omega) (by omega)
  have e2 : wrap64 ((a.length : Int) + (b.length : Int) + (c.length : Int)) = (a.length : Int) + (b.length : Int) + (c.length : Int) := w64 (by omega) (by omega)
  have u0 : wrap64 (0 + 1) = 1 := w64 (by omega) (by omega)
  have u1 : wrap64 (1 + 1) = 2 := w64 (by omega) (by omega)
  have u2 : wrap64 (2 + 1) = 3 := w64 (by omega) (by omega)
  unfold slices_ConcatPiece.f
  simp only [List.length_cons, List.length_nil]
  rw [slices_ConcatPiece.l0, if_pos (by omega), if_pos (by omega), if_pos (by simp only [List.length_cons, List.length_nil]; omega), r0, e0, if_neg (by omega), u0,
    slices_ConcatPiece.l0, if_pos (by omega), if_pos (by omega), if_pos (by simp only [List.length_cons, List.length_nil]; omega), r1, e1, if_neg (by omega), u1,
    slices_ConcatPiece.l0, if_pos (by omega), if_pos (by omega), if_pos (by simp only [List.length_cons, List.length_nil]; omega), r2, e2, if_neg (by omega), u2,
    slices_ConcatPiece.l0, if_neg (by omega), if_pos (by omega), if_pos (by omega)]
  simp only [List.length_cons, List.length_nil]
  rw [slices_ConcatPiece.l1, if_pos (by omega), if_pos (by omega), if_pos (by simp only [List.length_cons, List.length_nil]; omega), r0, if_pos (by simp only [List.length_nil]; omega), u0,
    slices_ConcatPiece.l1, if_pos (by omega), if_pos (by omega), if_pos (by simp only [List.length_cons, List.length_nil]; omega), r1, if_pos (by simp only [List.length_append, List.length_nil]; omega), u1,
    slices_ConcatPiece.l1, if_pos (by omega), if_pos (by omega), if_pos (by simp only [List.length_cons, List.length_nil]; omega), r2, if_pos (by simp only [List.length_append, List.length_nil]; omega), u2,
    slices_ConcatPiece.l1, if_neg (by omega)]
  simp

theorem impl_cut_eq (l : List S77) (i : Int) (acr : Bool) (at_ : Int) (k : Nat) (hk : 8 ≤ k) (h : arePieces l = true) (hp : possible l i acr at_ = true) : impl_cut.f k l i acr at_ = some (cutP l i acr at_) := by
  obtain ⟨k, rfl⟩ : ∃ m, k = m + 8 := ⟨k - 8, by omega⟩
  obtain ⟨⟨h0, h1⟩, h2, h3, h4⟩ := possible_true hp
  have hr := rdP_ok h h0 h1
  obtain ⟨n, rfl⟩ : ∃ n : Nat, i = n := ⟨i.toNat, by omega⟩
  have e1 : wrap64 ((n : Int) + 1) = ((n + 1 : Nat) : Int) := w64 (by omega) (by omega)
  unfold sideOf at h4
  unfold impl_cut.f cutP
  rw [if_pos h0, if_pos h1]
  cases acr
  · simp only [Bool.false_eq_true, if_false] at h4 ⊢
    simp only [e1, Int.toNat_natCast]
    rw [if_pos (by omega), if_pos (by omega), if_pos (by omega), slices_ConcatPiece_three _ _ _ k (by rw [List.length_take]; omega) (by simp) (by rw [List.length_drop]; omega), w64 (x := (rd_T77 l (n : Int)).f0 - at_) (by omega) (by omega)]
    rfl
  · simp only [if_true] at h4 ⊢
    simp only [e1, Int.toNat_natCast]
    rw [if_pos (by omega), if_pos (by omega), if_pos (by omega), slices_ConcatPiece_three _ _ _ k (by rw [List.length_take]; omega) (by simp) (by rw [List.length_drop]; omega), w64 (x := (rd_T77 l (n : Int)).f1 - at_) (by omega) (by omega)]
    rfl

theorem impl_RunCuts_l0 (cs : List S85) (hl : cs.length ≤ 1048576) : ∀ (d k i : Nat) (l : List S77), i + d = cs.length → d + 100 ≤ k → arePieces l = true → impl_RunCuts.l0 k l cs (cs.length : Int) (i : Int) = some (runL l (cs.drop i)) := by
  intro d
  induction d with
  | zero =>
    intro k i l hi hk h
    obtain ⟨k, rfl⟩ : ∃ m, k = m + 1 := ⟨k - 1, by omega⟩
    rw [impl_RunCuts.l0, if_neg (by omega), List.drop_of_length_le (by omega), runL]
  | succ d ih =>
    intro k i l hi hk h
    obtain ⟨k, rfl⟩ : ∃ m, k = (m + 1) + 1 := ⟨k - 2, by omega⟩
    have hlt : i < cs.length := by omega
    rw [impl_RunCuts.l0, if_pos (by omega), if_pos (by omega), if_pos (by omega), rdICut cs i hlt, dropICut cs i hlt, runL, impl_possible_eq k l _ _ _ h, w64 (x := (i : Int) + 1) (by omega) (by omega)]
    simp only [Option.bind_some]
    by_cases hp : possible l cs[i].f0 cs[i].f1 cs[i].f2 = true
    · rw [if_pos hp, if_pos hp, impl_cut_eq l _ _ _ (k + 1) (by omega) h hp]
      simp only [Option.bind_some]
      exact ih (k + 1) (i + 1) _ (by omega) (by omega) (cutP_ok h hp)
    · rw [if_neg hp, if_neg hp]
theorem impl_RunCuts_eq (a b : Int) (cs : List S85) (k : Nat) (hl : cs.length ≤ 1048576) (hk : cs.length + 100 ≤ k) : impl_RunCuts.f k a b cs = some (runCuts a b cs) := by
  unfold impl_RunCuts.f runCuts
  rw [impl_IsPiece_eq]
  simp only [Option.bind_some]
  by_cases h : isPiece a b = true
  · rw [if_pos h, if_pos h]
    by_cases c : (cs.length : Int) > 79
    · rw [if_pos c, if_pos c]
    · rw [if_neg c, if_neg c]
      exact impl_RunCuts_l0 cs hl cs.length k 0 _ (by omega) hk (are_one h)
  · rw [if_neg h, if_neg h]

theorem spec_RunCuts_l0 (cs : List S85) (hl : cs.length ≤ 1048576) : ∀ (d k i : Nat) (l : List S77), i + d = cs.length → d + 100 ≤ k → arePieces l = true → spec_RunCuts.l0 k cs l (i : Int) = some (runL l (cs.drop i)) := by
  intro d
  induction d with
  | zero =>
    intro k i l hi hk h
    obtain ⟨k, rfl⟩ : ∃ m, k = m + 1 := ⟨k - 1, by omega⟩
    rw [spec_RunCuts.l0, if_neg (by omega), List.drop_of_length_le (by omega), runL]
  | succ d ih =>
    intro k i l hi hk h
    obtain ⟨k, rfl⟩ : ∃ m, k = m + 1 := ⟨k - 1, by omega⟩
    have hlt : i < cs.length := by omega
    have hll := (arePieces_true h).1
    rw [spec_RunCuts.l0, if_pos (by omega), if_pos (by omega), rdICut cs i hlt, dropICut cs i hlt, runL, spec_CanCut_eq k l _ _ _ (by omega) (by omega), h, Bool.true_and, w64 (x := (i : Int) + 1) (by omega) (by omega)]
    simp only [Option.bind_some]
    by_cases hp : possible l cs[i].f0 cs[i].f1 cs[i].f2 = true
    · rw [if_pos hp, if_pos hp, spec_l09Cut_eq l _ _ _ h hp]
      simp only [Option.bind_some]
      exact ih k (i + 1) _ (by omega) (by omega) (cutP_ok h hp)
    · rw [if_neg hp, if_neg hp]
theorem spec_RunCuts_eq (a b : Int) (cs : List S85) (k : Nat) (hl : cs.length ≤ 1048576) (hk : cs.length + 100 ≤ k) : spec_RunCuts.f k a b cs = some (runCuts a b cs) := by
  unfold spec_RunCuts.f runCuts
  rw [spec_IsPiece_eq]
  simp only [Option.bind_some]
  by_cases h : isPiece a b = true
  · rw [if_pos h, if_pos h]
    by_cases c : (cs.length : Int) > 79
    · rw [if_pos c, if_pos c]
    · rw [if_neg c, if_neg c]
      exact spec_RunCuts_l0 cs hl cs.length k 0 _ (by omega) hk (are_one h)
  · rw [if_neg h, if_neg h]

theorem l09DrawList_l1 (c : List Int) (q : Int × Int) : ∀ (n k : Nat) (xs : List S77), n < k → xs.length + n ≤ 1000 → ∃ p, spec_l09DrawList.l1 k xs (n : Int) c q.1 q.2 = some p ∧ p.1.length = xs.length + n ∧ p.2 = q := by
  intro n
  induction n with
  | zero =>
    intro k xs hk hx
    obtain ⟨k, rfl⟩ : ∃ m, k = m + 1 := ⟨k - 1, by omega⟩
    rw [spec_l09DrawList.l1, if_neg (by omega)]
    exact ⟨_, rfl, by simp, rfl⟩
  | succ n ih =>
    intro k xs hk hx
    obtain ⟨k, rfl⟩ : ∃ m, k = m + 1 := ⟨k - 1, by omega⟩
    rw [spec_l09DrawList.l1, if_pos (by omega), if_pos (by omega), w64 (x := ((n + 1 : Nat) : Int) - 1) (by omega) (by omega), show ((n + 1 : Nat) : Int) - 1 = (n : Int) by omega]
    obtain ⟨p, e, hp, hq⟩ := ih k (xs ++ [⟨2, 3⟩]) (by omega) (by rw [List.length_append, List.length_cons, List.length_nil]; omega)
    exact ⟨p, e, by rw [hp, List.length_append, List.length_cons, List.length_nil]; omega, hq⟩
theorem l09DrawList_l0 {c : List Int} (hc : Code c) : ∀ (n k : Nat) (xs : List S77) (q : Int × Int), SOk q → n + 200 ≤ k → xs.length + n ≤ 20 → ∃ p, spec_l09DrawList.l0 k xs (n : Int) c q.1 q.2 = some p ∧ p.1.length ≤ 100 ∧ SOk p.2 := by
  intro n
  induction n with
  | zero =>
    intro k xs q hq hk hx
    obtain ⟨k, rfl⟩ : ∃ m, k = m + 1 := ⟨k - 1, by omega⟩
    rw [spec_l09DrawList.l0, if_neg (by omega)]
    refine bind_ok (next_ok hc hq 40) fun d hd => ite_ok (fun _ => bind_ok (next_ok hc hd.1 3) fun r hr => ?_) (fun _ => ⟨_, rfl, by simp only; omega, hd.1⟩)
    have h1 := hr.2.1
    have h2 := hr.2.2
    have hm2 : wrap64 (79 + r.1) = 79 + r.1 := w64 (by omega) (by omega)
    obtain ⟨m, hm⟩ : ∃ m : Nat, wrap64 (79 + r.1) = m := ⟨(79 + r.1).toNat, by omega⟩
    rw [hm]
    obtain ⟨p, e, hp, hpq⟩ := l09DrawList_l1 c r.2 m k [] (by omega) (by simp; omega)
    exact ⟨p, e, by rw [hp]; simp; omega, by rw [hpq]; exact hr.1⟩
  | succ n ih =>
    intro k xs q hq hk hx
    obtain ⟨k, rfl⟩ : ∃ m, k = m + 1 := ⟨k - 1, by omega⟩
    rw [spec_l09DrawList.l0, if_pos (by omega), w64 (x := ((n + 1 : Nat) : Int) - 1) (by omega) (by omega), show ((n + 1 : Nat) : Int) - 1 = (n : Int) by omega]
    refine bind_ok (l09DrawPiece_ok hc hq) fun d hd => ?_
    rw [if_pos (by omega)]
    exact ih k _ d.2.2 hd (by omega) (by rw [List.length_append, List.length_cons, List.length_nil]; omega)
theorem l09DrawList_ok {c : List Int} (hc : Code c) {k : Nat} (hk : 300 ≤ k) {q : Int × Int} (hq : SOk q) : ∃ p, spec_l09DrawList.f k c q.1 q.2 = some p ∧ p.1.length ≤ 100 ∧ SOk p.2 := by
  unfold spec_l09DrawList.f
  refine bind_ok (next_ok hc hq 6) fun r hr => ?_
  have h1 := hr.2.1
  have h2 := hr.2.2
  obtain ⟨n, hn⟩ : ∃ n : Nat, r.1 = n := ⟨r.1.toNat, by omega⟩
  rw [hn]
  exact l09DrawList_l0 hc n k [] _ hr.1 (by omega) (by simp; omega)

theorem DrawCanCut_ok {c : List Int} (hc : Code c) {k : Nat} (hk : c.length + 300 < k) : ∃ p, spec_DrawCanCut.f k c = some p ∧ p.1.length ≤ 100 := by
  obtain ⟨k, rfl⟩ : ∃ m, k = m + 1 := ⟨k - 1, by omega⟩
  unfold spec_DrawCanCut.f
  refine bind_ok (from_ok hc (by omega)) fun p hp => ?_
  rw [hp.1]
  exact bind_ok (l09DrawList_ok hc (by omega) hp.2) fun d hd => bind_ok (l09DrawCut_ok hc hd.2 k d.1) fun r hr => ⟨_, rfl, hd.1⟩

theorem DrawMakeCut_ok {c : List Int} (hc : Code c) {k : Nat} (hk : c.length + 300 < k) : ∃ p, spec_DrawMakeCut.f k c = some p ∧ p.1.length ≤ 100 := by
  unfold spec_DrawMakeCut.f
  exact bind_ok (DrawCanCut_ok hc hk) fun p hp => ⟨_, rfl, hp⟩

theorem impl_arePieces_eq (l : List S77) : impl_arePieces.f l = some (arePieces l) := rfl

theorem impl_MakeCut_eq (l : List S77) (i : Int) (acr : Bool) (at_ : Int) (k : Nat) (hk : 8 ≤ k) : impl_MakeCut.f k l i acr at_ = some (makeCut l i acr at_) := by
  obtain ⟨k, rfl⟩ : ∃ m, k = m + 1 := ⟨k - 1, by omega⟩
  unfold impl_MakeCut.f makeCut
  rw [impl_arePieces_eq]
  simp only [Option.bind_some]
  by_cases h : arePieces l = true
  · rw [if_pos h, if_pos h, impl_possible_eq k l i acr at_ h]
    simp only [Option.bind_some]
    by_cases hp : possible l i acr at_ = true
    · rw [if_pos hp, if_pos hp, impl_cut_eq l i acr at_ (k + 1) hk h hp]
      rfl
    · rw [if_neg hp, if_neg hp]
  · rw [if_neg h, if_neg h]

theorem spec_MakeCut_eq (l : List S77) (i : Int) (acr : Bool) (at_ : Int) (k : Nat) (hl : l.length ≤ 1048576) (hk : l.length + 2 ≤ k) : spec_MakeCut.f k l i acr at_ = some (makeCut l i acr at_) := by
  unfold spec_MakeCut.f makeCut
  rw [spec_l09List_eq l k (by omega) (by omega)]
  simp only [Option.bind_some]
  by_cases h : arePieces l = true
  · rw [if_pos h, if_pos h, spec_CanCut_eq k l i acr at_ (by omega) (by omega), h, Bool.true_and]
    simp only [Option.bind_some]
    by_cases hp : possible l i acr at_ = true
    · rw [if_pos hp, if_pos hp, spec_l09Cut_eq l i acr at_ h hp]
      rfl
    · rw [if_neg hp, if_neg hp]
  · rw [if_neg h, if_neg h]

theorem DrawCountPieces_ok {c : List Int} (hc : Code c) {k : Nat} (hk : c.length + 300 < k) : ∃ p, spec_DrawCountPieces.f k c = some p ∧ p.1.length ≤ 101 := by
  unfold spec_DrawCountPieces.f
  refine bind_ok (from_ok hc (by omega)) fun p hp => ?_
  rw [hp.1]
  refine bind_ok (l09DrawList_ok hc (by omega) hp.2) fun d hd => ?_
  have h := hd.1
  refine ite_ok (fun h0 => bind_ok (next_ok hc hd.2 2) fun r hr => ite_ok (fun _ => ?_) (fun _ => bind_ok (l09DrawPiece_ok hc hr.1) fun e he => ⟨_, rfl, by simp only; omega⟩)) (fun _ => bind_ok (l09DrawPiece_ok hc hd.2) fun e he => ⟨_, rfl, by simp only; omega⟩)
  simp only [Option.bind_some]
  rw [if_pos (by simp only [List.length_nil]; omega), if_pos (by omega), if_pos (by simp only [List.length_append, List.length_nil, List.length_cons]; omega)]
  exact ⟨_, rfl, by simp only [List.length_append, List.length_nil, List.length_cons]; omega⟩

theorem impl_toInt_eq (b : Bool) : impl_toInt.f b = some (if b = true then 1 else 0) := by
  unfold impl_toInt.f; cases b <;> rfl

theorem impl_CountPieces_l0 (xs : List S77) (a b : Int) (hl : xs.length ≤ 80) : ∀ (d k i : Nat) (c : Int), i + d = xs.length → d < k → 0 ≤ c → c ≤ i → impl_CountPieces.l0 k c xs (xs.length : Int) (i : Int) a b = some (c + cntP a b (xs.drop i), 0) := by
  intro d
  induction d with
  | zero =>
    intro k i c h hk h0 hc
    obtain ⟨k, rfl⟩ : ∃ m, k = m + 1 := ⟨k - 1, by omega⟩
    rw [impl_CountPieces.l0, if_neg (by omega), List.drop_of_length_le (by omega), cntP, Int.add_zero]
  | succ d ih =>
    intro k i c h hk h0 hc
    obtain ⟨k, rfl⟩ : ∃ m, k = m + 1 := ⟨k - 1, by omega⟩
    have hlt : i < xs.length := by omega
    rw [impl_CountPieces.l0, if_pos (by omega), if_pos (by omega), if_pos (by omega), rdIPiece xs i hlt, dropIPiece xs i hlt, w64 (x := (i : Int) + 1) (by omega) (by omega), cntP, impl_toInt_eq]
    simp only [Option.bind_some]
    by_cases hx : (xs[i].f0 == a && (xs[i].f1 == b)) = true
    · rw [if_pos hx, w64 (by omega) (by omega)]
      have := ih k (i + 1) (c + 1) (by omega) (by omega) (by omega) (by omega)
      rw [show ((i + 1 : Nat) : Int) = (i : Int) + 1 by omega] at this
      rw [this, Int.add_assoc]
    · rw [if_neg hx, w64 (by omega) (by omega), Int.add_zero]
      have := ih k (i + 1) c (by omega) (by omega) (by omega) (by omega)
      rw [show ((i + 1 : Nat) : Int) = (i : Int) + 1 by omega] at this
      rw [this, Int.zero_add]
theorem impl_CountPieces_eq (xs : List S77) (a b : Int) (k : Nat) (hl : xs.length ≤ 9223372036854775806) (hk : xs.length + 1 < k) : impl_CountPieces.f k xs a b = some (countPieces xs a b) := by
  obtain ⟨k, rfl⟩ : ∃ m, k = m + 1 := ⟨k - 1, by omega⟩
  unfold impl_CountPieces.f countPieces
  simp only [impl_arePieces_eq, impl_IsPiece_eq, Option.bind_some]
  cases h : arePieces xs
  · simp [impl_CountPieces.j0]
  cases h2 : isPiece a b
  · simp [impl_CountPieces.j0]
  simp only [if_true, Bool.and_self, Bool.not_true, impl_CountPieces.j0, Bool.false_eq_true, if_false]
  have := impl_CountPieces_l0 xs a b (arePieces_true h).1 xs.length k 0 0 (by omega) (by omega) (by omega) (by omega)
  rw [List.drop_zero, Int.zero_add] at this
  exact this

theorem spec_CountPieces_l0 (xs : List S77) (a b : Int) (hl : xs.length ≤ 80) : ∀ (d k i : Nat) (c : Int), i + d = xs.length → d < k → 0 ≤ c → c ≤ i → spec_CountPieces.l0 k xs c (i : Int) a b = some (c + cntP a b (xs.drop i), 0) := by
  intro d
  induction d with
  | zero =>
    intro k i c h hk h0 hc
    obtain ⟨k, rfl⟩ : ∃ m, k = m + 1 := ⟨k - 1, by omega⟩
    rw [spec_CountPieces.l0, if_neg (by omega), List.drop_of_length_le (by omega), cntP, Int.add_zero]
  | succ d ih =>
    intro k i c h hk h0 hc
    obtain ⟨k, rfl⟩ : ∃ m, k = m + 1 := ⟨k - 1, by omega⟩
    have hlt : i < xs.length := by omega
    rw [spec_CountPieces.l0, if_pos (by omega), if_pos (by omega), rdIPiece xs i hlt, dropIPiece xs i hlt, w64 (x := (i : Int) + 1) (by omega) (by omega), cntP]
    by_cases hx : (xs[i].f0 == a && (xs[i].f1 == b)) = true
    · rw [if_pos hx, if_pos hx, w64 (by omega) (by omega)]
      have := ih k (i + 1) (c + 1) (by omega) (by omega) (by omega) (by omega)
      rw [show ((i + 1 : Nat) : Int) = (i : Int) + 1 by omega] at this
      rw [this, Int.add_assoc]
    · rw [if_neg hx, if_neg hx]
      have := ih k (i + 1) c (by omega) (by omega) (by omega) (by omega)
      rw [show ((i + 1 : Nat) : Int) = (i : Int) + 1 by omega] at this
      rw [this, Int.zero_add]
theorem spec_CountPieces_eq (xs : List S77) (a b : Int) (k : Nat) (hl : xs.length ≤ 9223372036854775806) (hk : xs.length + 1 < k) : spec_CountPieces.f k xs a b = some (countPieces xs a b) := by
  obtain ⟨k, rfl⟩ : ∃ m, k = m + 1 := ⟨k - 1, by omega⟩
  unfold spec_CountPieces.f countPieces
  simp only [spec_l09List_eq xs (k + 1) hl (by omega), spec_IsPiece_eq, Option.bind_some]
  cases h : arePieces xs
  · simp [spec_CountPieces.j0]
  cases h2 : isPiece a b
  · simp [spec_CountPieces.j0]
  simp only [if_true, Bool.and_self, Bool.not_true, spec_CountPieces.j0, Bool.false_eq_true, if_false]
  have := spec_CountPieces_l0 xs a b (arePieces_true h).1 xs.length k 0 0 (by omega) (by omega) (by omega) (by omega)
  rw [List.drop_zero, Int.zero_add] at this
  exact this

theorem impl_AreaOf_l0 (xs : List S77) (hl : xs.length ≤ 9223372036854775806) : ∀ (d k i : Nat) (a : Int), i + d = xs.length → d < k → impl_AreaOf.l0 k a xs (xs.length : Int) (i : Int) = some (warea a (xs.drop i), 0) := by
  intro d
  induction d with
  | zero =>
    intro k i a h hk
    obtain ⟨k, rfl⟩ : ∃ m, k = m + 1 := ⟨k - 1, by omega⟩
    rw [impl_AreaOf.l0, if_neg (by omega), List.drop_of_length_le (by omega)]
    rfl
  | succ d ih =>
    intro k i a h hk
    obtain ⟨k, rfl⟩ : ∃ m, k = m + 1 := ⟨k - 1, by omega⟩
    have hlt : i < xs.length := by omega
    rw [impl_AreaOf.l0, if_pos (by omega), if_pos (by omega), if_pos (by omega), rdIPiece xs i hlt, dropIPiece xs i hlt, w64 (x := (i : Int) + 1) (by omega) (by omega)]
    exact ih k (i + 1) _ (by omega) (by omega)
theorem impl_AreaOf_eq (xs : List S77) (k : Nat) (hl : xs.length ≤ 9223372036854775806) (hk : xs.length < k) : impl_AreaOf.f k xs = some (areaOf xs) := by
  unfold impl_AreaOf.f areaOf
  simp only [impl_arePieces_eq, Option.bind_some]
  cases h : arePieces xs
  · simp
  · simp only [if_true]
    exact impl_AreaOf_l0 xs hl xs.length k 0 0 (by omega) hk

theorem spec_AreaOf_l0 (xs : List S77) (hl : xs.length ≤ 9223372036854775806) : ∀ (d k i : Nat) (a : Int), i + d = xs.length → d < k → spec_AreaOf.l0 k xs a (i : Int) = some (warea a (xs.drop i), 0) := by
  intro d
  induction d with
  | zero =>
    intro k i a h hk
    obtain ⟨k, rfl⟩ : ∃ m, k = m + 1 := ⟨k - 1, by omega⟩
    rw [spec_AreaOf.l0, if_neg (by omega), List.drop_of_length_le (by omega)]
    rfl
  | succ d ih =>
    intro k i a h hk
    obtain ⟨k, rfl⟩ : ∃ m, k = m + 1 := ⟨k - 1, by omega⟩
    have hlt : i < xs.length := by omega
    rw [spec_AreaOf.l0, if_pos (by omega), if_pos (by omega), rdIPiece xs i hlt, dropIPiece xs i hlt, w64 (x := (i : Int) + 1) (by omega) (by omega)]
    exact ih k (i + 1) _ (by omega) (by omega)
theorem spec_AreaOf_eq (xs : List S77) (k : Nat) (hl : xs.length ≤ 9223372036854775806) (hk : xs.length < k) : spec_AreaOf.f k xs = some (areaOf xs) := by
  unfold spec_AreaOf.f areaOf
  simp only [spec_l09List_eq xs k hl hk, Option.bind_some]
  cases h : arePieces xs
  · simp
  · simp only [if_true]
    exact spec_AreaOf_l0 xs hl xs.length k 0 0 (by omega) hk

theorem laws_likePieces9_l0 (l : List S77) (hl : l.length ≤ 9223372036854775806) : ∀ (d k i : Nat), i + d = l.length → d < k → laws_likePieces9.l0 k l l (i : Int) = some true := by
  intro d
  induction d with
  | zero =>
    intro k i h hk
    obtain ⟨k, rfl⟩ : ∃ m, k = m + 1 := ⟨k - 1, by omega⟩
    rw [laws_likePieces9.l0, if_neg (by omega)]
  | succ d ih =>
    intro k i h hk
    obtain ⟨k, rfl⟩ : ∃ m, k = m + 1 := ⟨k - 1, by omega⟩
    rw [laws_likePieces9.l0, if_pos (by omega), if_pos (by omega), if_pos (by omega), if_neg (by simp), w64 (x := (i : Int) + 1) (by omega) (by omega)]
    exact ih k (i + 1) (by omega) (by omega)
theorem laws_likePieces9_eq (l : List S77) (k : Nat) (hl : l.length ≤ 9223372036854775806) (hk : l.length < k) : laws_likePieces9.f k l l = some true := by
  unfold laws_likePieces9.f
  rw [if_pos rfl]
  exact laws_likePieces9_l0 l hl l.length k 0 (by omega) hk

theorem impl_CanCut_eq (k : Nat) (l : List S77) (i : Int) (acr : Bool) (at_ : Int) : impl_CanCut.f (k + 1) l i acr at_ = some (arePieces l && possible l i acr at_) := by
  unfold impl_CanCut.f
  simp only [impl_arePieces_eq, Option.bind_some]
  cases h : arePieces l
  · simp
  · simp only [if_true, impl_possible_eq k l i acr at_ h, Option.bind_some, Bool.true_and]

theorem FnCuts_tail (a b : Int) (cs : List S85) (k : Nat) (hl : cs.length ≤ 100) (hk : 300 ≤ k) : (if (runCuts a b cs).2 = 0 then ((impl_AreaOf.f k (runCuts a b cs).1).bind fun bt => (if bt.2 = 0 then (if bt.1 = (wrap64 (a * b)) then (some (((runCuts a b cs).1.length : Int) == (wrap64 ((cs.length : Int) + 1)))) else (none)) else (none))) else (some true)) = some true := by
  by_cases h : (runCuts a b cs).2 = 0
  · obtain ⟨h1, h2, h3, h4⟩ := runCuts_zero h
    have hlen := runCuts_len a b cs
    simp only [isPiece, Bool.and_eq_true] at h1
    have i1 := inR_true h1.1
    have i2 := inR_true h1.2
    have hp := prod_bd i1.1 i1.2 i2.1 i2.2
    rw [if_pos h, impl_AreaOf_eq _ k (by omega) (by omega), areaOf_ok h4]
    simp only [Option.bind_some, if_true]
    rw [h2, w64 (x := a * b) (by omega) (by omega), if_pos rfl, h3, w64 (by omega) (by omega), show ((cs.length + 1 : Nat) : Int) = (cs.length : Int) + 1 by omega, beq_self_eq_true]
  · rw [if_neg h]
theorem FnCuts_j1 (a b : Int) (cs : List S85) (k : Nat) (hl : cs.length ≤ 100) (hk : 300 ≤ k) : laws_FnCuts.j1 (k + 1) cs (runCuts a b cs).1 (runCuts a b cs).2 false a b = some true := by
  rw [laws_FnCuts.j1, if_neg (by simp)]
  exact FnCuts_tail a b cs k hl hk
theorem FnCuts_j0 (a b : Int) (cs : List S85) (l : List S77) (i : Int) (acr : Bool) (at_ : Int) (k : Nat) (hl : cs.length ≤ 100) (hl2 : l.length ≤ 1000) (hk : 2000 ≤ k) : laws_FnCuts.j0 (k + 1) cs (runCuts a b cs).1 (runCuts a b cs).2 l (makeCut l i acr at_).1 (makeCut l i acr at_).2 false a b = some true := by
  rw [laws_FnCuts.j0, if_neg (by simp)]
  obtain ⟨k, rfl⟩ : ∃ m, k = m + 1 := ⟨k - 1, by omega⟩
  by_cases h : (makeCut l i acr at_).2 = 0
  · have hz := makeCut_zero.1 h
    simp only [Bool.and_eq_true] at hz
    obtain ⟨⟨h0, h1⟩, h3, _⟩ := possible_true hz.2
    have e : (makeCut l i acr at_).1 = cutP l i acr at_ := by unfold makeCut; rw [if_pos hz.1, if_pos hz.2]
    have hlen := cutP_len (acr := acr) (at_ := at_) h0 h1
    rw [if_pos h, e, impl_AreaOf_eq _ (k + 1) (by omega) (by omega), impl_AreaOf_eq _ (k + 1) (by omega) (by omega), areaOf_ok hz.1, areaOf_ok (cutP_ok hz.1 hz.2)]
    simp only [Option.bind_some, if_true]
    rw [area_cut h0 h1, if_pos rfl, w64 (x := (l.length : Int) + 1) (by omega) (by omega), hlen, show ((l.length + 1 : Nat) : Int) = (l.length : Int) + 1 by omega, bne_self_eq_false]
    exact FnCuts_j1 a b cs k hl (by omega)
  · rw [if_neg h]
    exact FnCuts_tail a b cs (k + 1) hl (by omega)
theorem FnCuts : laws_FnCuts.Pure := by
  intro l _ _ hb
  by_cases hbig : (l.length : Int) > 4096
  · exact ⟨1, by unfold laws_FnCuts.f; rw [laws_big_eq, decide_eq_true hbig]; rfl⟩
  have hc : Code l := ⟨fun x hx => wfByte (hb x hx), by omega⟩
  obtain ⟨⟨a, b, cs⟩, e1, h1⟩ := DrawRunCuts_ok hc (k := 6001) (by omega)
  obtain ⟨⟨x, i, acr, at_⟩, e2, h2⟩ := DrawMakeCut_ok hc (k := 6001) (by omega)
  obtain ⟨⟨z, p1, p2⟩, e3, h3⟩ := DrawCountPieces_ok hc (k := 6001) (by omega)
  simp only at h1 h2 h3
  have l1 := runCuts_len a b cs
  have l2 := makeCut_len x i acr at_
  have z1 : ((arePieces x && possible x i acr at_) != ((makeCut x i acr at_).2 == 0)) = false := by
    rw [bne_eq_false_iff_eq, Bool.eq_iff_iff, beq_iff_eq, makeCut_zero]
  refine ⟨6001, ?_⟩
  unfold laws_FnCuts.f
  rw [laws_big_eq, decide_eq_false hbig, e1]
  simp only [Option.bind_some, Bool.false_eq_true, if_false]
  rw [impl_RunCuts_eq a b cs 6001 (by omega) (by omega), spec_RunCuts_eq a b cs 6001 (by omega) (by omega), e2]
  simp only [Option.bind_some]
  rw [impl_MakeCut_eq x i acr at_ 6001 (by omega), spec_MakeCut_eq x i acr at_ 6001 (by omega) (by omega), e3]
  simp only [Option.bind_some]
  rw [impl_CountPieces_eq z p1 p2 6001 (by omega) (by omega), spec_CountPieces_eq z p1 p2 6001 (by omega) (by omega), impl_AreaOf_eq z 6001 (by omega) (by omega), spec_AreaOf_eq z 6001 (by omega) (by omega)]
  simp only [Option.bind_some, if_true]
  rw [laws_likePieces9_eq _ 6001 (by omega) (by omega), laws_likePieces9_eq _ 6001 (by omega) (by omega)]
  simp only [Option.bind_some, if_true]
  rw [impl_CanCut_eq 6000 x i acr at_]
  simp only [Option.bind_some, z1, Bool.false_eq_true, if_false]
  rw [impl_IsPiece_eq, spec_IsPiece_eq]
  simp only [Option.bind_some, bne_self_eq_false]
  exact FnCuts_j0 a b cs x i acr at_ 6000 h1 (by omega) (by omega)

end Go.Proofs.Ythapadejldlmfaa.Pure
