/- For all arguments the law FnBestGrids returns true, with no condition beyond the bounds that the printed statement names. -/
import Derived.Test.YthapadejldlmfaaPFnBestGridsx13
namespace Go.Proofs.Ythapadejldlmfaa.Pure
open Go.RowKit Go.Proofs.Ythapadejldlmfaa.PFnBestGrids Go.Proofs.YthapadejldlmfaaW.PrintWords Go.Proofs.YthapadejldlmfaaW.PrintLast
set_option linter.unusedVariables false
set_option linter.unusedSimpArgs false

theorem w64 {x : Int} (h1 : -9223372036854775808 ≤ x) (h2 : x ≤ 9223372036854775807) : wrap64 x = x := by
  unfold wrap64; omega
theorem wf64 {x : Int} (h : (Lit.int .i64 x).wf = true) : -9223372036854775808 ≤ x ∧ x ≤ 9223372036854775807 := by
  simp [Lit.wf, IntKind.min, IntKind.max, IntKind.signed, IntKind.bits] at h
  omega
/-- 'a lies from b to c'. -/
def inR (a b c : Int) : Bool := decide (b ≤ a ∧ a ≤ c)
theorem inR_true {a b c : Int} (h : inR a b c = true) : b ≤ a ∧ a ≤ c := by simpa [inR] using h
theorem inR_mk {a b c : Int} (h1 : b ≤ a) (h2 : a ≤ c) : inR a b c = true := by simp [inR, h1, h2]
theorem inR_false {a b c : Int} (h : inR a b c = false) : a < b ∨ c < a := by
  have : ¬ (b ≤ a ∧ a ≤ c) := by simpa [inR] using h
  omega
theorem rd_nat (xs : List Int) (i : Nat) : rd xs (i : Int) = xs.getD i 0 := by simp [rd]
theorem mul_bd {a b A B : Int} (h0 : 0 ≤ a) (h1 : a ≤ A) (k0 : 0 ≤ b) (k1 : b ≤ B) : 0 ≤ a * b ∧ a * b ≤ A * B :=
  ⟨Int.mul_nonneg h0 k0, Int.mul_le_mul h1 k1 k0 (by omega)⟩
theorem tdiv_n {a b : Int} (h : 0 ≤ a) : Int.tdiv a b = a / b := Int.tdiv_eq_ediv_of_nonneg h
theorem tmod_n {a b : Int} (h : 0 ≤ a) : Int.tmod a b = a % b := Int.tmod_eq_emod_of_nonneg h
theorem mn_min (a b : Int) : mn a b = min a b := by unfold mn; split <;> omega
theorem mx_max (a b : Int) : mx a b = max a b := by unfold mx; split <;> omega

def isPress (w h g : Int) : Bool := inR w 1 20000 && inR h 1 20000 && inR g 0 (h - 1)
def isTrim (w h b g : Int) : Bool := inR w 1 20000 && inR h 1 20000 && inR b 0 20000 && inR g 0 20000
theorem isPress_true {w h g : Int} (p : isPress w h g = true) : (1 ≤ w ∧ w ≤ 20000) ∧ (1 ≤ h ∧ h ≤ 20000) ∧ (0 ≤ g ∧ g ≤ h - 1) := by
  simp only [isPress, Bool.and_eq_true] at p
  exact ⟨inR_true p.1.1, inR_true p.1.2, inR_true p.2⟩
theorem isTrim_true {w h b g : Int} (p : isTrim w h b g = true) : (1 ≤ w ∧ w ≤ 20000) ∧ (1 ≤ h ∧ h ≤ 20000) ∧ (0 ≤ b ∧ b ≤ 20000) ∧ (0 ≤ g ∧ g ≤ 20000) := by
  simp only [isTrim, Bool.and_eq_true] at p
  exact ⟨inR_true p.1.1.1, inR_true p.1.1.2, inR_true p.1.2, inR_true p.2⟩
/-- How many pages fit on a side. -/
def cnt (room side b g : Int) : Int := if room - 2 * b - side < 0 then 0 else 1 + (room - 2 * b - side) / (side + g)
theorem cnt_bd {room side b g : Int} (hr : room ≤ 20000) (hs : 1 ≤ side) (hb : 0 ≤ b) (hg : 0 ≤ g) : 0 ≤ cnt room side b g ∧ cnt room side b g ≤ 20000 := by
  unfold cnt
  split
  · omega
  · have h1 : 0 ≤ (room - 2 * b - side) / (side + g) := Int.ediv_nonneg (by omega) (by omega)
    have h2 : (room - 2 * b - side) / (side + g) ≤ room - 2 * b - side := Int.ediv_le_self _ (by omega)
    omega
theorem cnt_fit {room side b g : Int} (hs : 1 ≤ side) (hg : 0 ≤ g) : max 0 (Int.tdiv (room - 2 * b + g) (side + g)) = cnt room side b g := by
  unfold cnt
  split
  · rename_i h
    by_cases h0 : 0 ≤ room - 2 * b + g
    · rw [tdiv_n h0, Int.ediv_eq_zero_of_lt h0 (by omega)]; rfl
    · have h1 : Int.tdiv (room - 2 * b + g) (side + g) = - Int.tdiv (-(room - 2 * b + g)) (side + g) := by rw [Int.neg_tdiv]; omega
      rw [h1, tdiv_n (by omega)]
      have h2 : 0 ≤ (-(room - 2 * b + g)) / (side + g) := Int.ediv_nonneg (by omega) (by omega)
      omega
  · rename_i h
    have e : room - 2 * b + g = (room - 2 * b - side) + 1 * (side + g) := by omega
    have h1 : 0 ≤ (room - 2 * b - side) / (side + g) := Int.ediv_nonneg (by omega) (by omega)
    rw [tdiv_n (by omega), e, Int.add_mul_ediv_right _ _ (by omega)]
    omega
def gridM (w h gr tw th b g : Int) : Int × Int := if cnt w tw b g = 0 ∨ cnt (h - gr) th b g = 0 then (0, 0) else (cnt w tw b g, cnt (h - gr) th b g)
def gridOf (w h gr tw th b g : Int) : Int × Int × Int :=
  if (isPress w h gr && isTrim tw th b g) = true then (if cnt w tw b g = 0 ∨ cnt (h - gr) th b g = 0 then (0, 0, 4) else (cnt w tw b g, cnt (h - gr) th b g, 0)) else (0, 0, 1)
def cornerOf (w h gr tw th b g i j : Int) : Int × Int × Int :=
  if (isPress w h gr && isTrim tw th b g) = true then
    (if (inR i 0 ((gridM w h gr tw th b g).1 - 1) && inR j 0 ((gridM w h gr tw th b g).2 - 1)) = true then (b + i * (tw + g), b + j * (th + g), 0) else (0, 0, 2)) else (0, 0, 1)
def wasteArea (w h gr tw th b g : Int) : Int × Int :=
  if (gridOf w h gr tw th b g).2.2 = 0 then (w * h - (gridOf w h gr tw th b g).1 * (gridOf w h gr tw th b g).2.1 * tw * th, 0) else (0, (gridOf w h gr tw th b g).2.2)
def turnTrim (w h b g : Int) : Int × Int × Int × Int × Int := if isTrim w h b g = true then (h, w, b, g, 0) else (0, 0, 0, 0, 1)
def leastSide (a side g b x : Int) : Int := a * side + (a - 1) * g + 2 * b + x
def leastSheet (w h b g a c gr : Int) : Int × Int × Int × Bool × Int :=
  if isTrim w h b g = true then
    (if (inR a 1 20000 && inR c 1 20000 && inR gr 0 20000) = true then
      (if leastSide a w g b 0 > 20000 ∨ leastSide c h g b gr > 20000 then (0, 0, 0, false, 3) else (leastSide a w g b 0, leastSide c h g b gr, gr, true, 0))
    else (0, 0, 0, false, 2)) else (0, 0, 0, false, 1)
theorem grid_bd {w h gr tw th b g : Int} (hp : isPress w h gr = true) (ht : isTrim tw th b g = true) : (0 ≤ cnt w tw b g ∧ cnt w tw b g ≤ 20000) ∧ (0 ≤ cnt (h - gr) th b g ∧ cnt (h - gr) th b g ≤ 20000) := by
  have h1 := isPress_true hp
  have h2 := isTrim_true ht
  exact ⟨cnt_bd (by omega) (by omega) (by omega) (by omega), cnt_bd (by omega) (by omega) (by omega) (by omega)⟩
theorem waste_wrap {w h tw th a c : Int} (hw : 0 ≤ w ∧ w ≤ 20000) (hh : 0 ≤ h ∧ h ≤ 20000) (h1 : 0 ≤ tw ∧ tw ≤ 20000) (h2 : 0 ≤ th ∧ th ≤ 20000) (ha : 0 ≤ a ∧ a ≤ 20000) (hc : 0 ≤ c ∧ c ≤ 20000) :
    wrap64 (wrap64 (w * h) - wrap64 (wrap64 (wrap64 (a * c) * tw) * th)) = w * h - a * c * tw * th := by
  have b1 := mul_bd hw.1 hw.2 hh.1 hh.2
  have b2 := mul_bd ha.1 ha.2 hc.1 hc.2
  have b3 := mul_bd b2.1 b2.2 h1.1 h1.2
  have b4 := mul_bd b3.1 b3.2 h2.1 h2.2
  rw [w64 (x := w * h) (by omega) (by omega), w64 (x := a * c) (by omega) (by omega), w64 (x := a * c * tw) (by omega) (by omega), w64 (x := a * c * tw * th) (by omega) (by omega), w64 (by omega) (by omega)]
theorem corner_wrap {b i s g n : Int} (hb : 0 ≤ b ∧ b ≤ 20000) (hs : 1 ≤ s ∧ s ≤ 20000) (hg : 0 ≤ g ∧ g ≤ 20000) (hi : inR i 0 n = true) (hn : n ≤ 20000) : wrap64 (b + wrap64 (i * wrap64 (s + g))) = b + i * (s + g) := by
  have h1 := inR_true hi
  have b1 := mul_bd (a := i) (b := s + g) (A := 20000) (B := 40000) (by omega) (by omega) (by omega) (by omega)
  rw [w64 (x := s + g) (by omega) (by omega), w64 (x := i * (s + g)) (by omega) (by omega), w64 (by omega) (by omega)]
theorem least_wrap {a s g b : Int} (ha : inR a 1 20000 = true) (hs : 1 ≤ s ∧ s ≤ 20000) (hg : 0 ≤ g ∧ g ≤ 20000) (hb : 0 ≤ b ∧ b ≤ 20000) :
    wrap64 (wrap64 (wrap64 (a * s) + wrap64 (wrap64 (a - 1) * g)) + wrap64 (2 * b)) = leastSide a s g b 0 ∧ 1 ≤ leastSide a s g b 0 ∧ leastSide a s g b 0 ≤ 900000000 := by
  have h1 := inR_true ha
  have b1 := mul_bd (a := a) (b := s) (A := 20000) (B := 20000) (by omega) (by omega) (by omega) (by omega)
  have b2 := mul_bd (a := a - 1) (b := g) (A := 20000) (B := 20000) (by omega) (by omega) (by omega) (by omega)
  have b3 : 1 ≤ a * s := by have := mul_bd (a := a - 1) (b := s) (A := 20000) (B := 20000) (by omega) (by omega) (by omega) (by omega); rw [Int.sub_mul] at this; omega
  unfold leastSide
  refine ⟨?_, by omega, by omega⟩
  rw [w64 (x := a - 1) (by omega) (by omega), w64 (x := a * s) (by omega) (by omega), w64 (x := (a - 1) * g) (by omega) (by omega), w64 (x := 2 * b) (by omega) (by omega), w64 (x := a * s + (a - 1) * g) (by omega) (by omega), w64 (by omega) (by omega)]
  omega
theorem gridOf_ok {w h gr tw th b g : Int} (e : (gridOf w h gr tw th b g).2.2 = 0) : isPress w h gr = true ∧ isTrim tw th b g = true ∧ cnt w tw b g ≠ 0 ∧ cnt (h - gr) th b g ≠ 0 ∧ gridOf w h gr tw th b g = (cnt w tw b g, cnt (h - gr) th b g, 0) := by
  unfold gridOf at e ⊢
  cases hp : isPress w h gr
  · simp [hp] at e
  cases ht : isTrim tw th b g
  · simp [hp, ht] at e
  simp only [hp, ht, Bool.and_self, if_true] at e ⊢
  by_cases hx : cnt w tw b g = 0 ∨ cnt (h - gr) th b g = 0
  · rw [if_pos hx] at e; simp at e
  · rw [if_neg hx]
    exact ⟨trivial, trivial, fun h => hx (.inl h), fun h => hx (.inr h), rfl⟩
theorem gridOf_bad {w h gr tw th b g : Int} (e : (gridOf w h gr tw th b g).2.2 ≠ 0) : gridOf w h gr tw th b g = (0, 0, (gridOf w h gr tw th b g).2.2) := by
  unfold gridOf at e ⊢
  by_cases h1 : (isPress w h gr && isTrim tw th b g) = true
  · rw [if_pos h1] at e ⊢
    by_cases h2 : cnt w tw b g = 0 ∨ cnt (h - gr) th b g = 0
    · rw [if_pos h2]
    · rw [if_neg h2] at e; exact absurd rfl e
  · rw [if_neg h1]
theorem gridM_bd {w h gr tw th b g : Int} (hp : isPress w h gr = true) (ht : isTrim tw th b g = true) : (0 ≤ (gridM w h gr tw th b g).1 ∧ (gridM w h gr tw th b g).1 ≤ 20000) ∧ (0 ≤ (gridM w h gr tw th b g).2 ∧ (gridM w h gr tw th b g).2 ≤ 20000) := by
  have := grid_bd hp ht
  unfold gridM
  split
  · exact ⟨⟨by omega, by omega⟩, by omega, by omega⟩
  · exact this

/-- A code that is drawn from. -/
def Code (c : List Int) : Prop := (∀ x ∈ c, 0 ≤ x ∧ x ≤ 255) ∧ c.length ≤ 4096
/-- Where a source stands, and its seed. -/
def SOk (q : Int × Int) : Prop := 0 ≤ q.1 ∧ 0 ≤ q.2 ∧ q.2 < 2147483647
theorem wfByte {x : Int} (h : (Lit.int .u8 x).wf = true) : 0 ≤ x ∧ x ≤ 255 := by
  simp [Lit.wf, IntKind.min, IntKind.max, IntKind.signed, IntKind.bits] at h
  omega
theorem rd_byte {c : List Int} (h : Code c) {i : Int} (h0 : 0 ≤ i) (h1 : i < c.length) : 0 ≤ rd c i ∧ rd c i ≤ 255 := by
  obtain ⟨n, rfl⟩ : ∃ n : Nat, i = n := ⟨i.toNat, by omega⟩
  have hn : n < c.length := by omega
  have e : rd c (n : Int) = c[n] := by rw [rd_nat, List.getD_eq_getElem?_getD, List.getElem?_eq_getElem hn]; rfl
  rw [e]
  exact h.1 _ (List.getElem_mem hn)
theorem bind_ok {α β : Type} {x : Option α} {P : α → Prop} {f : α → Option β} {Q : β → Prop} (h : ∃ p, x = some p ∧ P p) (hf : ∀ p, P p → ∃ r, f p = some r ∧ Q r) : ∃ r, x.bind f = some r ∧ Q r := by
  obtain ⟨p, e, hp⟩ := h
  rw [e]
  exact hf p hp
theorem ite_ok {α : Type} {c : Prop} [Decidable c] {a b : Option α} {Q : α → Prop} (h1 : c → ∃ r, a = some r ∧ Q r) (h2 : ¬ c → ∃ r, b = some r ∧ Q r) : ∃ r, (if c then a else b) = some r ∧ Q r := by
  by_cases h : c
  · rw [if_pos h]; exact h1 h
  · rw [if_neg h]; exact h2 h
theorem some_ok {α β : Type} {x : Option α} {v : α} {f : α → Option β} {Q : β → Prop} (h : x = some v) (hf : ∃ r, f v = some r ∧ Q r) : ∃ r, x.bind f = some r ∧ Q r := by
  rw [h]
  exact hf

def bg (up tu : Int) (gn grain : Bool) : Bool × Int × Int :=
  if (if (grain && !gn) = true then 0 else up) = 0 ∧ (if (grain && gn) = true then 0 else tu) = 0 then (false, 0, 4)
  else (decide ((if (grain && gn) = true then 0 else tu) > (if (grain && !gn) = true then 0 else up)), max (if (grain && !gn) = true then 0 else up) (if (grain && gn) = true then 0 else tu), 0)
def bestGrid (w h gr : Int) (gn : Bool) (tw th b g : Int) (grain : Bool) : Bool × Int × Int :=
  if (isPress w h gr && isTrim tw th b g) = true then bg (cnt w tw b g * cnt (h - gr) th b g) (cnt w th b g * cnt (h - gr) tw b g) gn grain else (false, 0, 1)
theorem isTrim_turn {tw th b g : Int} (h : isTrim tw th b g = true) : isTrim th tw b g = true := by
  simp only [isTrim, Bool.and_eq_true] at h ⊢
  exact ⟨⟨⟨h.1.1.2, h.1.1.1⟩, h.1.2⟩, h.2⟩
theorem gridM_prod (w h gr tw th b g : Int) : (gridM w h gr tw th b g).1 * (gridM w h gr tw th b g).2 = cnt w tw b g * cnt (h - gr) th b g := by
  unfold gridM
  split
  · rename_i e
    rcases e with e | e <;> simp [e]
  · rfl

theorem cnt_fits {room side b g : Int} (hs : 1 ≤ side) (hg : 0 ≤ g) (h : cnt room side b g ≠ 0) :
    cnt room side b g * side + (cnt room side b g - 1) * g + 2 * b ≤ room ∧ room < (cnt room side b g + 1) * side + cnt room side b g * g + 2 * b ∧ side + (cnt room side b g - 1) * (side + g) + 2 * b ≤ room ∧ 1 ≤ cnt room side b g := by
  unfold cnt at h ⊢
  split at h
  · exact absurd rfl h
  · rename_i hr
    rw [if_neg hr]
    have h0 : 0 ≤ (room - 2 * b - side) / (side + g) := Int.ediv_nonneg (by omega) (by omega)
    have h1 : (room - 2 * b - side) / (side + g) * (side + g) ≤ room - 2 * b - side := Int.ediv_mul_le _ (by omega)
    have h2 : room - 2 * b - side < ((room - 2 * b - side) / (side + g) + 1) * (side + g) := Int.lt_ediv_add_one_mul_self _ (by omega)
    generalize (room - 2 * b - side) / (side + g) = q at h0 h1 h2
    have e1 : q * (side + g) = q * side + q * g := Int.mul_add _ _ _
    have e2 : (q + 1) * (side + g) = q * (side + g) + (side + g) := by rw [Int.add_mul, Int.one_mul]
    have e3 : (1 + q) * side = side + q * side := by rw [Int.add_mul, Int.one_mul]
    have e4 : (1 + q - 1) * g = q * g := by rw [show 1 + q - 1 = q by omega]
    have e5 : (1 + q + 1) * side = 2 * side + q * side := by rw [show 1 + q + 1 = 2 + q by omega, Int.add_mul]
    have e6 : (1 + q) * g = g + q * g := by rw [Int.add_mul, Int.one_mul]
    have e7 : (1 + q - 1) * (side + g) = q * (side + g) := by rw [show 1 + q - 1 = q by omega]
    omega
theorem line_w {a c s g b : Int} (ha : 0 ≤ a ∧ a ≤ 20001) (hc : 0 ≤ c ∧ c ≤ 20001) (hs : 0 ≤ s ∧ s ≤ 20000) (hg : 0 ≤ g ∧ g ≤ 20000) (hb : 0 ≤ b ∧ b ≤ 20000) :
    wrap64 (wrap64 (wrap64 (a * s) + wrap64 (c * g)) + wrap64 (2 * b)) = a * s + c * g + 2 * b := by
  have b1 := mul_bd ha.1 ha.2 hs.1 hs.2
  have b2 := mul_bd hc.1 hc.2 hg.1 hg.2
  rw [w64 (x := a * s) (by omega) (by omega), w64 (x := c * g) (by omega) (by omega), w64 (x := 2 * b) (by omega) (by omega), w64 (x := a * s + c * g) (by omega) (by omega), w64 (by omega) (by omega)]
theorem corner_in {room side b g i : Int} (hs : 1 ≤ side) (hg : 0 ≤ g) (h : cnt room side b g ≠ 0) (hi : 0 ≤ i ∧ i ≤ cnt room side b g - 1) : 0 ≤ i * (side + g) ∧ b + i * (side + g) + side + b ≤ room := by
  have h1 := (cnt_fits hs hg h).2.2.1
  have h2 : i * (side + g) ≤ (cnt room side b g - 1) * (side + g) := Int.mul_le_mul_of_nonneg_right hi.2 (by omega)
  have h3 : 0 ≤ i * (side + g) := Int.mul_nonneg hi.1 (by omega)
  omega
theorem cornerOf_ok {w h gr tw th b g i j : Int} (e : (cornerOf w h gr tw th b g i j).2.2 = 0) : isPress w h gr = true ∧ isTrim tw th b g = true ∧ cnt w tw b g ≠ 0 ∧ cnt (h - gr) th b g ≠ 0 ∧ (0 ≤ i ∧ i ≤ cnt w tw b g - 1) ∧ (0 ≤ j ∧ j ≤ cnt (h - gr) th b g - 1) ∧ cornerOf w h gr tw th b g i j = (b + i * (tw + g), b + j * (th + g), 0) := by
  unfold cornerOf at e ⊢
  by_cases h1 : (isPress w h gr && isTrim tw th b g) = true
  · rw [if_pos h1] at e ⊢
    rw [Bool.and_eq_true] at h1
    by_cases h2 : (inR i 0 ((gridM w h gr tw th b g).1 - 1) && inR j 0 ((gridM w h gr tw th b g).2 - 1)) = true
    · rw [if_pos h2]
      rw [Bool.and_eq_true] at h2
      have i1 := inR_true h2.1
      have i2 := inR_true h2.2
      unfold gridM at i1 i2
      by_cases hx : cnt w tw b g = 0 ∨ cnt (h - gr) th b g = 0
      · rw [if_pos hx] at i1
        simp only at i1
        omega
      · rw [if_neg hx] at i1 i2
        exact ⟨h1.1, h1.2, fun h => hx (.inl h), fun h => hx (.inr h), i1, i2, rfl⟩
    · rw [if_neg h2] at e
      simp at e
  · rw [if_neg h1] at e
    simp at e

theorem laws_big_eq (l : List Int) : laws_big.f l = some (decide ((l.length : Int) > 4096)) := rfl

theorem impl_inRange_eq (a b c : Int) : impl_inRange.f a b c = some (inR a b c) := by
  unfold impl_inRange.f inR
  by_cases h : b ≤ a
  · rw [if_pos h]; simp [h]
  · rw [if_neg h]; simp [h]

theorem impl_IsPress_eq (w h g : Int) (r : Bool) : impl_IsPress.f w h g r = some (isPress w h g) := by
  unfold impl_IsPress.f isPress
  simp only [impl_inRange_eq, Option.bind_some]
  cases inR w 1 20000
  · simp
  cases hh : inR h 1 20000
  · simp
  have := inR_true hh
  rw [w64 (x := h - 1) (by omega) (by omega)]
  simp

theorem impl_IsTrim_eq (w h b g : Int) : impl_IsTrim.f w h b g = some (isTrim w h b g) := by
  unfold impl_IsTrim.f isTrim
  simp only [impl_inRange_eq, Option.bind_some]
  cases inR w 1 20000 <;> cases inR h 1 20000 <;> cases inR b 0 20000 <;> simp

theorem impl_fitting_eq (r s w h b g : Int) (hr : -20000 ≤ r ∧ r ≤ 20000) (hs : 1 ≤ s ∧ s ≤ 20000) (hb : 0 ≤ b ∧ b ≤ 20000) (hg : 0 ≤ g ∧ g ≤ 20000) : impl_fitting.f r s w h b g = some (cnt r s b g) := by
  unfold impl_fitting.f
  have hc := cnt_bd (room := r) (side := s) (b := b) (g := g) (by omega) (by omega) (by omega) (by omega)
  have hf := cnt_fit (room := r) (side := s) (b := b) (g := g) (by omega) (by omega)
  have hlo : -80000 ≤ Int.tdiv (r - 2 * b + g) (s + g) := by
    by_cases h0 : 0 ≤ r - 2 * b + g
    · rw [tdiv_n h0]; have := Int.ediv_nonneg h0 (show 0 ≤ s + g by omega); omega
    · have h1 : Int.tdiv (r - 2 * b + g) (s + g) = - Int.tdiv (-(r - 2 * b + g)) (s + g) := by rw [Int.neg_tdiv]; omega
      rw [h1, tdiv_n (by omega)]
      have h2 : (-(r - 2 * b + g)) / (s + g) ≤ -(r - 2 * b + g) := Int.ediv_le_self _ (by omega)
      omega
  rw [w64 (x := 2 * b) (by omega) (by omega), w64 (x := r - 2 * b) (by omega) (by omega), w64 (x := r - 2 * b + g) (by omega) (by omega), w64 (x := s + g) (by omega) (by omega), if_neg (by omega), w64 (by omega) (by omega), mx_max, hf]

theorem impl_grid_eq (w h gr : Int) (gn : Bool) (tw th b g : Int) (hp : isPress w h gr = true) (ht : isTrim tw th b g = true) : impl_grid.f w h gr gn tw th b g = some (gridM w h gr tw th b g) := by
  have h1 := isPress_true hp
  have h2 := isTrim_true ht
  unfold impl_grid.f gridM
  rw [w64 (x := h - gr) (by omega) (by omega), impl_fitting_eq _ _ _ _ _ _ (by omega) (by omega) (by omega) (by omega), impl_fitting_eq _ _ _ _ _ _ (by omega) (by omega) (by omega) (by omega)]
  simp only [Option.bind_some]
  by_cases ha : cnt w tw b g = 0
  · rw [if_pos ha, if_pos (.inl ha)]
  · by_cases hc : cnt (h - gr) th b g = 0
    · rw [if_neg ha, if_pos hc, if_pos (.inr hc)]
    · rw [if_neg ha, if_neg hc, if_neg (fun h => h.elim ha hc)]

theorem impl_GridOf_eq (k : Nat) (w h gr : Int) (gn : Bool) (tw th b g : Int) : impl_GridOf.f (k + 1) w h gr gn tw th b g = some (gridOf w h gr tw th b g) := by
  unfold impl_GridOf.f gridOf
  simp only [impl_IsPress_eq, impl_IsTrim_eq, Option.bind_some]
  cases hp : isPress w h gr
  · simp [impl_GridOf.j0]
  cases ht : isTrim tw th b g
  · simp [impl_GridOf.j0]
  simp only [if_true, Bool.and_self, Bool.not_true, impl_GridOf.j0, Bool.false_eq_true, if_false, impl_grid_eq w h gr gn tw th b g hp ht, Option.bind_some, gridM]
  by_cases hx : cnt w tw b g = 0 ∨ cnt (h - gr) th b g = 0
  · rw [if_pos hx, if_pos hx]; rfl
  · rw [if_neg hx, if_neg hx, if_neg (fun h => hx (.inl h))]

theorem spec_l01From_l0 (c : List Int) (hc : Code c) : ∀ (d k i : Nat) (l : List Int) (a s : Int), i + d = c.length → d < k → 0 ≤ a → 0 ≤ s → s < 2147483647 → ∃ q, spec_l01From.l0 k c (i : Int) l a s = some (l, q) ∧ SOk q := by
  intro d
  have hl := hc.2
  induction d with
  | zero =>
    intro k i l a s h hk ha h0 h1
    obtain ⟨k, rfl⟩ : ∃ m, k = m + 1 := ⟨k - 1, by omega⟩
    rw [spec_l01From.l0, if_neg (by omega)]
    exact ⟨(a, s), rfl, ha, h0, h1⟩
  | succ d ih =>
    intro k i l a s h hk ha h0 h1
    obtain ⟨k, rfl⟩ : ∃ m, k = m + 1 := ⟨k - 1, by omega⟩
    rw [spec_l01From.l0, if_pos (by omega)]
    by_cases h64 : (i : Int) < 64
    · have hb := rd_byte hc (i := (i : Int)) (by omega) (by omega)
      rw [if_pos h64, if_pos (by omega), w64 (x := (i : Int) + 1) (by omega) (by omega), w64 (x := rd c (i : Int)) (by omega) (by omega), w64 (x := s * 71) (by omega) (by omega), w64 (x := s * 71 + rd c (i : Int)) (by omega) (by omega), tmod_n (by omega)]
      exact ih k (i + 1) l a _ (by omega) (by omega) ha (by omega) (by omega)
    · rw [if_neg h64]
      exact ⟨(a, s), rfl, ha, h0, h1⟩
theorem from_ok {c : List Int} (hc : Code c) {k : Nat} (hk : c.length < k) : ∃ p, spec_l01From.f k c = some p ∧ p.1 = c ∧ SOk p.2 := by
  obtain ⟨q, e, h⟩ := spec_l01From_l0 c hc c.length k 0 c 0 88007 (by omega) hk (by omega) (by omega) (by omega)
  exact ⟨(c, q), e, rfl, h⟩

theorem next_ok {c : List Int} (hc : Code c) {q : Int × Int} (hq : SOk q) (n : Int) : ∃ p, spec_l01Next.f c q.1 q.2 n = some p ∧ SOk p.2 ∧ 0 ≤ p.1 ∧ (p.1 < n ∨ p.1 = 0) := by
  obtain ⟨a, s⟩ := q
  obtain ⟨ha, h0, h1⟩ := hq
  have hl := hc.2
  simp only at ha h0 h1
  unfold spec_l01Next.f
  simp only
  by_cases hn : n ≤ 1
  · rw [if_pos hn]
    exact ⟨_, rfl, ⟨ha, h0, h1⟩, by simp, .inr rfl⟩
  rw [if_neg hn, w64 (x := s * 48271) (by omega) (by omega), w64 (x := s * 48271 + 61) (by omega) (by omega), tmod_n (a := s * 48271 + 61) (by omega)]
  have hS : 0 ≤ (s * 48271 + 61) % 2147483647 ∧ (s * 48271 + 61) % 2147483647 < 2147483647 := by omega
  generalize (s * 48271 + 61) % 2147483647 = S at hS
  rw [tdiv_n (a := S) (by omega)]
  have hm : ∀ x : Int, 0 ≤ x → 0 ≤ Int.tmod x n ∧ Int.tmod x n < n := fun x hx => by
    rw [tmod_n hx]
    exact ⟨Int.emod_nonneg _ (by omega), Int.emod_lt_of_pos _ (by omega)⟩
  by_cases hlt : a < (c.length : Int)
  · have hb := rd_byte hc ha hlt
    rw [if_pos hlt, if_pos ha, w64 (x := a + 1) (by omega) (by omega), w64 (x := a + 1 - 1) (by omega) (by omega), show a + 1 - 1 = a by omega, w64 (x := rd c a) (by omega) (by omega), w64 (x := S / 31) (by omega) (by omega), w64 (x := S / 31 + rd c a) (by omega) (by omega)]
    have g1 := hm (rd c a) hb.1
    have g2 := hm (S / 31 + rd c a) (by omega)
    split
    · split
      · rw [if_neg (by omega)]
        exact ⟨_, rfl, ⟨by simp only; omega, hS.1, hS.2⟩, g1.1, .inl g1.2⟩
      · rw [if_neg (by omega)]
        exact ⟨_, rfl, ⟨by simp only; omega, hS.1, hS.2⟩, g2.1, .inl g2.2⟩
    · rw [if_neg (by omega)]
      exact ⟨_, rfl, ⟨by simp only; omega, hS.1, hS.2⟩, g2.1, .inl g2.2⟩
  · have g3 := hm (S / 31) (by omega)
    rw [if_neg hlt, if_neg (by omega), w64 (x := S / 31) (by omega) (by omega)]
    exact ⟨_, rfl, ⟨ha, hS.1, hS.2⟩, g3.1, .inl g3.2⟩

theorem pick_ok {c : List Int} (hc : Code c) {q : Int × Int} (hq : SOk q) (l : List Int) (hl : 0 < l.length) : ∃ p, spec_l01Pick.f c q.1 q.2 l = some p ∧ SOk p.2 ∧ p.1 ∈ l := by
  unfold spec_l01Pick.f
  obtain ⟨p, e, h1, h2, h3⟩ := next_ok hc hq (l.length : Int)
  rw [e]
  simp only [Option.bind_some]
  have h4 : p.1 < (l.length : Int) := by omega
  rw [if_pos h2, if_pos h4]
  refine ⟨_, rfl, h1, ?_⟩
  simp only
  obtain ⟨n, hn⟩ : ∃ n : Nat, p.1 = n := ⟨p.1.toNat, by omega⟩
  have hn2 : n < l.length := by omega
  have e2 : rd l (n : Int) = l[n] := by rw [rd_nat, List.getD_eq_getElem?_getD, List.getElem?_eq_getElem hn2]; rfl
  rw [hn, e2]
  exact List.getElem_mem hn2

theorem l08DrawTrim_ok {c : List Int} (hc : Code c) {q : Int × Int} (hq : SOk q) : ∃ p, spec_l08DrawTrim.f c q.1 q.2 = some p ∧ SOk p.2.2.2.2 := by
  unfold spec_l08DrawTrim.f
  exact bind_ok (next_ok hc hq 1400) fun a ha => bind_ok (next_ok hc ha.1 1900) fun b hb => bind_ok (pick_ok hc hb.1 _ (by simp)) fun d hd => bind_ok (pick_ok hc hd.1 _ (by simp)) fun e he => bind_ok (next_ok hc he.1 40) fun f hf => ite_ok (fun _ => bind_ok (pick_ok hc hf.1 _ (by simp)) fun r hr => ⟨_, rfl, hr.1⟩) (fun _ => ite_ok (fun _ => bind_ok (pick_ok hc hf.1 _ (by simp)) fun r hr => ⟨_, rfl, hr.1⟩) (fun _ => ite_ok (fun _ => bind_ok (pick_ok hc hf.1 _ (by simp)) fun r hr => ⟨_, rfl, hr.1⟩) (fun _ => ⟨_, rfl, hf.1⟩)))

theorem l08Draw_ok {c : List Int} (hc : Code c) {q : Int × Int} (hq : SOk q) : ∃ p, spec_l08Draw.f c q.1 q.2 = some p ∧ SOk p.2.2.2.2.2.2.2.2 := by
  unfold spec_l08Draw.f
  exact bind_ok (next_ok hc hq 7000) fun a ha => bind_ok (next_ok hc ha.1 7000) fun b hb => bind_ok (pick_ok hc hb.1 _ (by simp)) fun d hd => bind_ok (next_ok hc hd.1 2) fun e he => bind_ok (next_ok hc he.1 40) fun f hf => ite_ok (fun _ => bind_ok (pick_ok hc hf.1 _ (by simp)) fun r hr => bind_ok (l08DrawTrim_ok hc hr.1) fun t ht => ⟨_, rfl, ht⟩) (fun _ => ite_ok (fun _ => bind_ok (pick_ok hc hf.1 _ (by simp)) fun r hr => bind_ok (l08DrawTrim_ok hc hr.1) fun t ht => ⟨_, rfl, ht⟩) (fun _ => ite_ok (fun _ => bind_ok (pick_ok hc hf.1 _ (by simp)) fun r hr => bind_ok (l08DrawTrim_ok hc hr.1) fun t ht => ⟨_, rfl, ht⟩) (fun _ => bind_ok (l08DrawTrim_ok hc hf.1) fun t ht => ⟨_, rfl, ht⟩)))

theorem DrawBestGrid_ok {c : List Int} (hc : Code c) {k : Nat} (hk : c.length < k) : ∃ p, spec_DrawBestGrid.f k c = some p ∧ True := by
  unfold spec_DrawBestGrid.f
  refine bind_ok (from_ok hc hk) fun p hp => ?_
  rw [hp.1]
  exact bind_ok (l08Draw_ok hc hp.2) fun g hg => bind_ok (next_ok hc hg 2) fun a _ => ⟨_, rfl, trivial⟩

theorem impl_turnedTrim_eq (a b c d : Int) : impl_turnedTrim.f a b c d = some (b, a, c, d) := rfl

theorem impl_BestGrid_j3 (k : Nat) (up tu : Int) (x : Bool) : impl_BestGrid.j3 (k + 1) up tu x = some (if (if x = true then 0 else up) = 0 ∧ tu = 0 then (false, 0, 4) else (decide (tu > (if x = true then 0 else up)), max (if x = true then 0 else up) tu, 0)) := by
  rw [impl_BestGrid.j3]
  cases x
  · by_cases h1 : up = 0
    · by_cases h2 : tu = 0
      · simp [h1, h2]
      · simp [h1, h2, mx_max]
    · simp [h1, mx_max]
  · by_cases h2 : tu = 0
    · simp [h2]
    · simp [h2, mx_max]
theorem impl_BestGrid_tail (k : Nat) (up tu : Int) (gn grain : Bool) (a b c : Int) : (if grain = true then impl_BestGrid.j1 (k + 3) grain up tu gn a b c gn else impl_BestGrid.j1 (k + 3) grain up tu false a b c gn) = some (bg up tu gn grain) := by
  cases grain
  · simp only [Bool.false_eq_true, if_false, impl_BestGrid.j1, impl_BestGrid.j2, impl_BestGrid_j3, bg, Bool.false_and]
  · cases gn
    · simp only [if_true, Bool.false_eq_true, if_false, impl_BestGrid.j1, impl_BestGrid.j2, impl_BestGrid_j3, bg, Bool.true_and, Bool.not_false]
    · simp only [if_true, Bool.false_eq_true, if_false, impl_BestGrid.j1, impl_BestGrid.j2, impl_BestGrid_j3, bg, Bool.true_and, Bool.not_true]
theorem impl_BestGrid_eq (k : Nat) (w h gr : Int) (gn : Bool) (tw th b g : Int) (grain : Bool) : impl_BestGrid.f (k + 4) w h gr gn tw th b g grain = some (bestGrid w h gr gn tw th b g grain) := by
  unfold impl_BestGrid.f bestGrid
  simp only [impl_IsPress_eq, impl_IsTrim_eq, Option.bind_some]
  cases hp : isPress w h gr
  · simp [impl_BestGrid.j0]
  cases ht : isTrim tw th b g
  · simp [impl_BestGrid.j0]
  have ht2 := isTrim_turn ht
  have b1 := grid_bd hp ht
  have b2 := grid_bd hp ht2
  have m1 := mul_bd b1.1.1 b1.1.2 b1.2.1 b1.2.2
  have m2 := mul_bd b2.1.1 b2.1.2 b2.2.1 b2.2.2
  simp only [if_true, Bool.and_self, Bool.not_true, impl_BestGrid.j0, Bool.false_eq_true, if_false, impl_grid_eq w h gr gn tw th b g hp ht, impl_turnedTrim_eq, impl_grid_eq w h gr gn th tw b g hp ht2, Option.bind_some, gridM_prod]
  rw [w64 (x := cnt w tw b g * cnt (h - gr) th b g) (by omega) (by omega), w64 (x := cnt w th b g * cnt (h - gr) tw b g) (by omega) (by omega)]
  exact impl_BestGrid_tail k _ _ gn grain w h gr

theorem spec_l01In_eq (a b c : Int) : spec_l01In.f a b c = some (inR a b c) := by
  unfold spec_l01In.f inR
  by_cases h : a ≥ b
  · rw [if_pos h]; simp [show b ≤ a from h]
  · rw [if_neg h]; simp [show ¬ b ≤ a from h]

theorem spec_IsPress_eq (w h g : Int) (r : Bool) : spec_IsPress.f w h g r = some (isPress w h g) := by
  unfold spec_IsPress.f isPress
  simp only [spec_l01In_eq, Option.bind_some]
  cases inR w 1 20000
  · simp
  cases hh : inR h 1 20000
  · simp
  have := inR_true hh
  rw [w64 (x := h - 1) (by omega) (by omega)]
  simp

theorem spec_IsTrim_eq (w h b g : Int) : spec_IsTrim.f w h b g = some (isTrim w h b g) := by
  unfold spec_IsTrim.f isTrim
  simp only [spec_l01In_eq, Option.bind_some]
  cases inR w 1 20000 <;> cases inR h 1 20000 <;> cases inR b 0 20000 <;> simp

theorem spec_l08Count_eq (r s w h b g : Int) (hr : -20000 ≤ r ∧ r ≤ 20000) (hs : 1 ≤ s ∧ s ≤ 20000) (hb : 0 ≤ b ∧ b ≤ 20000) (hg : 0 ≤ g ∧ g ≤ 20000) : spec_l08Count.f r s w h b g = some (cnt r s b g) := by
  have hc := cnt_bd (room := r) (side := s) (b := b) (g := g) (by omega) (by omega) (by omega) (by omega)
  unfold spec_l08Count.f
  rw [w64 (x := 2 * b) (by omega) (by omega), w64 (x := r - 2 * b) (by omega) (by omega), w64 (x := r - 2 * b - s) (by omega) (by omega), w64 (x := s + g) (by omega) (by omega)]
  unfold cnt at hc ⊢
  by_cases h : r - 2 * b - s < 0
  · rw [if_pos h, if_pos h]
  · rw [if_neg h] at hc ⊢
    have h1 : 0 ≤ (r - 2 * b - s) / (s + g) := Int.ediv_nonneg (by omega) (by omega)
    rw [if_neg h, if_neg (by omega), tdiv_n (by omega), w64 (x := (r - 2 * b - s) / (s + g)) (by omega) (by omega), w64 (by omega) (by omega)]

theorem spec_l08Grid_eq (w h gr : Int) (gn : Bool) (tw th b g : Int) (hp : isPress w h gr = true) (ht : isTrim tw th b g = true) : spec_l08Grid.f w h gr gn tw th b g = some (cnt w tw b g, cnt (h - gr) th b g) := by
  have h1 := isPress_true hp
  have h2 := isTrim_true ht
  unfold spec_l08Grid.f
  rw [w64 (x := h - gr) (by omega) (by omega), spec_l08Count_eq _ _ _ _ _ _ (by omega) (by omega) (by omega) (by omega), spec_l08Count_eq _ _ _ _ _ _ (by omega) (by omega) (by omega) (by omega)]
  rfl

theorem spec_l08Turn_eq (a b c d : Int) : spec_l08Turn.f a b c d = some (b, a, c, d) := rfl

theorem spec_BestGrid_j3 (k : Nat) (up tu : Int) (x : Bool) : spec_BestGrid.j3 (k + 1) up tu x = some (if (if x = true then 0 else up) = 0 ∧ tu = 0 then (false, 0, 4) else (decide (tu > (if x = true then 0 else up)), max (if x = true then 0 else up) tu, 0)) := by
  rw [spec_BestGrid.j3]
  cases x
  · by_cases h1 : up = 0
    · by_cases h2 : tu = 0
      · simp [h1, h2]
      · simp [h1, h2, mx_max]
    · simp [h1, mx_max]
  · by_cases h2 : tu = 0
    · simp [h2]
    · simp [h2, mx_max]
theorem spec_BestGrid_tail (k : Nat) (up tu : Int) (gn grain : Bool) (a b c : Int) : (if grain = true then spec_BestGrid.j1 (k + 3) grain up tu gn a b c gn else spec_BestGrid.j1 (k + 3) grain up tu false a b c gn) = some (bg up tu gn grain) := by
  cases grain
  · simp only [Bool.false_eq_true, if_false, spec_BestGrid.j1, spec_BestGrid.j2, spec_BestGrid_j3, bg, Bool.false_and]
  · cases gn
    · simp only [if_true, Bool.false_eq_true, if_false, spec_BestGrid.j1, spec_BestGrid.j2, spec_BestGrid_j3, bg, Bool.true_and, Bool.not_false]
    · simp only [if_true, Bool.false_eq_true, if_false, spec_BestGrid.j1, spec_BestGrid.j2, spec_BestGrid_j3, bg, Bool.true_and, Bool.not_true]
theorem spec_BestGrid_eq (k : Nat) (w h gr : Int) (gn : Bool) (tw th b g : Int) (grain : Bool) : spec_BestGrid.f (k + 4) w h gr gn tw th b g grain = some (bestGrid w h gr gn tw th b g grain) := by
  unfold spec_BestGrid.f bestGrid
  simp only [spec_IsPress_eq, spec_IsTrim_eq, Option.bind_some]
  cases hp : isPress w h gr
  · simp [spec_BestGrid.j0]
  cases ht : isTrim tw th b g
  · simp [spec_BestGrid.j0]
  have ht2 := isTrim_turn ht
  have b1 := grid_bd hp ht
  have b2 := grid_bd hp ht2
  have m1 := mul_bd b1.1.1 b1.1.2 b1.2.1 b1.2.2
  have m2 := mul_bd b2.1.1 b2.1.2 b2.2.1 b2.2.2
  simp only [if_true, Bool.and_self, Bool.not_true, spec_BestGrid.j0, Bool.false_eq_true, if_false, spec_l08Grid_eq w h gr gn tw th b g hp ht, spec_l08Turn_eq, spec_l08Grid_eq w h gr gn th tw b g hp ht2, Option.bind_some]
  rw [w64 (x := cnt w tw b g * cnt (h - gr) th b g) (by omega) (by omega), w64 (x := cnt w th b g * cnt (h - gr) tw b g) (by omega) (by omega)]
  exact spec_BestGrid_tail k _ _ gn grain w h gr

theorem impl_TurnTrim_eq (a b c d : Int) : impl_TurnTrim.f a b c d = some (turnTrim a b c d) := by
  unfold impl_TurnTrim.f turnTrim
  simp only [impl_IsTrim_eq, impl_turnedTrim_eq, Option.bind_some]
  cases isTrim a b c d <;> simp

theorem spec_TurnTrim_eq (a b c d : Int) : spec_TurnTrim.f a b c d = some (turnTrim a b c d) := by
  unfold spec_TurnTrim.f turnTrim
  simp only [spec_IsTrim_eq, spec_l08Turn_eq, Option.bind_some]
  cases isTrim a b c d <;> simp

theorem DrawLeastSheet_ok {c : List Int} (hc : Code c) {k : Nat} (hk : c.length < k) : ∃ p, spec_DrawLeastSheet.f k c = some p ∧ True := by
  unfold spec_DrawLeastSheet.f
  refine bind_ok (from_ok hc hk) fun p hp => ?_
  rw [hp.1]
  exact bind_ok (l08DrawTrim_ok hc hp.2) fun t ht => bind_ok (next_ok hc ht 12) fun a ha => ite_ok (fun _ => bind_ok (pick_ok hc ha.1 _ (by simp)) fun r hr => bind_ok (pick_ok hc hr.1 _ (by simp)) fun s hs => bind_ok (pick_ok hc hs.1 _ (by simp)) fun u _ => ⟨_, rfl, trivial⟩) (fun _ => bind_ok (next_ok hc ha.1 8) fun r hr => bind_ok (next_ok hc hr.1 8) fun s hs => bind_ok (next_ok hc hs.1 200) fun u _ => ⟨_, rfl, trivial⟩)

theorem impl_LeastSheet_eq (k : Nat) (w h b g a c gr : Int) : impl_LeastSheet.f (k + 1) w h b g a c gr = some (leastSheet w h b g a c gr) := by
  unfold impl_LeastSheet.f leastSheet
  simp only [impl_IsTrim_eq, impl_inRange_eq, Option.bind_some]
  cases ht : isTrim w h b g
  · simp
  cases ha : inR a 1 20000
  · simp [impl_LeastSheet.j0]
  cases hc : inR c 1 20000
  · simp [impl_LeastSheet.j0]
  cases hg : inR gr 0 20000
  · simp [impl_LeastSheet.j0]
  have h2 := isTrim_true ht
  have h3 := inR_true hg
  obtain ⟨e1, l1, u1⟩ := least_wrap (s := w) (g := g) (b := b) ha (by omega) (by omega) (by omega)
  obtain ⟨e2, l2, u2⟩ := least_wrap (s := h) (g := g) (b := b) hc (by omega) (by omega) (by omega)
  have e3 : leastSide c h g b 0 + gr = leastSide c h g b gr := by unfold leastSide; omega
  simp only [if_true, Bool.and_self, Bool.not_true, impl_LeastSheet.j0, Bool.false_eq_true, if_false, e1, e2]
  rw [w64 (x := leastSide c h g b 0 + gr) (by omega) (by omega), e3]
  by_cases hx : leastSide a w g b 0 > 20000
  · rw [if_pos hx, if_pos (.inl hx)]
  · by_cases hy : leastSide c h g b gr > 20000
    · rw [if_neg hx, if_pos hy, if_pos (.inr hy)]
    · rw [if_neg hx, if_neg hy, if_neg (by omega)]

theorem spec_LeastSheet_eq (k : Nat) (w h b g a c gr : Int) : spec_LeastSheet.f (k + 1) w h b g a c gr = some (leastSheet w h b g a c gr) := by
  unfold spec_LeastSheet.f leastSheet
  simp only [spec_IsTrim_eq, spec_l01In_eq, Option.bind_some]
  cases ht : isTrim w h b g
  · simp
  cases ha : inR a 1 20000
  · simp [spec_LeastSheet.j0]
  cases hc : inR c 1 20000
  · simp [spec_LeastSheet.j0]
  cases hg : inR gr 0 20000
  · simp [spec_LeastSheet.j0]
  have h2 := isTrim_true ht
  have h3 := inR_true hg
  obtain ⟨e1, l1, u1⟩ := least_wrap (s := w) (g := g) (b := b) ha (by omega) (by omega) (by omega)
  obtain ⟨e2, l2, u2⟩ := least_wrap (s := h) (g := g) (b := b) hc (by omega) (by omega) (by omega)
  have e3 : leastSide c h g b 0 + gr = leastSide c h g b gr := by unfold leastSide; omega
  simp only [if_true, Bool.and_self, Bool.not_true, spec_LeastSheet.j0, Bool.false_eq_true, if_false, e1, e2, spec_IsPress_eq, Option.bind_some]
  rw [w64 (x := leastSide c h g b 0 + gr) (by omega) (by omega), e3]
  by_cases hx : leastSide a w g b 0 > 20000 ∨ leastSide c h g b gr > 20000
  · rw [if_pos hx, if_neg]
    intro hp
    have := isPress_true hp
    omega
  · rw [if_neg hx, if_pos]
    unfold isPress
    rw [inR_mk (by omega) (by omega), inR_mk (by omega) (by omega), inR_mk (by omega) (by omega)]
    rfl

theorem cnt_exact {a side g b : Int} (ha : 1 ≤ a) (hs : 1 ≤ side) (hg : 0 ≤ g) : cnt (leastSide a side g b 0) side b g = a := by
  have e : leastSide a side g b 0 - 2 * b - side = (a - 1) * (side + g) := by
    unfold leastSide
    rw [Int.mul_add, Int.sub_mul a 1 side, Int.one_mul]
    omega
  have h0 : 0 ≤ (a - 1) * (side + g) := Int.mul_nonneg (by omega) (by omega)
  unfold cnt
  rw [e, if_neg (by omega), Int.mul_ediv_cancel _ (by omega)]
  omega
theorem cnt_less {a side g b : Int} (ha : 1 ≤ a) (hs : 1 ≤ side) (hg : 0 ≤ g) (h : cnt (leastSide a side g b 0 - 1) side b g ≠ 0) : ¬ cnt (leastSide a side g b 0 - 1) side b g ≥ a := by
  intro hc
  obtain ⟨f1, f2, f3, f4⟩ := cnt_fits hs hg h
  generalize cnt (leastSide a side g b 0 - 1) side b g = c at *
  have h1 : a * side ≤ c * side := Int.mul_le_mul_of_nonneg_right hc (by omega)
  have h2 : (a - 1) * g ≤ (c - 1) * g := Int.mul_le_mul_of_nonneg_right (by omega) hg
  unfold leastSide at f1
  omega
theorem leastSheet_ok {w h b g a c gr : Int} (e : (leastSheet w h b g a c gr).2.2.2.2 = 0) : isTrim w h b g = true ∧ (1 ≤ a ∧ a ≤ 20000) ∧ (1 ≤ c ∧ c ≤ 20000) ∧ (0 ≤ gr ∧ gr ≤ 20000) ∧ leastSide a w g b 0 ≤ 20000 ∧ leastSide c h g b gr ≤ 20000 ∧ leastSheet w h b g a c gr = (leastSide a w g b 0, leastSide c h g b gr, gr, true, 0) := by
  unfold leastSheet at e ⊢
  by_cases h1 : isTrim w h b g = true
  · rw [if_pos h1] at e ⊢
    by_cases h2 : (inR a 1 20000 && inR c 1 20000 && inR gr 0 20000) = true
    · rw [if_pos h2] at e ⊢
      by_cases h3 : leastSide a w g b 0 > 20000 ∨ leastSide c h g b gr > 20000
      · rw [if_pos h3] at e
        simp at e
      · rw [if_neg h3]
        simp only [Bool.and_eq_true] at h2
        exact ⟨h1, inR_true h2.1.1, inR_true h2.1.2, inR_true h2.2, by omega, by omega, rfl⟩
    · rw [if_neg h2] at e
      simp at e
  · rw [if_neg h1] at e
    simp at e
theorem least_grid {w h b g a c gr : Int} (ht : isTrim w h b g = true) (ha : 1 ≤ a ∧ a ≤ 20000) (hc : 1 ≤ c ∧ c ≤ 20000) (hg : 0 ≤ gr ∧ gr ≤ 20000) (h1 : leastSide a w g b 0 ≤ 20000) (h2 : leastSide c h g b gr ≤ 20000) :
    gridOf (leastSide a w g b 0) (leastSide c h g b gr) gr w h b g = (a, c, 0) ∧ ((gridOf (leastSide a w g b 0 - 1) (leastSide c h g b gr) gr w h b g).2.2 = 0 → ¬ (gridOf (leastSide a w g b 0 - 1) (leastSide c h g b gr) gr w h b g).1 ≥ a) ∧ 1 ≤ leastSide a w g b 0 := by
  have q := isTrim_true ht
  have e1 := (least_wrap (a := a) (s := w) (g := g) (b := b) (inR_mk ha.1 ha.2) q.1 q.2.2.2 q.2.2.1).2.1
  have e2 := (least_wrap (a := c) (s := h) (g := g) (b := b) (inR_mk hc.1 hc.2) q.2.1 q.2.2.2 q.2.2.1).2.1
  have e3 : leastSide c h g b gr - gr = leastSide c h g b 0 := by unfold leastSide; omega
  have c1 := cnt_exact (a := a) (side := w) (g := g) (b := b) ha.1 (by omega) (by omega)
  have c2 := cnt_exact (a := c) (side := h) (g := g) (b := b) hc.1 (by omega) (by omega)
  have hp : isPress (leastSide a w g b 0) (leastSide c h g b gr) gr = true := by
    simp only [isPress, Bool.and_eq_true]
    exact ⟨⟨inR_mk e1 h1, inR_mk (by omega) h2⟩, inR_mk hg.1 (by omega)⟩
  refine ⟨?_, fun h0 => ?_, e1⟩
  · unfold gridOf
    rw [hp, ht]
    simp only [Bool.and_self, if_true]
    rw [e3, c1, c2, if_neg (by omega)]
  · obtain ⟨p1, p2, n1, n2, e⟩ := gridOf_ok h0
    rw [e]
    exact cnt_less ha.1 (by omega) (by omega) n1
theorem bestGrid_ok {w h gr : Int} {gn : Bool} {tw th b g : Int} {grain : Bool} (e : (bestGrid w h gr gn tw th b g grain).2.2 = 0) : isPress w h gr = true ∧ isTrim tw th b g = true ∧ bestGrid w h gr gn tw th b g grain = bg (cnt w tw b g * cnt (h - gr) th b g) (cnt w th b g * cnt (h - gr) tw b g) gn grain := by
  unfold bestGrid at e ⊢
  by_cases h1 : (isPress w h gr && isTrim tw th b g) = true
  · rw [if_pos h1]
    rw [Bool.and_eq_true] at h1
    exact ⟨h1.1, h1.2, rfl⟩
  · rw [if_neg h1] at e
    simp at e
theorem grid_zero {w h gr tw th b g : Int} (hp : isPress w h gr = true) (ht : isTrim tw th b g = true) (e : (gridOf w h gr tw th b g).2.2 ≠ 0) : cnt w tw b g * cnt (h - gr) th b g = 0 := by
  unfold gridOf at e
  rw [hp, ht] at e
  simp only [Bool.and_self, if_true] at e
  by_cases hx : cnt w tw b g = 0 ∨ cnt (h - gr) th b g = 0
  · rcases hx with hx | hx <;> simp [hx]
  · rw [if_neg hx] at e
    exact absurd rfl e
theorem best_tail (k : Nat) (up tu : Int) (gn grain : Bool) (X Y Z W w h gr : Int) (h1 : 0 ≤ up ∧ up ≤ 400000000) (h2 : 0 ≤ tu ∧ tu ≤ 400000000) (hX : X * Y = up) (hZ : Z * W = tu) (e : (bg up tu gn grain).2.2 = 0) :
    laws_FnBestGrids.j3 (k + 2) grain (bg up tu gn grain).1 (bg up tu gn grain).2.1 X Y Z W w h gr gn = some true := by
  have w1 : wrap64 (X * Y) = up := by rw [hX]; exact w64 (by omega) (by omega)
  have w2 : wrap64 (Z * W) = tu := by rw [hZ]; exact w64 (by omega) (by omega)
  unfold bg at e ⊢
  by_cases hz : (if (grain && !gn) = true then 0 else up) = 0 ∧ (if (grain && gn) = true then 0 else tu) = 0
  · rw [if_pos hz] at e
    simp at e
  rw [if_neg hz]
  cases grain
  · simp only [Bool.false_and, Bool.false_eq_true, if_false] at hz ⊢
    have hmax : max up tu = (if tu > up then tu else up) := by omega
    rw [laws_FnBestGrids.j3, if_neg (by simp), laws_FnBestGrids.j4, if_neg (by simp), w1, w2, hmax]
    by_cases c : tu > up
    · rw [decide_eq_true c, if_pos rfl, if_pos c, if_pos rfl, if_neg (by simp), decide_eq_true c]
    · rw [decide_eq_false c, if_neg (by simp), if_neg c, if_pos rfl, if_neg (by simp), decide_eq_true (show up ≥ tu by omega)]
  · cases gn
    · simp only [Bool.not_false, Bool.and_true, Bool.true_and, Bool.and_false, Bool.false_eq_true, if_false, if_true] at hz ⊢
      have hz2 : tu ≠ 0 := fun h => hz (by simp [h])
      have d : decide (tu > 0) = true := decide_eq_true (by omega)
      rw [laws_FnBestGrids.j3, if_pos rfl, d, laws_FnBestGrids.j4, w1, w2, if_neg (by simp), if_pos rfl, if_pos (by omega), if_pos rfl]
    · simp only [Bool.not_true, Bool.and_false, Bool.and_true, Bool.true_and, Bool.false_eq_true, if_false, if_true] at hz ⊢
      have hz2 : up ≠ 0 := fun h => hz (by simp [h])
      have d : decide (0 > up) = false := decide_eq_false (by omega)
      rw [laws_FnBestGrids.j3, if_pos rfl, d, laws_FnBestGrids.j4, w1, w2, if_neg (by simp), if_neg (by simp), if_pos (by omega), if_pos rfl]
theorem best_j1 (k : Nat) (w h gr : Int) (gn : Bool) (tw th b g : Int) (grain : Bool) :
    laws_FnBestGrids.j1 (k + 4) grain (bestGrid w h gr gn tw th b g grain).1 (bestGrid w h gr gn tw th b g grain).2.1 (bestGrid w h gr gn tw th b g grain).2.2 w h gr gn tw th b g (turnTrim tw th b g).1 (turnTrim tw th b g).2.1 (turnTrim tw th b g).2.2.1 (turnTrim tw th b g).2.2.2.1 = some true := by
  rw [laws_FnBestGrids.j1]
  by_cases h0 : (bestGrid w h gr gn tw th b g grain).2.2 = 0
  · obtain ⟨p1, p2, e⟩ := bestGrid_ok h0
    have p3 := isTrim_turn p2
    rw [if_pos h0]
    have eu : turnTrim tw th b g = (th, tw, b, g, 0) := by unfold turnTrim; rw [if_pos p2]
    rw [eu]
    rw [e] at h0 ⊢
    obtain ⟨b1, b2⟩ := grid_bd p1 p2
    obtain ⟨b3, b4⟩ := grid_bd p1 p3
    have m1 := mul_bd b1.1 b1.2 b2.1 b2.2
    have m2 := mul_bd b3.1 b3.2 b4.1 b4.2
    simp only [impl_GridOf_eq (k + 2), Option.bind_some]
    by_cases g1 : (gridOf w h gr tw th b g).2.2 = 0
    · obtain ⟨_, _, _, _, e1⟩ := gridOf_ok g1
      rw [if_pos g1, laws_FnBestGrids.j2, e1]
      by_cases g2 : (gridOf w h gr th tw b g).2.2 = 0
      · obtain ⟨_, _, _, _, e2⟩ := gridOf_ok g2
        rw [if_pos g2, e2]
        exact best_tail k _ _ gn grain _ _ _ _ w h gr (by omega) (by omega) rfl rfl h0
      · rw [if_neg g2]
        exact best_tail k _ _ gn grain _ _ _ _ w h gr (by omega) (by omega) rfl (by rw [grid_zero p1 p3 g2]; rfl) h0
    · rw [if_neg g1, laws_FnBestGrids.j2]
      by_cases g2 : (gridOf w h gr th tw b g).2.2 = 0
      · obtain ⟨_, _, _, _, e2⟩ := gridOf_ok g2
        rw [if_pos g2, e2]
        exact best_tail k _ _ gn grain _ _ _ _ w h gr (by omega) (by omega) (by rw [grid_zero p1 p2 g1]; rfl) rfl h0
      · rw [if_neg g2]
        exact best_tail k _ _ gn grain _ _ _ _ w h gr (by omega) (by omega) (by rw [grid_zero p1 p2 g1]; rfl) (by rw [grid_zero p1 p3 g2]; rfl) h0
  · rw [if_neg h0]
theorem FnBestGrids : laws_FnBestGrids.Pure := by
  intro l _ _ hb
  by_cases hbig : (l.length : Int) > 4096
  · exact ⟨1, by unfold laws_FnBestGrids.f; rw [laws_big_eq, decide_eq_true hbig]; rfl⟩
  have hc : Code l := ⟨fun x hx => wfByte (hb x hx), by omega⟩
  obtain ⟨⟨w, h, gr, gn, tw, th, b, g, grain⟩, e1, _⟩ := DrawBestGrid_ok hc (k := 5010) (by omega)
  obtain ⟨⟨w', h', b', g', a, c, gr'⟩, e2, _⟩ := DrawLeastSheet_ok hc (k := 5010) (by omega)
  refine ⟨5010, ?_⟩
  unfold laws_FnBestGrids.f
  simp only [laws_big_eq, decide_eq_false hbig, Bool.false_eq_true, if_false, Option.bind_some, e1, e2, impl_BestGrid_eq 5006, spec_BestGrid_eq 5006, impl_TurnTrim_eq, spec_TurnTrim_eq, impl_LeastSheet_eq 5009, spec_LeastSheet_eq 5009, if_true, bne_self_eq_false, beq_self_eq_true, Bool.not_true, Bool.or_self]
  rw [laws_FnBestGrids.j0, if_neg (by simp)]
  by_cases h0 : (leastSheet w' h' b' g' a c gr').2.2.2.2 = 0
  · obtain ⟨t1, t2, t3, t4, t5, t6, e⟩ := leastSheet_ok h0
    obtain ⟨x1, x2, x3⟩ := least_grid t1 t2 t3 t4 t5 t6
    rw [e]
    simp only [if_true, impl_GridOf_eq 5008, Option.bind_some]
    rw [w64 (x := leastSide a w' g' b' 0 - 1) (by omega) (by omega), x1]
    simp only [if_true]
    by_cases h5 : (gridOf (leastSide a w' g' b' 0 - 1) (leastSide c h' g' b' gr') gr' w' h' b' g').2.2 = 0
    · rw [if_pos h5, if_neg (x2 h5)]
      exact best_j1 5005 w h gr gn tw th b g grain
    · rw [if_neg h5]
      exact best_j1 5005 w h gr gn tw th b g grain
  · rw [if_neg h0]
    exact best_j1 5005 w h gr gn tw th b g grain

end Go.Proofs.Ythapadejldlmfaa.Pure
