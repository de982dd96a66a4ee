/- For all arguments the law FnPackings returns true, with no condition beyond the bounds that the printed statement names. -/
import Derived.Test.YtaapnjhgkbjdkaaPFnPackingsx11
namespace Go.Proofs.Ytaapnjhgkbjdkaa.Pure
open Go.RowKit Go.Proofs.Ytaapnjhgkbjdkaa.PFnPackings Go.Proofs.YtaapnjhgkbjdkaaW.PrintWords Go.Proofs.YtaapnjhgkbjdkaaW.PrintLast
set_option linter.unusedVariables false
set_option linter.unusedSimpArgs false

theorem w64 {x : Int} (h1 : -9223372036854775808 ≤ x) (h2 : x ≤ 9223372036854775807) : wrap64 x = x := by
  unfold wrap64; omega
theorem wf64 {x : Int} (h : (Lit.int .i64 x).wf = true) : -9223372036854775808 ≤ x ∧ x ≤ 9223372036854775807 := by
  simp [Lit.wf, IntKind.min, IntKind.max, IntKind.signed, IntKind.bits] at h
  omega
/-- 'a lies from b to c'. -/
def inR (a b c : Int) : Bool := decide (b ≤ a ∧ a ≤ c)
theorem inR_true {a b c : Int} (h : inR a b c = true) : b ≤ a ∧ a ≤ c := by simpa [inR] using h
theorem inR_mk {a b c : Int} (h1 : b ≤ a) (h2 : a ≤ c) : inR a b c = true := by simp [inR, h1, h2]
theorem inR_false {a b c : Int} (h : inR a b c = false) : a < b ∨ c < a := by
  have : ¬ (b ≤ a ∧ a ≤ c) := by simpa [inR] using h
  omega
theorem rd_nat (xs : List Int) (i : Nat) : rd xs (i : Int) = xs.getD i 0 := by simp [rd]
theorem mul_bd {a b A B : Int} (h0 : 0 ≤ a) (h1 : a ≤ A) (k0 : 0 ≤ b) (k1 : b ≤ B) : 0 ≤ a * b ∧ a * b ≤ A * B :=
  ⟨Int.mul_nonneg h0 k0, Int.mul_le_mul h1 k1 k0 (by omega)⟩
theorem tdiv_n {a b : Int} (h : 0 ≤ a) : Int.tdiv a b = a / b := Int.tdiv_eq_ediv_of_nonneg h
theorem tmod_n {a b : Int} (h : 0 ≤ a) : Int.tmod a b = a % b := Int.tmod_eq_emod_of_nonneg h
theorem mn_min (a b : Int) : mn a b = min a b := by unfold mn; split <;> omega
theorem mx_max (a b : Int) : mx a b = max a b := by unfold mx; split <;> omega

/-- A code that is drawn from. -/
def Code (c : List Int) : Prop := (∀ x ∈ c, 0 ≤ x ∧ x ≤ 255) ∧ c.length ≤ 4096
/-- Where a source stands, and its seed. -/
def SOk (q : Int × Int) : Prop := 0 ≤ q.1 ∧ 0 ≤ q.2 ∧ q.2 < 2147483647
theorem wfByte {x : Int} (h : (Lit.int .u8 x).wf = true) : 0 ≤ x ∧ x ≤ 255 := by
  simp [Lit.wf, IntKind.min, IntKind.max, IntKind.signed, IntKind.bits] at h
  omega
theorem rd_byte {c : List Int} (h : Code c) {i : Int} (h0 : 0 ≤ i) (h1 : i < c.length) : 0 ≤ rd c i ∧ rd c i ≤ 255 := by
  obtain ⟨n, rfl⟩ : ∃ n : Nat, i = n := ⟨i.toNat, by omega⟩
  have hn : n < c.length := by omega
  have e : rd c (n : Int) = c[n] := by rw [rd_nat, List.getD_eq_getElem?_getD, List.getElem?_eq_getElem hn]; rfl
  rw [e]
  exact h.1 _ (List.getElem_mem hn)
theorem bind_ok {α β : Type} {x : Option α} {P : α → Prop} {f : α → Option β} {Q : β → Prop} (h : ∃ p, x = some p ∧ P p) (hf : ∀ p, P p → ∃ r, f p = some r ∧ Q r) : ∃ r, x.bind f = some r ∧ Q r := by
  obtain ⟨p, e, hp⟩ := h
  rw [e]
  exact hf p hp
theorem ite_ok {α : Type} {c : Prop} [Decidable c] {a b : Option α} {Q : α → Prop} (h1 : c → ∃ r, a = some r ∧ Q r) (h2 : ¬ c → ∃ r, b = some r ∧ Q r) : ∃ r, (if c then a else b) = some r ∧ Q r := by
  by_cases h : c
  · rw [if_pos h]; exact h1 h
  · rw [if_neg h]; exact h2 h
theorem some_ok {α β : Type} {x : Option α} {v : α} {f : α → Option β} {Q : β → Prop} (h : x = some v) (hf : ∃ r, f v = some r ∧ Q r) : ∃ r, x.bind f = some r ∧ Q r := by
  rw [h]
  exact hf

def allR (xs : List Int) (lo hi : Int) : Bool := xs.all fun x => inR x lo hi
theorem allR_mem {xs : List Int} {lo hi : Int} (h : allR xs lo hi = true) : ∀ x ∈ xs, lo ≤ x ∧ x ≤ hi := fun x hx => inR_true (List.all_eq_true.1 h x hx)
theorem drop_get (xs : List Int) (i : Nat) (hi : i < xs.length) : xs.drop i = xs[i] :: xs.drop (i + 1) := List.drop_eq_getElem_cons hi
theorem rd_get (xs : List Int) (i : Nat) (hi : i < xs.length) : rd xs (i : Int) = xs[i] := by rw [rd_nat, List.getD_eq_getElem?_getD, List.getElem?_eq_getElem hi]; rfl
/-- The sum, as the program adds it up. -/
def wsum (a : Int) (xs : List Int) : Int := xs.foldl (fun a x => wrap64 (a + x)) a
theorem wsum_cons (a x : Int) (xs : List Int) : wsum a (x :: xs) = wsum (wrap64 (a + x)) xs := rfl
theorem wsum_eq : ∀ (xs : List Int) (a : Int), (∀ x ∈ xs, 0 ≤ x ∧ x ≤ 1000000) → 0 ≤ a → a + xs.length * 1000000 ≤ 4611686018427387904 → wsum a xs = a + xs.sum ∧ 0 ≤ xs.sum ∧ xs.sum ≤ xs.length * 1000000
  | [], a, _, h0, _ => ⟨by simp [wsum], by simp, by simp⟩
  | x :: xs, a, h, h0, hb => by
    have hx := h x (by simp)
    simp only [List.length_cons] at hb ⊢
    obtain ⟨e, l, u⟩ := wsum_eq xs (a + x) (fun y hy => h y (by simp [hy])) (by omega) (by omega)
    rw [wsum_cons, w64 (by omega) (by omega), e, List.sum_cons]
    exact ⟨by omega, by omega, by omega⟩

def rollTask (roll : Int) (s : List Int) : Bool := inR roll 1 100000 && (decide ((s.length : Int) ≤ 12) && allR s 1 roll)
theorem rollTask_true {roll : Int} {s : List Int} (h : rollTask roll s = true) : (1 ≤ roll ∧ roll ≤ 100000) ∧ s.length ≤ 12 ∧ ∀ x ∈ s, 1 ≤ x ∧ x ≤ roll := by
  simp only [rollTask, Bool.and_eq_true, decide_eq_true_eq] at h
  exact ⟨inR_true h.1, by omega, allR_mem h.2.2⟩
theorem roll_sum {roll : Int} {s : List Int} (h : rollTask roll s = true) : wsum 0 s = s.sum ∧ 0 ≤ s.sum ∧ s.sum ≤ 12000000 := by
  obtain ⟨h1, h2, h3⟩ := rollTask_true h
  obtain ⟨e, l, u⟩ := wsum_eq s 0 (fun x hx => by have := h3 x hx; omega) (by omega) (by omega)
  exact ⟨by omega, l, by omega⟩
/-- How many strips are longer than half a roll. -/
def longs (roll : Int) : List Int → Int
  | [] => 0
  | x :: xs => (if 2 * x > roll then 1 else 0) + longs roll xs
theorem longs_bd (roll : Int) : ∀ xs : List Int, 0 ≤ longs roll xs ∧ longs roll xs ≤ xs.length
  | [] => by simp [longs]
  | x :: xs => by
    have := longs_bd roll xs
    simp only [longs, List.length_cons]
    split <;> omega
def rollBound (roll : Int) (s : List Int) : Int × Int := if rollTask roll s = true then (max (longs roll s) ((s.sum + roll - 1) / roll), 0) else (0, 1)

/-- The place of the first x in a list, counted from i on, or -1. -/
def idxFrom : List Int → Int → Nat → Int
  | [], _, _ => -1
  | y :: ys, x, i => if x = y then (i : Int) else idxFrom ys x (i + 1)

/-- 'Each strip goes to a roll that is there or to the next one'; n rolls are there. -/
def rg : List Int → Int → Bool
  | [], _ => true
  | p :: ps, n => inR p 0 n && rg ps (max n (p + 1))
def room (acc : List Int) (p : Int) : List Int := if p = (acc.length : Int) then acc ++ [0] else acc
def addTo (acc : List Int) (p s : Int) : List Int := (room acc p).set p.toNat (rd (room acc p) p + s)
/-- The sums of the strips of each roll. -/
def loads : List Int → List Int → List Int → List Int
  | s :: ss, p :: ps, acc => loads ss ps (addTo acc p s)
  | _, _, acc => acc
theorem room_len {acc : List Int} {p : Int} (h : inR p 0 acc.length = true) : ((room acc p).length : Int) = max (acc.length : Int) (p + 1) := by
  have := inR_true h
  unfold room
  split
  · simp only [List.length_append, List.length_cons, List.length_nil]; omega
  · omega
theorem addTo_len {acc : List Int} {p : Int} (s : Int) (h : inR p 0 acc.length = true) : ((addTo acc p s).length : Int) = max (acc.length : Int) (p + 1) := by
  unfold addTo
  rw [List.length_set, room_len h]
theorem room_mem {acc : List Int} {p B : Int} (hB : 0 ≤ B) (h : ∀ a ∈ acc, 0 ≤ a ∧ a ≤ B) : ∀ a ∈ room acc p, 0 ≤ a ∧ a ≤ B := by
  intro a ha
  unfold room at ha
  split at ha
  · rcases List.mem_append.1 ha with h1 | h1
    · exact h a h1
    · simp only [List.mem_singleton] at h1
      omega
  · exact h a ha
theorem rd_mem {xs : List Int} {p : Int} (h0 : 0 ≤ p) (h : p < xs.length) : rd xs p ∈ xs := by
  obtain ⟨n, rfl⟩ : ∃ n : Nat, p = n := ⟨p.toNat, by omega⟩
  rw [rd_get xs n (by omega)]
  exact List.getElem_mem _
theorem room_rd {acc : List Int} {p B : Int} (hi : inR p 0 acc.length = true) (hB : 0 ≤ B) (h : ∀ a ∈ acc, 0 ≤ a ∧ a ≤ B) : 0 ≤ rd (room acc p) p ∧ rd (room acc p) p ≤ B := by
  have h1 := inR_true hi
  have h2 := room_len hi
  exact room_mem hB h _ (rd_mem h1.1 (by omega))
theorem addTo_mem {acc : List Int} {p s B C : Int} (hi : inR p 0 acc.length = true) (hB : 0 ≤ B) (h : ∀ a ∈ acc, 0 ≤ a ∧ a ≤ B) (hs : 0 ≤ s) (hC : B + s ≤ C) : ∀ a ∈ addTo acc p s, 0 ≤ a ∧ a ≤ C := by
  intro a ha
  have h3 := room_rd hi hB h
  rcases List.mem_or_eq_of_mem_set ha with h1 | h1
  · have := room_mem hB h a h1
    omega
  · omega
theorem loads_ok : ∀ (s p acc : List Int) (B : Int), rg p acc.length = true → (∀ x ∈ s, 1 ≤ x ∧ x ≤ 100000) → 0 ≤ B → (∀ a ∈ acc, 0 ≤ a ∧ a ≤ B) → ∀ a ∈ loads s p acc, 0 ≤ a ∧ a ≤ B + s.length * 100000
  | [], p, acc, B, _, _, _, h => by
    intro a ha
    rw [loads.eq_def] at ha
    simp only at ha
    have := h a ha
    simp only [List.length_nil]
    omega
  | s :: ss, [], acc, B, _, _, _, h => by
    intro a ha
    rw [loads.eq_def] at ha
    simp only at ha
    have := h a ha
    simp only [List.length_cons]
    omega
  | s :: ss, p :: ps, acc, B, hr, hs, hB, h => by
    simp only [rg, Bool.and_eq_true] at hr
    have h1 := hs s (by simp)
    intro a ha
    rw [loads] at ha
    have := loads_ok ss ps (addTo acc p s) (B + 100000) (by rw [addTo_len s hr.1]; exact hr.2) (fun x hx => hs x (by simp [hx])) (by omega) (addTo_mem hr.1 hB h (by omega) (by omega)) a ha
    simp only [List.length_cons]
    omega
def isPacking (roll : Int) (s p : List Int) : Bool := rollTask roll s && (decide (p.length = s.length) && (rg p 0 && (loads s p []).all fun a => decide (a ≤ roll)))

theorem room_len_le (acc : List Int) (p : Int) : (room acc p).length ≤ acc.length + 1 := by
  unfold room
  split
  · simp
  · omega
theorem loads_len2 : ∀ (s p acc : List Int), (loads s p acc).length ≤ acc.length + s.length
  | [], p, acc => by rw [loads.eq_def]; simp
  | s :: ss, [], acc => by rw [loads.eq_def]; simp only [List.length_cons]; omega
  | s :: ss, p :: ps, acc => by
    rw [loads]
    have h1 := loads_len2 ss ps (addTo acc p s)
    have h2 := room_len_le acc p
    have h3 : (addTo acc p s).length = (room acc p).length := by unfold addTo; rw [List.length_set]
    simp only [List.length_cons]
    omega
def sparesOf (roll : Int) (s p : List Int) : List Int × Int :=
  if rollTask roll s = true then (if isPacking roll s p = true then ((loads s p []).map (fun x => roll - x), 0) else ([], 2)) else ([], 1)
theorem sparesOf_len (roll : Int) (s p : List Int) : (sparesOf roll s p).1.length ≤ 12 := by
  unfold sparesOf
  split
  · rename_i h
    have := (rollTask_true h).2.1
    have := loads_len2 s p []
    split
    · simp only [List.length_map]
      simp only [List.length_nil] at this
      omega
    · simp
  · simp
theorem set_map (xs : List Int) (i : Nat) (h : i < xs.length) (f : Int → Int) : (xs.set i (f xs[i])).take (i + 1) ++ ((xs.set i (f xs[i])).drop (i + 1)).map f = xs.take i ++ (xs.drop i).map f := by
  have h' : i < (xs.set i (f xs[i])).length := by rw [List.length_set]; exact h
  rw [List.take_succ_eq_append_getElem h', List.getElem_set_self, List.take_set_of_le (Nat.le_refl i), List.drop_set_of_lt (Nat.lt_succ_self i), drop_get xs i h, List.map_cons]
  simp
theorem spares_ok {roll : Int} {s p : List Int} (h1 : rollTask roll s = true) (h2 : isPacking roll s p = true) : p.length = s.length ∧ s.length ≤ 12 ∧ (∀ x ∈ s, 1 ≤ x ∧ x ≤ 100000) ∧ rg p 0 = true ∧ (∀ a ∈ loads s p [], 0 ≤ a ∧ a ≤ 1200000) ∧ (loads s p []).length ≤ 12 ∧ (∀ a ∈ loads s p [], a ≤ roll) := by
  obtain ⟨g1, g2, g3⟩ := rollTask_true h1
  simp only [isPacking, Bool.and_eq_true, decide_eq_true_eq, List.all_eq_true] at h2
  have hs : ∀ x ∈ s, 1 ≤ x ∧ x ≤ 100000 := fun x hx => by have := g3 x hx; omega
  have hlen := loads_len2 s p []
  simp only [List.length_nil] at hlen
  refine ⟨h2.2.1, g2, hs, h2.2.2.1, fun a ha => ?_, by omega, h2.2.2.2⟩
  have := loads_ok s p [] 0 h2.2.2.1 hs (by omega) (by simp) a ha
  omega

/-- The first number of n, from k on, for which there is an answer, ahead of this answer. -/
def tryK (f : Int → Option (List Int)) : Nat → Int → Option (List Int)
  | 0, _ => none
  | n + 1, k => match f k with
    | some q => some (k :: q)
    | none => tryK f n (k + 1)
/-- The smallest way to go on with at most so many rolls. -/
def packs (roll : Int) (most : Nat) : List Int → List Int → Option (List Int)
  | [], _ => some []
  | s :: ss, acc => tryK (fun k => if k < (acc.length : Int) ∧ rd acc k + s > roll then none else packs roll most ss (addTo acc k s)) (min (acc.length + 1) most) 0
theorem tryK_some {f : Int → Option (List Int)} : ∀ {n : Nat} {k : Int} {q : List Int}, tryK f n k = some q → ∃ j r, q = j :: r ∧ k ≤ j ∧ j < k + n ∧ f j = some r
  | 0, k, q, h => by simp [tryK] at h
  | n + 1, k, q, h => by
    rw [tryK] at h
    cases e : f k with
    | some r =>
      rw [e] at h
      exact ⟨k, r, (Option.some.inj h).symm, by omega, by omega, e⟩
    | none =>
      rw [e] at h
      obtain ⟨j, r, h1, h2, h3, h4⟩ := tryK_some h
      exact ⟨j, r, h1, by omega, by omega, h4⟩
theorem tryK_ne {f : Int → Option (List Int)} : ∀ {n : Nat} {k j : Int}, k ≤ j → j < k + n → f j ≠ none → tryK f n k ≠ none
  | 0, k, j, h1, h2, _ => by omega
  | n + 1, k, j, h1, h2, h3 => by
    rw [tryK]
    cases e : f k with
    | some r => simp
    | none =>
      have : k ≠ j := fun h => h3 (h ▸ e)
      exact tryK_ne (by omega) (by omega) h3
theorem addTo_new (acc : List Int) (s : Int) : addTo acc (acc.length : Int) s = acc ++ [s] := by
  unfold addTo room
  rw [if_pos rfl, Int.toNat_natCast, rd_nat]
  simp
theorem addTo_old {acc : List Int} {k s : Int} (h : k < (acc.length : Int)) : addTo acc k s = acc.set k.toNat (rd acc k + s) := by
  unfold addTo room
  rw [if_neg (by omega)]
theorem longs_app (roll : Int) : ∀ (xs ys : List Int), longs roll (xs ++ ys) = longs roll xs + longs roll ys
  | [], ys => by simp [longs]
  | x :: xs, ys => by
    rw [List.cons_append, longs, longs, longs_app roll xs ys]
    omega
theorem longs_set (roll v : Int) : ∀ (xs : List Int) (i : Nat) (h : i < xs.length), longs roll (xs.set i v) = longs roll xs - (if 2 * xs[i] > roll then 1 else 0) + (if 2 * v > roll then 1 else 0)
  | x :: xs, 0, _ => by
    simp only [List.set_cons_zero, longs, List.getElem_cons_zero]
    omega
  | x :: xs, i + 1, h => by
    have := longs_set roll v xs i (by simpa using h)
    simp only [List.set_cons_succ, longs, List.getElem_cons_succ, this]
    omega
theorem sum_set (v : Int) : ∀ (xs : List Int) (i : Nat) (h : i < xs.length), (xs.set i v).sum = xs.sum - xs[i] + v
  | x :: xs, 0, _ => by
    simp only [List.set_cons_zero, List.sum_cons, List.getElem_cons_zero]
    omega
  | x :: xs, i + 1, h => by
    have := sum_set v xs i (by simpa using h)
    simp only [List.set_cons_succ, List.sum_cons, List.getElem_cons_succ, this]
    omega
/-- One strip more: the sums stay in the roll, and as much is longer than half a roll. -/
theorem addTo_step {roll k s : Int} {acc : List Int} (hk : inR k 0 acc.length = true) (ha : ∀ a ∈ acc, 0 ≤ a ∧ a ≤ roll) (hs : 0 ≤ s ∧ s ≤ roll) (hf : ¬ (k < (acc.length : Int) ∧ rd acc k + s > roll)) :
    (∀ a ∈ addTo acc k s, 0 ≤ a ∧ a ≤ roll) ∧ (addTo acc k s).sum = acc.sum + s ∧ longs roll acc + (if 2 * s > roll then 1 else 0) ≤ longs roll (addTo acc k s) := by
  have h := inR_true hk
  by_cases e : k = (acc.length : Int)
  · subst e
    rw [addTo_new]
    refine ⟨fun a h1 => ?_, ?_, ?_⟩
    · rcases List.mem_append.1 h1 with h2 | h2
      · exact ha a h2
      · simp only [List.mem_singleton] at h2
        omega
    · simp
    · rw [longs_app]
      simp only [longs]
      omega
  · have hlt : k < (acc.length : Int) := by omega
    obtain ⟨i, rfl⟩ : ∃ i : Nat, k = i := ⟨k.toNat, by omega⟩
    have hi : i < acc.length := by omega
    have hg := ha acc[i] (List.getElem_mem hi)
    have hr := rd_get acc i hi
    have hfit : acc[i] + s ≤ roll := by
      by_cases g : acc[i] + s ≤ roll
      · exact g
      · exact absurd ⟨hlt, by omega⟩ hf
    rw [addTo_old hlt, Int.toNat_natCast, hr]
    refine ⟨fun a h1 => ?_, ?_, ?_⟩
    · rcases List.mem_or_eq_of_mem_set h1 with h2 | h2
      · exact ha a h2
      · omega
    · rw [sum_set _ _ _ hi]; omega
    · rw [longs_set _ _ _ _ hi]
      by_cases c1 : 2 * s > roll
      · rw [if_pos c1, if_pos (show 2 * (acc[i] + s) > roll by omega), if_neg (show ¬ 2 * acc[i] > roll by omega)]; omega
      · by_cases c2 : 2 * acc[i] > roll
        · rw [if_neg c1, if_pos c2, if_pos (show 2 * (acc[i] + s) > roll by omega)]; omega
        · rw [if_neg c1, if_neg c2]; split <;> omega
theorem packs_some (roll : Int) (most : Nat) : ∀ (ss acc q : List Int), (∀ x ∈ ss, 0 ≤ x ∧ x ≤ roll) → (∀ a ∈ acc, 0 ≤ a ∧ a ≤ roll) → acc.length ≤ most → packs roll most ss acc = some q →
    q.length = ss.length ∧ rg q acc.length = true ∧ (∀ a ∈ loads ss q acc, 0 ≤ a ∧ a ≤ roll) ∧ acc.length ≤ (loads ss q acc).length ∧ (loads ss q acc).length ≤ most ∧ (loads ss q acc).sum = acc.sum + ss.sum ∧ longs roll acc + longs roll ss ≤ longs roll (loads ss q acc) ∧
      ∀ n : Nat, (loads ss q acc).length ≤ n → packs roll n ss acc ≠ none
  | [], acc, q, _, ha, hm, h => by
    obtain rfl := (Option.some.inj h)
    refine ⟨rfl, rfl, ha, Nat.le_refl _, hm, ?_, ?_, fun n _ => by simp [packs]⟩
    · simp [loads]
    · simp [loads, longs]
  | s :: ss, acc, q, hs, ha, hm, h => by
    rw [packs] at h
    obtain ⟨j, r, rfl, h1, h2, h3⟩ := tryK_some h
    by_cases hf : j < (acc.length : Int) ∧ rd acc j + s > roll
    · rw [if_pos hf] at h3; cases h3
    rw [if_neg hf] at h3
    have hjr : inR j 0 acc.length = true := inR_mk (by omega) (by omega)
    obtain ⟨k1, k2, k3⟩ := addTo_step hjr ha (hs s (by simp)) hf
    have hl := addTo_len s hjr
    obtain ⟨g1, g2, g3, g4, g5, g6, g7, g8⟩ := packs_some roll most ss (addTo acc j s) r (fun x hx => hs x (by simp [hx])) k1 (by omega) h3
    rw [loads]
    refine ⟨by simp [g1], ?_, g3, by omega, g5, by rw [g6, k2, List.sum_cons]; omega, by rw [longs]; omega, fun n hn => ?_⟩
    · simp only [rg, Bool.and_eq_true]
      exact ⟨hjr, by rw [← hl]; exact g2⟩
    · rw [packs]
      refine tryK_ne (j := j) (by omega) (by omega) ?_
      rw [if_neg hf]
      exact g8 n hn
theorem packs_all (roll : Int) (most : Nat) : ∀ (ss acc : List Int), acc.length + ss.length ≤ most → packs roll most ss acc ≠ none
  | [], acc, _ => by simp [packs]
  | s :: ss, acc, h => by
    simp only [List.length_cons] at h
    rw [packs]
    refine tryK_ne (j := (acc.length : Int)) (by omega) (by omega) ?_
    rw [if_neg (by omega), addTo_new]
    exact packs_all roll most ss _ (by simp only [List.length_append, List.length_cons, List.length_nil]; omega)
theorem sum_le_len {roll : Int} : ∀ xs : List Int, (∀ a ∈ xs, 0 ≤ a ∧ a ≤ roll) → xs.sum ≤ xs.length * roll
  | [], _ => by simp
  | x :: xs, h => by
    have h1 := h x (by simp)
    have h2 := sum_le_len xs (fun a ha => h a (by simp [ha]))
    rw [List.sum_cons, List.length_cons, show ((xs.length + 1 : Nat) : Int) = (xs.length : Int) + 1 by omega, Int.add_mul]
    omega
/-- No packing has fewer rolls than the bound. -/
theorem packs_bound {roll : Int} {most : Nat} {ss q : List Int} (h : rollTask roll ss = true) (hp : packs roll most ss [] = some q) : (rollBound roll ss).1 ≤ (loads ss q []).length := by
  obtain ⟨h1, h2, h3⟩ := rollTask_true h
  obtain ⟨g1, g2, g3, g4, g5, g6, g7, g8⟩ := packs_some roll most ss [] q (fun x hx => by have := h3 x hx; omega) (by simp) (by simp) hp
  unfold rollBound
  rw [if_pos h]
  have e1 := sum_le_len _ g3
  have e2 := (longs_bd roll (loads ss q [])).2
  simp only [longs, List.sum_nil] at g6 g7
  have e3 : (ss.sum + roll - 1) / roll < ((loads ss q []).length : Int) + 1 := Int.ediv_lt_of_lt_mul (by omega) (by rw [Int.add_mul]; omega)
  simp only
  omega
/-- The first number of n, from m on, with a packing, and this packing. -/
def firstM (f : Nat → Option (List Int)) : Nat → Nat → Nat × List Int
  | 0, m => (m, [])
  | n + 1, m => match f m with
    | some q => (m, q)
    | none => firstM f n (m + 1)
theorem firstM_ok {f : Nat → Option (List Int)} : ∀ (n m j : Nat), m ≤ j → j < m + n → f j ≠ none → f (firstM f n m).1 = some (firstM f n m).2 ∧ m ≤ (firstM f n m).1 ∧ (firstM f n m).1 ≤ j ∧ ∀ i, m ≤ i → i < (firstM f n m).1 → f i = none
  | 0, m, j, h1, h2, _ => by omega
  | n + 1, m, j, h1, h2, h3 => by
    rw [firstM]
    cases e : f m with
    | some q => exact ⟨e, Nat.le_refl _, h1, fun i h4 h5 => by simp only at h5; omega⟩
    | none =>
      have hne : m ≠ j := fun h => h3 (h ▸ e)
      obtain ⟨g1, g2, g3, g4⟩ := firstM_ok (f := f) n (m + 1) j (by omega) (by omega) h3
      refine ⟨g1, by simp only; omega, g3, fun i h4 h5 => ?_⟩
      by_cases hi : i = m
      · exact hi ▸ e
      · exact g4 i (by omega) h5
def bestP (roll : Int) (ss : List Int) : Nat × List Int := firstM (fun m => packs roll m ss []) 13 0
theorem bestP_ok {roll : Int} {ss : List Int} (h : rollTask roll ss = true) : packs roll (bestP roll ss).1 ss [] = some (bestP roll ss).2 ∧ (bestP roll ss).1 ≤ 12 ∧ (∀ i, i < (bestP roll ss).1 → packs roll i ss [] = none) ∧
    (rollBound roll ss).1 ≤ (bestP roll ss).1 ∧ (loads ss (bestP roll ss).2 []).length = (bestP roll ss).1 ∧ rg (bestP roll ss).2 0 = true ∧ (bestP roll ss).2.length = ss.length ∧ (∀ a ∈ loads ss (bestP roll ss).2 [], 0 ≤ a ∧ a ≤ roll) := by
  obtain ⟨h1, h2, h3⟩ := rollTask_true h
  obtain ⟨g1, g2, g3, g4⟩ := firstM_ok (f := fun m => packs roll m ss []) 13 0 ss.length (by omega) (by omega) (packs_all roll ss.length ss [] (by simp))
  obtain ⟨e1, e2, e3, e4, e5, e6, e7, e8⟩ := packs_some roll _ ss [] _ (fun x hx => by have := h3 x hx; omega) (by simp) (by simp) g1
  have hb := packs_bound h g1
  have hle : (bestP roll ss).1 ≤ (loads ss (bestP roll ss).2 []).length := by
    by_cases hc : (bestP roll ss).1 ≤ (loads ss (bestP roll ss).2 []).length
    · exact hc
    · exact absurd (g4 _ (Nat.zero_le _) (Nat.lt_of_not_le hc)) (e8 _ (Nat.le_refl _))
  have heq : (loads ss (bestP roll ss).2 []).length = (bestP roll ss).1 := Nat.le_antisymm e5 hle
  exact ⟨g1, by unfold bestP; omega, fun i hi => g4 i (by omega) hi, by rw [← heq]; exact hb, heq, e2, e1, e3⟩

/-- The first roll with room for s, or the next one. -/
def pos (roll s : Int) : List Int → Nat
  | [] => 0
  | a :: acc => if a + s ≤ roll then 0 else pos roll s acc + 1
theorem pos_le (roll s : Int) : ∀ acc : List Int, pos roll s acc ≤ acc.length
  | [] => by simp [pos]
  | a :: acc => by
    have := pos_le roll s acc
    simp only [pos, List.length_cons]
    split <;> omega
theorem pos_fits (roll s : Int) : ∀ (acc : List Int) (h : pos roll s acc < acc.length), acc[pos roll s acc] + s ≤ roll
  | [], h => by simp at h
  | a :: acc, h => by
    by_cases c : a + s ≤ roll
    · simp only [pos, c, if_true, List.getElem_cons_zero]
    · have := pos_fits roll s acc
      simp only [pos, c, if_false, List.getElem_cons_succ, List.length_cons] at h ⊢
      exact this (by omega)
theorem pos_rd (roll s : Int) (acc : List Int) : ¬ ((pos roll s acc : Int) < (acc.length : Int) ∧ rd acc (pos roll s acc : Int) + s > roll) := by
  intro h
  have h1 : pos roll s acc < acc.length := by omega
  have h2 := pos_fits roll s acc h1
  rw [rd_get acc _ h1] at h
  omega
/-- First fit, strip by strip. -/
def ff (roll : Int) : List Int → List Int → List Int
  | [], _ => []
  | s :: ss, acc => (pos roll s acc : Int) :: ff roll ss (addTo acc (pos roll s acc : Int) s)
/-- First fit for the strips with the numbers of a list. -/
def ffit (roll : Int) (s : List Int) : List Int → List Int → List Int → List Int
  | [], out, _ => out
  | i :: is, out, acc => ffit roll s is (out.set i.toNat (pos roll (rd s i) acc : Int)) (addTo acc (pos roll (rd s i) acc : Int) (rd s i))
theorem ff_ok (roll : Int) : ∀ (ss acc : List Int), (∀ x ∈ ss, 0 ≤ x ∧ x ≤ roll) → (∀ a ∈ acc, 0 ≤ a ∧ a ≤ roll) →
    (ff roll ss acc).length = ss.length ∧ rg (ff roll ss acc) acc.length = true ∧ (∀ a ∈ loads ss (ff roll ss acc) acc, 0 ≤ a ∧ a ≤ roll) ∧ acc.length ≤ (loads ss (ff roll ss acc) acc).length ∧
      ∀ n : Nat, (loads ss (ff roll ss acc) acc).length ≤ n → packs roll n ss acc ≠ none
  | [], acc, _, ha => ⟨rfl, rfl, ha, Nat.le_refl _, fun n _ => by simp [packs]⟩
  | s :: ss, acc, hs, ha => by
    have hp := pos_le roll s acc
    have hf := pos_rd roll s acc
    have hjr : inR (pos roll s acc : Int) 0 acc.length = true := inR_mk (by omega) (by omega)
    obtain ⟨k1, k2, k3⟩ := addTo_step hjr ha (hs s (by simp)) hf
    have hl := addTo_len s hjr
    obtain ⟨g1, g2, g3, g4, g5⟩ := ff_ok roll ss (addTo acc (pos roll s acc : Int) s) (fun x hx => hs x (by simp [hx])) k1
    rw [ff, loads]
    refine ⟨by simp [g1], ?_, g3, by omega, fun n hn => ?_⟩
    · simp only [rg, Bool.and_eq_true]
      exact ⟨hjr, by rw [← hl]; exact g2⟩
    · rw [packs]
      refine tryK_ne (j := (pos roll s acc : Int)) (by omega) (by omega) ?_
      rw [if_neg hf]
      exact g5 n hn
theorem ff_packing {roll : Int} {s : List Int} (h : rollTask roll s = true) : isPacking roll s (ff roll s []) = true := by
  obtain ⟨h1, h2, h3⟩ := rollTask_true h
  obtain ⟨g1, g2, g3, _, _⟩ := ff_ok roll s [] (fun x hx => by have := h3 x hx; omega) (by simp)
  simp only [isPacking, Bool.and_eq_true, h, g1, decide_true, true_and, List.all_eq_true, decide_eq_true_eq]
  exact ⟨g2, fun a ha => (g3 a ha).2⟩
theorem pos_before (roll s : Int) : ∀ (acc : List Int) (j : Nat) (h : j < acc.length), j < pos roll s acc → acc[j] + s > roll
  | a :: acc, 0, h, hp => by
    by_cases c : a + s ≤ roll
    · simp only [pos, c, if_true] at hp
      omega
    · simp only [List.getElem_cons_zero]
      omega
  | a :: acc, j + 1, h, hp => by
    by_cases c : a + s ≤ roll
    · simp only [pos, c, if_true] at hp
      omega
    · simp only [pos, c, if_false] at hp
      simp only [List.getElem_cons_succ]
      exact pos_before roll s acc j (by simpa using h) (by omega)
/-- The numbers from i on, d of them. -/
def nums : Nat → Nat → List Int
  | 0, _ => []
  | d + 1, i => (i : Int) :: nums d (i + 1)
theorem nums_len : ∀ d i, (nums d i).length = d
  | 0, _ => rfl
  | d + 1, i => by simp [nums, nums_len d]
theorem nums_snoc : ∀ d i, nums (d + 1) i = nums d i ++ [((i + d : Nat) : Int)]
  | 0, i => by simp [nums]
  | d + 1, i => by
    rw [nums, nums_snoc d (i + 1), nums, List.cons_append, show i + 1 + d = i + (d + 1) by omega]
theorem nums_mem : ∀ d i, ∀ x ∈ nums d i, (i : Int) ≤ x ∧ x < (i : Int) + d
  | 0, i, x, h => by simp [nums] at h
  | d + 1, i, x, h => by
    rw [nums, List.mem_cons] at h
    rcases h with h | h
    · omega
    · have := nums_mem d (i + 1) x h
      omega
theorem set_at {α : Type} (pre : List α) (x y : α) (post : List α) : (pre ++ x :: post).set pre.length y = pre ++ y :: post := by
  rw [List.set_append_right (h := Nat.le_refl _)]
  simp
/-- First fit, in the strips' own order. -/
theorem ffit_id (roll : Int) (s : List Int) : ∀ (d i : Nat) (pre acc : List Int), pre.length = i → i + d = s.length → ffit roll s (nums d i) (pre ++ List.replicate d 0) acc = pre ++ ff roll (s.drop i) acc
  | 0, i, pre, acc, hp, hi => by
    rw [List.drop_of_length_le (by omega)]
    simp [nums, ffit, ff]
  | d + 1, i, pre, acc, hp, hi => by
    have hlt : i < s.length := by omega
    have e := set_at pre 0 (pos roll s[i] acc : Int) (List.replicate d 0)
    rw [hp] at e
    rw [nums, ffit, drop_get s i hlt, ff, rd_get s i hlt, Int.toNat_natCast, List.replicate_succ, e]
    have := ffit_id roll s d (i + 1) (pre ++ [(pos roll s[i] acc : Int)]) (addTo acc (pos roll s[i] acc : Int) s[i]) (by simp [hp]) (by omega)
    rw [List.append_assoc, List.append_assoc] at this
    exact this
/-- What holds of what the rolls take, strip by strip. -/
theorem pos_step {roll s : Int} {acc : List Int} (ha : ∀ a ∈ acc, 0 ≤ a ∧ a ≤ roll) (hs : 0 ≤ s ∧ s ≤ roll) : (∀ a ∈ addTo acc (pos roll s acc : Int) s, 0 ≤ a ∧ a ≤ roll) ∧ (addTo acc (pos roll s acc : Int) s).length ≤ acc.length + 1 := by
  have hp := pos_le roll s acc
  have hjr : inR (pos roll s acc : Int) 0 acc.length = true := inR_mk (by omega) (by omega)
  have hl := addTo_len s hjr
  exact ⟨(addTo_step hjr ha hs (pos_rd roll s acc)).1, by omega⟩
def firstFit (roll : Int) (s : List Int) : List Int × Int := if rollTask roll s = true then (ff roll s [], 0) else ([], 1)
theorem firstFit_len (roll : Int) (s : List Int) : (firstFit roll s).1.length ≤ s.length := by
  unfold firstFit
  split
  · rename_i h
    have h3 := (rollTask_true h).2.2
    have := (ff_ok roll s [] (fun x hx => by have := h3 x hx; omega) (by simp)).1
    simp only
    omega
  · simp
theorem rd_in {s : List Int} {i : Int} (h0 : 0 ≤ i) (h1 : i < s.length) : rd s i ∈ s := rd_mem h0 h1

/-- x behind all that are at least as long. -/
def insF (s : List Int) (x : Int) : List Int → List Int
  | [] => [x]
  | h :: t => if rd s h ≥ rd s x then h :: insF s x t else x :: h :: t
def ordr (s : List Int) : List Int → List Int → List Int
  | [], acc => acc
  | x :: xs, acc => ordr s xs (insF s x acc)
theorem insF_len (s : List Int) (x : Int) : ∀ L, (insF s x L).length = L.length + 1
  | [] => rfl
  | h :: t => by
    rw [insF]
    split
    · simp [insF_len s x t]
    · rfl
theorem insF_mem (s : List Int) (x : Int) : ∀ L y, y ∈ insF s x L → y = x ∨ y ∈ L
  | [], y, h => by simpa [insF] using h
  | h :: t, y, hy => by
    rw [insF] at hy
    split at hy
    · rcases List.mem_cons.1 hy with e | e
      · exact .inr (by simp [e])
      · rcases insF_mem s x t y e with e | e
        · exact .inl e
        · exact .inr (by simp [e])
    · rcases List.mem_cons.1 hy with e | e
      · exact .inl e
      · exact .inr e
theorem ordr_snoc (s : List Int) (x : Int) : ∀ xs acc, ordr s (xs ++ [x]) acc = insF s x (ordr s xs acc)
  | [], acc => rfl
  | y :: xs, acc => by rw [List.cons_append, ordr, ordr_snoc s x xs, ordr]
theorem ordr_len (s : List Int) : ∀ xs acc, (ordr s xs acc).length = xs.length + acc.length
  | [], acc => by simp [ordr]
  | x :: xs, acc => by rw [ordr, ordr_len s xs, insF_len, List.length_cons]; omega
theorem ordr_mem (s : List Int) : ∀ xs acc y, y ∈ ordr s xs acc → y ∈ xs ∨ y ∈ acc
  | [], acc, y, h => .inr h
  | x :: xs, acc, y, h => by
    rw [ordr] at h
    rcases ordr_mem s xs _ y h with e | e
    · exact .inl (by simp [e])
    · rcases insF_mem s x acc y e with e | e
      · exact .inl (by simp [e])
      · exact .inr e
/-- The numbers of each roll, in the order of their first strips. -/
def num : List Int → List Int → List Int
  | [], _ => []
  | x :: xs, seen => idxFrom (if seen.contains x = true then seen else seen ++ [x]) x 0 :: num xs (if seen.contains x = true then seen else seen ++ [x])
theorem num_len : ∀ xs seen, (num xs seen).length = xs.length
  | [], _ => rfl
  | x :: xs, seen => by rw [num, List.length_cons, num_len xs, List.length_cons]
theorem ffit_len (roll : Int) (s : List Int) : ∀ (is out acc : List Int), (ffit roll s is out acc).length = out.length
  | [], out, acc => rfl
  | i :: is, out, acc => by rw [ffit, ffit_len roll s is, List.length_set]
def longestFirst (roll : Int) (s : List Int) : List Int × Int := if rollTask roll s = true then (num (ffit roll s (ordr s (nums s.length 0) []) (List.replicate s.length 0) []) [], 0) else ([], 1)
theorem longestFirst_len (roll : Int) (s : List Int) : (longestFirst roll s).1.length ≤ s.length := by
  unfold longestFirst
  split
  · simp only [num_len, ffit_len, List.length_replicate]; omega
  · simp
theorem ordr_in (s : List Int) : (∀ i ∈ ordr s (nums s.length 0) [], 0 ≤ i ∧ i < (s.length : Int)) ∧ (ordr s (nums s.length 0) []).length = s.length := by
  refine ⟨fun i hi => ?_, by simp [ordr_len, nums_len]⟩
  rcases ordr_mem s _ [] i hi with h | h
  · have := nums_mem s.length 0 i h; omega
  · simp at h

def isUnit (u : Int) : Bool := u == 4 || u == 8 || u == 16 || u == 32 || u == 64 || u == 128
theorem isUnit_true {u : Int} (h : isUnit u = true) : u = 4 ∨ u = 8 ∨ u = 16 ∨ u = 32 ∨ u = 64 ∨ u = 128 := by
  simp only [isUnit, Bool.or_eq_true, beq_iff_eq] at h
  omega
def sigOf (p u g : Int) : Int × Int × Int := if (inR p 1 4096 && isUnit u && inR g 1 p) = true then ((g - 1) / u, (g - 1) % u + 1, 0) else (0, 0, 2)
def sigCount (p u : Int) : Int × Int := if (inR p 1 4096 && isUnit u) = true then ((p + u - 1) / u, 0) else (0, 2)
def four (n k : Int) : List Int := [4 * n - 2 * k, 2 * k + 1, 2 * k + 2, 4 * n - 2 * k - 1]
def nestedPages (n k : Int) : List Int × Int := if (inR n 1 64 && inR k 0 (n - 1)) = true then (four n k, 0) else ([], 2)
def sheetOf (n p : Int) : Int := (min p (4 * n + 1 - p) - 1) / 2
def placeIn (n k p : Int) : Int := if 4 * n - 2 * k = p then 0 else if 2 * k + 1 = p then 1 else if 2 * k + 2 = p then 2 else 3
def nestedPlace (n p : Int) : Int × Int × Int := if (inR n 1 64 && inR p 1 (4 * n)) = true then (sheetOf n p, placeIn n (sheetOf n p) p, 0) else (0, 0, 2)
theorem unit_bits (a : Int) (h1 : 4 ≤ a) (h2 : a ≤ 128) : ((Go.bits .and .i64 a (wrap64 (a - 1))) == 0) = isUnit a := by
  obtain ⟨n, rfl⟩ : ∃ n : Nat, a = n := ⟨a.toNat, by omega⟩
  have h : ∀ n : Nat, n < 129 → 4 ≤ n → ((Go.bits .and .i64 (n : Int) (wrap64 ((n : Int) - 1))) == 0) = isUnit n := by decide +kernel
  exact h n (by omega) (by omega)
theorem sig_wrap {p u g : Int} (hp : inR p 1 4096 = true) (hu : isUnit u = true) (hg : inR g 1 p = true) : wrap64 (Int.tdiv (wrap64 (g - 1)) u) = (g - 1) / u ∧ wrap64 (Int.tmod (wrap64 (g - 1)) u + 1) = (g - 1) % u + 1 := by
  have h1 := inR_true hp
  have h2 := isUnit_true hu
  have h3 := inR_true hg
  rw [w64 (x := g - 1) (by omega) (by omega), tdiv_n (by omega), tmod_n (by omega)]
  rcases h2 with rfl | rfl | rfl | rfl | rfl | rfl <;> exact ⟨w64 (by omega) (by omega), w64 (by omega) (by omega)⟩

/-- What is left is an order's, behind what is done. -/
def ord (n : Int) : List Int → List Int → Bool
  | _, [] => true
  | done, x :: xs => inR x 0 (n - 1) && (!done.contains x && ord n (done ++ [x]) xs)
def isOrder (l : List Int) : Bool := decide (l.length ≤ 64) && ord l.length [] l
theorem ord_mem (n : Int) : ∀ (xs done : List Int), ord n done xs = true → ∀ x ∈ xs, 0 ≤ x ∧ x ≤ n - 1
  | [], _, _, x, hx => by simp at hx
  | y :: ys, done, h, x, hx => by
    simp only [ord, Bool.and_eq_true] at h
    rcases List.mem_cons.1 hx with e | e
    · rw [e]; exact inR_true h.1
    · exact ord_mem n ys _ h.2.2 x e
theorem isOrder_true {l : List Int} (h : isOrder l = true) : l.length ≤ 64 ∧ ∀ x ∈ l, 0 ≤ x ∧ x ≤ (l.length : Int) - 1 := by
  simp only [isOrder, Bool.and_eq_true, decide_eq_true_eq] at h
  exact ⟨h.1, ord_mem _ _ _ h.2⟩

def gpage (pages x : Int) : Int := if x > pages then 0 else x
def gsig (pages base : Int) : Nat → Int → List Int → List Int
  | 0, _, acc => acc
  | d + 1, j, acc => gsig pages base d (j + 1) (acc ++ [gpage pages (base + j + 1)])
def gath (pages unit : Int) : List Int → List Int → List Int
  | [], acc => acc
  | o :: os, acc => gath pages unit os (gsig pages (o * unit) unit.toNat 0 acc)
theorem gsig_len (pages base : Int) : ∀ (d : Nat) (j : Int) (acc : List Int), (gsig pages base d j acc).length = acc.length + d
  | 0, _, _ => rfl
  | d + 1, j, acc => by rw [gsig, gsig_len pages base d]; simp; omega
theorem gath_len (pages unit : Int) : ∀ (os acc : List Int), (gath pages unit os acc).length = acc.length + os.length * unit.toNat
  | [], acc => by simp [gath]
  | o :: os, acc => by rw [gath, gath_len pages unit os, gsig_len, List.length_cons, Nat.succ_mul]; omega
def gatherPages (pages unit : Int) (order : List Int) : List Int × Int :=
  if (inR pages 1 4096 && isUnit unit && (isOrder order && ((order.length : Int) == (pages + unit - 1) / unit))) = true then (gath pages unit order [], 0) else ([], 2)
theorem gatherPages_len (pages unit : Int) (order : List Int) : (gatherPages pages unit order).1.length ≤ 8192 := by
  unfold gatherPages
  split
  · rename_i h
    simp only [Bool.and_eq_true] at h
    have h1 := isUnit_true h.1.2
    have h2 := isOrder_true h.2.1
    rw [gath_len]
    have : order.length * unit.toNat ≤ 64 * 128 := Nat.mul_le_mul h2.1 (by omega)
    simp only [List.length_nil]
    omega
  · simp

theorem gsig_app (pages base : Int) : ∀ (d : Nat) (j : Int) (acc : List Int), gsig pages base d j acc = acc ++ gsig pages base d j []
  | 0, _, acc => by simp [gsig]
  | d + 1, j, acc => by
    rw [gsig, gsig_app pages base d (j + 1) (acc ++ _), gsig, gsig_app pages base d (j + 1) ([] ++ _)]
    simp
theorem gath_app (pages unit : Int) : ∀ (os acc : List Int), gath pages unit os acc = acc ++ gath pages unit os []
  | [], acc => by simp [gath]
  | o :: os, acc => by
    rw [gath, gath_app pages unit os (gsig pages (o * unit) unit.toNat 0 acc), gath, gath_app pages unit os (gsig pages (o * unit) unit.toNat 0 []), gsig_app pages _ _ _ acc]
    simp
theorem gsig_at (pages base : Int) : ∀ (d : Nat) (j : Int) (k : Nat), k < d → (gsig pages base d j []).getD k 0 = gpage pages (base + j + k + 1)
  | 0, _, k, h => by omega
  | d + 1, j, k, h => by
    rw [gsig, gsig_app]
    cases k with
    | zero => simp
    | succ k =>
      have := gsig_at pages base d (j + 1) k (by omega)
      simp only [List.nil_append, List.singleton_append, List.getD_cons_succ, this]
      congr 1
      omega
theorem getD_app1 {xs ys : List Int} {k : Nat} (h : k < xs.length) : (xs ++ ys).getD k 0 = xs.getD k 0 := by
  rw [List.getD_eq_getElem?_getD, List.getD_eq_getElem?_getD, List.getElem?_append_left h]
theorem getD_app2 {xs ys : List Int} {k : Nat} (h : xs.length ≤ k) : (xs ++ ys).getD k 0 = ys.getD (k - xs.length) 0 := by
  rw [List.getD_eq_getElem?_getD, List.getD_eq_getElem?_getD, List.getElem?_append_right h]
theorem gath_at (pages unit : Int) (hu : 0 < unit) : ∀ (os : List Int) (i k : Nat) (hi : i < os.length), k < unit.toNat → (gath pages unit os []).getD (i * unit.toNat + k) 0 = gpage pages (os[i] * unit + k + 1)
  | o :: os, 0, k, hi, hk => by
    have hl := gsig_len pages (o * unit) unit.toNat 0 []
    simp only [List.length_nil, Nat.zero_add] at hl
    rw [gath, gath_app, Nat.zero_mul, Nat.zero_add, getD_app1 (by omega), gsig_at pages _ _ _ k hk]
    simp
  | o :: os, i + 1, k, hi, hk => by
    have hl := gsig_len pages (o * unit) unit.toNat 0 []
    simp only [List.length_nil, Nat.zero_add] at hl
    have ih := gath_at pages unit hu os i k (by simpa using hi) hk
    rw [gath, gath_app, getD_app2 (by rw [hl, Nat.add_mul]; omega), hl, show (i + 1) * unit.toNat + k - unit.toNat = i * unit.toNat + k by rw [Nat.add_mul]; omega, ih]
    simp
/-- How many pages are blank. -/
def zc : List Int → Int
  | [] => 0
  | x :: xs => (if x = 0 then 1 else 0) + zc xs
theorem zc_app : ∀ xs ys, zc (xs ++ ys) = zc xs + zc ys
  | [], ys => by simp [zc]
  | x :: xs, ys => by rw [List.cons_append, zc, zc, zc_app xs ys]; omega
theorem zc_bd : ∀ xs, 0 ≤ zc xs ∧ zc xs ≤ xs.length
  | [] => by simp [zc]
  | x :: xs => by
    have := zc_bd xs
    simp only [zc, List.length_cons]
    split <;> omega
def clamp (x d : Int) : Int := max 0 (min x d)
theorem zc_gsig (pages base : Int) (hb : 0 ≤ base) : ∀ (d : Nat) (j : Int), 0 ≤ j → zc (gsig pages base d j []) = d - clamp (pages - base - j) d
  | 0, j, hj => by simp only [gsig, zc, clamp]; omega
  | d + 1, j, hj => by
    have ih := zc_gsig pages base hb d (j + 1) (by omega)
    rw [gsig, gsig_app, zc_app, ih]
    simp only [List.nil_append, zc, gpage, clamp]
    split <;> split <;> omega
/-- The sum over the numbers below n. -/
def S (f : Nat → Int) : Nat → Int
  | 0 => 0
  | n + 1 => S f n + f n
theorem S_congr {f g : Nat → Int} : ∀ n, (∀ v, v < n → f v = g v) → S f n = S g n
  | 0, _ => rfl
  | n + 1, h => by rw [S, S, S_congr n (fun v hv => h v (by omega)), h n (by omega)]
theorem S_add (f g : Nat → Int) : ∀ n, S (fun v => f v + g v) n = S f n + S g n
  | 0 => rfl
  | n + 1 => by simp only [S, S_add f g n]; omega
theorem S_one (f : Nat → Int) (o : Nat) : ∀ n, S (fun v => if v = o then f v else 0) n = if o < n then f o else 0
  | 0 => by simp [S]
  | n + 1 => by
    simp only [S, S_one f o n]
    by_cases h : n = o
    · subst h
      rw [if_neg (by omega), if_pos rfl, if_pos (by omega)]
      omega
    · rw [if_neg h]
      by_cases h2 : o < n
      · rw [if_pos h2, if_pos (by omega)]; omega
      · rw [if_neg h2, if_neg (by omega)]; omega
def cnt' (v : Nat) : List Int → Int
  | [] => 0
  | x :: xs => (if (v : Int) = x then 1 else 0) + cnt' v xs
def sumF (f : Nat → Int) : List Int → Int
  | [] => 0
  | x :: xs => f x.toNat + sumF f xs
theorem S_cnt (f : Nat → Int) (n : Nat) : ∀ os : List Int, (∀ x ∈ os, 0 ≤ x ∧ x < n) → S (fun v => f v * cnt' v os) n = sumF f os
  | [], _ => by
    have : ∀ n, S (fun v => f v * cnt' v []) n = 0 := fun n => by
      induction n with
      | zero => rfl
      | succ n ih => rw [S, ih]; simp [cnt']
    rw [this]; rfl
  | x :: os, h => by
    have hx := h x (by simp)
    have ih := S_cnt f n os (fun y hy => h y (by simp [hy]))
    have e : ∀ v, v < n → f v * cnt' v (x :: os) = (if v = x.toNat then f v else 0) + f v * cnt' v os := fun v _ => by
      rw [cnt', Int.mul_add]
      congr 1
      by_cases c : (v : Int) = x
      · rw [if_pos c, if_pos (by omega), Int.mul_one]
      · rw [if_neg c, if_neg (by omega), Int.mul_zero]
    rw [S_congr n e, S_add, ih, S_one, if_pos (by omega), sumF]
theorem S_full {g : Nat → Int} : ∀ n, (∀ v, v < n → g v ≤ 1) → S g n = n → ∀ v, v < n → g v = 1
  | 0, _, _, v, hv => by omega
  | n + 1, h, e, v, hv => by
    have hb : ∀ m, m ≤ n → S g m ≤ m := fun m => by
      induction m with
      | zero => intro _; simp [S]
      | succ m ihm => intro hm; have := ihm (by omega); have := h m (by omega); simp only [S]; omega
    have h1 := hb n (Nat.le_refl _)
    have h2 := h n (by omega)
    simp only [S] at e
    by_cases c : v = n
    · subst c; omega
    · exact S_full n (fun v hv => h v (by omega)) (by omega) v (by omega)
theorem ord_cnt (n : Int) : ∀ (xs done : List Int), ord n done xs = true → ∀ v : Nat, cnt' v xs ≤ 1 ∧ ((v : Int) ∈ done → cnt' v xs = 0)
  | [], done, _, v => by simp [cnt']
  | x :: xs, done, h, v => by
    simp only [ord, Bool.and_eq_true, Bool.not_eq_true'] at h
    obtain ⟨i1, i2⟩ := ord_cnt n xs (done ++ [x]) h.2.2 v
    have hx : ¬ x ∈ done := by simpa using h.2.1
    rw [cnt']
    by_cases c : (v : Int) = x
    · rw [if_pos c, i2 (by simp [c])]
      exact ⟨by omega, fun hv => absurd (c ▸ hv) hx⟩
    · rw [if_neg c]
      exact ⟨by omega, fun hv => by rw [i2 (by simp [hv])]; omega⟩
theorem sumF_one : ∀ os, sumF (fun _ => 1) os = (os.length : Int)
  | [] => rfl
  | x :: os => by rw [sumF, sumF_one os, List.length_cons]; omega
theorem order_sum (f : Nat → Int) {os : List Int} (h : isOrder os = true) : sumF f os = S f os.length := by
  have hr := (isOrder_true h).2
  have hc : ∀ v, v < os.length → cnt' v os = 1 := by
    refine S_full os.length (fun v _ => ?_) ?_
    · simp only [isOrder, Bool.and_eq_true] at h
      exact (ord_cnt _ os [] h.2 v).1
    · have := S_cnt (fun _ => 1) os.length os (fun x hx => by have := hr x hx; omega)
      rw [sumF_one] at this
      rw [← this]
      exact S_congr _ (fun v _ => by omega)
  rw [← S_cnt f os.length os (fun x hx => by have := hr x hx; omega)]
  exact S_congr _ (fun v hv => by rw [hc v hv, Int.mul_one])
theorem S_clamp (pages u : Int) (hu : 0 < u) (hp : 0 ≤ pages) : ∀ n : Nat, S (fun v => clamp (pages - (v : Int) * u) u) n = min pages (n * u)
  | 0 => by simp only [S]; omega
  | n + 1 => by
    have e : ((n + 1 : Nat) : Int) * u = (n : Int) * u + u := by rw [show ((n + 1 : Nat) : Int) = (n : Int) + 1 by omega, Int.add_mul]; omega
    have h0 : 0 ≤ (n : Int) * u := Int.mul_nonneg (by omega) (by omega)
    rw [S, S_clamp pages u hu hp n, e]
    simp only [clamp]
    generalize (n : Int) * u = m at *
    omega
theorem zc_gath (pages unit : Int) (hu : 0 < unit) : ∀ os : List Int, (∀ x ∈ os, 0 ≤ x) → zc (gath pages unit os []) = os.length * unit - sumF (fun v => clamp (pages - (v : Int) * unit) unit) os
  | [], _ => by simp [gath, zc, sumF]
  | o :: os, h => by
    have ho := h o (by simp)
    have ih := zc_gath pages unit hu os (fun x hx => h x (by simp [hx]))
    have h1 := zc_gsig pages (o * unit) (Int.mul_nonneg ho (by omega)) unit.toNat 0 (by omega)
    rw [gath, gath_app, zc_app, ih, h1, sumF, List.length_cons, show ((os.length + 1 : Nat) : Int) = (os.length : Int) + 1 by omega, Int.add_mul, Int.one_mul]
    have e1 : ((unit.toNat : Nat) : Int) = unit := by omega
    have e2 : ((o.toNat : Nat) : Int) = o := by omega
    rw [e1, e2, Int.sub_zero]
    omega
theorem gath_mem (pages unit : Int) : ∀ (os : List Int), (∀ x ∈ os, 0 ≤ x ∧ x ≤ 63) → 0 < unit → unit ≤ 128 → ∀ y ∈ gath pages unit os [], 0 ≤ y ∧ y ≤ 8192
  | [], _, _, _, y, h => by simp [gath] at h
  | o :: os, ho, hu, hu2, y, h => by
    rw [gath, gath_app] at h
    rcases List.mem_append.1 h with h | h
    · have hg : ∀ (d : Nat) (j : Int), 0 ≤ j → j + d ≤ 128 → ∀ y ∈ gsig pages (o * unit) d j [], 0 ≤ y ∧ y ≤ 8192 := fun d => by
        induction d with
        | zero => intro j _ _ y hy; simp [gsig] at hy
        | succ d ih =>
          intro j hj hjd y hy
          rw [gsig, gsig_app, List.nil_append, List.mem_append] at hy
          rcases hy with hy | hy
          · simp only [List.mem_singleton] at hy
            have b := mul_bd (a := o) (b := unit) (A := 63) (B := 128) (ho o (by simp)).1 (ho o (by simp)).2 (by omega) hu2
            subst hy
            unfold gpage
            split <;> omega
          · exact ih (j + 1) (by omega) (by omega) y hy
      exact hg unit.toNat 0 (by omega) (by omega) y h
    · exact gath_mem pages unit os (fun x hx => ho x (by simp [hx])) hu hu2 y h

/-- What the strips with a label take. -/
def lab : List Int → List Int → Int → Int
  | s :: ss, p :: ps, r => (if p = r then s else 0) + lab ss ps r
  | _, _, _ => 0
theorem rd_app0 (xs : List Int) (j : Int) (h : 0 ≤ j) : rd (xs ++ [0]) j = rd xs j := by
  obtain ⟨n, rfl⟩ : ∃ n : Nat, j = n := ⟨j.toNat, by omega⟩
  rw [rd_nat, rd_nat, List.getD_eq_getElem?_getD, List.getD_eq_getElem?_getD]
  by_cases c : n < xs.length
  · rw [List.getElem?_append_left c]
  · rw [List.getElem?_append_right (by omega), List.getElem?_eq_none (l := xs) (by omega)]
    by_cases e : n - xs.length = 0
    · rw [e]; rfl
    · rw [List.getElem?_eq_none (by simp; omega)]
theorem rd_set (xs : List Int) (i : Nat) (v : Int) (h : i < xs.length) (j : Int) (hj : 0 ≤ j) : rd (xs.set i v) j = if j = (i : Int) then v else rd xs j := by
  obtain ⟨n, rfl⟩ : ∃ n : Nat, j = n := ⟨j.toNat, by omega⟩
  rw [rd_nat, rd_nat, List.getD_eq_getElem?_getD, List.getD_eq_getElem?_getD, List.getElem?_set]
  by_cases c : i = n
  · subst c
    rw [if_pos rfl, if_pos h, if_pos rfl]
    rfl
  · rw [if_neg c, if_neg (by omega)]
theorem rd_room (acc : List Int) (p j : Int) (hj : 0 ≤ j) : rd (room acc p) j = rd acc j := by
  unfold room
  split
  · exact rd_app0 acc j hj
  · rfl
theorem rd_addTo {acc : List Int} {p s : Int} (h : inR p 0 acc.length = true) (j : Int) (hj : 0 ≤ j) : rd (addTo acc p s) j = rd acc j + (if p = j then s else 0) := by
  have h1 := inR_true h
  have hl := room_len h
  unfold addTo
  rw [rd_set _ _ _ (by omega) j hj, rd_room acc p p h1.1]
  by_cases c : p = j
  · subst c
    rw [if_pos (by omega), if_pos rfl]
  · rw [if_neg (by omega), if_neg c, rd_room acc p j hj]
    omega
theorem rd_loads (j : Int) (hj : 0 ≤ j) : ∀ (ss ps acc : List Int), rg ps acc.length = true → rd (loads ss ps acc) j = rd acc j + lab ss ps j
  | [], ps, acc, _ => by rw [loads.eq_def]; simp [lab]
  | s :: ss, [], acc, _ => by rw [loads.eq_def]; simp [lab]
  | s :: ss, p :: ps, acc, h => by
    simp only [rg, Bool.and_eq_true] at h
    rw [loads, rd_loads j hj ss ps _ (by rw [addTo_len s h.1]; exact h.2), rd_addTo h.1 j hj, lab]
    omega
theorem addTo_sum {acc : List Int} {p s : Int} (h : inR p 0 acc.length = true) : (addTo acc p s).sum = acc.sum + s := by
  have h1 := inR_true h
  by_cases e : p = (acc.length : Int)
  · subst e
    rw [addTo_new]
    simp
  · obtain ⟨i, rfl⟩ : ∃ i : Nat, p = i := ⟨p.toNat, by omega⟩
    have hi : i < acc.length := by omega
    rw [addTo_old (by omega), Int.toNat_natCast, rd_get acc i hi, sum_set _ _ _ hi]
    omega
theorem loads_sum : ∀ (ss ps acc : List Int), ps.length = ss.length → rg ps acc.length = true → (loads ss ps acc).sum = acc.sum + ss.sum
  | [], ps, acc, _, _ => by rw [loads.eq_def]; simp
  | s :: ss, [], acc, hl, _ => by simp at hl
  | s :: ss, p :: ps, acc, hl, h => by
    simp only [rg, Bool.and_eq_true] at h
    rw [loads, loads_sum ss ps _ (by simpa using hl) (by rw [addTo_len s h.1]; exact h.2), addTo_sum h.1, List.sum_cons]
    omega
theorem lab_nonneg : ∀ (ss ps : List Int) (r : Int), (∀ x ∈ ss, 0 ≤ x) → 0 ≤ lab ss ps r
  | [], ps, r, _ => by simp [lab]
  | s :: ss, [], r, _ => by simp [lab]
  | s :: ss, p :: ps, r, h => by
    have := lab_nonneg ss ps r (fun x hx => h x (by simp [hx]))
    have := h s (by simp)
    rw [lab]
    split <;> omega
/-- Whatever is a packing is found by the search, at its own number of rolls. -/
theorem packs_valid (roll : Int) : ∀ (ss ps acc : List Int), ps.length = ss.length → (∀ x ∈ ss, 0 ≤ x ∧ x ≤ roll) → rg ps acc.length = true → (∀ a ∈ loads ss ps acc, a ≤ roll) → ∀ n : Nat, (loads ss ps acc).length ≤ n → acc.length ≤ (loads ss ps acc).length → packs roll n ss acc ≠ none
  | [], ps, acc, _, _, _, _, n, _, _ => by simp [packs]
  | s :: ss, [], acc, hl, _, _, _, n, _, _ => by simp at hl
  | s :: ss, p :: ps, acc, hl, hs, h, hr, n, hn, ha => by
    simp only [rg, Bool.and_eq_true] at h
    have hp := inR_true h.1
    have hal := addTo_len s h.1
    rw [loads] at hr hn ha
    have hlen := loads_ge ss ps (addTo acc p s) (by rw [hal]; exact h.2)
    have hfit : ¬ (p < (acc.length : Int) ∧ rd acc p + s > roll) := fun hc => by
      have e1 := rd_loads p hp.1 ss ps (addTo acc p s) (by rw [hal]; exact h.2)
      rw [rd_addTo h.1 p hp.1, if_pos rfl] at e1
      have e2 := lab_nonneg ss ps p (fun x hx => (hs x (by simp [hx])).1)
      have e3 := hr _ (rd_mem (xs := loads ss ps (addTo acc p s)) (p := p) hp.1 (by omega))
      omega
    rw [packs]
    refine tryK_ne (j := p) hp.1 (by omega) ?_
    rw [if_neg hfit]
    exact packs_valid roll ss ps (addTo acc p s) (by simpa using hl) (fun x hx => hs x (by simp [hx])) (by rw [hal]; exact h.2) hr n hn hlen
where loads_ge : ∀ (ss ps acc : List Int), rg ps acc.length = true → acc.length ≤ (loads ss ps acc).length
  | [], ps, acc, _ => by rw [loads.eq_def]; simp
  | s :: ss, [], acc, _ => by rw [loads.eq_def]; simp
  | s :: ss, p :: ps, acc, h => by
    simp only [rg, Bool.and_eq_true] at h
    have hal := addTo_len s h.1
    have := loads_ge ss ps (addTo acc p s) (by rw [hal]; exact h.2)
    rw [loads]
    omega
theorem packing_bound {roll : Int} {s p : List Int} (h : isPacking roll s p = true) : rollTask roll s = true ∧ (rollBound roll s).1 ≤ (loads s p []).length := by
  simp only [isPacking, Bool.and_eq_true, decide_eq_true_eq, List.all_eq_true] at h
  obtain ⟨h1, h2, h3⟩ := rollTask_true h.1
  refine ⟨h.1, ?_⟩
  have hne := packs_valid roll s p [] h.2.1 (fun x hx => by have := h3 x hx; omega) h.2.2.1 h.2.2.2 _ (Nat.le_refl _) (by simp)
  cases hq : packs roll (loads s p []).length s [] with
  | none => exact absurd hq hne
  | some q =>
    have := packs_bound h.1 hq
    have := (packs_some roll _ s [] q (fun x hx => by have := h3 x hx; omega) (by simp) (by simp) hq).2.2.2.2.1
    omega
/-- All names, in the end. -/
def fin : List Int → List Int → List Int
  | [], seen => seen
  | x :: xs, seen => fin xs (if seen.contains x = true then seen else seen ++ [x])
theorem fin_app : ∀ xs seen, ∃ zs, fin xs seen = seen ++ zs
  | [], seen => ⟨[], by simp [fin]⟩
  | x :: xs, seen => by
    rw [fin]
    split
    · exact fin_app xs seen
    · obtain ⟨zs, e⟩ := fin_app xs (seen ++ [x])
      exact ⟨x :: zs, by rw [e]; simp⟩
theorem idxFrom_pre (x : Int) : ∀ (ys zs : List Int) (i : Nat), x ∈ ys → idxFrom (ys ++ zs) x i = idxFrom ys x i
  | [], _, _, h => by simp at h
  | y :: ys, zs, i, h => by
    rw [List.cons_append, idxFrom, idxFrom]
    by_cases c : x = y
    · rw [if_pos c, if_pos c]
    · rw [if_neg c, if_neg c]
      exact idxFrom_pre x ys zs (i + 1) (by rcases List.mem_cons.1 h with e | e; exact absurd e c; exact e)
theorem num_map : ∀ xs seen, num xs seen = xs.map (fun x => idxFrom (fin xs seen) x 0)
  | [], seen => rfl
  | x :: xs, seen => by
    have hm : x ∈ (if seen.contains x = true then seen else seen ++ [x]) := by
      split
      · rename_i c; simpa using c
      · simp
    obtain ⟨zs, e⟩ := fin_app xs (if seen.contains x = true then seen else seen ++ [x])
    rw [num, num_map xs, List.map_cons, fin]
    congr 1
    rw [e, idxFrom_pre x _ zs 0 hm]
theorem idxFrom_bd (x : Int) : ∀ (ys : List Int) (i : Nat), x ∈ ys → (i : Int) ≤ idxFrom ys x i ∧ idxFrom ys x i < (i : Int) + ys.length ∧ ys.getD (idxFrom ys x i - i).toNat 0 = x
  | [], _, h => by simp at h
  | y :: ys, i, h => by
    rw [idxFrom]
    by_cases c : x = y
    · rw [if_pos c]
      refine ⟨by omega, by simp only [List.length_cons]; omega, ?_⟩
      rw [show ((i : Int) - i).toNat = 0 by omega]
      simp [c]
    · rw [if_neg c]
      obtain ⟨h1, h2, h3⟩ := idxFrom_bd x ys (i + 1) (by rcases List.mem_cons.1 h with e | e; exact absurd e c; exact e)
      refine ⟨by omega, by simp only [List.length_cons]; omega, ?_⟩
      rw [show (idxFrom ys x (i + 1) - (i : Int)).toNat = (idxFrom ys x (i + 1) - ((i + 1 : Nat) : Int)).toNat + 1 by omega, List.getD_cons_succ]
      exact h3
theorem idxFrom_absent (x : Int) : ∀ (ys : List Int) (i : Nat), ¬ x ∈ ys → idxFrom (ys ++ [x]) x i = ((i + ys.length : Nat) : Int)
  | [], i, _ => by simp [idxFrom]
  | y :: ys, i, h => by
    rw [List.cons_append, idxFrom, if_neg (fun e => h (by simp [e])), idxFrom_absent x ys (i + 1) (fun e => h (by simp [e])), List.length_cons]
    omega
theorem num_rg : ∀ xs seen, rg (num xs seen) (seen.length : Int) = true
  | [], seen => rfl
  | x :: xs, seen => by
    have ih := num_rg xs (if seen.contains x = true then seen else seen ++ [x])
    rw [num]
    simp only [rg, Bool.and_eq_true]
    by_cases c : seen.contains x = true
    · rw [if_pos c] at ih ⊢
      obtain ⟨h1, h2, _⟩ := idxFrom_bd x seen 0 (by simpa using c)
      exact ⟨inR_mk (by omega) (by omega), by rw [show max (seen.length : Int) (idxFrom seen x 0 + 1) = (seen.length : Int) by omega]; exact ih⟩
    · rw [if_neg c] at ih ⊢
      rw [idxFrom_absent x seen 0 (by simpa using c)]
      exact ⟨inR_mk (by omega) (by omega), by rw [show max (seen.length : Int) (((0 + seen.length : Nat) : Int) + 1) = ((seen ++ [x]).length : Int) by rw [List.length_append, List.length_cons, List.length_nil]; omega]; exact ih⟩
theorem fin_in : ∀ xs seen, (∀ x ∈ xs, x ∈ fin xs seen)
  | [], seen, x, h => by simp at h
  | y :: xs, seen, x, h => by
    rw [fin]
    rcases List.mem_cons.1 h with e | e
    · obtain ⟨zs, ez⟩ := fin_app xs (if seen.contains y = true then seen else seen ++ [y])
      rw [ez, e]
      refine List.mem_append_left _ ?_
      split
      · rename_i c; simpa using c
      · simp
    · exact fin_in xs _ x e
/-- New names for the labels: each takes what one of the old ones took. -/
theorem lab_map (g : Int → Int) (j : Int) : ∀ (ss ps : List Int) (x : Int), (∀ y ∈ ps, g y = g x → y = x) → g x = j → lab ss (ps.map g) j = lab ss ps x
  | [], ps, x, _, _ => by simp [lab]
  | s :: ss, [], x, _, _ => by simp [lab]
  | s :: ss, p :: ps, x, h, hx => by
    rw [List.map_cons, lab, lab, lab_map g j ss ps x (fun y hy => h y (by simp [hy])) hx]
    by_cases c : p = x
    · rw [if_pos c, if_pos (by rw [c]; exact hx)]
    · rw [if_neg c, if_neg (fun e => c (h p (by simp) (by rw [e, hx])))]
theorem lab_none (g : Int → Int) (j : Int) : ∀ (ss ps : List Int), (∀ y ∈ ps, g y ≠ j) → lab ss (ps.map g) j = 0
  | [], ps, _ => by simp [lab]
  | s :: ss, [], _ => by simp [lab]
  | s :: ss, p :: ps, h => by
    rw [List.map_cons, lab, lab_none g j ss ps (fun y hy => h y (by simp [hy])), if_neg (h p (by simp))]
    rfl
theorem lab_num {roll : Int} {ss ps : List Int} (h0 : 0 ≤ roll) (h : ∀ v ∈ ps, lab ss ps v ≤ roll) (j : Int) : lab ss (num ps []) j ≤ roll := by
  rw [num_map]
  have hin := fin_in ps []
  by_cases c : ∃ x ∈ ps, idxFrom (fin ps []) x 0 = j
  · obtain ⟨x, hx, e⟩ := c
    rw [lab_map _ j ss ps x (fun y hy he => ?_) e]
    · exact h x hx
    · have b1 := (idxFrom_bd x _ 0 (hin x hx)).2.2
      have b2 := (idxFrom_bd y _ 0 (hin y hy)).2.2
      rw [he, b1] at b2
      exact b2.symm
  · rw [lab_none _ j ss ps (fun y hy e => c ⟨y, hy, e⟩)]
    exact h0
/-! What first fit, in whatever order, puts into a roll. -/
theorem cnt_insF (s : List Int) (x : Int) (v : Nat) : ∀ L, cnt' v (insF s x L) = cnt' v (x :: L)
  | [] => rfl
  | h :: t => by
    rw [insF]
    split
    · rw [cnt', cnt_insF s x v t, cnt', cnt', cnt']; omega
    · rfl
theorem cnt_ordr (s : List Int) (v : Nat) : ∀ xs acc, cnt' v (ordr s xs acc) = cnt' v xs + cnt' v acc
  | [], acc => by simp [ordr, cnt']
  | x :: xs, acc => by rw [ordr, cnt_ordr s v xs, cnt_insF, cnt', cnt']; omega
theorem cnt_nums (v : Nat) : ∀ d i, cnt' v (nums d i) = if i ≤ v ∧ v < i + d then 1 else 0
  | 0, i => by simp only [nums, cnt']; rw [if_neg (by omega)]
  | d + 1, i => by
    rw [nums, cnt', cnt_nums v d (i + 1)]
    by_cases c : v = i
    · subst c
      rw [if_pos rfl, if_neg (by omega), if_pos (by omega)]
      rfl
    · rw [if_neg (by omega)]
      by_cases c2 : i + 1 ≤ v ∧ v < i + 1 + d
      · rw [if_pos c2, if_pos (by omega)]; rfl
      · rw [if_neg c2, if_neg (by omega)]; rfl
theorem cnt_app (v : Nat) : ∀ xs ys, cnt' v (xs ++ ys) = cnt' v xs + cnt' v ys
  | [], ys => by simp [cnt']
  | x :: xs, ys => by rw [List.cons_append, cnt', cnt', cnt_app v xs]; omega
theorem cnt_nn (v : Nat) : ∀ xs, 0 ≤ cnt' v xs
  | [] => by simp [cnt']
  | x :: xs => by
    have := cnt_nn v xs
    rw [cnt']
    split <;> omega
theorem cnt_zero (v : Nat) : ∀ xs, cnt' v xs = 0 → ¬ (v : Int) ∈ xs
  | [], _ => by simp
  | x :: xs, h => by
    have := cnt_nn v xs
    rw [cnt'] at h
    by_cases c : (v : Int) = x
    · rw [if_pos c] at h; omega
    · rw [if_neg c] at h
      intro hm
      rcases List.mem_cons.1 hm with e | e
      · exact c e
      · exact cnt_zero v xs (by omega) e
theorem sumF_congr {f g : Nat → Int} : ∀ xs : List Int, (∀ x ∈ xs, f x.toNat = g x.toNat) → sumF f xs = sumF g xs
  | [], _ => rfl
  | x :: xs, h => by rw [sumF, sumF, h x (by simp), sumF_congr xs (fun y hy => h y (by simp [hy]))]
theorem sumF_snoc (f : Nat → Int) (x : Int) : ∀ xs : List Int, sumF f (xs ++ [x]) = sumF f xs + f x.toNat
  | [] => by simp [sumF]
  | y :: xs => by rw [List.cons_append, sumF, sumF_snoc f x xs, sumF]; omega
/-- What the strips of some numbers with a label take. -/
def part (s out : List Int) (r : Int) (v : Nat) : Int := if rd out (v : Int) = r then rd s (v : Int) else 0
theorem ffit_part (roll : Int) (s : List Int) (hr : 0 ≤ roll) (hs : ∀ x ∈ s, 0 ≤ x ∧ x ≤ roll) (order : List Int) (hin : ∀ i ∈ order, 0 ≤ i ∧ i < (s.length : Int)) (hc : ∀ v : Nat, cnt' v order ≤ 1) :
    ∀ (rest done out acc : List Int), order = done ++ rest → out.length = s.length → (∀ a ∈ acc, 0 ≤ a ∧ a ≤ roll) → (∀ r : Int, 0 ≤ r → sumF (part s out r) done = rd acc r) → (∀ v ∈ out, 0 ≤ v) →
      (∀ r : Int, 0 ≤ r → sumF (part s (ffit roll s rest out acc) r) order ≤ roll) ∧ (∀ v ∈ ffit roll s rest out acc, 0 ≤ v)
  | [], done, out, acc, ho, hl, ha, hi, hn => by
    refine ⟨fun r h0 => ?_, hn⟩
    rw [List.append_nil] at ho
    rw [ffit, ho, hi r h0]
    unfold rd
    rw [List.getD_eq_getElem?_getD]
    by_cases c : r.toNat < acc.length
    · rw [List.getElem?_eq_getElem c]
      exact (ha _ (List.getElem_mem c)).2
    · rw [List.getElem?_eq_none (by omega)]
      exact hr
  | i :: rest, done, out, acc, ho, hl, ha, hi, hn => by
    have hii := hin i (by rw [ho]; simp)
    obtain ⟨n, rfl⟩ : ∃ n : Nat, i = n := ⟨i.toNat, by omega⟩
    have hsi := hs _ (rd_in hii.1 hii.2)
    have hp := pos_le roll (rd s (n : Int)) acc
    have hjr : inR (pos roll (rd s (n : Int)) acc : Int) 0 acc.length = true := inR_mk (by omega) (by omega)
    have hst := pos_step ha hsi
    have hz : cnt' n done = 0 := by
      have h1 := hc n
      have h2 := cnt_nn n done
      have h3 := cnt_nn n rest
      rw [ho, cnt_app, cnt', if_pos rfl] at h1
      omega
    have hnd := cnt_zero n done hz
    have hlt : n < out.length := by omega
    rw [ffit, Int.toNat_natCast]
    refine ffit_part roll s hr hs order hin hc rest (done ++ [(n : Int)]) _ _ (by rw [ho]; simp) (by rw [List.length_set]; exact hl) hst.1 (fun r h0 => ?_) (fun v hv => ?_)
    · rw [sumF_snoc, rd_addTo hjr r h0, ← hi r h0]
      congr 1
      · refine sumF_congr done (fun x hx => ?_)
        have hxi := hin x (by rw [ho]; simp [hx])
        unfold part
        have hxe : ((x.toNat : Nat) : Int) = x := by omega
        have hne : ¬ (((x.toNat : Nat) : Int) = (n : Int)) := fun e => hnd (by rw [← e, hxe]; exact hx)
        rw [rd_set out n _ hlt _ (by omega), if_neg hne]
      · unfold part
        rw [Int.toNat_natCast, rd_set out n _ hlt _ (by omega), if_pos rfl]
    · rcases List.mem_or_eq_of_mem_set hv with e | e
      · exact hn v e
      · omega
theorem lab_S : ∀ (s p : List Int) (r : Int), p.length = s.length → lab s p r = S (part s p r) s.length := by
  have key : ∀ (d : Nat) (s p : List Int) (r : Int), p.length = s.length → s.length = d → lab s p r = S (part s p r) d := fun d => by
    induction d with
    | zero =>
      intro s p r _ hd
      have e : s = [] := List.length_eq_zero_iff.1 hd
      subst e
      simp [lab, S]
    | succ d ih =>
      intro s p r hl hd
      have h1 : s ≠ [] := fun e => by rw [e] at hd; simp at hd
      have h2 : p ≠ [] := fun e => by rw [e] at hl; simp at hl; omega
      have e1 := (List.dropLast_concat_getLast h1).symm
      have e2 := (List.dropLast_concat_getLast h2).symm
      have hl1 : s.dropLast.length = d := by rw [List.length_dropLast]; omega
      have hl2 : p.dropLast.length = d := by rw [List.length_dropLast]; omega
      have i1 := ih s.dropLast p.dropLast r (by omega) hl1
      rw [S, e1, e2, lab_app _ _ _ _ _ (by omega), i1]
      congr 1
      · refine S_congr d (fun v hv => ?_)
        unfold part
        rw [rd_left _ _ v (by omega), rd_left _ _ v (by omega)]
      · unfold part
        rw [show (d : Int) = (p.dropLast.length : Int) by omega, rd_last, show (p.dropLast.length : Int) = (s.dropLast.length : Int) by omega, rd_last]
  intro s p r h
  exact key s.length s p r h rfl
where
  lab_app : ∀ (s p : List Int) (x y r : Int), p.length = s.length → lab (s ++ [x]) (p ++ [y]) r = lab s p r + (if y = r then x else 0)
    | [], [], x, y, r, _ => by simp [lab]
    | [], p :: ps, x, y, r, h => by simp at h
    | s :: ss, [], x, y, r, h => by simp at h
    | s :: ss, p :: ps, x, y, r, h => by rw [List.cons_append, List.cons_append, lab, lab, lab_app ss ps x y r (by simpa using h)]; omega
  rd_left (xs : List Int) (y : Int) (v : Nat) (h : v < xs.length) : rd (xs ++ [y]) (v : Int) = rd xs (v : Int) := by
    rw [rd_nat, rd_nat, List.getD_eq_getElem?_getD, List.getD_eq_getElem?_getD, List.getElem?_append_left h]
  rd_last (xs : List Int) (y : Int) : rd (xs ++ [y]) (xs.length : Int) = y := by
    rw [rd_nat]; simp
theorem longest_packing {roll : Int} {s : List Int} (h : rollTask roll s = true) : isPacking roll s (longestFirst roll s).1 = true := by
  obtain ⟨h1, h2, h3⟩ := rollTask_true h
  obtain ⟨o1, o2⟩ := ordr_in s
  have hc : ∀ v : Nat, v < s.length → cnt' v (ordr s (nums s.length 0) []) = 1 := fun v hv => by rw [cnt_ordr, cnt_nums, if_pos (by omega)]; simp [cnt']
  have hc2 : ∀ v : Nat, cnt' v (ordr s (nums s.length 0) []) ≤ 1 := fun v => by rw [cnt_ordr, cnt_nums]; split <;> simp [cnt']
  have hs : ∀ x ∈ s, 0 ≤ x ∧ x ≤ roll := fun x hx => by have := h3 x hx; omega
  obtain ⟨f1, f2⟩ := ffit_part roll s (by omega) hs _ o1 hc2 (ordr s (nums s.length 0) []) [] (List.replicate s.length 0) [] rfl (by simp) (by simp) (fun r h0 => by simp [sumF, rd]) (fun v hv => by have := List.eq_of_mem_replicate hv; omega)
  have e : (longestFirst roll s).1 = num (ffit roll s (ordr s (nums s.length 0) []) (List.replicate s.length 0) []) [] := by unfold longestFirst; rw [if_pos h]
  rw [e]
  have hfl : (ffit roll s (ordr s (nums s.length 0) []) (List.replicate s.length 0) []).length = s.length := by rw [ffit_len, List.length_replicate]
  generalize ffit roll s (ordr s (nums s.length 0) []) (List.replicate s.length 0) [] = p at *
  have hlab : ∀ v ∈ p, lab s p v ≤ roll := fun v hv => by
    have h0 := f2 v hv
    have := f1 v h0
    rw [← S_cnt (part s p v) s.length _ (fun x hx => o1 x hx), S_congr s.length (g := part s p v) (fun w hw => by rw [hc w hw, Int.mul_one])] at this
    rw [lab_S s p v hfl]
    exact this
  have hrg := num_rg p []
  simp only [List.length_nil] at hrg
  simp only [isPacking, Bool.and_eq_true, decide_eq_true_eq, List.all_eq_true]
  refine ⟨h, by rw [num_len, hfl], hrg, fun a ha => ?_⟩
  obtain ⟨j, hj, ej⟩ := List.getElem_of_mem ha
  have e1 := rd_loads (j : Int) (by omega) s (num p []) [] hrg
  rw [rd_get _ j hj, ej] at e1
  have e2 := lab_num (ss := s) (roll := roll) (by omega) hlab (j : Int)
  have e3 : rd ([] : List Int) (j : Int) = 0 := by simp [rd]
  omega

theorem laws_big_eq (l : List Int) : laws_big.f l = some (decide ((l.length : Int) > 4096)) := rfl

theorem next_ok {c : List Int} (hc : Code c) {q : Int × Int} (hq : SOk q) (n : Int) : ∃ p, spec_l01Next.f c q.1 q.2 n = some p ∧ SOk p.2 ∧ 0 ≤ p.1 ∧ (p.1 < n ∨ p.1 = 0) := by
  obtain ⟨a, s⟩ := q
  obtain ⟨ha, h0, h1⟩ := hq
  have hl := hc.2
  simp only at ha h0 h1
  unfold spec_l01Next.f
  simp only
  by_cases hn : n ≤ 1
  · rw [if_pos hn]
    exact ⟨_, rfl, ⟨ha, h0, h1⟩, by simp, .inr rfl⟩
  rw [if_neg hn, w64 (x := s * 48271) (by omega) (by omega), w64 (x := s * 48271 + 61) (by omega) (by omega), tmod_n (a := s * 48271 + 61) (by omega)]
  have hS : 0 ≤ (s * 48271 + 61) % 2147483647 ∧ (s * 48271 + 61) % 2147483647 < 2147483647 := by omega
  generalize (s * 48271 + 61) % 2147483647 = S at hS
  rw [tdiv_n (a := S) (by omega)]
  have hm : ∀ x : Int, 0 ≤ x → 0 ≤ Int.tmod x n ∧ Int.tmod x n < n := fun x hx => by
    rw [tmod_n hx]
    exact ⟨Int.emod_nonneg _ (by omega), Int.emod_lt_of_pos _ (by omega)⟩
  by_cases hlt : a < (c.length : Int)
  · have hb := rd_byte hc ha hlt
    rw [if_pos hlt, if_pos ha, w64 (x := a + 1) (by omega) (by omega), w64 (x := a + 1 - 1) (by omega) (by omega), show a + 1 - 1 = a by omega, w64 (x := rd c a) (by omega) (by omega), w64 (x := S / 31) (by omega) (by omega), w64 (x := S / 31 + rd c a) (by omega) (by omega)]
    have g1 := hm (rd c a) hb.1
    have g2 := hm (S / 31 + rd c a) (by omega)
    split
    · split
      · rw [if_neg (by omega)]
        exact ⟨_, rfl, ⟨by simp only; omega, hS.1, hS.2⟩, g1.1, .inl g1.2⟩
      · rw [if_neg (by omega)]
        exact ⟨_, rfl, ⟨by simp only; omega, hS.1, hS.2⟩, g2.1, .inl g2.2⟩
    · rw [if_neg (by omega)]
      exact ⟨_, rfl, ⟨by simp only; omega, hS.1, hS.2⟩, g2.1, .inl g2.2⟩
  · have g3 := hm (S / 31) (by omega)
    rw [if_neg hlt, if_neg (by omega), w64 (x := S / 31) (by omega) (by omega)]
    exact ⟨_, rfl, ⟨ha, hS.1, hS.2⟩, g3.1, .inl g3.2⟩

theorem pick_ok {c : List Int} (hc : Code c) {q : Int × Int} (hq : SOk q) (l : List Int) (hl : 0 < l.length) : ∃ p, spec_l01Pick.f c q.1 q.2 l = some p ∧ SOk p.2 ∧ p.1 ∈ l := by
  unfold spec_l01Pick.f
  obtain ⟨p, e, h1, h2, h3⟩ := next_ok hc hq (l.length : Int)
  rw [e]
  simp only [Option.bind_some]
  have h4 : p.1 < (l.length : Int) := by omega
  rw [if_pos h2, if_pos h4]
  refine ⟨_, rfl, h1, ?_⟩
  simp only
  obtain ⟨n, hn⟩ : ∃ n : Nat, p.1 = n := ⟨p.1.toNat, by omega⟩
  have hn2 : n < l.length := by omega
  have e2 : rd l (n : Int) = l[n] := by rw [rd_nat, List.getD_eq_getElem?_getD, List.getElem?_eq_getElem hn2]; rfl
  rw [hn, e2]
  exact List.getElem_mem hn2

theorem l10Draw_l1 (c : List Int) (q1 q2 x4 : Int) : ∀ (d k i : Nat) (xs : List Int), i + d = xs.length → d < k → xs.length ≤ 1000 → ∃ ys, spec_l10Draw.l1 k x4 xs (i : Int) c q1 q2 = some (x4, ys, q1, q2) ∧ ys.length = xs.length := by
  intro d
  induction d with
  | zero =>
    intro k i xs hi hk hx
    obtain ⟨k, rfl⟩ : ∃ m, k = m + 1 := ⟨k - 1, by omega⟩
    exact ⟨xs, by rw [spec_l10Draw.l1, if_neg (by omega)], rfl⟩
  | succ d ih =>
    intro k i xs hi hk hx
    obtain ⟨k, rfl⟩ : ∃ m, k = m + 1 := ⟨k - 1, by omega⟩
    obtain ⟨ys, e, hl⟩ := ih k (i + 1) (xs.set (i : Int).toNat x4) (by rw [List.length_set]; omega) (by omega) (by rw [List.length_set]; exact hx)
    refine ⟨ys, ?_, by rw [hl, List.length_set]⟩
    rw [spec_l10Draw.l1, if_pos (by omega), if_pos (by omega), w64 (by omega) (by omega)]
    exact e
theorem l10Draw_l0 {c : List Int} (hc : Code c) (x4 : Int) : ∀ (n k : Nat) (strips : List Int) (q : Int × Int), SOk q → n + 20 ≤ k → n ≤ 8 → strips.length + n ≤ 8 → ∃ p, spec_l10Draw.l0 k x4 strips (n : Int) c q.1 q.2 = some p ∧ p.2.1.length ≤ 13 ∧ SOk p.2.2 := by
  intro n
  induction n with
  | zero =>
    intro k strips q hq hk hn hs
    obtain ⟨k, rfl⟩ : ∃ m, k = m + 1 := ⟨k - 1, by omega⟩
    rw [spec_l10Draw.l0, if_neg (by omega)]
    refine bind_ok (next_ok hc hq 40) fun a ha => ite_ok (fun _ => bind_ok (pick_ok hc ha.1 _ (by simp)) fun r hr => ⟨_, rfl, by simp only; omega, hr.1⟩) (fun _ => ite_ok (fun _ => bind_ok (pick_ok hc ha.1 _ (by simp)) fun r hr => ?_) (fun _ => ite_ok (fun _ => bind_ok (next_ok hc ha.1 2) fun r hr => ?_) (fun _ => ⟨_, rfl, by simp only; omega, ha.1⟩)))
    · rw [if_pos (by omega)]
      exact ⟨_, rfl, by simp only [List.length_append, List.length_cons, List.length_nil]; omega, hr.1⟩
    · have h1 := hr.2.1
      have h2 := hr.2.2
      have e : wrap64 (12 + r.1) = 12 + r.1 := w64 (by omega) (by omega)
      rw [e, if_pos (by omega), if_pos (by omega)]
      obtain ⟨ys, e1, hl⟩ := l10Draw_l1 c r.2.1 r.2.2 x4 (12 + r.1).toNat k 0 (List.replicate (12 + r.1).toNat 0) (by simp) (by omega) (by simp; omega)
      exact ⟨_, e1, by simp only; rw [hl, List.length_replicate]; omega, hr.1⟩
  | succ n ih =>
    intro k strips q hq hk hn hs
    obtain ⟨k, rfl⟩ : ∃ m, k = m + 1 := ⟨k - 1, by omega⟩
    rw [spec_l10Draw.l0, if_pos (by omega)]
    refine bind_ok (pick_ok hc hq _ (by simp)) fun a ha => bind_ok (next_ok hc ha.1 a.1) fun r hr => ?_
    rw [if_pos (by omega), w64 (x := ((n + 1 : Nat) : Int) - 1) (by omega) (by omega), show ((n + 1 : Nat) : Int) - 1 = (n : Int) by omega]
    exact ih k _ r.2 hr.1 (by omega) (by omega) (by simp only [List.length_append, List.length_cons, List.length_nil]; omega)
theorem l10Draw_ok {c : List Int} (hc : Code c) {k : Nat} (hk : 30 ≤ k) {q : Int × Int} (hq : SOk q) : ∃ p, spec_l10Draw.f k c q.1 q.2 = some p ∧ p.2.1.length ≤ 13 ∧ SOk p.2.2 := by
  unfold spec_l10Draw.f
  refine bind_ok (next_ok hc hq 30) fun a ha => bind_ok (next_ok hc ha.1 9) fun b hb => ?_
  have h1 := hb.2.1
  have h2 := hb.2.2
  obtain ⟨n, hn⟩ : ∃ n : Nat, b.1 = n := ⟨b.1.toNat, by omega⟩
  rw [hn]
  exact l10Draw_l0 hc _ n k [] b.2 hb.1 (by omega) (by omega) (by simp; omega)

theorem spec_l01From_l0 (c : List Int) (hc : Code c) : ∀ (d k i : Nat) (l : List Int) (a s : Int), i + d = c.length → d < k → 0 ≤ a → 0 ≤ s → s < 2147483647 → ∃ q, spec_l01From.l0 k c (i : Int) l a s = some (l, q) ∧ SOk q := by
  intro d
  have hl := hc.2
  induction d with
  | zero =>
    intro k i l a s h hk ha h0 h1
    obtain ⟨k, rfl⟩ : ∃ m, k = m + 1 := ⟨k - 1, by omega⟩
    rw [spec_l01From.l0, if_neg (by omega)]
    exact ⟨(a, s), rfl, ha, h0, h1⟩
  | succ d ih =>
    intro k i l a s h hk ha h0 h1
    obtain ⟨k, rfl⟩ : ∃ m, k = m + 1 := ⟨k - 1, by omega⟩
    rw [spec_l01From.l0, if_pos (by omega)]
    by_cases h64 : (i : Int) < 64
    · have hb := rd_byte hc (i := (i : Int)) (by omega) (by omega)
      rw [if_pos h64, if_pos (by omega), w64 (x := (i : Int) + 1) (by omega) (by omega), w64 (x := rd c (i : Int)) (by omega) (by omega), w64 (x := s * 71) (by omega) (by omega), w64 (x := s * 71 + rd c (i : Int)) (by omega) (by omega), tmod_n (by omega)]
      exact ih k (i + 1) l a _ (by omega) (by omega) ha (by omega) (by omega)
    · rw [if_neg h64]
      exact ⟨(a, s), rfl, ha, h0, h1⟩
theorem from_ok {c : List Int} (hc : Code c) {k : Nat} (hk : c.length < k) : ∃ p, spec_l01From.f k c = some p ∧ p.1 = c ∧ SOk p.2 := by
  obtain ⟨q, e, h⟩ := spec_l01From_l0 c hc c.length k 0 c 0 88007 (by omega) hk (by omega) (by omega) (by omega)
  exact ⟨(c, q), e, rfl, h⟩

theorem DrawFirstFit_ok {c : List Int} (hc : Code c) {k : Nat} (hk : c.length + 30 < k) : ∃ p, spec_DrawFirstFit.f k c = some p ∧ p.2.length ≤ 13 := by
  unfold spec_DrawFirstFit.f
  refine bind_ok (from_ok hc (by omega)) fun p hp => ?_
  rw [hp.1]
  exact bind_ok (l10Draw_ok hc (by omega) hp.2) fun g hg => ⟨_, rfl, hg.1⟩

theorem impl_inRange_eq (a b c : Int) : impl_inRange.f a b c = some (inR a b c) := by
  unfold impl_inRange.f inR
  by_cases h : b ≤ a
  · rw [if_pos h]; simp [h]
  · rw [if_neg h]; simp [h]

theorem impl_allIn_eq (xs : List Int) (lo hi : Int) : impl_allIn.f xs lo hi = some (allR xs lo hi) := rfl

theorem impl_IsRollTask_eq (roll : Int) (s : List Int) : impl_IsRollTask.f roll s = some (rollTask roll s) := by
  unfold impl_IsRollTask.f rollTask
  simp only [impl_inRange_eq, impl_allIn_eq, Option.bind_some]
  cases inR roll 1 100000
  · simp
  · by_cases h : (s.length : Int) ≤ 12
    · simp [h]
    · simp [h]

theorem slices_Index_int64_int64_l0 (xs : List Int) (x : Int) (hl : xs.length ≤ 9223372036854775806) : ∀ (d k i : Nat), i + d = xs.length → d < k → slices_Index_int64_int64.l0 k xs x (xs.length : Int) (i : Int) = some (idxFrom (xs.drop i) x i) := by
  intro d
  induction d with
  | zero =>
    intro k i h hk
    obtain ⟨k, rfl⟩ : ∃ m, k = m + 1 := ⟨k - 1, by omega⟩
    rw [slices_Index_int64_int64.l0, if_neg (by omega), List.drop_of_length_le (by omega)]
    rfl
  | succ d ih =>
    intro k i h hk
    obtain ⟨k, rfl⟩ : ∃ m, k = m + 1 := ⟨k - 1, by omega⟩
    have hi : i < xs.length := by omega
    have e : xs.drop i = xs[i] :: xs.drop (i + 1) := List.drop_eq_getElem_cons hi
    have e2 : xs.getD i 0 = xs[i] := by simp [List.getD_eq_getElem?_getD, List.getElem?_eq_getElem hi]
    have e3 := ih k (i + 1) (by omega) (by omega)
    rw [slices_Index_int64_int64.l0, if_pos (by omega), if_pos (by omega), if_pos (by omega), rd_nat, e2, e, idxFrom]
    by_cases hx : x = xs[i]
    · rw [if_pos hx, if_pos hx]
    · rw [if_neg hx, if_neg hx, w64 (by omega) (by omega)]
      exact e3
theorem slices_Index_int64_int64_eq (xs : List Int) (x : Int) (k : Nat) (hl : xs.length ≤ 9223372036854775806) (hk : xs.length < k) : slices_Index_int64_int64.f k xs x = some (idxFrom xs x 0) := by
  unfold slices_Index_int64_int64.f
  exact slices_Index_int64_int64_l0 xs x hl xs.length k 0 (by omega) hk

theorem idx_pos (roll s : Int) : ∀ (acc : List Int) (i : Nat), (∀ a ∈ acc, 0 ≤ a ∧ a ≤ 100000) → 0 ≤ s → s ≤ 100000 → Hand.idxBy (fun n_ => decide (wrap64 (n_ + s) ≤ roll)) acc i = if pos roll s acc < acc.length then ((i + pos roll s acc : Nat) : Int) else -1
  | [], i, _, _, _ => by simp [Hand.idxBy]
  | a :: acc, i, h, h0, h1 => by
    have ha := h a (by simp)
    have ih := idx_pos roll s acc (i + 1) (fun x hx => h x (by simp [hx])) h0 h1
    rw [Hand.idxBy, w64 (x := a + s) (by omega) (by omega)]
    by_cases c : a + s ≤ roll
    · rw [if_pos (by simpa using c)]
      simp [pos, c]
    · rw [if_neg (by simpa using c), ih]
      simp only [pos, c, if_false, List.length_cons]
      by_cases e : pos roll s acc < acc.length
      · rw [if_pos e, if_pos (by omega)]
        omega
      · rw [if_neg e, if_neg (by omega)]
theorem impl_firstFit_l0 (roll : Int) (s : List Int) (h : rollTask roll s = true) (order : List Int) (ho : ∀ i ∈ order, 0 ≤ i ∧ i < (s.length : Int)) (hb : order.length ≤ 1000) : ∀ (d k i : Nat) (out acc : List Int), i + d = order.length → d < k → out.length = s.length → acc.length ≤ i → (∀ a ∈ acc, 0 ≤ a ∧ a ≤ roll) →
    impl_firstFit.l0 k roll s out acc order (order.length : Int) (i : Int) = some (ffit roll s (order.drop i) out acc) := by
  obtain ⟨h1, h2, h3⟩ := rollTask_true h
  intro d
  induction d with
  | zero =>
    intro k i out acc hi hk _ _ _
    obtain ⟨k, rfl⟩ : ∃ m, k = m + 1 := ⟨k - 1, by omega⟩
    rw [impl_firstFit.l0, if_neg (by omega), List.drop_of_length_le (by omega)]
    rfl
  | succ d ih =>
    intro k i out acc hi hk hout hacc ha
    obtain ⟨k, rfl⟩ : ∃ m, k = m + 1 := ⟨k - 1, by omega⟩
    have hlt : i < order.length := by omega
    have hi2 := ho order[i] (List.getElem_mem hlt)
    have hs := h3 _ (rd_in hi2.1 hi2.2)
    have hp := pos_le roll (rd s order[i]) acc
    have hst := pos_step ha (show 0 ≤ rd s order[i] ∧ rd s order[i] ≤ roll by omega)
    have next := ih k (i + 1) (out.set order[i].toNat (pos roll (rd s order[i]) acc : Int)) (addTo acc (pos roll (rd s order[i]) acc : Int) (rd s order[i])) (by omega) (by omega) (by rw [List.length_set]; exact hout) (by omega) hst.1
    rw [show ((i + 1 : Nat) : Int) = (i : Int) + 1 by omega] at next
    rw [impl_firstFit.l0, if_pos (by omega), if_pos (by omega), if_pos (by omega), rd_get order i hlt, drop_get order i hlt, ffit, idx_pos roll (rd s order[i]) acc 0 (fun a hx => by have := ha a hx; omega) (by omega) (by omega)]
    simp only [Option.bind_some, Nat.zero_add]
    by_cases c : pos roll (rd s order[i]) acc < acc.length
    · have hg := ha _ (rd_mem (xs := acc) (p := (pos roll (rd s order[i]) acc : Int)) (by omega) (by omega))
      rw [if_pos c, if_neg (by omega), if_pos (by omega), if_pos (by omega), if_pos hi2.1, if_pos hi2.2, if_pos (by omega), w64 (x := rd acc (pos roll (rd s order[i]) acc : Int) + rd s order[i]) (by omega) (by omega), w64 (by omega) (by omega), ← addTo_old (by omega)]
      exact next
    · have e : pos roll (rd s order[i]) acc = acc.length := by omega
      have hz : rd (acc ++ [0]) (acc.length : Int) = 0 := by rw [rd_nat]; simp
      rw [e] at next
      rw [if_neg c, if_pos (by omega), if_pos (by omega), if_pos (by omega), if_pos (by simp only [List.length_append, List.length_cons, List.length_nil]; omega), if_pos hi2.1, if_pos hi2.2, if_pos (by omega), w64 (x := rd (acc ++ [0]) (acc.length : Int) + rd s order[i]) (by omega) (by omega), w64 (x := (i : Int) + 1) (by omega) (by omega)]
      have er : addTo acc (acc.length : Int) (rd s order[i]) = (acc ++ [0]).set (acc.length : Int).toNat (rd (acc ++ [0]) (acc.length : Int) + rd s order[i]) := by
        unfold addTo
        rw [show room acc (acc.length : Int) = acc ++ [0] from if_pos rfl]
      rw [e, er]
      rw [er] at next
      exact next
theorem impl_firstFit_eq (roll : Int) (s order : List Int) (k : Nat) (h : rollTask roll s = true) (ho : ∀ i ∈ order, 0 ≤ i ∧ i < (s.length : Int)) (hb : order.length ≤ 1000) (hk : order.length < k) : impl_firstFit.f k roll s order = some (ffit roll s order (List.replicate s.length 0) []) := by
  have h2 := (rollTask_true h).2.1
  unfold impl_firstFit.f
  rw [if_pos (by omega), if_pos (by omega), Int.toNat_natCast]
  have := impl_firstFit_l0 roll s h order ho hb order.length k 0 (List.replicate s.length 0) [] (by omega) hk (by simp) (by simp) (by simp)
  rw [List.drop_zero] at this
  exact this

theorem impl_indices_l0 (n : Nat) (hn : n ≤ 1000) : ∀ (d k i : Nat), i + d = n → d < k → impl_indices.l0 k (nums i 0) (n : Int) (i : Int) = some (nums n 0) := by
  intro d
  induction d with
  | zero =>
    intro k i hi hk
    obtain ⟨k, rfl⟩ : ∃ m, k = m + 1 := ⟨k - 1, by omega⟩
    rw [impl_indices.l0, if_neg (by omega), show i = n by omega]
  | succ d ih =>
    intro k i hi hk
    obtain ⟨k, rfl⟩ : ∃ m, k = m + 1 := ⟨k - 1, by omega⟩
    have next := ih k (i + 1) (by omega) (by omega)
    rw [nums_snoc, Nat.zero_add, show ((i + 1 : Nat) : Int) = (i : Int) + 1 by omega] at next
    rw [impl_indices.l0, if_pos (by omega), nums_len, if_pos (by omega), w64 (by omega) (by omega)]
    exact next
theorem impl_indices_eq (n k : Nat) (hn : n ≤ 1000) (hk : n < k) : impl_indices.f k (n : Int) = some (nums n 0) := by
  unfold impl_indices.f
  exact impl_indices_l0 n hn n k 0 (by omega) hk

theorem impl_FirstFit_eq (roll : Int) (s : List Int) (k : Nat) (hk : s.length + 20 < k) : impl_FirstFit.f k roll s = some (firstFit roll s) := by
  unfold impl_FirstFit.f firstFit
  rw [impl_IsRollTask_eq roll s]
  simp only [Option.bind_some]
  by_cases h : rollTask roll s = true
  · have h2 := (rollTask_true h).2.1
    rw [if_pos h, if_pos h, impl_indices_eq s.length k (by omega) (by omega)]
    simp only [Option.bind_some]
    rw [impl_firstFit_eq roll s _ k h (fun i hi => by have := nums_mem s.length 0 i hi; omega) (by rw [nums_len]; omega) (by rw [nums_len]; omega)]
    have := ffit_id roll s s.length 0 [] [] rfl (by omega)
    rw [List.nil_append, List.nil_append, List.drop_zero] at this
    rw [this]
    rfl
  · rw [if_neg h, if_neg h]

theorem spec_l01In_eq (a b c : Int) : spec_l01In.f a b c = some (inR a b c) := by
  unfold spec_l01In.f inR
  by_cases h : a ≥ b
  · rw [if_pos h]; simp [show b ≤ a from h]
  · rw [if_neg h]; simp [show ¬ b ≤ a from h]

theorem spec_l01Within_l0 (xs : List Int) (m lo hi : Int) (hl : xs.length ≤ 9223372036854775806) : ∀ (d k i : Nat), i + d = xs.length → d < k → spec_l01Within.l0 k xs m lo hi (i : Int) = some (allR (xs.drop i) lo hi && decide ((xs.length : Int) ≤ m)) := by
  intro d
  induction d with
  | zero =>
    intro k i h hk
    obtain ⟨k, rfl⟩ : ∃ m, k = m + 1 := ⟨k - 1, by omega⟩
    rw [spec_l01Within.l0, if_neg (by omega), List.drop_of_length_le (by omega)]
    rfl
  | succ d ih =>
    intro k i h hk
    obtain ⟨k, rfl⟩ : ∃ m, k = m + 1 := ⟨k - 1, by omega⟩
    have hlt : i < xs.length := by omega
    have e3 := ih k (i + 1) (by omega) (by omega)
    rw [spec_l01Within.l0, if_pos (by omega), if_pos (by omega), rd_get xs i hlt, spec_l01In_eq, drop_get xs i hlt, w64 (by omega) (by omega)]
    simp only [Option.bind_some, allR, List.all_cons]
    cases hx : inR xs[i] lo hi
    · simp
    · simp only [if_true, Bool.true_and]
      exact e3
theorem spec_l01Within_eq (xs : List Int) (m lo hi : Int) (k : Nat) (hl : xs.length ≤ 9223372036854775806) (hk : xs.length < k) : spec_l01Within.f k xs m lo hi = some (allR xs lo hi && decide ((xs.length : Int) ≤ m)) := by
  unfold spec_l01Within.f
  exact spec_l01Within_l0 xs m lo hi hl xs.length k 0 (by omega) hk

theorem spec_IsRollTask_eq (roll : Int) (s : List Int) (k : Nat) (hl : s.length ≤ 9223372036854775806) (hk : s.length < k) : spec_IsRollTask.f k roll s = some (rollTask roll s) := by
  unfold spec_IsRollTask.f rollTask
  simp only [spec_l01In_eq, spec_l01Within_eq s _ _ _ k hl hk, Option.bind_some]
  cases inR roll 1 100000 <;> simp [Bool.and_comm]

theorem spec_l10First_l1 (roll : Int) (s order out acc : List Int) (h : rollTask roll s = true) (ha : ∀ a ∈ acc, 0 ≤ a ∧ a ≤ roll) (hal : acc.length ≤ 1000) (i : Nat) (hlt : i < order.length) (hb : order.length ≤ 1000) (hi2 : 0 ≤ order[i] ∧ order[i] < (s.length : Int)) (hout : out.length = s.length) :
    ∀ (e k j : Nat), j + e = pos roll (rd s order[i]) acc → spec_l10First.l1 (k + e + 1) roll s order out acc (i : Int) (j : Int) = spec_l10First.l0 k roll s order (out.set order[i].toNat (pos roll (rd s order[i]) acc : Int)) (addTo acc (pos roll (rd s order[i]) acc : Int) (rd s order[i])) ((i : Int) + 1) := by
  obtain ⟨h1, h2, h3⟩ := rollTask_true h
  have hs := h3 _ (rd_in hi2.1 hi2.2)
  have hp := pos_le roll (rd s order[i]) acc
  intro e
  induction e with
  | zero =>
    intro k j hj
    simp only [Nat.add_zero] at hj ⊢
    subst hj
    rw [spec_l10First.l1]
    by_cases c : pos roll (rd s order[i]) acc < acc.length
    · have hg := ha _ (rd_mem (xs := acc) (p := (pos roll (rd s order[i]) acc : Int)) (by omega) (by omega))
      have hf : rd acc (pos roll (rd s order[i]) acc : Int) + rd s order[i] ≤ roll := by rw [rd_get acc _ c]; exact pos_fits roll _ acc c
      rw [if_pos (by omega), if_pos (by omega), if_pos (by omega), if_pos (by omega), rd_get order i hlt, if_pos hi2.1, if_pos hi2.2, w64 (x := rd acc (pos roll (rd s order[i]) acc : Int) + rd s order[i]) (by omega) (by omega), if_neg (by omega), if_neg (by omega), if_pos (by omega), w64 (x := (i : Int) + 1) (by omega) (by omega), ← addTo_old (by omega)]
    · have e : pos roll (rd s order[i]) acc = acc.length := by omega
      have hz : rd (acc ++ [0]) (acc.length : Int) = 0 := by rw [rd_nat]; simp
      rw [e, if_neg (by omega), if_pos rfl, if_pos (by omega)]
      simp only [Option.bind_some]
      rw [if_pos (by omega), if_pos (by simp only [List.length_append, List.length_cons, List.length_nil]; omega), if_pos (by omega), if_pos (by omega), rd_get order i hlt, if_pos hi2.1, if_pos hi2.2, if_pos (by omega), w64 (x := rd (acc ++ [0]) (acc.length : Int) + rd s order[i]) (by omega) (by omega), w64 (x := (i : Int) + 1) (by omega) (by omega)]
      unfold addTo
      rw [show room acc (acc.length : Int) = acc ++ [0] from if_pos rfl]
  | succ e ih =>
    intro k j hj
    have c : j < acc.length := by omega
    have hg := ha _ (rd_mem (xs := acc) (p := (j : Int)) (by omega) (by omega))
    have hf : rd acc (j : Int) + rd s order[i] > roll := by rw [rd_get acc _ c]; exact pos_before roll _ acc j c (by omega)
    have next := ih k (j + 1) (by omega)
    rw [show ((j + 1 : Nat) : Int) = (j : Int) + 1 by omega] at next
    rw [show k + (e + 1) + 1 = (k + e + 1) + 1 by omega, spec_l10First.l1, if_pos (by omega), if_pos (by omega), if_pos (by omega), if_pos (by omega), rd_get order i hlt, if_pos hi2.1, if_pos hi2.2, w64 (x := rd acc (j : Int) + rd s order[i]) (by omega) (by omega), if_pos hf, w64 (x := (j : Int) + 1) (by omega) (by omega), next]
theorem spec_l10First_l0 (roll : Int) (s : List Int) (h : rollTask roll s = true) (order : List Int) (ho : ∀ i ∈ order, 0 ≤ i ∧ i < (s.length : Int)) (hb : order.length ≤ 1000) : ∀ (d k i : Nat) (out acc : List Int), i + d = order.length → 1010 * d + 1 ≤ k → out.length = s.length → acc.length ≤ i → (∀ a ∈ acc, 0 ≤ a ∧ a ≤ roll) →
    spec_l10First.l0 k roll s order out acc (i : Int) = some (ffit roll s (order.drop i) out acc) := by
  obtain ⟨h1, h2, h3⟩ := rollTask_true h
  intro d
  induction d with
  | zero =>
    intro k i out acc hi hk _ _ _
    obtain ⟨k, rfl⟩ : ∃ m, k = m + 1 := ⟨k - 1, by omega⟩
    rw [spec_l10First.l0, if_neg (by omega), List.drop_of_length_le (by omega)]
    rfl
  | succ d ih =>
    intro k i out acc hi hk hout hacc ha
    have hlt : i < order.length := by omega
    have hi2 := ho order[i] (List.getElem_mem hlt)
    have hs := h3 _ (rd_in hi2.1 hi2.2)
    have hp := pos_le roll (rd s order[i]) acc
    obtain ⟨k, rfl⟩ : ∃ m, k = (m + pos roll (rd s order[i]) acc + 1) + 1 := ⟨k - pos roll (rd s order[i]) acc - 2, by omega⟩
    have hst := pos_step ha (show 0 ≤ rd s order[i] ∧ rd s order[i] ≤ roll by omega)
    have next := ih k (i + 1) (out.set order[i].toNat (pos roll (rd s order[i]) acc : Int)) (addTo acc (pos roll (rd s order[i]) acc : Int) (rd s order[i])) (by omega) (by omega) (by rw [List.length_set]; exact hout) (by omega) hst.1
    rw [show ((i + 1 : Nat) : Int) = (i : Int) + 1 by omega] at next
    have step := spec_l10First_l1 roll s order out acc h ha (by omega) i hlt hb hi2 hout (pos roll (rd s order[i]) acc) k 0 (by omega)
    rw [spec_l10First.l0, if_pos (by omega), drop_get order i hlt, ffit]
    exact step.trans next
theorem spec_l10First_eq (roll : Int) (s order : List Int) (k : Nat) (h : rollTask roll s = true) (ho : ∀ i ∈ order, 0 ≤ i ∧ i < (s.length : Int)) (hb : order.length ≤ 12) (hk : 20000 ≤ k) : spec_l10First.f k roll s order = some (ffit roll s order (List.replicate s.length 0) []) := by
  have h2 := (rollTask_true h).2.1
  unfold spec_l10First.f
  rw [if_pos (by omega), if_pos (by omega), Int.toNat_natCast]
  have := spec_l10First_l0 roll s h order ho (by omega) order.length k 0 (List.replicate s.length 0) [] (by omega) (by omega) (by simp) (by simp) (by simp)
  rw [List.drop_zero] at this
  exact this

theorem spec_FirstFit_l0 (roll : Int) (s : List Int) (h : rollTask roll s = true) : ∀ (d k i : Nat), i + d = s.length → 20000 + d < k → spec_FirstFit.l0 k roll s (nums i 0) (i : Int) = some (ff roll s [], 0) := by
  have h2 := (rollTask_true h).2.1
  intro d
  induction d with
  | zero =>
    intro k i hi hk
    obtain ⟨k, rfl⟩ : ∃ m, k = m + 1 := ⟨k - 1, by omega⟩
    rw [spec_FirstFit.l0, if_neg (by omega), show i = s.length by omega, spec_l10First_eq roll s _ k h (fun i hi => by have := nums_mem s.length 0 i hi; omega) (by rw [nums_len]; omega) (by omega)]
    have := ffit_id roll s s.length 0 [] [] rfl (by omega)
    rw [List.nil_append, List.nil_append, List.drop_zero] at this
    rw [this]
    rfl
  | succ d ih =>
    intro k i hi hk
    obtain ⟨k, rfl⟩ : ∃ m, k = m + 1 := ⟨k - 1, by omega⟩
    have next := ih k (i + 1) (by omega) (by omega)
    rw [nums_snoc, Nat.zero_add, show ((i + 1 : Nat) : Int) = (i : Int) + 1 by omega] at next
    rw [spec_FirstFit.l0, if_pos (by omega), nums_len, if_pos (by omega), w64 (by omega) (by omega)]
    exact next
theorem spec_FirstFit_eq (roll : Int) (s : List Int) (k : Nat) (hl : s.length ≤ 1048576) (hk : s.length + 20010 ≤ k) : spec_FirstFit.f k roll s = some (firstFit roll s) := by
  unfold spec_FirstFit.f firstFit
  rw [spec_IsRollTask_eq roll s k (by omega) (by omega)]
  simp only [Option.bind_some]
  by_cases h : rollTask roll s = true
  · have h2 := (rollTask_true h).2.1
    rw [if_pos h, if_pos h]
    exact spec_FirstFit_l0 roll s h s.length k 0 (by omega) (by omega)
  · rw [if_neg h, if_neg h]

theorem idxFrom_has : ∀ (xs : List Int) (x : Int) (i : Nat), decide (idxFrom xs x i ≥ 0) = xs.contains x
  | [], x, i => by simp [idxFrom]
  | y :: ys, x, i => by
    rw [idxFrom, List.contains_cons]
    by_cases h : x = y
    · rw [if_pos h, h]
      simp
    · rw [if_neg h, idxFrom_has ys x (i + 1)]
      simp [h]
theorem slices_Contains_int64_int64_eq (xs : List Int) (x : Int) (k : Nat) (hl : xs.length ≤ 9223372036854775806) (hk : xs.length < k) : slices_Contains_int64_int64.f k xs x = some (xs.contains x) := by
  unfold slices_Contains_int64_int64.f
  rw [slices_Index_int64_int64_eq xs x k hl hk]
  simp only [Option.bind_some]
  rw [idxFrom_has]

theorem rd_bd {s : List Int} (h : ∀ x ∈ s, 0 ≤ x ∧ x ≤ 100000) (i : Int) : 0 ≤ rd s i ∧ rd s i ≤ 100000 := by
  unfold rd
  rw [List.getD_eq_getElem?_getD]
  by_cases c : i.toNat < s.length
  · rw [List.getElem?_eq_getElem c]
    exact h _ (List.getElem_mem c)
  · rw [List.getElem?_eq_none (by omega)]
    simp
theorem ltS_eq {s : List Int} (h : ∀ x ∈ s, 0 ≤ x ∧ x ≤ 100000) (x y : Int) : Hand.ltS s x y = decide (rd s y < rd s x) := by
  have h1 := rd_bd h x
  have h2 := rd_bd h y
  unfold Hand.ltS
  rw [w64 (x := rd s y - rd s x) (by omega) (by omega)]
  by_cases c : rd s y < rd s x
  · rw [decide_eq_true c, decide_eq_true (by omega)]
  · rw [decide_eq_false c, decide_eq_false (by omega)]
/-- Told from its end: not longer than what stands ahead. -/
def asc (s : List Int) : List Int → Prop
  | [] => True
  | h :: t => (∀ y ∈ t, rd s h ≤ rd s y) ∧ asc s t
theorem insF_app (s : List Int) (x h : Int) (hc : rd s h < rd s x) : ∀ L, insF s x (L ++ [h]) = insF s x L ++ [h]
  | [] => by simp [insF, show ¬ rd s x ≤ rd s h by omega]
  | y :: t => by
    rw [List.cons_append, insF, insF, insF_app s x h hc t]
    split <;> simp
theorem insF_all (s : List Int) (x : Int) : ∀ L, (∀ y ∈ L, rd s x ≤ rd s y) → insF s x L = L ++ [x]
  | [], _ => rfl
  | y :: t, h => by
    have := h y (by simp)
    rw [insF, if_pos (by omega), insF_all s x t (fun z hz => h z (by simp [hz]))]
    rfl
theorem insRev_insF {s : List Int} (hs : ∀ x ∈ s, 0 ≤ x ∧ x ≤ 100000) (x : Int) : ∀ R, asc s R → (Hand.insRev (Hand.ltS s) x R).reverse = insF s x R.reverse ∧ asc s (Hand.insRev (Hand.ltS s) x R)
  | [], _ => by simp [Hand.insRev, insF, asc]
  | h :: t, ha => by
    obtain ⟨i1, i2⟩ := insRev_insF hs x t ha.2
    rw [Hand.insRev, ltS_eq hs]
    by_cases c : rd s h < rd s x
    · rw [if_pos (by simpa using c)]
      refine ⟨by rw [List.reverse_cons, i1, List.reverse_cons, insF_app s x h c], fun y hy => ?_, i2⟩
      rcases insRev_in s x t y hy with e | e
      · rw [e]; omega
      · exact ha.1 y e
    · rw [if_neg (by simpa using c)]
      refine ⟨?_, fun y hy => ?_, ha⟩
      · rw [insF_all s x _ (fun y hy => ?_)]
        · simp
        · rcases List.mem_cons.1 (List.mem_reverse.1 hy) with e | e
          · rw [e]; omega
          · have := ha.1 y e; omega
      · rcases List.mem_cons.1 hy with e | e
        · rw [e]; omega
        · have := ha.1 y e; omega
where insRev_in (s : List Int) (x : Int) (R : List Int) (y : Int) (h : y ∈ Hand.insRev (Hand.ltS s) x R) : y = x ∨ y ∈ R := Hand.insRev_mem _ x R y h
theorem sortRev_ordr {s : List Int} (hs : ∀ x ∈ s, 0 ≤ x ∧ x ≤ 100000) : ∀ (xs R : List Int), asc s R → (Hand.sortRev (Hand.ltS s) xs R).reverse = ordr s xs R.reverse
  | [], R, _ => rfl
  | x :: xs, R, h => by
    obtain ⟨i1, i2⟩ := insRev_insF hs x R h
    rw [Hand.sortRev, sortRev_ordr hs xs _ i2, i1, ordr]
theorem sortM_ordr {s : List Int} (hs : ∀ x ∈ s, 0 ≤ x ∧ x ≤ 100000) (xs : List Int) : Hand.sortM s xs = ordr s xs [] := sortRev_ordr hs xs [] trivial
theorem impl_LongestFirst_l0 : ∀ (rest done names : List Int) (k n : Nat), n = done.length + rest.length → rest.length + 1010 ≤ k → names.length + rest.length ≤ 1000 → n ≤ 1000 → impl_LongestFirst.l0 k (done ++ rest) names (n : Int) (done.length : Int) = some (done ++ num rest names, 0)
  | [], done, names, k, n, hn, hk, hs, hb => by
    simp only [List.length_nil] at hn hk
    obtain ⟨k, rfl⟩ : ∃ m, k = m + 1 := ⟨k - 1, by omega⟩
    rw [impl_LongestFirst.l0, if_neg (by omega)]
    simp [num]
  | x :: rest, done, names, k, n, hn, hk, hs, hb => by
    simp only [List.length_cons] at hn hk hs
    obtain ⟨k, rfl⟩ : ∃ m, k = m + 1 := ⟨k - 1, by omega⟩
    have hx : rd (done ++ x :: rest) (done.length : Int) = x := by rw [rd_get _ _ (by simp)]; simp
    have hl : ((done ++ x :: rest).length : Int) = (n : Int) := by rw [List.length_append, List.length_cons]; omega
    have hset : ∀ y : Int, (done ++ x :: rest).set ((done.length : Int)).toNat y = (done ++ [y]) ++ rest := fun y => by rw [Int.toNat_natCast, set_at]; simp
    rw [impl_LongestFirst.l0, if_pos (by omega), if_pos (by omega), if_pos (by omega), hx, slices_Contains_int64_int64_eq names x k (by omega) (by omega), num, w64 (x := (done.length : Int) + 1) (by omega) (by omega)]
    simp only [Option.bind_some, hset]
    have hd : ∀ y : Int, (done.length : Int) + 1 = ((done ++ [y]).length : Int) := fun y => by rw [List.length_append, List.length_cons, List.length_nil]; omega
    by_cases c : names.contains x = true
    · have ih := impl_LongestFirst_l0 rest (done ++ [idxFrom names x 0]) names k n (by rw [List.length_append, List.length_cons, List.length_nil]; omega) (by omega) (by omega) hb
      rw [if_pos c, if_pos c, slices_Index_int64_int64_eq names x k (by omega) (by omega)]
      simp only [Option.bind_some]
      rw [hd (idxFrom names x 0), ih, List.append_assoc]
      rfl
    · have ih := impl_LongestFirst_l0 rest (done ++ [idxFrom (names ++ [x]) x 0]) (names ++ [x]) k n (by rw [List.length_append, List.length_cons, List.length_nil]; omega) (by omega) (by rw [List.length_append, List.length_cons, List.length_nil]; omega) hb
      have hn1 : (names ++ [x]).length = names.length + 1 := by simp
      rw [if_neg c, if_neg c, if_pos (by omega), slices_Index_int64_int64_eq (names ++ [x]) x k (by omega) (by omega)]
      simp only [Option.bind_some]
      rw [hd (idxFrom (names ++ [x]) x 0), ih, List.append_assoc]
      rfl
theorem impl_LongestFirst_eq (roll : Int) (s : List Int) (k : Nat) (hk : s.length + 1100 < k) : impl_LongestFirst.f k roll s = some (longestFirst roll s) := by
  unfold impl_LongestFirst.f longestFirst
  rw [impl_IsRollTask_eq roll s]
  simp only [Option.bind_some]
  by_cases h : rollTask roll s = true
  · obtain ⟨h1, h2, h3⟩ := rollTask_true h
    obtain ⟨o1, o2⟩ := ordr_in s
    rw [if_pos h, if_pos h, impl_indices_eq s.length k (by omega) (by omega)]
    simp only [Option.bind_some]
    rw [sortM_ordr (fun x hx => by have := h3 x hx; omega), impl_firstFit_eq roll s _ k h o1 (by omega) (by omega)]
    simp only [Option.bind_some]
    have hl : (ffit roll s (ordr s (nums s.length 0) []) (List.replicate s.length 0) []).length = s.length := by rw [ffit_len, List.length_replicate]
    exact impl_LongestFirst_l0 (ffit roll s (ordr s (nums s.length 0) []) (List.replicate s.length 0) []) [] [] k _ (by simp) (by omega) (by simp; omega) (by omega)
  · rw [if_neg h, if_neg h]

theorem spec_l01Own_eq (l : List Int) (h : l.length ≤ 1048576) : spec_l01Own.f l = some l := by
  unfold spec_l01Own.f
  simp only [Option.bind_some, List.nil_append, List.length_nil]
  rw [if_pos (by omega)]

theorem spec_l01Has_l0 (xs : List Int) (x : Int) (hl : xs.length ≤ 9223372036854775806) : ∀ (d k i : Nat), i + d = xs.length → d < k → spec_l01Has.l0 k xs x (i : Int) = some ((xs.drop i).contains x) := by
  intro d
  induction d with
  | zero =>
    intro k i h hk
    obtain ⟨k, rfl⟩ : ∃ m, k = m + 1 := ⟨k - 1, by omega⟩
    rw [spec_l01Has.l0, if_neg (by omega), List.drop_of_length_le (by omega)]
    rfl
  | succ d ih =>
    intro k i h hk
    obtain ⟨k, rfl⟩ : ∃ m, k = m + 1 := ⟨k - 1, by omega⟩
    have hi : i < xs.length := by omega
    have e : xs.drop i = xs[i] :: xs.drop (i + 1) := List.drop_eq_getElem_cons hi
    have e2 : xs.getD i 0 = xs[i] := by simp [List.getD_eq_getElem?_getD, List.getElem?_eq_getElem hi]
    have e3 := ih k (i + 1) (by omega) (by omega)
    rw [spec_l01Has.l0, if_pos (by omega), if_pos (by omega), rd_nat, e2, e, List.contains_cons]
    by_cases hx : xs[i] = x
    · rw [if_pos hx]; simp [hx]
    · rw [if_neg hx, w64 (by omega) (by omega)]
      have e4 : (x == xs[i]) = false := beq_eq_false_iff_ne.mpr (fun h => hx h.symm)
      rw [e4, Bool.false_or]
      exact e3
theorem spec_l01Has_eq (xs : List Int) (x : Int) (k : Nat) (hl : xs.length ≤ 9223372036854775806) (hk : xs.length < k) : spec_l01Has.f k xs x = some (xs.contains x) := by
  unfold spec_l01Has.f
  exact spec_l01Has_l0 xs x hl xs.length k 0 (by omega) hk

/-- The places of x, counted from i on. -/
def hits (x : Int) : List Int → Nat → List Int
  | [], _ => []
  | y :: ys, i => if y = x then (i : Int) :: hits x ys (i + 1) else hits x ys (i + 1)
theorem hits_snoc (x z : Int) : ∀ (ys : List Int) (i : Nat), hits x (ys ++ [z]) i = hits x ys i ++ (if z = x then [((i + ys.length : Nat) : Int)] else [])
  | [], i => by
    simp only [List.nil_append, hits, List.length_nil, Nat.add_zero]
  | y :: ys, i => by
    rw [List.cons_append, hits, hits, hits_snoc x z ys (i + 1), List.length_cons, show i + 1 + ys.length = i + (ys.length + 1) by omega]
    split <;> simp
theorem hits_none (x : Int) : ∀ (ys : List Int) (i : Nat), ¬ x ∈ ys → hits x ys i = []
  | [], _, _ => rfl
  | y :: ys, i, h => by
    rw [hits, if_neg (fun e => h (by simp [e])), hits_none x ys (i + 1) (fun e => h (by simp [e]))]
theorem idxFrom_in (x : Int) : ∀ (ys zs : List Int) (i : Nat), x ∈ ys → idxFrom (ys ++ zs) x i = idxFrom ys x i
  | [], _, _, h => by simp at h
  | y :: ys, zs, i, h => by
    rw [List.cons_append, idxFrom, idxFrom]
    by_cases c : x = y
    · rw [if_pos c, if_pos c]
    · rw [if_neg c, if_neg c]
      exact idxFrom_in x ys zs (i + 1) (by rcases List.mem_cons.1 h with e | e; exact absurd e c; exact e)
theorem idxFrom_new (x : Int) : ∀ (ys : List Int) (i : Nat), ¬ x ∈ ys → idxFrom (ys ++ [x]) x i = ((i + ys.length : Nat) : Int)
  | [], i, _ => by simp [idxFrom]
  | y :: ys, i, h => by
    rw [List.cons_append, idxFrom, if_neg (fun e => h (by simp [e])), idxFrom_new x ys (i + 1) (fun e => h (by simp [e])), List.length_cons]
    omega
/-- Each that has been seen stands there once. -/
def Once (seen : List Int) : Prop := ∀ y ∈ seen, hits y seen 0 = [idxFrom seen y 0]
theorem once_snoc {seen : List Int} {x : Int} (h : Once seen) (hx : ¬ x ∈ seen) : Once (seen ++ [x]) := fun y hy => by
  rw [hits_snoc]
  rcases List.mem_append.1 hy with hy | hy
  · have hne : x ≠ y := fun e => hx (e ▸ hy)
    rw [if_neg hne, idxFrom_in y seen [x] 0 hy, h y hy]
    rfl
  · have e : y = x := by simpa using hy
    subst e
    rw [if_pos rfl, hits_none y seen 0 hx, idxFrom_new y seen 0 hx]
    rfl
theorem spec_l10Number_l1 (p seen : List Int) (i : Nat) (hi : i < p.length) (hp : p.length ≤ 1000) (hs : seen.length ≤ 1000) : ∀ (d k j : Nat) (out : List Int), j + d = seen.length → out.length + d ≤ 100000 → spec_l10Number.l1 (k + d + 1) p seen out (i : Int) (j : Int) = spec_l10Number.l0 k p seen (out ++ hits p[i] (seen.drop j) j) ((i : Int) + 1) := by
  intro d
  induction d with
  | zero =>
    intro k j out hj ho
    rw [show k + 0 + 1 = k + 1 by omega, spec_l10Number.l1, if_neg (by omega), List.drop_of_length_le (by omega), w64 (by omega) (by omega)]
    simp [hits]
  | succ d ih =>
    intro k j out hj ho
    have hlt : j < seen.length := by omega
    rw [show k + (d + 1) + 1 = (k + d + 1) + 1 by omega, spec_l10Number.l1, if_pos (by omega), if_pos (by omega), if_pos (by omega), if_pos (by omega), rd_get seen j hlt, rd_get p i hi, drop_get seen j hlt, hits, w64 (x := (j : Int) + 1) (by omega) (by omega)]
    have next := fun out h => ih k (j + 1) out (by omega) h
    rw [show ((j + 1 : Nat) : Int) = (j : Int) + 1 by omega] at next
    by_cases c : seen[j] = p[i]
    · rw [if_pos c, if_pos c, if_pos (by omega), next _ (by simp only [List.length_append, List.length_cons, List.length_nil]; omega), List.append_assoc]
      rfl
    · rw [if_neg c, if_neg c, next _ (by omega)]
theorem spec_l10Number_l0 (p : List Int) (hp : p.length ≤ 1000) : ∀ (d k i : Nat) (seen out : List Int), i + d = p.length → 1010 * d + 1 ≤ k → seen.length ≤ i → out.length = i → Once seen → spec_l10Number.l0 k p seen out (i : Int) = some (out ++ num (p.drop i) seen) := by
  intro d
  induction d with
  | zero =>
    intro k i seen out hi hk hs ho h
    obtain ⟨k, rfl⟩ : ∃ m, k = m + 1 := ⟨k - 1, by omega⟩
    rw [spec_l10Number.l0, if_neg (by omega), List.drop_of_length_le (by omega)]
    simp [num]
  | succ d ih =>
    intro k i seen out hi hk hs ho h
    have hlt : i < p.length := by omega
    have main : ∀ seen' : List Int, seen' = (if seen.contains p[i] = true then seen else seen ++ [p[i]]) → seen'.length ≤ i + 1 → Once seen' → p[i] ∈ seen' → ∀ k, 1010 * d + 1 + 1003 ≤ k → spec_l10Number.j1 k p seen' out (i : Int) = some (out ++ num (p.drop i) seen) := by
      intro seen' e hl h1 hm k hk
      obtain ⟨k, rfl⟩ : ∃ m, k = (m + seen'.length + 1) + 1 := ⟨k - seen'.length - 2, by omega⟩
      have step := spec_l10Number_l1 p seen' i hlt hp (by omega) seen'.length k 0 out (by omega) (by omega)
      have next := ih k (i + 1) seen' (out ++ hits p[i] seen' 0) (by omega) (by omega) (by omega) (by rw [h1 _ hm]; simp [ho]) h1
      rw [show ((i + 1 : Nat) : Int) = (i : Int) + 1 by omega] at next
      rw [spec_l10Number.j1]
      rw [List.drop_zero] at step
      refine step.trans (next.trans ?_)
      rw [h1 _ hm, drop_get p i hlt, num, ← e, List.append_assoc]
      rfl
    obtain ⟨k, rfl⟩ : ∃ m, k = m + 1 := ⟨k - 1, by omega⟩
    rw [spec_l10Number.l0, if_pos (by omega), if_pos (by omega), rd_get p i hlt, spec_l01Has_eq seen p[i] k (by omega) (by omega)]
    simp only [Option.bind_some]
    by_cases c : seen.contains p[i] = true
    · rw [if_pos c]
      exact main seen (by rw [if_pos c]) (by omega) h (by simpa using c) k (by omega)
    · rw [if_neg c, if_pos (by omega)]
      have hx : ¬ p[i] ∈ seen := by simpa using c
      exact main (seen ++ [p[i]]) (by rw [if_neg c]) (by simp only [List.length_append, List.length_cons, List.length_nil]; omega) (once_snoc h hx) (by simp) k (by omega)
theorem spec_l10Number_eq (p : List Int) (k : Nat) (hp : p.length ≤ 12) (hk : 20000 ≤ k) : spec_l10Number.f k p = some (num p []) := by
  unfold spec_l10Number.f
  have := spec_l10Number_l0 p (by omega) p.length k 0 [] [] (by omega) (by omega) (by simp) rfl (fun y hy => by simp at hy)
  rw [List.drop_zero, List.nil_append] at this
  exact this

theorem insF_split (s : List Int) (x : Int) : ∀ (L : List Int) (j : Nat), j ≤ L.length → (∀ m (h : m < L.length), m < j → rd s L[m] ≥ rd s x) → insF s x L = L.take j ++ insF s x (L.drop j)
  | L, 0, _, _ => by simp
  | [], j + 1, h, _ => by simp at h
  | y :: t, j + 1, h, hg => by
    have h0 := hg 0 (by simp) (by omega)
    simp only [List.getElem_cons_zero] at h0
    rw [insF, if_pos h0, List.take_succ_cons, List.drop_succ_cons, List.cons_append, insF_split s x t j (by simpa using h) (fun m hm hmj => by have := hg (m + 1) (by simpa using hm) (by omega); simpa using this)]
theorem spec_LongestFirst_l1 (roll : Int) (s order : List Int) (hs : s.length ≤ 12) (i : Nat) (hi : i < s.length) (ho : ∀ x ∈ order, 0 ≤ x ∧ x < (s.length : Int)) (hol : order.length ≤ 12) :
    ∀ (d k j : Nat), j + d = order.length → (∀ m (h : m < order.length), m < j → rd s order[m] ≥ rd s (i : Int)) → ∃ k', k ≤ k' ∧ spec_LongestFirst.l1 (k + d + 1) roll s order (i : Int) (j : Int) = spec_LongestFirst.l0 k' roll s (insF s (i : Int) order) ((i : Int) + 1) := by
  have ins : ∀ (k j : Nat), j ≤ order.length → ((spec_l01Own.f (order.take (j : Int).toNat)).bind fun t230 => ((some (([(i : Int)] : List Int) : List Int)).bind fun y233 => (if t230.length + y233.length < 17592186044416 then ((some (t230 ++ y233 : List Int)).bind fun y236 => ((some (order.drop (j : Int).toNat : List Int)).bind fun y239 => (if y236.length + y239.length < 17592186044416 then (spec_LongestFirst.l0 k roll s (y236 ++ y239) (wrap64 ((i : Int) + 1))) else (none)))) else (none)))) = spec_LongestFirst.l0 k roll s (order.take j ++ (i : Int) :: order.drop j) ((i : Int) + 1) := by
    intro k j hj
    rw [Int.toNat_natCast, spec_l01Own_eq _ (by rw [List.length_take]; omega)]
    simp only [Option.bind_some]
    rw [if_pos (by simp only [List.length_take, List.length_cons, List.length_nil]; omega), if_pos (by simp only [List.length_append, List.length_take, List.length_drop, List.length_cons, List.length_nil]; omega), w64 (by omega) (by omega), List.append_assoc]
    rfl
  intro d
  induction d with
  | zero =>
    intro k j hj hg
    refine ⟨k, Nat.le_refl _, ?_⟩
    rw [show k + 0 + 1 = k + 1 by omega, spec_LongestFirst.l1, if_neg (by omega), if_pos (by omega), if_pos (by omega), ins k j (by omega), insF_split s (i : Int) order j (by omega) hg, List.drop_of_length_le (by omega)]
    rfl
  | succ d ih =>
    intro k j hj hg
    have hlt : j < order.length := by omega
    have hoj := ho order[j] (List.getElem_mem hlt)
    rw [show k + (d + 1) + 1 = (k + d + 1) + 1 by omega, spec_LongestFirst.l1, if_pos (by omega), if_pos (by omega), rd_get order j hlt, if_pos hoj.1, if_pos hoj.2, if_pos (by omega), if_pos (by omega)]
    by_cases c : rd s order[j] ≥ rd s (i : Int)
    · rw [if_pos c, w64 (x := (j : Int) + 1) (by omega) (by omega)]
      have := ih k (j + 1) (by omega) (fun m hm hmj => by
        by_cases e : m = j
        · subst e; exact c
        · exact hg m hm (by omega))
      rw [show ((j + 1 : Nat) : Int) = (j : Int) + 1 by omega] at this
      exact this
    · refine ⟨k + d + 1, by omega, ?_⟩
      rw [if_neg c, if_pos (by omega), ins (k + d + 1) j (by omega), insF_split s (i : Int) order j (by omega) hg, drop_get order j hlt, insF, if_neg c]
theorem spec_LongestFirst_l0 (roll : Int) (s : List Int) (h : rollTask roll s = true) : ∀ (d k i : Nat), i + d = s.length → 20100 + 20 * d ≤ k → spec_LongestFirst.l0 k roll s (ordr s (nums i 0) []) (i : Int) = some (num (ffit roll s (ordr s (nums s.length 0) []) (List.replicate s.length 0) []) [], 0) := by
  have h2 := (rollTask_true h).2.1
  intro d
  induction d with
  | zero =>
    intro k i hi hk
    obtain ⟨k, rfl⟩ : ∃ m, k = m + 1 := ⟨k - 1, by omega⟩
    obtain ⟨o1, o2⟩ := ordr_in s
    rw [spec_LongestFirst.l0, if_neg (by omega), show i = s.length by omega, spec_l10First_eq roll s _ _ h o1 (by omega) (by omega)]
    simp only [Option.bind_some]
    rw [spec_l10Number_eq _ _ (by rw [ffit_len, List.length_replicate]; omega) (by omega)]
    rfl
  | succ d ih =>
    intro k i hi hk
    have hlen : (ordr s (nums i 0) []).length = i := by simp [ordr_len, nums_len]
    have hin : ∀ x ∈ ordr s (nums i 0) [], 0 ≤ x ∧ x < (s.length : Int) := fun x hx => by
      rcases ordr_mem s _ [] x hx with e | e
      · have := nums_mem i 0 x e; omega
      · simp at e
    obtain ⟨k, rfl⟩ : ∃ m, k = (m + i + 1) + 1 := ⟨k - i - 2, by omega⟩
    obtain ⟨k', hk', e⟩ := spec_LongestFirst_l1 roll s (ordr s (nums i 0) []) h2 i (by omega) hin (by omega) i k 0 (by omega) (fun m _ hm => absurd hm (by omega))
    have next := ih k' (i + 1) (by omega) (by omega)
    rw [nums_snoc, Nat.zero_add, ordr_snoc, show ((i + 1 : Nat) : Int) = (i : Int) + 1 by omega] at next
    rw [spec_LongestFirst.l0, if_pos (by omega)]
    exact e.trans next
theorem spec_LongestFirst_eq (roll : Int) (s : List Int) (k : Nat) (hl : s.length ≤ 1048576) (hk : s.length + 20400 ≤ k) : spec_LongestFirst.f k roll s = some (longestFirst roll s) := by
  unfold spec_LongestFirst.f longestFirst
  rw [spec_IsRollTask_eq roll s k (by omega) (by omega)]
  simp only [Option.bind_some]
  by_cases h : rollTask roll s = true
  · have h2 := (rollTask_true h).2.1
    rw [if_pos h, if_pos h]
    exact spec_LongestFirst_l0 roll s h s.length k 0 (by omega) (by omega)
  · rw [if_neg h, if_neg h]

theorem impl_toInt_eq (b : Bool) : impl_toInt.f b = some (if b = true then 1 else 0) := by
  unfold impl_toInt.f; cases b <;> rfl

theorem impl_sumOf_l0 (xs : List Int) (hl : xs.length ≤ 9223372036854775806) : ∀ (d k i : Nat) (a : Int), i + d = xs.length → d < k → impl_sumOf.l0 k a xs (xs.length : Int) (i : Int) = some (wsum a (xs.drop i)) := by
  intro d
  induction d with
  | zero =>
    intro k i a h hk
    obtain ⟨k, rfl⟩ : ∃ m, k = m + 1 := ⟨k - 1, by omega⟩
    rw [impl_sumOf.l0, if_neg (by omega), List.drop_of_length_le (by omega)]
    rfl
  | succ d ih =>
    intro k i a h hk
    obtain ⟨k, rfl⟩ : ∃ m, k = m + 1 := ⟨k - 1, by omega⟩
    have hi : i < xs.length := by omega
    rw [impl_sumOf.l0, if_pos (by omega), if_pos (by omega), if_pos (by omega), rd_get xs i hi, drop_get xs i hi, w64 (x := (i : Int) + 1) (by omega) (by omega), wsum_cons]
    exact ih k (i + 1) _ (by omega) (by omega)
theorem impl_sumOf_eq (xs : List Int) (k : Nat) (hl : xs.length ≤ 9223372036854775806) (hk : xs.length < k) : impl_sumOf.f k xs = some (wsum 0 xs) := by
  unfold impl_sumOf.f
  exact impl_sumOf_l0 xs hl xs.length k 0 0 (by omega) hk

theorem impl_RollBound_l0 (roll : Int) (s : List Int) (h : rollTask roll s = true) : ∀ (d k i : Nat) (c : Int), i + d = s.length → d + 14 < k → 0 ≤ c → c ≤ i → impl_RollBound.l0 k roll s c s (s.length : Int) (i : Int) = some (max (c + longs roll (s.drop i)) ((s.sum + roll - 1) / roll), 0) := by
  obtain ⟨h1, h2, h3⟩ := rollTask_true h
  obtain ⟨e, l, u⟩ := roll_sum h
  intro d
  induction d with
  | zero =>
    intro k i c hi hk h0 hc
    obtain ⟨k, rfl⟩ : ∃ m, k = m + 1 := ⟨k - 1, by omega⟩
    rw [impl_RollBound.l0, if_neg (by omega), List.drop_of_length_le (by omega), impl_sumOf_eq s k (by omega) (by omega), e]
    simp only [Option.bind_some]
    have h4 : 0 ≤ (s.sum + roll - 1) / roll := Int.ediv_nonneg (by omega) (by omega)
    have h5 : (s.sum + roll - 1) / roll ≤ s.sum + roll - 1 := Int.ediv_le_self _ (by omega)
    rw [if_neg (by omega), w64 (x := s.sum + roll) (by omega) (by omega), w64 (x := s.sum + roll - 1) (by omega) (by omega), tdiv_n (by omega), w64 (by omega) (by omega), mx_max]
    simp only [longs, Int.add_zero]
  | succ d ih =>
    intro k i c hi hk h0 hc
    obtain ⟨k, rfl⟩ : ∃ m, k = m + 1 := ⟨k - 1, by omega⟩
    have hlt : i < s.length := by omega
    have hx := h3 s[i] (List.getElem_mem hlt)
    rw [impl_RollBound.l0, if_pos (by omega), if_pos (by omega), if_pos (by omega), rd_get s i hlt, drop_get s i hlt, w64 (x := 2 * s[i]) (by omega) (by omega), w64 (x := (i : Int) + 1) (by omega) (by omega), longs, impl_toInt_eq]
    simp only [Option.bind_some, decide_eq_true_eq]
    by_cases hg : 2 * s[i] > roll
    · rw [if_pos hg, w64 (by omega) (by omega)]
      have := ih k (i + 1) (c + 1) (by omega) (by omega) (by omega) (by omega)
      rw [show ((i + 1 : Nat) : Int) = (i : Int) + 1 by omega] at this
      rw [this, Int.add_assoc]
    · rw [if_neg hg, w64 (by omega) (by omega), Int.add_zero]
      have := ih k (i + 1) c (by omega) (by omega) (by omega) (by omega)
      rw [show ((i + 1 : Nat) : Int) = (i : Int) + 1 by omega] at this
      rw [this, Int.zero_add]
theorem impl_RollBound_eq (roll : Int) (s : List Int) (k : Nat) (hk : s.length + 20 < k) : impl_RollBound.f k roll s = some (rollBound roll s) := by
  unfold impl_RollBound.f rollBound
  simp only [impl_IsRollTask_eq roll s, Option.bind_some]
  cases h : rollTask roll s
  · simp
  · have := impl_RollBound_l0 roll s h s.length k 0 0 (by omega) (by omega) (by omega) (by omega)
    simp only [if_true]
    rw [List.drop_zero, Int.zero_add] at this
    exact this

theorem spec_l01Ceil_eq (a b : Int) (h0 : 0 ≤ a) (h1 : a ≤ 4611686018427387904) (k0 : 1 ≤ b) (k1 : b ≤ 4611686018427387903) : spec_l01Ceil.f a b = some ((a + b - 1) / b) := by
  unfold spec_l01Ceil.f
  have h3 : 0 ≤ (a + b - 1) / b := Int.ediv_nonneg (by omega) (by omega)
  have h4 : (a + b - 1) / b ≤ a + b - 1 := Int.ediv_le_self _ (by omega)
  rw [if_neg (by omega), w64 (x := a + b) (by omega) (by omega), w64 (x := a + b - 1) (by omega) (by omega), tdiv_n (by omega), w64 (by omega) (by omega)]

theorem spec_l01Sum_l0 (xs : List Int) (hl : xs.length ≤ 9223372036854775806) : ∀ (d k i : Nat) (a : Int), i + d = xs.length → d < k → spec_l01Sum.l0 k xs a (i : Int) = some (wsum a (xs.drop i)) := by
  intro d
  induction d with
  | zero =>
    intro k i a h hk
    obtain ⟨k, rfl⟩ : ∃ m, k = m + 1 := ⟨k - 1, by omega⟩
    rw [spec_l01Sum.l0, if_neg (by omega), List.drop_of_length_le (by omega)]
    rfl
  | succ d ih =>
    intro k i a h hk
    obtain ⟨k, rfl⟩ : ∃ m, k = m + 1 := ⟨k - 1, by omega⟩
    have hi : i < xs.length := by omega
    rw [spec_l01Sum.l0, if_pos (by omega), if_pos (by omega), rd_get xs i hi, drop_get xs i hi, w64 (x := (i : Int) + 1) (by omega) (by omega), wsum_cons]
    exact ih k (i + 1) _ (by omega) (by omega)
theorem spec_l01Sum_eq (xs : List Int) (k : Nat) (hl : xs.length ≤ 9223372036854775806) (hk : xs.length < k) : spec_l01Sum.f k xs = some (wsum 0 xs) := by
  unfold spec_l01Sum.f
  exact spec_l01Sum_l0 xs hl xs.length k 0 0 (by omega) hk

theorem spec_RollBound_l0 (roll : Int) (s : List Int) (h : rollTask roll s = true) : ∀ (d k i : Nat) (c : Int), i + d = s.length → d + 14 < k → 0 ≤ c → c ≤ i → spec_RollBound.l0 k roll s c (i : Int) = some (max (c + longs roll (s.drop i)) ((s.sum + roll - 1) / roll), 0) := by
  obtain ⟨h1, h2, h3⟩ := rollTask_true h
  obtain ⟨e, l, u⟩ := roll_sum h
  intro d
  induction d with
  | zero =>
    intro k i c hi hk h0 hc
    obtain ⟨k, rfl⟩ : ∃ m, k = m + 1 := ⟨k - 1, by omega⟩
    rw [spec_RollBound.l0, if_neg (by omega), List.drop_of_length_le (by omega), spec_l01Sum_eq s k (by omega) (by omega), e]
    simp only [Option.bind_some]
    rw [spec_l01Ceil_eq _ _ (by omega) (by omega) (by omega) (by omega)]
    simp only [Option.bind_some, longs, Int.add_zero, mx_max]
  | succ d ih =>
    intro k i c hi hk h0 hc
    obtain ⟨k, rfl⟩ : ∃ m, k = m + 1 := ⟨k - 1, by omega⟩
    have hlt : i < s.length := by omega
    have hx := h3 s[i] (List.getElem_mem hlt)
    rw [spec_RollBound.l0, if_pos (by omega), if_pos (by omega), rd_get s i hlt, drop_get s i hlt, w64 (x := 2 * s[i]) (by omega) (by omega), w64 (x := (i : Int) + 1) (by omega) (by omega), longs]
    by_cases hg : 2 * s[i] > roll
    · rw [if_pos hg, if_pos hg, w64 (by omega) (by omega)]
      have := ih k (i + 1) (c + 1) (by omega) (by omega) (by omega) (by omega)
      rw [show ((i + 1 : Nat) : Int) = (i : Int) + 1 by omega] at this
      rw [this, Int.add_assoc]
    · rw [if_neg hg, if_neg hg]
      have := ih k (i + 1) c (by omega) (by omega) (by omega) (by omega)
      rw [show ((i + 1 : Nat) : Int) = (i : Int) + 1 by omega] at this
      rw [this, Int.zero_add]
theorem spec_RollBound_eq (roll : Int) (s : List Int) (k : Nat) (hl : s.length ≤ 9223372036854775806) (hk : s.length + 20 < k) : spec_RollBound.f k roll s = some (rollBound roll s) := by
  unfold spec_RollBound.f rollBound
  simp only [spec_IsRollTask_eq roll s k hl (by omega), Option.bind_some]
  cases h : rollTask roll s
  · simp
  · have := spec_RollBound_l0 roll s h s.length k 0 0 (by omega) (by omega) (by omega) (by omega)
    simp only [if_true]
    rw [List.drop_zero, Int.zero_add] at this
    exact this

theorem l10DrawPacking_j1 {c : List Int} (hc : Code c) {q : Int × Int} (hq : SOk q) (k : Nat) (x5 : Int) (x6 x7 : List Int) (b : Bool) (hb : b = true → 0 < x7.length) : ∃ p, spec_l10DrawPacking.j1 (k + 1) x5 x6 x7 b c q.1 q.2 = some p ∧ p.2.1 = x6 ∧ p.2.2.1.length = x7.length := by
  rw [spec_l10DrawPacking.j1]
  refine ite_ok (fun hb1 => bind_ok (next_ok hc hq _) fun a ha => bind_ok (next_ok hc ha.1 5) fun r hr => ?_) (fun _ => ⟨_, rfl, rfl, rfl⟩)
  have h1 := ha.2.1
  have h2 := ha.2.2
  have h3 := hb hb1
  rw [if_pos h1, if_pos (by omega)]
  exact ⟨_, rfl, rfl, by simp⟩
theorem l10DrawPacking_j0 {c : List Int} (hc : Code c) {q : Int × Int} (hq : SOk q) (k : Nat) (x5 : Int) (x6 x7 : List Int) : ∃ p, spec_l10DrawPacking.j0 (k + 2) x5 x6 x7 c q.1 q.2 = some p ∧ p.2.1 = x6 ∧ p.2.2.1.length = x7.length := by
  rw [spec_l10DrawPacking.j0]
  refine ite_ok (fun h => bind_ok (next_ok hc hq 4) fun a ha => ?_) (fun _ => ?_)
  · exact l10DrawPacking_j1 hc ha.1 k x5 x6 x7 _ (fun _ => by omega)
  · exact l10DrawPacking_j1 hc hq k x5 x6 x7 false (by simp)
theorem l10DrawPacking_ok {c : List Int} (hc : Code c) {k : Nat} (hk : 20500 ≤ k) {q : Int × Int} (hq : SOk q) : ∃ p, spec_l10DrawPacking.f k c q.1 q.2 = some p ∧ p.2.1.length ≤ 13 ∧ p.2.2.1.length ≤ 13 := by
  obtain ⟨k, rfl⟩ : ∃ m, k = m + 2 := ⟨k - 2, by omega⟩
  unfold spec_l10DrawPacking.f
  refine bind_ok (l10Draw_ok hc (by omega) hq) fun p hp => ?_
  have f1 := firstFit_len p.1 p.2.1
  have f2 := longestFirst_len p.1 p.2.1
  have f3 := hp.1
  rw [spec_FirstFit_eq p.1 p.2.1 (k + 2) (by omega) (by omega)]
  simp only [Option.bind_some]
  refine ite_ok (fun _ => bind_ok (next_ok hc hp.2 3) fun a ha => ite_ok (fun _ => ?_) (fun _ => ?_)) (fun _ => ⟨_, rfl, hp.1, by simp⟩)
  · rw [spec_LongestFirst_eq p.1 p.2.1 (k + 2) (by omega) (by omega)]
    simp only [Option.bind_some]
    obtain ⟨r, e, h1, h2⟩ := l10DrawPacking_j0 hc ha.1 k p.1 p.2.1 (longestFirst p.1 p.2.1).1
    exact ⟨r, e, by rw [h1]; omega, by omega⟩
  · obtain ⟨r, e, h1, h2⟩ := l10DrawPacking_j0 hc ha.1 k p.1 p.2.1 (firstFit p.1 p.2.1).1
    exact ⟨r, e, by rw [h1]; omega, by omega⟩

theorem DrawSparesOf_ok {c : List Int} (hc : Code c) {k : Nat} (hk : c.length + 20500 < k) : ∃ p, spec_DrawSparesOf.f k c = some p ∧ p.2.1.length ≤ 13 ∧ p.2.2.length ≤ 13 := by
  unfold spec_DrawSparesOf.f
  refine bind_ok (from_ok hc (by omega)) fun p hp => ?_
  rw [hp.1]
  exact bind_ok (l10DrawPacking_ok hc (by omega) hp.2) fun g hg => ⟨_, rfl, hg.1, hg.2⟩

theorem impl_length_int64_eq (xs : List Int) : impl_length_int64.f xs = some (xs.length : Int) := rfl

theorem impl_used_l0 (s p : List Int) (hl : p.length = s.length) (hb : p.length ≤ 12) (hs : ∀ x ∈ s, 1 ≤ x ∧ x ≤ 100000) : ∀ (d k i : Nat) (acc : List Int), i + d = p.length → d < k → rg (p.drop i) acc.length = true → (∀ a ∈ acc, 0 ≤ a ∧ a ≤ i * 100000) → acc.length ≤ i → impl_used.l0 k s acc p (p.length : Int) (i : Int) = some (loads (s.drop i) (p.drop i) acc) := by
  intro d
  induction d with
  | zero =>
    intro k i acc h hk _ _ _
    obtain ⟨k, rfl⟩ : ∃ m, k = m + 1 := ⟨k - 1, by omega⟩
    rw [impl_used.l0, if_neg (by omega), List.drop_of_length_le (by omega), List.drop_of_length_le (by omega)]
    rfl
  | succ d ih =>
    intro k i acc h hk hr ha hal
    obtain ⟨k, rfl⟩ : ∃ m, k = m + 1 := ⟨k - 1, by omega⟩
    have h1 : i < p.length := by omega
    have h2 : i < s.length := by omega
    rw [drop_get p i h1] at hr ⊢
    rw [drop_get s i h2]
    simp only [rg, Bool.and_eq_true] at hr
    have hp := inR_true hr.1
    have hx := hs s[i] (List.getElem_mem h2)
    have hrr := room_rd hr.1 (by omega) ha
    have hm := addTo_mem (C := ((i + 1 : Nat) : Int) * 100000) hr.1 (by omega) ha (show 0 ≤ s[i] by omega) (by omega)
    have hln := addTo_len s[i] hr.1
    have next := ih k (i + 1) (addTo acc p[i] s[i]) (by omega) (by omega) (by rw [hln]; exact hr.2) hm (by omega)
    rw [loads]
    rw [impl_used.l0, if_pos (by omega), if_pos (by omega), if_pos (by omega), impl_length_int64_eq, rd_get p i h1]
    simp only [Option.bind_some]
    by_cases e : p[i] = (acc.length : Int)
    · have er : room acc p[i] = acc ++ [0] := if_pos e
      unfold addTo at next
      rw [er] at next hrr
      rw [if_pos e, if_pos (by omega), if_pos (by omega), if_pos (by simp only [List.length_append, List.length_cons, List.length_nil]; omega), if_pos (by omega), rd_get s i h2, w64 (x := rd (acc ++ [0]) p[i] + s[i]) (by omega) (by omega), w64 (by omega) (by omega)]
      unfold addTo
      rw [er]
      exact next
    · have er : room acc p[i] = acc := if_neg e
      unfold addTo at next
      rw [er] at next hrr
      rw [if_neg e, if_pos (by omega), if_pos (by omega), if_pos (by omega), rd_get s i h2, w64 (x := rd acc p[i] + s[i]) (by omega) (by omega), w64 (by omega) (by omega)]
      unfold addTo
      rw [er]
      exact next
theorem impl_used_eq (s p : List Int) (k : Nat) (hl : p.length = s.length) (hb : p.length ≤ 12) (hs : ∀ x ∈ s, 1 ≤ x ∧ x ≤ 100000) (hr : rg p 0 = true) (hk : 40 ≤ k) : impl_used.f k s p = some (loads s p []) := by
  unfold impl_used.f
  exact impl_used_l0 s p hl hb hs p.length k 0 [] (by omega) (by omega) hr (by simp) (by simp)

theorem impl_IsPacking_l0 (roll : Int) (s p : List Int) (hl : p.length = s.length) (hb : p.length ≤ 12) (hs : ∀ x ∈ s, 1 ≤ x ∧ x ≤ 100000) : ∀ (d k i : Nat) (n : Int), i + d = p.length → d + 60 < k → 0 ≤ n → n ≤ i → (rg p 0 = rg (p.drop i) n) → impl_IsPacking.l0 k roll s p n p (p.length : Int) (i : Int) = some (rg p 0 && (loads s p []).all fun a => decide (a ≤ roll)) := by
  intro d
  induction d with
  | zero =>
    intro k i n h hk h0 hn hr
    obtain ⟨k, rfl⟩ : ∃ m, k = m + 1 := ⟨k - 1, by omega⟩
    have hr2 : rg p 0 = true := by rw [hr, List.drop_of_length_le (by omega)]; rfl
    have hok := loads_ok s p [] 0 hr2 hs (by omega) (by simp)
    rw [impl_IsPacking.l0, if_neg (by omega), impl_used_eq s p k hl hb hs hr2 (by omega)]
    simp only [Option.bind_some, impl_allIn_eq]
    rw [hr2, Bool.true_and]
    congr 1
    unfold allR
    rw [Bool.eq_iff_iff, List.all_eq_true, List.all_eq_true]
    constructor
    · intro h a ha
      have := inR_true (h a ha)
      exact decide_eq_true this.2
    · intro h a ha
      exact inR_mk (hok a ha).1 (of_decide_eq_true (h a ha))
  | succ d ih =>
    intro k i n h hk h0 hn hr
    obtain ⟨k, rfl⟩ : ∃ m, k = m + 1 := ⟨k - 1, by omega⟩
    have h1 : i < p.length := by omega
    rw [drop_get p i h1, rg] at hr
    rw [impl_IsPacking.l0, if_pos (by omega), if_pos (by omega), if_pos (by omega), rd_get p i h1, impl_inRange_eq]
    simp only [Option.bind_some]
    cases e : inR p[i] 0 n
    · rw [hr, e]; simp
    · have h2 := inR_true e
      rw [e, Bool.true_and] at hr
      simp only [if_true]
      rw [w64 (x := p[i] + 1) (by omega) (by omega), w64 (x := (i : Int) + 1) (by omega) (by omega), mx_max]
      exact ih k (i + 1) _ (by omega) (by omega) (by omega) (by omega) hr
theorem impl_IsPacking_eq (roll : Int) (s p : List Int) (k : Nat) (hk : s.length + 80 < k) : impl_IsPacking.f k roll s p = some (isPacking roll s p) := by
  obtain ⟨k, rfl⟩ : ∃ m, k = m + 1 := ⟨k - 1, by omega⟩
  unfold impl_IsPacking.f isPacking
  simp only [impl_IsRollTask_eq, Option.bind_some]
  cases h : rollTask roll s
  · simp [impl_IsPacking.j0]
  obtain ⟨h1, h2, h3⟩ := rollTask_true h
  simp only [if_true, impl_IsPacking.j0, Bool.true_and]
  by_cases e : p.length = s.length
  · have e2 : ((p.length : Int) != (s.length : Int)) = false := bne_eq_false_iff_eq.mpr (by omega)
    rw [e2, decide_eq_true e, if_neg (by simp)]
    simp only [Bool.true_and]
    exact impl_IsPacking_l0 roll s p e (by omega) (fun x hx => by have := h3 x hx; omega) p.length k 0 0 (by omega) (by omega) (by omega) (by omega) rfl
  · have e2 : ((p.length : Int) != (s.length : Int)) = true := bne_iff_ne.mpr (by omega)
    rw [e2, decide_eq_false e]; simp

theorem impl_SparesOf_l0 (roll : Int) (hr : 0 ≤ roll ∧ roll ≤ 100000) (n : Nat) (hn : n ≤ 1048576) : ∀ (d k i : Nat) (xs : List Int), xs.length = n → i + d = n → d < k → (∀ x ∈ xs.drop i, 0 ≤ x ∧ x ≤ 1200000) → impl_SparesOf.l0 k roll xs (n : Int) (i : Int) = some (xs.take i ++ (xs.drop i).map (fun x => roll - x), 0) := by
  intro d
  induction d with
  | zero =>
    intro k i xs hx h hk _
    obtain ⟨k, rfl⟩ : ∃ m, k = m + 1 := ⟨k - 1, by omega⟩
    rw [impl_SparesOf.l0, if_neg (by omega), List.drop_of_length_le (by omega), List.take_of_length_le (by omega)]
    simp
  | succ d ih =>
    intro k i xs hx h hk hb
    obtain ⟨k, rfl⟩ : ∃ m, k = m + 1 := ⟨k - 1, by omega⟩
    have hi : i < xs.length := by omega
    rw [drop_get xs i hi] at hb
    have b1 := hb xs[i] (.head _)
    rw [impl_SparesOf.l0, if_pos (by omega), if_pos (by omega), if_pos (by omega), rd_get xs i hi, w64 (x := roll - xs[i]) (by omega) (by omega), w64 (x := (i : Int) + 1) (by omega) (by omega), Int.toNat_natCast, ← set_map xs i hi (fun x => roll - x)]
    exact ih k (i + 1) _ (by rw [List.length_set]; exact hx) (by omega) (by omega) (by rw [List.drop_set_of_lt (Nat.lt_succ_self i)]; exact fun x hx => hb x (.tail _ hx))
theorem impl_SparesOf_eq (roll : Int) (s p : List Int) (k : Nat) (hk : s.length + 80 < k) : impl_SparesOf.f k roll s p = some (sparesOf roll s p) := by
  unfold impl_SparesOf.f sparesOf
  rw [impl_IsRollTask_eq roll s]
  simp only [Option.bind_some]
  cases h1 : rollTask roll s
  · simp
  rw [if_pos rfl, if_pos rfl, impl_IsPacking_eq roll s p k hk]
  simp only [Option.bind_some]
  cases h2 : isPacking roll s p
  · simp
  obtain ⟨g1, g2, g3, g4, g5, g6, g7⟩ := spares_ok h1 h2
  have g0 := (rollTask_true h1).1
  rw [if_pos rfl, if_pos rfl, impl_used_eq s p k g1 (by omega) g3 g4 (by omega)]
  simp only [Option.bind_some]
  exact (impl_SparesOf_l0 roll (by omega) _ (by omega) (loads s p []).length k 0 _ rfl (by omega) (by omega) (by rw [List.drop_zero]; exact g5)).trans (by rw [List.drop_zero, List.take_zero, List.nil_append])

theorem spec_l10Loads_l0 (s p : List Int) (hl : p.length = s.length) (hb : p.length ≤ 12) (hs : ∀ x ∈ s, 1 ≤ x ∧ x ≤ 100000) : ∀ (d k i : Nat) (acc : List Int), i + d = p.length → 3 * d + 2 ≤ k → rg (p.drop i) acc.length = true → (∀ a ∈ acc, 0 ≤ a ∧ a ≤ i * 100000) → acc.length ≤ i → spec_l10Loads.l0 k s p acc (i : Int) = some (loads (s.drop i) (p.drop i) acc) := by
  intro d
  induction d with
  | zero =>
    intro k i acc h hk _ _ _
    obtain ⟨k, rfl⟩ : ∃ m, k = m + 1 := ⟨k - 1, by omega⟩
    rw [spec_l10Loads.l0, if_neg (by omega), List.drop_of_length_le (by omega), List.drop_of_length_le (by omega)]
    rfl
  | succ d ih =>
    intro k i acc h hk hr ha hal
    obtain ⟨k, rfl⟩ : ∃ m, k = m + 3 := ⟨k - 3, by omega⟩
    have h1 : i < p.length := by omega
    have h2 : i < s.length := by omega
    rw [drop_get p i h1] at hr ⊢
    rw [drop_get s i h2]
    simp only [rg, Bool.and_eq_true] at hr
    have hp := inR_true hr.1
    have hx := hs s[i] (List.getElem_mem h2)
    have hrr := room_rd hr.1 (by omega) ha
    have hm := addTo_mem (C := ((i + 1 : Nat) : Int) * 100000) hr.1 (by omega) ha (show 0 ≤ s[i] by omega) (by omega)
    have hln := addTo_len s[i] hr.1
    have next := ih k (i + 1) (addTo acc p[i] s[i]) (by omega) (by omega) (by rw [hln]; exact hr.2) hm (by omega)
    have next1 := ih (k + 1) (i + 1) (addTo acc p[i] s[i]) (by omega) (by omega) (by rw [hln]; exact hr.2) hm (by omega)
    rw [loads]
    rw [spec_l10Loads.l0, if_pos (by omega), spec_l10Loads.l1, if_pos (by omega), if_pos (by omega), rd_get p i h1]
    by_cases e : p[i] = (acc.length : Int)
    · have er : room acc p[i] = acc ++ [0] := if_pos e
      unfold addTo at next hln
      rw [er] at next hrr hln
      rw [if_pos (by omega), if_pos (by omega), spec_l10Loads.l1, if_pos (by omega), if_pos (by omega), rd_get p i h1]
      rw [if_neg (by simp only [List.length_append, List.length_cons, List.length_nil]; omega), if_pos (by omega), if_pos (by simp only [List.length_append, List.length_cons, List.length_nil]; omega), if_pos (by omega), rd_get s i h2, w64 (x := rd (acc ++ [0]) p[i] + s[i]) (by omega) (by omega), w64 (by omega) (by omega)]
      unfold addTo
      rw [er]
      exact next
    · have er : room acc p[i] = acc := if_neg e
      unfold addTo at next1
      rw [er] at next1 hrr
      rw [if_neg (by omega), if_pos (by omega), if_pos (by omega), if_pos (by omega), rd_get s i h2, w64 (x := rd acc p[i] + s[i]) (by omega) (by omega), w64 (by omega) (by omega)]
      unfold addTo
      rw [er]
      exact next1
theorem spec_l10Loads_eq (s p : List Int) (k : Nat) (hl : p.length = s.length) (hb : p.length ≤ 12) (hs : ∀ x ∈ s, 1 ≤ x ∧ x ≤ 100000) (hr : rg p 0 = true) (hk : 40 ≤ k) : spec_l10Loads.f k s p = some (loads s p []) := by
  unfold spec_l10Loads.f
  exact spec_l10Loads_l0 s p hl hb hs p.length k 0 [] (by omega) (by omega) hr (by simp) (by simp)

theorem loads_len : ∀ (s p acc : List Int), rg p acc.length = true → (loads s p acc).length ≤ acc.length + p.length
  | [], p, acc, _ => by rw [loads.eq_def]; simp only; omega
  | s :: ss, [], acc, _ => by rw [loads.eq_def]; simp
  | s :: ss, p :: ps, acc, hr => by
    simp only [rg, Bool.and_eq_true] at hr
    have h0 := inR_true hr.1
    have h1 := addTo_len s hr.1
    have h2 := loads_len ss ps (addTo acc p s) (by rw [h1]; exact hr.2)
    rw [loads]
    simp only [List.length_cons]
    omega
theorem spec_IsPacking_l1 (roll : Int) (xs : List Int) (hl : xs.length ≤ 9223372036854775806) : ∀ (d k i : Nat), i + d = xs.length → d < k → spec_IsPacking.l1 k roll xs (i : Int) = some ((xs.drop i).all fun a => decide (a ≤ roll)) := by
  intro d
  induction d with
  | zero =>
    intro k i h hk
    obtain ⟨k, rfl⟩ : ∃ m, k = m + 1 := ⟨k - 1, by omega⟩
    rw [spec_IsPacking.l1, if_neg (by omega), List.drop_of_length_le (by omega)]
    rfl
  | succ d ih =>
    intro k i h hk
    obtain ⟨k, rfl⟩ : ∃ m, k = m + 1 := ⟨k - 1, by omega⟩
    have h1 : i < xs.length := by omega
    rw [spec_IsPacking.l1, if_pos (by omega), if_pos (by omega), rd_get xs i h1, drop_get xs i h1, List.all_cons]
    by_cases e : xs[i] > roll
    · rw [if_pos e, decide_eq_false (by omega)]; rfl
    · rw [if_neg e, decide_eq_true (by omega), w64 (by omega) (by omega), Bool.true_and]
      exact ih k (i + 1) (by omega) (by omega)
theorem spec_IsPacking_l0 (roll : Int) (s p : List Int) (hl : p.length = s.length) (hb : p.length ≤ 12) (hs : ∀ x ∈ s, 1 ≤ x ∧ x ≤ 100000) : ∀ (d k i : Nat) (n : Int), i + d = p.length → d + 60 < k → 0 ≤ n → n ≤ i → (rg p 0 = rg (p.drop i) n) → spec_IsPacking.l0 k roll s p n (i : Int) = some (rg p 0 && (loads s p []).all fun a => decide (a ≤ roll)) := by
  intro d
  induction d with
  | zero =>
    intro k i n h hk h0 hn hr
    obtain ⟨k, rfl⟩ : ∃ m, k = m + 1 := ⟨k - 1, by omega⟩
    have hr2 : rg p 0 = true := by rw [hr, List.drop_of_length_le (by omega)]; rfl
    have hll := loads_len s p [] hr2
    simp only [List.length_nil] at hll
    rw [spec_IsPacking.l0, if_neg (by omega), spec_l10Loads_eq s p k hl hb hs hr2 (by omega)]
    simp only [Option.bind_some]
    rw [hr2, Bool.true_and]
    exact spec_IsPacking_l1 roll _ (by omega) (loads s p []).length k 0 (by omega) (by omega)
  | succ d ih =>
    intro k i n h hk h0 hn hr
    obtain ⟨k, rfl⟩ : ∃ m, k = m + 1 := ⟨k - 1, by omega⟩
    have h1 : i < p.length := by omega
    rw [drop_get p i h1, rg] at hr
    rw [spec_IsPacking.l0, if_pos (by omega), if_pos (by omega), rd_get p i h1, spec_l01In_eq]
    simp only [Option.bind_some]
    cases e : inR p[i] 0 n
    · rw [hr, e]; simp
    · have h2 := inR_true e
      rw [e, Bool.true_and] at hr
      simp only [if_true]
      rw [w64 (x := p[i] + 1) (by omega) (by omega), w64 (x := (i : Int) + 1) (by omega) (by omega), mx_max]
      exact ih k (i + 1) _ (by omega) (by omega) (by omega) (by omega) hr
theorem spec_IsPacking_eq (roll : Int) (s p : List Int) (k : Nat) (hls : s.length ≤ 9223372036854775806) (hk : s.length + 80 < k) : spec_IsPacking.f k roll s p = some (isPacking roll s p) := by
  obtain ⟨k, rfl⟩ : ∃ m, k = m + 1 := ⟨k - 1, by omega⟩
  unfold spec_IsPacking.f isPacking
  simp only [spec_IsRollTask_eq roll s (k + 1) hls (by omega), Option.bind_some]
  cases h : rollTask roll s
  · simp [spec_IsPacking.j0]
  obtain ⟨h1, h2, h3⟩ := rollTask_true h
  simp only [if_true, spec_IsPacking.j0, Bool.true_and]
  by_cases e : p.length = s.length
  · have e2 : ((p.length : Int) != (s.length : Int)) = false := bne_eq_false_iff_eq.mpr (by omega)
    rw [e2, decide_eq_true e, if_neg (by simp)]
    simp only [Bool.true_and]
    exact spec_IsPacking_l0 roll s p e (by omega) (fun x hx => by have := h3 x hx; omega) p.length k 0 0 (by omega) (by omega) (by omega) (by omega) rfl
  · have e2 : ((p.length : Int) != (s.length : Int)) = true := bne_iff_ne.mpr (by omega)
    rw [e2, decide_eq_false e]; simp

theorem spec_SparesOf_l0 (roll : Int) (hr : 0 ≤ roll ∧ roll ≤ 100000) (n : Nat) (hn : n ≤ 1048576) : ∀ (d k i : Nat) (xs : List Int), xs.length = n → i + d = n → d < k → (∀ x ∈ xs.drop i, 0 ≤ x ∧ x ≤ 1200000) → spec_SparesOf.l0 k roll xs (i : Int) = some (xs.take i ++ (xs.drop i).map (fun x => roll - x), 0) := by
  intro d
  induction d with
  | zero =>
    intro k i xs hx h hk _
    obtain ⟨k, rfl⟩ : ∃ m, k = m + 1 := ⟨k - 1, by omega⟩
    rw [spec_SparesOf.l0, if_neg (by omega), List.drop_of_length_le (by omega), List.take_of_length_le (by omega)]
    simp
  | succ d ih =>
    intro k i xs hx h hk hb
    obtain ⟨k, rfl⟩ : ∃ m, k = m + 1 := ⟨k - 1, by omega⟩
    have hi : i < xs.length := by omega
    rw [drop_get xs i hi] at hb
    have b1 := hb xs[i] (.head _)
    rw [spec_SparesOf.l0, if_pos (by omega), if_pos (by omega), rd_get xs i hi, w64 (x := roll - xs[i]) (by omega) (by omega), w64 (x := (i : Int) + 1) (by omega) (by omega), Int.toNat_natCast, ← set_map xs i hi (fun x => roll - x)]
    exact ih k (i + 1) _ (by rw [List.length_set]; exact hx) (by omega) (by omega) (by rw [List.drop_set_of_lt (Nat.lt_succ_self i)]; exact fun x hx => hb x (.tail _ hx))
theorem spec_SparesOf_eq (roll : Int) (s p : List Int) (k : Nat) (hls : s.length ≤ 9223372036854775806) (hk : s.length + 80 < k) : spec_SparesOf.f k roll s p = some (sparesOf roll s p) := by
  unfold spec_SparesOf.f sparesOf
  rw [spec_IsRollTask_eq roll s k hls (by omega)]
  simp only [Option.bind_some]
  cases h1 : rollTask roll s
  · simp
  rw [if_pos rfl, if_pos rfl, spec_IsPacking_eq roll s p k hls hk]
  simp only [Option.bind_some]
  cases h2 : isPacking roll s p
  · simp
  obtain ⟨g1, g2, g3, g4, g5, g6, g7⟩ := spares_ok h1 h2
  have g0 := (rollTask_true h1).1
  rw [if_pos rfl, if_pos rfl, spec_l10Loads_eq s p k g1 (by omega) g3 g4 (by omega)]
  simp only [Option.bind_some]
  exact (spec_SparesOf_l0 roll (by omega) _ (by omega) (loads s p []).length k 0 _ rfl (by omega) (by omega) (by rw [List.drop_zero]; exact g5)).trans (by rw [List.drop_zero, List.take_zero, List.nil_append])

theorem laws_likeInts_l0 (l : List Int) (hl : l.length ≤ 9223372036854775806) : ∀ (d k i : Nat), i + d = l.length → d < k → laws_likeInts.l0 k l l (i : Int) = some true := by
  intro d
  induction d with
  | zero =>
    intro k i h hk
    obtain ⟨k, rfl⟩ : ∃ m, k = m + 1 := ⟨k - 1, by omega⟩
    rw [laws_likeInts.l0, if_neg (by omega)]
  | succ d ih =>
    intro k i h hk
    obtain ⟨k, rfl⟩ : ∃ m, k = m + 1 := ⟨k - 1, by omega⟩
    rw [laws_likeInts.l0, if_pos (by omega), if_pos (by omega), if_pos (by omega), if_pos rfl, w64 (x := (i : Int) + 1) (by omega) (by omega)]
    exact ih k (i + 1) (by omega) (by omega)
theorem laws_likeInts_eq (l : List Int) (k : Nat) (hl : l.length ≤ 9223372036854775806) (hk : l.length < k) : laws_likeInts.f k l l = some true := by
  unfold laws_likeInts.f
  rw [if_pos rfl]
  exact laws_likeInts_l0 l hl l.length k 0 (by omega) hk

theorem laws_sum_l0 (l : List Int) (hl : l.length ≤ 1000) (hb : ∀ x ∈ l, -1200000 ≤ x ∧ x ≤ 1200000) : ∀ (d k i : Nat) (a : Int), i + d = l.length → d < k → -1200000 * (i : Int) ≤ a → a ≤ 1200000 * (i : Int) → laws_sum.l0 k l a (i : Int) = some (a + (l.drop i).sum) := by
  intro d
  induction d with
  | zero =>
    intro k i a h hk h1 h2
    obtain ⟨k, rfl⟩ : ∃ m, k = m + 1 := ⟨k - 1, by omega⟩
    rw [laws_sum.l0, if_neg (by omega), List.drop_of_length_le (by omega)]
    simp
  | succ d ih =>
    intro k i a h hk h1 h2
    obtain ⟨k, rfl⟩ : ∃ m, k = m + 1 := ⟨k - 1, by omega⟩
    have hlt : i < l.length := by omega
    have hx := hb l[i] (List.getElem_mem hlt)
    rw [laws_sum.l0, if_pos (by omega), if_pos (by omega), rd_get l i hlt, drop_get l i hlt, w64 (x := a + l[i]) (by omega) (by omega), w64 (x := (i : Int) + 1) (by omega) (by omega), List.sum_cons]
    have := ih k (i + 1) (a + l[i]) (by omega) (by omega) (by omega) (by omega)
    rw [show ((i + 1 : Nat) : Int) = (i : Int) + 1 by omega] at this
    rw [this]
    congr 1
    omega
theorem laws_sum_eq (l : List Int) (k : Nat) (hl : l.length ≤ 1000) (hb : ∀ x ∈ l, -1200000 ≤ x ∧ x ≤ 1200000) (hk : l.length < k) : laws_sum.f k l = some l.sum := by
  have := laws_sum_l0 l hl hb l.length k 0 0 (by omega) hk (by omega) (by omega)
  rw [Int.zero_add, List.drop_zero] at this
  exact this

theorem sum_spares (roll : Int) : ∀ xs : List Int, (xs.map (fun x => roll - x)).sum = xs.length * roll - xs.sum
  | [] => by simp
  | x :: xs => by
    rw [List.map_cons, List.sum_cons, sum_spares roll xs, List.sum_cons, List.length_cons, show ((xs.length + 1 : Nat) : Int) * roll = xs.length * roll + roll by rw [show ((xs.length + 1 : Nat) : Int) = (xs.length : Int) + 1 by omega, Int.add_mul, Int.one_mul]]
    omega
theorem sparesOf_zero {roll : Int} {s p : List Int} : (sparesOf roll s p).2 = 0 ↔ isPacking roll s p = true := by
  unfold sparesOf
  by_cases h : rollTask roll s = true
  · by_cases h2 : isPacking roll s p = true
    · simp [h, h2]
    · simp [h, h2]
  · have h2 : isPacking roll s p = false := by unfold isPacking; rw [Bool.eq_false_iff.2 h]; rfl
    simp [h, h2]
theorem firstFit_zero {roll : Int} {s : List Int} : (firstFit roll s).2 = 0 ↔ rollTask roll s = true := by
  unfold firstFit
  by_cases h : rollTask roll s = true
  · simp [h]
  · simp [h]
theorem FnPackings_j1 (roll : Int) (s : List Int) (k : Nat) (hs : s.length ≤ 13) (hk : 200 ≤ k) : laws_FnPackings.j1 (k + 1) roll s (firstFit roll s).1 (firstFit roll s).2 (longestFirst roll s).1 (rollBound roll s).1 false = some true := by
  rw [laws_FnPackings.j1, if_neg (by simp)]
  by_cases h : rollTask roll s = true
  · have hf := ff_packing h
    have hp := longest_packing h
    have ef : (firstFit roll s).1 = ff roll s [] := by unfold firstFit; rw [if_pos h]
    obtain ⟨_, c1⟩ := packing_bound hf
    obtain ⟨_, c2⟩ := packing_bound hp
    have es : ∀ p, isPacking roll s p = true → sparesOf roll s p = ((loads s p []).map (fun x => roll - x), 0) := fun p h2 => by unfold sparesOf; rw [if_pos h, if_pos h2]
    rw [if_pos (firstFit_zero.2 h), ef, impl_SparesOf_eq roll s _ k (by omega), impl_SparesOf_eq roll s _ k (by omega), es _ hf, es _ hp]
    simp only [Option.bind_some, List.length_map, if_true]
    rw [if_pos (by omega), decide_eq_true (by omega)]
  · rw [if_neg (fun e => h (firstFit_zero.1 e))]
theorem FnPackings_j0 (roll : Int) (s : List Int) (x : Int) (t p : List Int) (k : Nat) (hs : s.length ≤ 13) (ht : t.length ≤ 13) (hk : 300 ≤ k) : laws_FnPackings.j0 (k + 1) roll s (firstFit roll s).1 (firstFit roll s).2 (longestFirst roll s).1 (rollBound roll s).1 x t (sparesOf x t p).1 (sparesOf x t p).2 false = some true := by
  rw [laws_FnPackings.j0, if_neg (by simp)]
  obtain ⟨k, rfl⟩ : ∃ m, k = m + 1 := ⟨k - 1, by omega⟩
  have j1 := FnPackings_j1 roll s k hs (by omega)
  by_cases h : (sparesOf x t p).2 = 0
  · have hi := sparesOf_zero.1 h
    have h1 : rollTask x t = true := by simp only [isPacking, Bool.and_eq_true] at hi; exact hi.1
    obtain ⟨g1, g2, g3, g4, g5, g6, g7⟩ := spares_ok h1 hi
    have r1 := (rollTask_true h1).1
    have e : sparesOf x t p = ((loads t p []).map (fun y => x - y), 0) := by unfold sparesOf; rw [if_pos h1, if_pos hi]
    rw [if_pos h, e, laws_sum_eq _ (k + 1) (by rw [List.length_map]; omega) (fun y hy => by
      obtain ⟨z, hz, rfl⟩ := List.mem_map.1 hy
      have := g5 z hz
      omega) (by rw [List.length_map]; omega), laws_sum_eq t (k + 1) (by omega) (fun y hy => by have := g3 y hy; omega) (by omega)]
    simp only [Option.bind_some, List.length_map]
    rw [sum_spares, loads_sum t p [] g1 g4, List.sum_nil, Int.zero_add, show (((loads t p []).length : Int) * x - t.sum + t.sum) = ((loads t p []).length : Int) * x by omega, bne_self_eq_false]
    exact j1
  · rw [if_neg h]
    exact j1
theorem FnPackings : laws_FnPackings.Pure := by
  intro l _ _ hb
  by_cases hbig : (l.length : Int) > 4096
  · exact ⟨1, by unfold laws_FnPackings.f; rw [laws_big_eq, decide_eq_true hbig]; rfl⟩
  have hc : Code l := ⟨fun x hx => wfByte (hb x hx), by omega⟩
  obtain ⟨⟨roll, s⟩, e1, hs⟩ := DrawFirstFit_ok hc (k := 30001) (by omega)
  obtain ⟨⟨x, t, p⟩, e2, ht, hp⟩ := DrawSparesOf_ok hc (k := 30001) (by omega)
  simp only at hs ht hp
  have l1 := firstFit_len roll s
  have l2 := longestFirst_len roll s
  have l3 := sparesOf_len x t p
  have z1 : (isPacking x t p != ((sparesOf x t p).2 == 0)) = false := by
    rw [bne_eq_false_iff_eq, Bool.eq_iff_iff, beq_iff_eq, sparesOf_zero]
  have z2 : (rollTask roll s != ((firstFit roll s).2 == 0)) = false := by
    rw [bne_eq_false_iff_eq, Bool.eq_iff_iff, beq_iff_eq, firstFit_zero]
  refine ⟨30001, ?_⟩
  unfold laws_FnPackings.f
  rw [laws_big_eq, decide_eq_false hbig, e1]
  simp only [Option.bind_some, Bool.false_eq_true, if_false]
  rw [impl_FirstFit_eq roll s 30001 (by omega), spec_FirstFit_eq roll s 30001 (by omega) (by omega), impl_LongestFirst_eq roll s 30001 (by omega), spec_LongestFirst_eq roll s 30001 (by omega) (by omega), impl_RollBound_eq roll s 30001 (by omega), spec_RollBound_eq roll s 30001 (by omega) (by omega), e2]
  simp only [Option.bind_some]
  rw [impl_SparesOf_eq x t p 30001 (by omega), spec_SparesOf_eq x t p 30001 (by omega) (by omega)]
  simp only [Option.bind_some, if_true]
  rw [laws_likeInts_eq _ 30001 (by omega) (by omega), laws_likeInts_eq _ 30001 (by omega) (by omega), laws_likeInts_eq _ 30001 (by omega) (by omega)]
  simp only [Option.bind_some, if_true]
  rw [impl_IsPacking_eq x t p 30001 (by omega), impl_IsRollTask_eq]
  simp only [Option.bind_some, z1, z2, Bool.false_eq_true, if_false]
  exact FnPackings_j0 roll s x t p 30000 hs ht (by omega)

end Go.Proofs.Ytaapnjhgkbjdkaa.Pure
