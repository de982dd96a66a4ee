/- For all arguments the law FnExactLongestFirst returns true, with no condition beyond the bounds that the printed statement names. -/
import Derived.Test.YtaapnjhgkbjdkaaPFnExactLongestFirstx7
namespace Go.Proofs.Ytaapnjhgkbjdkaa.Pure
open Go.RowKit Go.Proofs.Ytaapnjhgkbjdkaa.PFnExactLongestFirst Go.Proofs.YtaapnjhgkbjdkaaW.PrintWords Go.Proofs.YtaapnjhgkbjdkaaW.PrintLast
set_option linter.unusedVariables false
set_option linter.unusedSimpArgs false

theorem w64 {x : Int} (h1 : -9223372036854775808 ≤ x) (h2 : x ≤ 9223372036854775807) : wrap64 x = x := by
  unfold wrap64; omega
theorem wf64 {x : Int} (h : (Lit.int .i64 x).wf = true) : -9223372036854775808 ≤ x ∧ x ≤ 9223372036854775807 := by
  simp [Lit.wf, IntKind.min, IntKind.max, IntKind.signed, IntKind.bits] at h
  omega
/-- 'a lies from b to c'. -/
def inR (a b c : Int) : Bool := decide (b ≤ a ∧ a ≤ c)
theorem inR_true {a b c : Int} (h : inR a b c = true) : b ≤ a ∧ a ≤ c := by simpa [inR] using h
theorem inR_mk {a b c : Int} (h1 : b ≤ a) (h2 : a ≤ c) : inR a b c = true := by simp [inR, h1, h2]
theorem inR_false {a b c : Int} (h : inR a b c = false) : a < b ∨ c < a := by
  have : ¬ (b ≤ a ∧ a ≤ c) := by simpa [inR] using h
  omega
theorem rd_nat (xs : List Int) (i : Nat) : rd xs (i : Int) = xs.getD i 0 := by simp [rd]
theorem mul_bd {a b A B : Int} (h0 : 0 ≤ a) (h1 : a ≤ A) (k0 : 0 ≤ b) (k1 : b ≤ B) : 0 ≤ a * b ∧ a * b ≤ A * B :=
  ⟨Int.mul_nonneg h0 k0, Int.mul_le_mul h1 k1 k0 (by omega)⟩
theorem tdiv_n {a b : Int} (h : 0 ≤ a) : Int.tdiv a b = a / b := Int.tdiv_eq_ediv_of_nonneg h
theorem tmod_n {a b : Int} (h : 0 ≤ a) : Int.tmod a b = a % b := Int.tmod_eq_emod_of_nonneg h
theorem mn_min (a b : Int) : mn a b = min a b := by unfold mn; split <;> omega
theorem mx_max (a b : Int) : mx a b = max a b := by unfold mx; split <;> omega

def allR (xs : List Int) (lo hi : Int) : Bool := xs.all fun x => inR x lo hi
theorem allR_mem {xs : List Int} {lo hi : Int} (h : allR xs lo hi = true) : ∀ x ∈ xs, lo ≤ x ∧ x ≤ hi := fun x hx => inR_true (List.all_eq_true.1 h x hx)
theorem drop_get (xs : List Int) (i : Nat) (hi : i < xs.length) : xs.drop i = xs[i] :: xs.drop (i + 1) := List.drop_eq_getElem_cons hi
theorem rd_get (xs : List Int) (i : Nat) (hi : i < xs.length) : rd xs (i : Int) = xs[i] := by rw [rd_nat, List.getD_eq_getElem?_getD, List.getElem?_eq_getElem hi]; rfl
/-- The sum, as the program adds it up. -/
def wsum (a : Int) (xs : List Int) : Int := xs.foldl (fun a x => wrap64 (a + x)) a
theorem wsum_cons (a x : Int) (xs : List Int) : wsum a (x :: xs) = wsum (wrap64 (a + x)) xs := rfl
theorem wsum_eq : ∀ (xs : List Int) (a : Int), (∀ x ∈ xs, 0 ≤ x ∧ x ≤ 1000000) → 0 ≤ a → a + xs.length * 1000000 ≤ 4611686018427387904 → wsum a xs = a + xs.sum ∧ 0 ≤ xs.sum ∧ xs.sum ≤ xs.length * 1000000
  | [], a, _, h0, _ => ⟨by simp [wsum], by simp, by simp⟩
  | x :: xs, a, h, h0, hb => by
    have hx := h x (by simp)
    simp only [List.length_cons] at hb ⊢
    obtain ⟨e, l, u⟩ := wsum_eq xs (a + x) (fun y hy => h y (by simp [hy])) (by omega) (by omega)
    rw [wsum_cons, w64 (by omega) (by omega), e, List.sum_cons]
    exact ⟨by omega, by omega, by omega⟩

def rollTask (roll : Int) (s : List Int) : Bool := inR roll 1 100000 && (decide ((s.length : Int) ≤ 12) && allR s 1 roll)
theorem rollTask_true {roll : Int} {s : List Int} (h : rollTask roll s = true) : (1 ≤ roll ∧ roll ≤ 100000) ∧ s.length ≤ 12 ∧ ∀ x ∈ s, 1 ≤ x ∧ x ≤ roll := by
  simp only [rollTask, Bool.and_eq_true, decide_eq_true_eq] at h
  exact ⟨inR_true h.1, by omega, allR_mem h.2.2⟩
theorem roll_sum {roll : Int} {s : List Int} (h : rollTask roll s = true) : wsum 0 s = s.sum ∧ 0 ≤ s.sum ∧ s.sum ≤ 12000000 := by
  obtain ⟨h1, h2, h3⟩ := rollTask_true h
  obtain ⟨e, l, u⟩ := wsum_eq s 0 (fun x hx => by have := h3 x hx; omega) (by omega) (by omega)
  exact ⟨by omega, l, by omega⟩
/-- How many strips are longer than half a roll. -/
def longs (roll : Int) : List Int → Int
  | [] => 0
  | x :: xs => (if 2 * x > roll then 1 else 0) + longs roll xs
theorem longs_bd (roll : Int) : ∀ xs : List Int, 0 ≤ longs roll xs ∧ longs roll xs ≤ xs.length
  | [] => by simp [longs]
  | x :: xs => by
    have := longs_bd roll xs
    simp only [longs, List.length_cons]
    split <;> omega
def rollBound (roll : Int) (s : List Int) : Int × Int := if rollTask roll s = true then (max (longs roll s) ((s.sum + roll - 1) / roll), 0) else (0, 1)

/-- The place of the first x in a list, counted from i on, or -1. -/
def idxFrom : List Int → Int → Nat → Int
  | [], _, _ => -1
  | y :: ys, x, i => if x = y then (i : Int) else idxFrom ys x (i + 1)

/-- 'Each strip goes to a roll that is there or to the next one'; n rolls are there. -/
def rg : List Int → Int → Bool
  | [], _ => true
  | p :: ps, n => inR p 0 n && rg ps (max n (p + 1))
def room (acc : List Int) (p : Int) : List Int := if p = (acc.length : Int) then acc ++ [0] else acc
def addTo (acc : List Int) (p s : Int) : List Int := (room acc p).set p.toNat (rd (room acc p) p + s)
/-- The sums of the strips of each roll. -/
def loads : List Int → List Int → List Int → List Int
  | s :: ss, p :: ps, acc => loads ss ps (addTo acc p s)
  | _, _, acc => acc
theorem room_len {acc : List Int} {p : Int} (h : inR p 0 acc.length = true) : ((room acc p).length : Int) = max (acc.length : Int) (p + 1) := by
  have := inR_true h
  unfold room
  split
  · simp only [List.length_append, List.length_cons, List.length_nil]; omega
  · omega
theorem addTo_len {acc : List Int} {p : Int} (s : Int) (h : inR p 0 acc.length = true) : ((addTo acc p s).length : Int) = max (acc.length : Int) (p + 1) := by
  unfold addTo
  rw [List.length_set, room_len h]
theorem room_mem {acc : List Int} {p B : Int} (hB : 0 ≤ B) (h : ∀ a ∈ acc, 0 ≤ a ∧ a ≤ B) : ∀ a ∈ room acc p, 0 ≤ a ∧ a ≤ B := by
  intro a ha
  unfold room at ha
  split at ha
  · rcases List.mem_append.1 ha with h1 | h1
    · exact h a h1
    · simp only [List.mem_singleton] at h1
      omega
  · exact h a ha
theorem rd_mem {xs : List Int} {p : Int} (h0 : 0 ≤ p) (h : p < xs.length) : rd xs p ∈ xs := by
  obtain ⟨n, rfl⟩ : ∃ n : Nat, p = n := ⟨p.toNat, by omega⟩
  rw [rd_get xs n (by omega)]
  exact List.getElem_mem _
theorem room_rd {acc : List Int} {p B : Int} (hi : inR p 0 acc.length = true) (hB : 0 ≤ B) (h : ∀ a ∈ acc, 0 ≤ a ∧ a ≤ B) : 0 ≤ rd (room acc p) p ∧ rd (room acc p) p ≤ B := by
  have h1 := inR_true hi
  have h2 := room_len hi
  exact room_mem hB h _ (rd_mem h1.1 (by omega))
theorem addTo_mem {acc : List Int} {p s B C : Int} (hi : inR p 0 acc.length = true) (hB : 0 ≤ B) (h : ∀ a ∈ acc, 0 ≤ a ∧ a ≤ B) (hs : 0 ≤ s) (hC : B + s ≤ C) : ∀ a ∈ addTo acc p s, 0 ≤ a ∧ a ≤ C := by
  intro a ha
  have h3 := room_rd hi hB h
  rcases List.mem_or_eq_of_mem_set ha with h1 | h1
  · have := room_mem hB h a h1
    omega
  · omega
theorem loads_ok : ∀ (s p acc : List Int) (B : Int), rg p acc.length = true → (∀ x ∈ s, 1 ≤ x ∧ x ≤ 100000) → 0 ≤ B → (∀ a ∈ acc, 0 ≤ a ∧ a ≤ B) → ∀ a ∈ loads s p acc, 0 ≤ a ∧ a ≤ B + s.length * 100000
  | [], p, acc, B, _, _, _, h => by
    intro a ha
    rw [loads.eq_def] at ha
    simp only at ha
    have := h a ha
    simp only [List.length_nil]
    omega
  | s :: ss, [], acc, B, _, _, _, h => by
    intro a ha
    rw [loads.eq_def] at ha
    simp only at ha
    have := h a ha
    simp only [List.length_cons]
    omega
  | s :: ss, p :: ps, acc, B, hr, hs, hB, h => by
    simp only [rg, Bool.and_eq_true] at hr
    have h1 := hs s (by simp)
    intro a ha
    rw [loads] at ha
    have := loads_ok ss ps (addTo acc p s) (B + 100000) (by rw [addTo_len s hr.1]; exact hr.2) (fun x hx => hs x (by simp [hx])) (by omega) (addTo_mem hr.1 hB h (by omega) (by omega)) a ha
    simp only [List.length_cons]
    omega
def isPacking (roll : Int) (s p : List Int) : Bool := rollTask roll s && (decide (p.length = s.length) && (rg p 0 && (loads s p []).all fun a => decide (a ≤ roll)))

theorem room_len_le (acc : List Int) (p : Int) : (room acc p).length ≤ acc.length + 1 := by
  unfold room
  split
  · simp
  · omega
theorem loads_len2 : ∀ (s p acc : List Int), (loads s p acc).length ≤ acc.length + s.length
  | [], p, acc => by rw [loads.eq_def]; simp
  | s :: ss, [], acc => by rw [loads.eq_def]; simp only [List.length_cons]; omega
  | s :: ss, p :: ps, acc => by
    rw [loads]
    have h1 := loads_len2 ss ps (addTo acc p s)
    have h2 := room_len_le acc p
    have h3 : (addTo acc p s).length = (room acc p).length := by unfold addTo; rw [List.length_set]
    simp only [List.length_cons]
    omega
def sparesOf (roll : Int) (s p : List Int) : List Int × Int :=
  if rollTask roll s = true then (if isPacking roll s p = true then ((loads s p []).map (fun x => roll - x), 0) else ([], 2)) else ([], 1)
theorem sparesOf_len (roll : Int) (s p : List Int) : (sparesOf roll s p).1.length ≤ 12 := by
  unfold sparesOf
  split
  · rename_i h
    have := (rollTask_true h).2.1
    have := loads_len2 s p []
    split
    · simp only [List.length_map]
      simp only [List.length_nil] at this
      omega
    · simp
  · simp
theorem set_map (xs : List Int) (i : Nat) (h : i < xs.length) (f : Int → Int) : (xs.set i (f xs[i])).take (i + 1) ++ ((xs.set i (f xs[i])).drop (i + 1)).map f = xs.take i ++ (xs.drop i).map f := by
  have h' : i < (xs.set i (f xs[i])).length := by rw [List.length_set]; exact h
  rw [List.take_succ_eq_append_getElem h', List.getElem_set_self, List.take_set_of_le (Nat.le_refl i), List.drop_set_of_lt (Nat.lt_succ_self i), drop_get xs i h, List.map_cons]
  simp
theorem spares_ok {roll : Int} {s p : List Int} (h1 : rollTask roll s = true) (h2 : isPacking roll s p = true) : p.length = s.length ∧ s.length ≤ 12 ∧ (∀ x ∈ s, 1 ≤ x ∧ x ≤ 100000) ∧ rg p 0 = true ∧ (∀ a ∈ loads s p [], 0 ≤ a ∧ a ≤ 1200000) ∧ (loads s p []).length ≤ 12 ∧ (∀ a ∈ loads s p [], a ≤ roll) := by
  obtain ⟨g1, g2, g3⟩ := rollTask_true h1
  simp only [isPacking, Bool.and_eq_true, decide_eq_true_eq, List.all_eq_true] at h2
  have hs : ∀ x ∈ s, 1 ≤ x ∧ x ≤ 100000 := fun x hx => by have := g3 x hx; omega
  have hlen := loads_len2 s p []
  simp only [List.length_nil] at hlen
  refine ⟨h2.2.1, g2, hs, h2.2.2.1, fun a ha => ?_, by omega, h2.2.2.2⟩
  have := loads_ok s p [] 0 h2.2.2.1 hs (by omega) (by simp) a ha
  omega

/-- The first number of n, from k on, for which there is an answer, ahead of this answer. -/
def tryK (f : Int → Option (List Int)) : Nat → Int → Option (List Int)
  | 0, _ => none
  | n + 1, k => match f k with
    | some q => some (k :: q)
    | none => tryK f n (k + 1)
/-- The smallest way to go on with at most so many rolls. -/
def packs (roll : Int) (most : Nat) : List Int → List Int → Option (List Int)
  | [], _ => some []
  | s :: ss, acc => tryK (fun k => if k < (acc.length : Int) ∧ rd acc k + s > roll then none else packs roll most ss (addTo acc k s)) (min (acc.length + 1) most) 0
theorem tryK_some {f : Int → Option (List Int)} : ∀ {n : Nat} {k : Int} {q : List Int}, tryK f n k = some q → ∃ j r, q = j :: r ∧ k ≤ j ∧ j < k + n ∧ f j = some r
  | 0, k, q, h => by simp [tryK] at h
  | n + 1, k, q, h => by
    rw [tryK] at h
    cases e : f k with
    | some r =>
      rw [e] at h
      exact ⟨k, r, (Option.some.inj h).symm, by omega, by omega, e⟩
    | none =>
      rw [e] at h
      obtain ⟨j, r, h1, h2, h3, h4⟩ := tryK_some h
      exact ⟨j, r, h1, by omega, by omega, h4⟩
theorem tryK_ne {f : Int → Option (List Int)} : ∀ {n : Nat} {k j : Int}, k ≤ j → j < k + n → f j ≠ none → tryK f n k ≠ none
  | 0, k, j, h1, h2, _ => by omega
  | n + 1, k, j, h1, h2, h3 => by
    rw [tryK]
    cases e : f k with
    | some r => simp
    | none =>
      have : k ≠ j := fun h => h3 (h ▸ e)
      exact tryK_ne (by omega) (by omega) h3
theorem addTo_new (acc : List Int) (s : Int) : addTo acc (acc.length : Int) s = acc ++ [s] := by
  unfold addTo room
  rw [if_pos rfl, Int.toNat_natCast, rd_nat]
  simp
theorem addTo_old {acc : List Int} {k s : Int} (h : k < (acc.length : Int)) : addTo acc k s = acc.set k.toNat (rd acc k + s) := by
  unfold addTo room
  rw [if_neg (by omega)]
theorem longs_app (roll : Int) : ∀ (xs ys : List Int), longs roll (xs ++ ys) = longs roll xs + longs roll ys
  | [], ys => by simp [longs]
  | x :: xs, ys => by
    rw [List.cons_append, longs, longs, longs_app roll xs ys]
    omega
theorem longs_set (roll v : Int) : ∀ (xs : List Int) (i : Nat) (h : i < xs.length), longs roll (xs.set i v) = longs roll xs - (if 2 * xs[i] > roll then 1 else 0) + (if 2 * v > roll then 1 else 0)
  | x :: xs, 0, _ => by
    simp only [List.set_cons_zero, longs, List.getElem_cons_zero]
    omega
  | x :: xs, i + 1, h => by
    have := longs_set roll v xs i (by simpa using h)
    simp only [List.set_cons_succ, longs, List.getElem_cons_succ, this]
    omega
theorem sum_set (v : Int) : ∀ (xs : List Int) (i : Nat) (h : i < xs.length), (xs.set i v).sum = xs.sum - xs[i] + v
  | x :: xs, 0, _ => by
    simp only [List.set_cons_zero, List.sum_cons, List.getElem_cons_zero]
    omega
  | x :: xs, i + 1, h => by
    have := sum_set v xs i (by simpa using h)
    simp only [List.set_cons_succ, List.sum_cons, List.getElem_cons_succ, this]
    omega
/-- One strip more: the sums stay in the roll, and as much is longer than half a roll. -/
theorem addTo_step {roll k s : Int} {acc : List Int} (hk : inR k 0 acc.length = true) (ha : ∀ a ∈ acc, 0 ≤ a ∧ a ≤ roll) (hs : 0 ≤ s ∧ s ≤ roll) (hf : ¬ (k < (acc.length : Int) ∧ rd acc k + s > roll)) :
    (∀ a ∈ addTo acc k s, 0 ≤ a ∧ a ≤ roll) ∧ (addTo acc k s).sum = acc.sum + s ∧ longs roll acc + (if 2 * s > roll then 1 else 0) ≤ longs roll (addTo acc k s) := by
  have h := inR_true hk
  by_cases e : k = (acc.length : Int)
  · subst e
    rw [addTo_new]
    refine ⟨fun a h1 => ?_, ?_, ?_⟩
    · rcases List.mem_append.1 h1 with h2 | h2
      · exact ha a h2
      · simp only [List.mem_singleton] at h2
        omega
    · simp
    · rw [longs_app]
      simp only [longs]
      omega
  · have hlt : k < (acc.length : Int) := by omega
    obtain ⟨i, rfl⟩ : ∃ i : Nat, k = i := ⟨k.toNat, by omega⟩
    have hi : i < acc.length := by omega
    have hg := ha acc[i] (List.getElem_mem hi)
    have hr := rd_get acc i hi
    have hfit : acc[i] + s ≤ roll := by
      by_cases g : acc[i] + s ≤ roll
      · exact g
      · exact absurd ⟨hlt, by omega⟩ hf
    rw [addTo_old hlt, Int.toNat_natCast, hr]
    refine ⟨fun a h1 => ?_, ?_, ?_⟩
    · rcases List.mem_or_eq_of_mem_set h1 with h2 | h2
      · exact ha a h2
      · omega
    · rw [sum_set _ _ _ hi]; omega
    · rw [longs_set _ _ _ _ hi]
      by_cases c1 : 2 * s > roll
      · rw [if_pos c1, if_pos (show 2 * (acc[i] + s) > roll by omega), if_neg (show ¬ 2 * acc[i] > roll by omega)]; omega
      · by_cases c2 : 2 * acc[i] > roll
        · rw [if_neg c1, if_pos c2, if_pos (show 2 * (acc[i] + s) > roll by omega)]; omega
        · rw [if_neg c1, if_neg c2]; split <;> omega
theorem packs_some (roll : Int) (most : Nat) : ∀ (ss acc q : List Int), (∀ x ∈ ss, 0 ≤ x ∧ x ≤ roll) → (∀ a ∈ acc, 0 ≤ a ∧ a ≤ roll) → acc.length ≤ most → packs roll most ss acc = some q →
    q.length = ss.length ∧ rg q acc.length = true ∧ (∀ a ∈ loads ss q acc, 0 ≤ a ∧ a ≤ roll) ∧ acc.length ≤ (loads ss q acc).length ∧ (loads ss q acc).length ≤ most ∧ (loads ss q acc).sum = acc.sum + ss.sum ∧ longs roll acc + longs roll ss ≤ longs roll (loads ss q acc) ∧
      ∀ n : Nat, (loads ss q acc).length ≤ n → packs roll n ss acc ≠ none
  | [], acc, q, _, ha, hm, h => by
    obtain rfl := (Option.some.inj h)
    refine ⟨rfl, rfl, ha, Nat.le_refl _, hm, ?_, ?_, fun n _ => by simp [packs]⟩
    · simp [loads]
    · simp [loads, longs]
  | s :: ss, acc, q, hs, ha, hm, h => by
    rw [packs] at h
    obtain ⟨j, r, rfl, h1, h2, h3⟩ := tryK_some h
    by_cases hf : j < (acc.length : Int) ∧ rd acc j + s > roll
    · rw [if_pos hf] at h3; cases h3
    rw [if_neg hf] at h3
    have hjr : inR j 0 acc.length = true := inR_mk (by omega) (by omega)
    obtain ⟨k1, k2, k3⟩ := addTo_step hjr ha (hs s (by simp)) hf
    have hl := addTo_len s hjr
    obtain ⟨g1, g2, g3, g4, g5, g6, g7, g8⟩ := packs_some roll most ss (addTo acc j s) r (fun x hx => hs x (by simp [hx])) k1 (by omega) h3
    rw [loads]
    refine ⟨by simp [g1], ?_, g3, by omega, g5, by rw [g6, k2, List.sum_cons]; omega, by rw [longs]; omega, fun n hn => ?_⟩
    · simp only [rg, Bool.and_eq_true]
      exact ⟨hjr, by rw [← hl]; exact g2⟩
    · rw [packs]
      refine tryK_ne (j := j) (by omega) (by omega) ?_
      rw [if_neg hf]
      exact g8 n hn
theorem packs_all (roll : Int) (most : Nat) : ∀ (ss acc : List Int), acc.length + ss.length ≤ most → packs roll most ss acc ≠ none
  | [], acc, _ => by simp [packs]
  | s :: ss, acc, h => by
    simp only [List.length_cons] at h
    rw [packs]
    refine tryK_ne (j := (acc.length : Int)) (by omega) (by omega) ?_
    rw [if_neg (by omega), addTo_new]
    exact packs_all roll most ss _ (by simp only [List.length_append, List.length_cons, List.length_nil]; omega)
theorem sum_le_len {roll : Int} : ∀ xs : List Int, (∀ a ∈ xs, 0 ≤ a ∧ a ≤ roll) → xs.sum ≤ xs.length * roll
  | [], _ => by simp
  | x :: xs, h => by
    have h1 := h x (by simp)
    have h2 := sum_le_len xs (fun a ha => h a (by simp [ha]))
    rw [List.sum_cons, List.length_cons, show ((xs.length + 1 : Nat) : Int) = (xs.length : Int) + 1 by omega, Int.add_mul]
    omega
/-- No packing has fewer rolls than the bound. -/
theorem packs_bound {roll : Int} {most : Nat} {ss q : List Int} (h : rollTask roll ss = true) (hp : packs roll most ss [] = some q) : (rollBound roll ss).1 ≤ (loads ss q []).length := by
  obtain ⟨h1, h2, h3⟩ := rollTask_true h
  obtain ⟨g1, g2, g3, g4, g5, g6, g7, g8⟩ := packs_some roll most ss [] q (fun x hx => by have := h3 x hx; omega) (by simp) (by simp) hp
  unfold rollBound
  rw [if_pos h]
  have e1 := sum_le_len _ g3
  have e2 := (longs_bd roll (loads ss q [])).2
  simp only [longs, List.sum_nil] at g6 g7
  have e3 : (ss.sum + roll - 1) / roll < ((loads ss q []).length : Int) + 1 := Int.ediv_lt_of_lt_mul (by omega) (by rw [Int.add_mul]; omega)
  simp only
  omega
/-- The first number of n, from m on, with a packing, and this packing. -/
def firstM (f : Nat → Option (List Int)) : Nat → Nat → Nat × List Int
  | 0, m => (m, [])
  | n + 1, m => match f m with
    | some q => (m, q)
    | none => firstM f n (m + 1)
theorem firstM_ok {f : Nat → Option (List Int)} : ∀ (n m j : Nat), m ≤ j → j < m + n → f j ≠ none → f (firstM f n m).1 = some (firstM f n m).2 ∧ m ≤ (firstM f n m).1 ∧ (firstM f n m).1 ≤ j ∧ ∀ i, m ≤ i → i < (firstM f n m).1 → f i = none
  | 0, m, j, h1, h2, _ => by omega
  | n + 1, m, j, h1, h2, h3 => by
    rw [firstM]
    cases e : f m with
    | some q => exact ⟨e, Nat.le_refl _, h1, fun i h4 h5 => by simp only at h5; omega⟩
    | none =>
      have hne : m ≠ j := fun h => h3 (h ▸ e)
      obtain ⟨g1, g2, g3, g4⟩ := firstM_ok (f := f) n (m + 1) j (by omega) (by omega) h3
      refine ⟨g1, by simp only; omega, g3, fun i h4 h5 => ?_⟩
      by_cases hi : i = m
      · exact hi ▸ e
      · exact g4 i (by omega) h5
def bestP (roll : Int) (ss : List Int) : Nat × List Int := firstM (fun m => packs roll m ss []) 13 0
theorem bestP_ok {roll : Int} {ss : List Int} (h : rollTask roll ss = true) : packs roll (bestP roll ss).1 ss [] = some (bestP roll ss).2 ∧ (bestP roll ss).1 ≤ 12 ∧ (∀ i, i < (bestP roll ss).1 → packs roll i ss [] = none) ∧
    (rollBound roll ss).1 ≤ (bestP roll ss).1 ∧ (loads ss (bestP roll ss).2 []).length = (bestP roll ss).1 ∧ rg (bestP roll ss).2 0 = true ∧ (bestP roll ss).2.length = ss.length ∧ (∀ a ∈ loads ss (bestP roll ss).2 [], 0 ≤ a ∧ a ≤ roll) := by
  obtain ⟨h1, h2, h3⟩ := rollTask_true h
  obtain ⟨g1, g2, g3, g4⟩ := firstM_ok (f := fun m => packs roll m ss []) 13 0 ss.length (by omega) (by omega) (packs_all roll ss.length ss [] (by simp))
  obtain ⟨e1, e2, e3, e4, e5, e6, e7, e8⟩ := packs_some roll _ ss [] _ (fun x hx => by have := h3 x hx; omega) (by simp) (by simp) g1
  have hb := packs_bound h g1
  have hle : (bestP roll ss).1 ≤ (loads ss (bestP roll ss).2 []).length := by
    by_cases hc : (bestP roll ss).1 ≤ (loads ss (bestP roll ss).2 []).length
    · exact hc
    · exact absurd (g4 _ (Nat.zero_le _) (Nat.lt_of_not_le hc)) (e8 _ (Nat.le_refl _))
  have heq : (loads ss (bestP roll ss).2 []).length = (bestP roll ss).1 := Nat.le_antisymm e5 hle
  exact ⟨g1, by unfold bestP; omega, fun i hi => g4 i (by omega) hi, by rw [← heq]; exact hb, heq, e2, e1, e3⟩

/-- The first roll with room for s, or the next one. -/
def pos (roll s : Int) : List Int → Nat
  | [] => 0
  | a :: acc => if a + s ≤ roll then 0 else pos roll s acc + 1
theorem pos_le (roll s : Int) : ∀ acc : List Int, pos roll s acc ≤ acc.length
  | [] => by simp [pos]
  | a :: acc => by
    have := pos_le roll s acc
    simp only [pos, List.length_cons]
    split <;> omega
theorem pos_fits (roll s : Int) : ∀ (acc : List Int) (h : pos roll s acc < acc.length), acc[pos roll s acc] + s ≤ roll
  | [], h => by simp at h
  | a :: acc, h => by
    by_cases c : a + s ≤ roll
    · simp only [pos, c, if_true, List.getElem_cons_zero]
    · have := pos_fits roll s acc
      simp only [pos, c, if_false, List.getElem_cons_succ, List.length_cons] at h ⊢
      exact this (by omega)
theorem pos_rd (roll s : Int) (acc : List Int) : ¬ ((pos roll s acc : Int) < (acc.length : Int) ∧ rd acc (pos roll s acc : Int) + s > roll) := by
  intro h
  have h1 : pos roll s acc < acc.length := by omega
  have h2 := pos_fits roll s acc h1
  rw [rd_get acc _ h1] at h
  omega
/-- First fit, strip by strip. -/
def ff (roll : Int) : List Int → List Int → List Int
  | [], _ => []
  | s :: ss, acc => (pos roll s acc : Int) :: ff roll ss (addTo acc (pos roll s acc : Int) s)
/-- First fit for the strips with the numbers of a list. -/
def ffit (roll : Int) (s : List Int) : List Int → List Int → List Int → List Int
  | [], out, _ => out
  | i :: is, out, acc => ffit roll s is (out.set i.toNat (pos roll (rd s i) acc : Int)) (addTo acc (pos roll (rd s i) acc : Int) (rd s i))
theorem ff_ok (roll : Int) : ∀ (ss acc : List Int), (∀ x ∈ ss, 0 ≤ x ∧ x ≤ roll) → (∀ a ∈ acc, 0 ≤ a ∧ a ≤ roll) →
    (ff roll ss acc).length = ss.length ∧ rg (ff roll ss acc) acc.length = true ∧ (∀ a ∈ loads ss (ff roll ss acc) acc, 0 ≤ a ∧ a ≤ roll) ∧ acc.length ≤ (loads ss (ff roll ss acc) acc).length ∧
      ∀ n : Nat, (loads ss (ff roll ss acc) acc).length ≤ n → packs roll n ss acc ≠ none
  | [], acc, _, ha => ⟨rfl, rfl, ha, Nat.le_refl _, fun n _ => by simp [packs]⟩
  | s :: ss, acc, hs, ha => by
    have hp := pos_le roll s acc
    have hf := pos_rd roll s acc
    have hjr : inR (pos roll s acc : Int) 0 acc.length = true := inR_mk (by omega) (by omega)
    obtain ⟨k1, k2, k3⟩ := addTo_step hjr ha (hs s (by simp)) hf
    have hl := addTo_len s hjr
    obtain ⟨g1, g2, g3, g4, g5⟩ := ff_ok roll ss (addTo acc (pos roll s acc : Int) s) (fun x hx => hs x (by simp [hx])) k1
    rw [ff, loads]
    refine ⟨by simp [g1], ?_, g3, by omega, fun n hn => ?_⟩
    · simp only [rg, Bool.and_eq_true]
      exact ⟨hjr, by rw [← hl]; exact g2⟩
    · rw [packs]
      refine tryK_ne (j := (pos roll s acc : Int)) (by omega) (by omega) ?_
      rw [if_neg hf]
      exact g5 n hn
theorem ff_packing {roll : Int} {s : List Int} (h : rollTask roll s = true) : isPacking roll s (ff roll s []) = true := by
  obtain ⟨h1, h2, h3⟩ := rollTask_true h
  obtain ⟨g1, g2, g3, _, _⟩ := ff_ok roll s [] (fun x hx => by have := h3 x hx; omega) (by simp)
  simp only [isPacking, Bool.and_eq_true, h, g1, decide_true, true_and, List.all_eq_true, decide_eq_true_eq]
  exact ⟨g2, fun a ha => (g3 a ha).2⟩
theorem pos_before (roll s : Int) : ∀ (acc : List Int) (j : Nat) (h : j < acc.length), j < pos roll s acc → acc[j] + s > roll
  | a :: acc, 0, h, hp => by
    by_cases c : a + s ≤ roll
    · simp only [pos, c, if_true] at hp
      omega
    · simp only [List.getElem_cons_zero]
      omega
  | a :: acc, j + 1, h, hp => by
    by_cases c : a + s ≤ roll
    · simp only [pos, c, if_true] at hp
      omega
    · simp only [pos, c, if_false] at hp
      simp only [List.getElem_cons_succ]
      exact pos_before roll s acc j (by simpa using h) (by omega)
/-- The numbers from i on, d of them. -/
def nums : Nat → Nat → List Int
  | 0, _ => []
  | d + 1, i => (i : Int) :: nums d (i + 1)
theorem nums_len : ∀ d i, (nums d i).length = d
  | 0, _ => rfl
  | d + 1, i => by simp [nums, nums_len d]
theorem nums_snoc : ∀ d i, nums (d + 1) i = nums d i ++ [((i + d : Nat) : Int)]
  | 0, i => by simp [nums]
  | d + 1, i => by
    rw [nums, nums_snoc d (i + 1), nums, List.cons_append, show i + 1 + d = i + (d + 1) by omega]
theorem nums_mem : ∀ d i, ∀ x ∈ nums d i, (i : Int) ≤ x ∧ x < (i : Int) + d
  | 0, i, x, h => by simp [nums] at h
  | d + 1, i, x, h => by
    rw [nums, List.mem_cons] at h
    rcases h with h | h
    · omega
    · have := nums_mem d (i + 1) x h
      omega
theorem set_at {α : Type} (pre : List α) (x y : α) (post : List α) : (pre ++ x :: post).set pre.length y = pre ++ y :: post := by
  rw [List.set_append_right (h := Nat.le_refl _)]
  simp
/-- First fit, in the strips' own order. -/
theorem ffit_id (roll : Int) (s : List Int) : ∀ (d i : Nat) (pre acc : List Int), pre.length = i → i + d = s.length → ffit roll s (nums d i) (pre ++ List.replicate d 0) acc = pre ++ ff roll (s.drop i) acc
  | 0, i, pre, acc, hp, hi => by
    rw [List.drop_of_length_le (by omega)]
    simp [nums, ffit, ff]
  | d + 1, i, pre, acc, hp, hi => by
    have hlt : i < s.length := by omega
    have e := set_at pre 0 (pos roll s[i] acc : Int) (List.replicate d 0)
    rw [hp] at e
    rw [nums, ffit, drop_get s i hlt, ff, rd_get s i hlt, Int.toNat_natCast, List.replicate_succ, e]
    have := ffit_id roll s d (i + 1) (pre ++ [(pos roll s[i] acc : Int)]) (addTo acc (pos roll s[i] acc : Int) s[i]) (by simp [hp]) (by omega)
    rw [List.append_assoc, List.append_assoc] at this
    exact this
/-- What holds of what the rolls take, strip by strip. -/
theorem pos_step {roll s : Int} {acc : List Int} (ha : ∀ a ∈ acc, 0 ≤ a ∧ a ≤ roll) (hs : 0 ≤ s ∧ s ≤ roll) : (∀ a ∈ addTo acc (pos roll s acc : Int) s, 0 ≤ a ∧ a ≤ roll) ∧ (addTo acc (pos roll s acc : Int) s).length ≤ acc.length + 1 := by
  have hp := pos_le roll s acc
  have hjr : inR (pos roll s acc : Int) 0 acc.length = true := inR_mk (by omega) (by omega)
  have hl := addTo_len s hjr
  exact ⟨(addTo_step hjr ha hs (pos_rd roll s acc)).1, by omega⟩
def firstFit (roll : Int) (s : List Int) : List Int × Int := if rollTask roll s = true then (ff roll s [], 0) else ([], 1)
theorem firstFit_len (roll : Int) (s : List Int) : (firstFit roll s).1.length ≤ s.length := by
  unfold firstFit
  split
  · rename_i h
    have h3 := (rollTask_true h).2.2
    have := (ff_ok roll s [] (fun x hx => by have := h3 x hx; omega) (by simp)).1
    simp only
    omega
  · simp
theorem rd_in {s : List Int} {i : Int} (h0 : 0 ≤ i) (h1 : i < s.length) : rd s i ∈ s := rd_mem h0 h1

/-- x behind all that are at least as long. -/
def insF (s : List Int) (x : Int) : List Int → List Int
  | [] => [x]
  | h :: t => if rd s h ≥ rd s x then h :: insF s x t else x :: h :: t
def ordr (s : List Int) : List Int → List Int → List Int
  | [], acc => acc
  | x :: xs, acc => ordr s xs (insF s x acc)
theorem insF_len (s : List Int) (x : Int) : ∀ L, (insF s x L).length = L.length + 1
  | [] => rfl
  | h :: t => by
    rw [insF]
    split
    · simp [insF_len s x t]
    · rfl
theorem insF_mem (s : List Int) (x : Int) : ∀ L y, y ∈ insF s x L → y = x ∨ y ∈ L
  | [], y, h => by simpa [insF] using h
  | h :: t, y, hy => by
    rw [insF] at hy
    split at hy
    · rcases List.mem_cons.1 hy with e | e
      · exact .inr (by simp [e])
      · rcases insF_mem s x t y e with e | e
        · exact .inl e
        · exact .inr (by simp [e])
    · rcases List.mem_cons.1 hy with e | e
      · exact .inl e
      · exact .inr e
theorem ordr_snoc (s : List Int) (x : Int) : ∀ xs acc, ordr s (xs ++ [x]) acc = insF s x (ordr s xs acc)
  | [], acc => rfl
  | y :: xs, acc => by rw [List.cons_append, ordr, ordr_snoc s x xs, ordr]
theorem ordr_len (s : List Int) : ∀ xs acc, (ordr s xs acc).length = xs.length + acc.length
  | [], acc => by simp [ordr]
  | x :: xs, acc => by rw [ordr, ordr_len s xs, insF_len, List.length_cons]; omega
theorem ordr_mem (s : List Int) : ∀ xs acc y, y ∈ ordr s xs acc → y ∈ xs ∨ y ∈ acc
  | [], acc, y, h => .inr h
  | x :: xs, acc, y, h => by
    rw [ordr] at h
    rcases ordr_mem s xs _ y h with e | e
    · exact .inl (by simp [e])
    · rcases insF_mem s x acc y e with e | e
      · exact .inl (by simp [e])
      · exact .inr e
/-- The numbers of each roll, in the order of their first strips. -/
def num : List Int → List Int → List Int
  | [], _ => []
  | x :: xs, seen => idxFrom (if seen.contains x = true then seen else seen ++ [x]) x 0 :: num xs (if seen.contains x = true then seen else seen ++ [x])
theorem num_len : ∀ xs seen, (num xs seen).length = xs.length
  | [], _ => rfl
  | x :: xs, seen => by rw [num, List.length_cons, num_len xs, List.length_cons]
theorem ffit_len (roll : Int) (s : List Int) : ∀ (is out acc : List Int), (ffit roll s is out acc).length = out.length
  | [], out, acc => rfl
  | i :: is, out, acc => by rw [ffit, ffit_len roll s is, List.length_set]
def longestFirst (roll : Int) (s : List Int) : List Int × Int := if rollTask roll s = true then (num (ffit roll s (ordr s (nums s.length 0) []) (List.replicate s.length 0) []) [], 0) else ([], 1)
theorem longestFirst_len (roll : Int) (s : List Int) : (longestFirst roll s).1.length ≤ s.length := by
  unfold longestFirst
  split
  · simp only [num_len, ffit_len, List.length_replicate]; omega
  · simp
theorem ordr_in (s : List Int) : (∀ i ∈ ordr s (nums s.length 0) [], 0 ≤ i ∧ i < (s.length : Int)) ∧ (ordr s (nums s.length 0) []).length = s.length := by
  refine ⟨fun i hi => ?_, by simp [ordr_len, nums_len]⟩
  rcases ordr_mem s _ [] i hi with h | h
  · have := nums_mem s.length 0 i h; omega
  · simp at h

theorem impl_inRange_eq (a b c : Int) : impl_inRange.f a b c = some (inR a b c) := by
  unfold impl_inRange.f inR
  by_cases h : b ≤ a
  · rw [if_pos h]; simp [h]
  · rw [if_neg h]; simp [h]

theorem impl_allIn_eq (xs : List Int) (lo hi : Int) : impl_allIn.f xs lo hi = some (allR xs lo hi) := rfl

theorem impl_IsRollTask_eq (roll : Int) (s : List Int) : impl_IsRollTask.f roll s = some (rollTask roll s) := by
  unfold impl_IsRollTask.f rollTask
  simp only [impl_inRange_eq, impl_allIn_eq, Option.bind_some]
  cases inR roll 1 100000
  · simp
  · by_cases h : (s.length : Int) ≤ 12
    · simp [h]
    · simp [h]

theorem slices_Index_int64_int64_l0 (xs : List Int) (x : Int) (hl : xs.length ≤ 9223372036854775806) : ∀ (d k i : Nat), i + d = xs.length → d < k → slices_Index_int64_int64.l0 k xs x (xs.length : Int) (i : Int) = some (idxFrom (xs.drop i) x i) := by
  intro d
  induction d with
  | zero =>
    intro k i h hk
    obtain ⟨k, rfl⟩ : ∃ m, k = m + 1 := ⟨k - 1, by omega⟩
    rw [slices_Index_int64_int64.l0, if_neg (by omega), List.drop_of_length_le (by omega)]
    rfl
  | succ d ih =>
    intro k i h hk
    obtain ⟨k, rfl⟩ : ∃ m, k = m + 1 := ⟨k - 1, by omega⟩
    have hi : i < xs.length := by omega
    have e : xs.drop i = xs[i] :: xs.drop (i + 1) := List.drop_eq_getElem_cons hi
    have e2 : xs.getD i 0 = xs[i] := by simp [List.getD_eq_getElem?_getD, List.getElem?_eq_getElem hi]
    have e3 := ih k (i + 1) (by omega) (by omega)
    rw [slices_Index_int64_int64.l0, if_pos (by omega), if_pos (by omega), if_pos (by omega), rd_nat, e2, e, idxFrom]
    by_cases hx : x = xs[i]
    · rw [if_pos hx, if_pos hx]
    · rw [if_neg hx, if_neg hx, w64 (by omega) (by omega)]
      exact e3
theorem slices_Index_int64_int64_eq (xs : List Int) (x : Int) (k : Nat) (hl : xs.length ≤ 9223372036854775806) (hk : xs.length < k) : slices_Index_int64_int64.f k xs x = some (idxFrom xs x 0) := by
  unfold slices_Index_int64_int64.f
  exact slices_Index_int64_int64_l0 xs x hl xs.length k 0 (by omega) hk

theorem idx_pos (roll s : Int) : ∀ (acc : List Int) (i : Nat), (∀ a ∈ acc, 0 ≤ a ∧ a ≤ 100000) → 0 ≤ s → s ≤ 100000 → Hand.idxBy (fun n_ => decide (wrap64 (n_ + s) ≤ roll)) acc i = if pos roll s acc < acc.length then ((i + pos roll s acc : Nat) : Int) else -1
  | [], i, _, _, _ => by simp [Hand.idxBy]
  | a :: acc, i, h, h0, h1 => by
    have ha := h a (by simp)
    have ih := idx_pos roll s acc (i + 1) (fun x hx => h x (by simp [hx])) h0 h1
    rw [Hand.idxBy, w64 (x := a + s) (by omega) (by omega)]
    by_cases c : a + s ≤ roll
    · rw [if_pos (by simpa using c)]
      simp [pos, c]
    · rw [if_neg (by simpa using c), ih]
      simp only [pos, c, if_false, List.length_cons]
      by_cases e : pos roll s acc < acc.length
      · rw [if_pos e, if_pos (by omega)]
        omega
      · rw [if_neg e, if_neg (by omega)]
theorem impl_firstFit_l0 (roll : Int) (s : List Int) (h : rollTask roll s = true) (order : List Int) (ho : ∀ i ∈ order, 0 ≤ i ∧ i < (s.length : Int)) (hb : order.length ≤ 1000) : ∀ (d k i : Nat) (out acc : List Int), i + d = order.length → d < k → out.length = s.length → acc.length ≤ i → (∀ a ∈ acc, 0 ≤ a ∧ a ≤ roll) →
    impl_firstFit.l0 k roll s out acc order (order.length : Int) (i : Int) = some (ffit roll s (order.drop i) out acc) := by
  obtain ⟨h1, h2, h3⟩ := rollTask_true h
  intro d
  induction d with
  | zero =>
    intro k i out acc hi hk _ _ _
    obtain ⟨k, rfl⟩ : ∃ m, k = m + 1 := ⟨k - 1, by omega⟩
    rw [impl_firstFit.l0, if_neg (by omega), List.drop_of_length_le (by omega)]
    rfl
  | succ d ih =>
    intro k i out acc hi hk hout hacc ha
    obtain ⟨k, rfl⟩ : ∃ m, k = m + 1 := ⟨k - 1, by omega⟩
    have hlt : i < order.length := by omega
    have hi2 := ho order[i] (List.getElem_mem hlt)
    have hs := h3 _ (rd_in hi2.1 hi2.2)
    have hp := pos_le roll (rd s order[i]) acc
    have hst := pos_step ha (show 0 ≤ rd s order[i] ∧ rd s order[i] ≤ roll by omega)
    have next := ih k (i + 1) (out.set order[i].toNat (pos roll (rd s order[i]) acc : Int)) (addTo acc (pos roll (rd s order[i]) acc : Int) (rd s order[i])) (by omega) (by omega) (by rw [List.length_set]; exact hout) (by omega) hst.1
    rw [show ((i + 1 : Nat) : Int) = (i : Int) + 1 by omega] at next
    rw [impl_firstFit.l0, if_pos (by omega), if_pos (by omega), if_pos (by omega), rd_get order i hlt, drop_get order i hlt, ffit, idx_pos roll (rd s order[i]) acc 0 (fun a hx => by have := ha a hx; omega) (by omega) (by omega)]
    simp only [Option.bind_some, Nat.zero_add]
    by_cases c : pos roll (rd s order[i]) acc < acc.length
    · have hg := ha _ (rd_mem (xs := acc) (p := (pos roll (rd s order[i]) acc : Int)) (by omega) (by omega))
      rw [if_pos c, if_neg (by omega), if_pos (by omega), if_pos (by omega), if_pos hi2.1, if_pos hi2.2, if_pos (by omega), w64 (x := rd acc (pos roll (rd s order[i]) acc : Int) + rd s order[i]) (by omega) (by omega), w64 (by omega) (by omega), ← addTo_old (by omega)]
      exact next
    · have e : pos roll (rd s order[i]) acc = acc.length := by omega
      have hz : rd (acc ++ [0]) (acc.length : Int) = 0 := by rw [rd_nat]; simp
      rw [e] at next
      rw [if_neg c, if_pos (by omega), if_pos (by omega), if_pos (by omega), if_pos (by simp only [List.length_append, List.length_cons, List.length_nil]; omega), if_pos hi2.1, if_pos hi2.2, if_pos (by omega), w64 (x := rd (acc ++ [0]) (acc.length : Int) + rd s order[i]) (by omega) (by omega), w64 (x := (i : Int) + 1) (by omega) (by omega)]
      have er : addTo acc (acc.length : Int) (rd s order[i]) = (acc ++ [0]).set (acc.length : Int).toNat (rd (acc ++ [0]) (acc.length : Int) + rd s order[i]) := by
        unfold addTo
        rw [show room acc (acc.length : Int) = acc ++ [0] from if_pos rfl]
      rw [e, er]
      rw [er] at next
      exact next
theorem impl_firstFit_eq (roll : Int) (s order : List Int) (k : Nat) (h : rollTask roll s = true) (ho : ∀ i ∈ order, 0 ≤ i ∧ i < (s.length : Int)) (hb : order.length ≤ 1000) (hk : order.length < k) : impl_firstFit.f k roll s order = some (ffit roll s order (List.replicate s.length 0) []) := by
  have h2 := (rollTask_true h).2.1
  unfold impl_firstFit.f
  rw [if_pos (by omega), if_pos (by omega), Int.toNat_natCast]
  have := impl_firstFit_l0 roll s h order ho hb order.length k 0 (List.replicate s.length 0) [] (by omega) hk (by simp) (by simp) (by simp)
  rw [List.drop_zero] at this
  exact this

theorem impl_indices_l0 (n : Nat) (hn : n ≤ 1000) : ∀ (d k i : Nat), i + d = n → d < k → impl_indices.l0 k (nums i 0) (n : Int) (i : Int) = some (nums n 0) := by
  intro d
  induction d with
  | zero =>
    intro k i hi hk
    obtain ⟨k, rfl⟩ : ∃ m, k = m + 1 := ⟨k - 1, by omega⟩
    rw [impl_indices.l0, if_neg (by omega), show i = n by omega]
  | succ d ih =>
    intro k i hi hk
    obtain ⟨k, rfl⟩ : ∃ m, k = m + 1 := ⟨k - 1, by omega⟩
    have next := ih k (i + 1) (by omega) (by omega)
    rw [nums_snoc, Nat.zero_add, show ((i + 1 : Nat) : Int) = (i : Int) + 1 by omega] at next
    rw [impl_indices.l0, if_pos (by omega), nums_len, if_pos (by omega), w64 (by omega) (by omega)]
    exact next
theorem impl_indices_eq (n k : Nat) (hn : n ≤ 1000) (hk : n < k) : impl_indices.f k (n : Int) = some (nums n 0) := by
  unfold impl_indices.f
  exact impl_indices_l0 n hn n k 0 (by omega) hk

theorem idxFrom_has : ∀ (xs : List Int) (x : Int) (i : Nat), decide (idxFrom xs x i ≥ 0) = xs.contains x
  | [], x, i => by simp [idxFrom]
  | y :: ys, x, i => by
    rw [idxFrom, List.contains_cons]
    by_cases h : x = y
    · rw [if_pos h, h]
      simp
    · rw [if_neg h, idxFrom_has ys x (i + 1)]
      simp [h]
theorem slices_Contains_int64_int64_eq (xs : List Int) (x : Int) (k : Nat) (hl : xs.length ≤ 9223372036854775806) (hk : xs.length < k) : slices_Contains_int64_int64.f k xs x = some (xs.contains x) := by
  unfold slices_Contains_int64_int64.f
  rw [slices_Index_int64_int64_eq xs x k hl hk]
  simp only [Option.bind_some]
  rw [idxFrom_has]

theorem rd_bd {s : List Int} (h : ∀ x ∈ s, 0 ≤ x ∧ x ≤ 100000) (i : Int) : 0 ≤ rd s i ∧ rd s i ≤ 100000 := by
  unfold rd
  rw [List.getD_eq_getElem?_getD]
  by_cases c : i.toNat < s.length
  · rw [List.getElem?_eq_getElem c]
    exact h _ (List.getElem_mem c)
  · rw [List.getElem?_eq_none (by omega)]
    simp
theorem ltS_eq {s : List Int} (h : ∀ x ∈ s, 0 ≤ x ∧ x ≤ 100000) (x y : Int) : Hand.ltS s x y = decide (rd s y < rd s x) := by
  have h1 := rd_bd h x
  have h2 := rd_bd h y
  unfold Hand.ltS
  rw [w64 (x := rd s y - rd s x) (by omega) (by omega)]
  by_cases c : rd s y < rd s x
  · rw [decide_eq_true c, decide_eq_true (by omega)]
  · rw [decide_eq_false c, decide_eq_false (by omega)]
/-- Told from its end: not longer than what stands ahead. -/
def asc (s : List Int) : List Int → Prop
  | [] => True
  | h :: t => (∀ y ∈ t, rd s h ≤ rd s y) ∧ asc s t
theorem insF_app (s : List Int) (x h : Int) (hc : rd s h < rd s x) : ∀ L, insF s x (L ++ [h]) = insF s x L ++ [h]
  | [] => by simp [insF, show ¬ rd s x ≤ rd s h by omega]
  | y :: t => by
    rw [List.cons_append, insF, insF, insF_app s x h hc t]
    split <;> simp
theorem insF_all (s : List Int) (x : Int) : ∀ L, (∀ y ∈ L, rd s x ≤ rd s y) → insF s x L = L ++ [x]
  | [], _ => rfl
  | y :: t, h => by
    have := h y (by simp)
    rw [insF, if_pos (by omega), insF_all s x t (fun z hz => h z (by simp [hz]))]
    rfl
theorem insRev_insF {s : List Int} (hs : ∀ x ∈ s, 0 ≤ x ∧ x ≤ 100000) (x : Int) : ∀ R, asc s R → (Hand.insRev (Hand.ltS s) x R).reverse = insF s x R.reverse ∧ asc s (Hand.insRev (Hand.ltS s) x R)
  | [], _ => by simp [Hand.insRev, insF, asc]
  | h :: t, ha => by
    obtain ⟨i1, i2⟩ := insRev_insF hs x t ha.2
    rw [Hand.insRev, ltS_eq hs]
    by_cases c : rd s h < rd s x
    · rw [if_pos (by simpa using c)]
      refine ⟨by rw [List.reverse_cons, i1, List.reverse_cons, insF_app s x h c], fun y hy => ?_, i2⟩
      rcases insRev_in s x t y hy with e | e
      · rw [e]; omega
      · exact ha.1 y e
    · rw [if_neg (by simpa using c)]
      refine ⟨?_, fun y hy => ?_, ha⟩
      · rw [insF_all s x _ (fun y hy => ?_)]
        · simp
        · rcases List.mem_cons.1 (List.mem_reverse.1 hy) with e | e
          · rw [e]; omega
          · have := ha.1 y e; omega
      · rcases List.mem_cons.1 hy with e | e
        · rw [e]; omega
        · have := ha.1 y e; omega
where insRev_in (s : List Int) (x : Int) (R : List Int) (y : Int) (h : y ∈ Hand.insRev (Hand.ltS s) x R) : y = x ∨ y ∈ R := Hand.insRev_mem _ x R y h
theorem sortRev_ordr {s : List Int} (hs : ∀ x ∈ s, 0 ≤ x ∧ x ≤ 100000) : ∀ (xs R : List Int), asc s R → (Hand.sortRev (Hand.ltS s) xs R).reverse = ordr s xs R.reverse
  | [], R, _ => rfl
  | x :: xs, R, h => by
    obtain ⟨i1, i2⟩ := insRev_insF hs x R h
    rw [Hand.sortRev, sortRev_ordr hs xs _ i2, i1, ordr]
theorem sortM_ordr {s : List Int} (hs : ∀ x ∈ s, 0 ≤ x ∧ x ≤ 100000) (xs : List Int) : Hand.sortM s xs = ordr s xs [] := sortRev_ordr hs xs [] trivial
theorem impl_LongestFirst_l0 : ∀ (rest done names : List Int) (k n : Nat), n = done.length + rest.length → rest.length + 1010 ≤ k → names.length + rest.length ≤ 1000 → n ≤ 1000 → impl_LongestFirst.l0 k (done ++ rest) names (n : Int) (done.length : Int) = some (done ++ num rest names, 0)
  | [], done, names, k, n, hn, hk, hs, hb => by
    simp only [List.length_nil] at hn hk
    obtain ⟨k, rfl⟩ : ∃ m, k = m + 1 := ⟨k - 1, by omega⟩
    rw [impl_LongestFirst.l0, if_neg (by omega)]
    simp [num]
  | x :: rest, done, names, k, n, hn, hk, hs, hb => by
    simp only [List.length_cons] at hn hk hs
    obtain ⟨k, rfl⟩ : ∃ m, k = m + 1 := ⟨k - 1, by omega⟩
    have hx : rd (done ++ x :: rest) (done.length : Int) = x := by rw [rd_get _ _ (by simp)]; simp
    have hl : ((done ++ x :: rest).length : Int) = (n : Int) := by rw [List.length_append, List.length_cons]; omega
    have hset : ∀ y : Int, (done ++ x :: rest).set ((done.length : Int)).toNat y = (done ++ [y]) ++ rest := fun y => by rw [Int.toNat_natCast, set_at]; simp
    rw [impl_LongestFirst.l0, if_pos (by omega), if_pos (by omega), if_pos (by omega), hx, slices_Contains_int64_int64_eq names x k (by omega) (by omega), num, w64 (x := (done.length : Int) + 1) (by omega) (by omega)]
    simp only [Option.bind_some, hset]
    have hd : ∀ y : Int, (done.length : Int) + 1 = ((done ++ [y]).length : Int) := fun y => by rw [List.length_append, List.length_cons, List.length_nil]; omega
    by_cases c : names.contains x = true
    · have ih := impl_LongestFirst_l0 rest (done ++ [idxFrom names x 0]) names k n (by rw [List.length_append, List.length_cons, List.length_nil]; omega) (by omega) (by omega) hb
      rw [if_pos c, if_pos c, slices_Index_int64_int64_eq names x k (by omega) (by omega)]
      simp only [Option.bind_some]
      rw [hd (idxFrom names x 0), ih, List.append_assoc]
      rfl
    · have ih := impl_LongestFirst_l0 rest (done ++ [idxFrom (names ++ [x]) x 0]) (names ++ [x]) k n (by rw [List.length_append, List.length_cons, List.length_nil]; omega) (by omega) (by rw [List.length_append, List.length_cons, List.length_nil]; omega) hb
      have hn1 : (names ++ [x]).length = names.length + 1 := by simp
      rw [if_neg c, if_neg c, if_pos (by omega), slices_Index_int64_int64_eq (names ++ [x]) x k (by omega) (by omega)]
      simp only [Option.bind_some]
      rw [hd (idxFrom (names ++ [x]) x 0), ih, List.append_assoc]
      rfl
theorem impl_LongestFirst_eq (roll : Int) (s : List Int) (k : Nat) (hk : s.length + 1100 < k) : impl_LongestFirst.f k roll s = some (longestFirst roll s) := by
  unfold impl_LongestFirst.f longestFirst
  rw [impl_IsRollTask_eq roll s]
  simp only [Option.bind_some]
  by_cases h : rollTask roll s = true
  · obtain ⟨h1, h2, h3⟩ := rollTask_true h
    obtain ⟨o1, o2⟩ := ordr_in s
    rw [if_pos h, if_pos h, impl_indices_eq s.length k (by omega) (by omega)]
    simp only [Option.bind_some]
    rw [sortM_ordr (fun x hx => by have := h3 x hx; omega), impl_firstFit_eq roll s _ k h o1 (by omega) (by omega)]
    simp only [Option.bind_some]
    have hl : (ffit roll s (ordr s (nums s.length 0) []) (List.replicate s.length 0) []).length = s.length := by rw [ffit_len, List.length_replicate]
    exact impl_LongestFirst_l0 (ffit roll s (ordr s (nums s.length 0) []) (List.replicate s.length 0) []) [] [] k _ (by simp) (by omega) (by simp; omega) (by omega)
  · rw [if_neg h, if_neg h]

theorem spec_l01In_eq (a b c : Int) : spec_l01In.f a b c = some (inR a b c) := by
  unfold spec_l01In.f inR
  by_cases h : a ≥ b
  · rw [if_pos h]; simp [show b ≤ a from h]
  · rw [if_neg h]; simp [show ¬ b ≤ a from h]

theorem spec_l01Within_l0 (xs : List Int) (m lo hi : Int) (hl : xs.length ≤ 9223372036854775806) : ∀ (d k i : Nat), i + d = xs.length → d < k → spec_l01Within.l0 k xs m lo hi (i : Int) = some (allR (xs.drop i) lo hi && decide ((xs.length : Int) ≤ m)) := by
  intro d
  induction d with
  | zero =>
    intro k i h hk
    obtain ⟨k, rfl⟩ : ∃ m, k = m + 1 := ⟨k - 1, by omega⟩
    rw [spec_l01Within.l0, if_neg (by omega), List.drop_of_length_le (by omega)]
    rfl
  | succ d ih =>
    intro k i h hk
    obtain ⟨k, rfl⟩ : ∃ m, k = m + 1 := ⟨k - 1, by omega⟩
    have hlt : i < xs.length := by omega
    have e3 := ih k (i + 1) (by omega) (by omega)
    rw [spec_l01Within.l0, if_pos (by omega), if_pos (by omega), rd_get xs i hlt, spec_l01In_eq, drop_get xs i hlt, w64 (by omega) (by omega)]
    simp only [Option.bind_some, allR, List.all_cons]
    cases hx : inR xs[i] lo hi
    · simp
    · simp only [if_true, Bool.true_and]
      exact e3
theorem spec_l01Within_eq (xs : List Int) (m lo hi : Int) (k : Nat) (hl : xs.length ≤ 9223372036854775806) (hk : xs.length < k) : spec_l01Within.f k xs m lo hi = some (allR xs lo hi && decide ((xs.length : Int) ≤ m)) := by
  unfold spec_l01Within.f
  exact spec_l01Within_l0 xs m lo hi hl xs.length k 0 (by omega) hk

theorem spec_IsRollTask_eq (roll : Int) (s : List Int) (k : Nat) (hl : s.length ≤ 9223372036854775806) (hk : s.length < k) : spec_IsRollTask.f k roll s = some (rollTask roll s) := by
  unfold spec_IsRollTask.f rollTask
  simp only [spec_l01In_eq, spec_l01Within_eq s _ _ _ k hl hk, Option.bind_some]
  cases inR roll 1 100000 <;> simp [Bool.and_comm]

theorem spec_l10First_l1 (roll : Int) (s order out acc : List Int) (h : rollTask roll s = true) (ha : ∀ a ∈ acc, 0 ≤ a ∧ a ≤ roll) (hal : acc.length ≤ 1000) (i : Nat) (hlt : i < order.length) (hb : order.length ≤ 1000) (hi2 : 0 ≤ order[i] ∧ order[i] < (s.length : Int)) (hout : out.length = s.length) :
    ∀ (e k j : Nat), j + e = pos roll (rd s order[i]) acc → spec_l10First.l1 (k + e + 1) roll s order out acc (i : Int) (j : Int) = spec_l10First.l0 k roll s order (out.set order[i].toNat (pos roll (rd s order[i]) acc : Int)) (addTo acc (pos roll (rd s order[i]) acc : Int) (rd s order[i])) ((i : Int) + 1) := by
  obtain ⟨h1, h2, h3⟩ := rollTask_true h
  have hs := h3 _ (rd_in hi2.1 hi2.2)
  have hp := pos_le roll (rd s order[i]) acc
  intro e
  induction e with
  | zero =>
    intro k j hj
    simp only [Nat.add_zero] at hj ⊢
    subst hj
    rw [spec_l10First.l1]
    by_cases c : pos roll (rd s order[i]) acc < acc.length
    · have hg := ha _ (rd_mem (xs := acc) (p := (pos roll (rd s order[i]) acc : Int)) (by omega) (by omega))
      have hf : rd acc (pos roll (rd s order[i]) acc : Int) + rd s order[i] ≤ roll := by rw [rd_get acc _ c]; exact pos_fits roll _ acc c
      rw [if_pos (by omega), if_pos (by omega), if_pos (by omega), if_pos (by omega), rd_get order i hlt, if_pos hi2.1, if_pos hi2.2, w64 (x := rd acc (pos roll (rd s order[i]) acc : Int) + rd s order[i]) (by omega) (by omega), if_neg (by omega), if_neg (by omega), if_pos (by omega), w64 (x := (i : Int) + 1) (by omega) (by omega), ← addTo_old (by omega)]
    · have e : pos roll (rd s order[i]) acc = acc.length := by omega
      have hz : rd (acc ++ [0]) (acc.length : Int) = 0 := by rw [rd_nat]; simp
      rw [e, if_neg (by omega), if_pos rfl, if_pos (by omega)]
      simp only [Option.bind_some]
      rw [if_pos (by omega), if_pos (by simp only [List.length_append, List.length_cons, List.length_nil]; omega), if_pos (by omega), if_pos (by omega), rd_get order i hlt, if_pos hi2.1, if_pos hi2.2, if_pos (by omega), w64 (x := rd (acc ++ [0]) (acc.length : Int) + rd s order[i]) (by omega) (by omega), w64 (x := (i : Int) + 1) (by omega) (by omega)]
      unfold addTo
      rw [show room acc (acc.length : Int) = acc ++ [0] from if_pos rfl]
  | succ e ih =>
    intro k j hj
    have c : j < acc.length := by omega
    have hg := ha _ (rd_mem (xs := acc) (p := (j : Int)) (by omega) (by omega))
    have hf : rd acc (j : Int) + rd s order[i] > roll := by rw [rd_get acc _ c]; exact pos_before roll _ acc j c (by omega)
    have next := ih k (j + 1) (by omega)
    rw [show ((j + 1 : Nat) : Int) = (j : Int) + 1 by omega] at next
    rw [show k + (e + 1) + 1 = (k + e + 1) + 1 by omega, spec_l10First.l1, if_pos (by omega), if_pos (by omega), if_pos (by omega), if_pos (by omega), rd_get order i hlt, if_pos hi2.1, if_pos hi2.2, w64 (x := rd acc (j : Int) + rd s order[i]) (by omega) (by omega), if_pos hf, w64 (x := (j : Int) + 1) (by omega) (by omega), next]
theorem spec_l10First_l0 (roll : Int) (s : List Int) (h : rollTask roll s = true) (order : List Int) (ho : ∀ i ∈ order, 0 ≤ i ∧ i < (s.length : Int)) (hb : order.length ≤ 1000) : ∀ (d k i : Nat) (out acc : List Int), i + d = order.length → 1010 * d + 1 ≤ k → out.length = s.length → acc.length ≤ i → (∀ a ∈ acc, 0 ≤ a ∧ a ≤ roll) →
    spec_l10First.l0 k roll s order out acc (i : Int) = some (ffit roll s (order.drop i) out acc) := by
  obtain ⟨h1, h2, h3⟩ := rollTask_true h
  intro d
  induction d with
  | zero =>
    intro k i out acc hi hk _ _ _
    obtain ⟨k, rfl⟩ : ∃ m, k = m + 1 := ⟨k - 1, by omega⟩
    rw [spec_l10First.l0, if_neg (by omega), List.drop_of_length_le (by omega)]
    rfl
  | succ d ih =>
    intro k i out acc hi hk hout hacc ha
    have hlt : i < order.length := by omega
    have hi2 := ho order[i] (List.getElem_mem hlt)
    have hs := h3 _ (rd_in hi2.1 hi2.2)
    have hp := pos_le roll (rd s order[i]) acc
    obtain ⟨k, rfl⟩ : ∃ m, k = (m + pos roll (rd s order[i]) acc + 1) + 1 := ⟨k - pos roll (rd s order[i]) acc - 2, by omega⟩
    have hst := pos_step ha (show 0 ≤ rd s order[i] ∧ rd s order[i] ≤ roll by omega)
    have next := ih k (i + 1) (out.set order[i].toNat (pos roll (rd s order[i]) acc : Int)) (addTo acc (pos roll (rd s order[i]) acc : Int) (rd s order[i])) (by omega) (by omega) (by rw [List.length_set]; exact hout) (by omega) hst.1
    rw [show ((i + 1 : Nat) : Int) = (i : Int) + 1 by omega] at next
    have step := spec_l10First_l1 roll s order out acc h ha (by omega) i hlt hb hi2 hout (pos roll (rd s order[i]) acc) k 0 (by omega)
    rw [spec_l10First.l0, if_pos (by omega), drop_get order i hlt, ffit]
    exact step.trans next
theorem spec_l10First_eq (roll : Int) (s order : List Int) (k : Nat) (h : rollTask roll s = true) (ho : ∀ i ∈ order, 0 ≤ i ∧ i < (s.length : Int)) (hb : order.length ≤ 12) (hk : 20000 ≤ k) : spec_l10First.f k roll s order = some (ffit roll s order (List.replicate s.length 0) []) := by
  have h2 := (rollTask_true h).2.1
  unfold spec_l10First.f
  rw [if_pos (by omega), if_pos (by omega), Int.toNat_natCast]
  have := spec_l10First_l0 roll s h order ho (by omega) order.length k 0 (List.replicate s.length 0) [] (by omega) (by omega) (by simp) (by simp) (by simp)
  rw [List.drop_zero] at this
  exact this

theorem spec_l01Own_eq (l : List Int) (h : l.length ≤ 1048576) : spec_l01Own.f l = some l := by
  unfold spec_l01Own.f
  simp only [Option.bind_some, List.nil_append, List.length_nil]
  rw [if_pos (by omega)]

theorem spec_l01Has_l0 (xs : List Int) (x : Int) (hl : xs.length ≤ 9223372036854775806) : ∀ (d k i : Nat), i + d = xs.length → d < k → spec_l01Has.l0 k xs x (i : Int) = some ((xs.drop i).contains x) := by
  intro d
  induction d with
  | zero =>
    intro k i h hk
    obtain ⟨k, rfl⟩ : ∃ m, k = m + 1 := ⟨k - 1, by omega⟩
    rw [spec_l01Has.l0, if_neg (by omega), List.drop_of_length_le (by omega)]
    rfl
  | succ d ih =>
    intro k i h hk
    obtain ⟨k, rfl⟩ : ∃ m, k = m + 1 := ⟨k - 1, by omega⟩
    have hi : i < xs.length := by omega
    have e : xs.drop i = xs[i] :: xs.drop (i + 1) := List.drop_eq_getElem_cons hi
    have e2 : xs.getD i 0 = xs[i] := by simp [List.getD_eq_getElem?_getD, List.getElem?_eq_getElem hi]
    have e3 := ih k (i + 1) (by omega) (by omega)
    rw [spec_l01Has.l0, if_pos (by omega), if_pos (by omega), rd_nat, e2, e, List.contains_cons]
    by_cases hx : xs[i] = x
    · rw [if_pos hx]; simp [hx]
    · rw [if_neg hx, w64 (by omega) (by omega)]
      have e4 : (x == xs[i]) = false := beq_eq_false_iff_ne.mpr (fun h => hx h.symm)
      rw [e4, Bool.false_or]
      exact e3
theorem spec_l01Has_eq (xs : List Int) (x : Int) (k : Nat) (hl : xs.length ≤ 9223372036854775806) (hk : xs.length < k) : spec_l01Has.f k xs x = some (xs.contains x) := by
  unfold spec_l01Has.f
  exact spec_l01Has_l0 xs x hl xs.length k 0 (by omega) hk

/-- The places of x, counted from i on. -/
def hits (x : Int) : List Int → Nat → List Int
  | [], _ => []
  | y :: ys, i => if y = x then (i : Int) :: hits x ys (i + 1) else hits x ys (i + 1)
theorem hits_snoc (x z : Int) : ∀ (ys : List Int) (i : Nat), hits x (ys ++ [z]) i = hits x ys i ++ (if z = x then [((i + ys.length : Nat) : Int)] else [])
  | [], i => by
    simp only [List.nil_append, hits, List.length_nil, Nat.add_zero]
  | y :: ys, i => by
    rw [List.cons_append, hits, hits, hits_snoc x z ys (i + 1), List.length_cons, show i + 1 + ys.length = i + (ys.length + 1) by omega]
    split <;> simp
theorem hits_none (x : Int) : ∀ (ys : List Int) (i : Nat), ¬ x ∈ ys → hits x ys i = []
  | [], _, _ => rfl
  | y :: ys, i, h => by
    rw [hits, if_neg (fun e => h (by simp [e])), hits_none x ys (i + 1) (fun e => h (by simp [e]))]
theorem idxFrom_in (x : Int) : ∀ (ys zs : List Int) (i : Nat), x ∈ ys → idxFrom (ys ++ zs) x i = idxFrom ys x i
  | [], _, _, h => by simp at h
  | y :: ys, zs, i, h => by
    rw [List.cons_append, idxFrom, idxFrom]
    by_cases c : x = y
    · rw [if_pos c, if_pos c]
    · rw [if_neg c, if_neg c]
      exact idxFrom_in x ys zs (i + 1) (by rcases List.mem_cons.1 h with e | e; exact absurd e c; exact e)
theorem idxFrom_new (x : Int) : ∀ (ys : List Int) (i : Nat), ¬ x ∈ ys → idxFrom (ys ++ [x]) x i = ((i + ys.length : Nat) : Int)
  | [], i, _ => by simp [idxFrom]
  | y :: ys, i, h => by
    rw [List.cons_append, idxFrom, if_neg (fun e => h (by simp [e])), idxFrom_new x ys (i + 1) (fun e => h (by simp [e])), List.length_cons]
    omega
/-- Each that has been seen stands there once. -/
def Once (seen : List Int) : Prop := ∀ y ∈ seen, hits y seen 0 = [idxFrom seen y 0]
theorem once_snoc {seen : List Int} {x : Int} (h : Once seen) (hx : ¬ x ∈ seen) : Once (seen ++ [x]) := fun y hy => by
  rw [hits_snoc]
  rcases List.mem_append.1 hy with hy | hy
  · have hne : x ≠ y := fun e => hx (e ▸ hy)
    rw [if_neg hne, idxFrom_in y seen [x] 0 hy, h y hy]
    rfl
  · have e : y = x := by simpa using hy
    subst e
    rw [if_pos rfl, hits_none y seen 0 hx, idxFrom_new y seen 0 hx]
    rfl
theorem spec_l10Number_l1 (p seen : List Int) (i : Nat) (hi : i < p.length) (hp : p.length ≤ 1000) (hs : seen.length ≤ 1000) : ∀ (d k j : Nat) (out : List Int), j + d = seen.length → out.length + d ≤ 100000 → spec_l10Number.l1 (k + d + 1) p seen out (i : Int) (j : Int) = spec_l10Number.l0 k p seen (out ++ hits p[i] (seen.drop j) j) ((i : Int) + 1) := by
  intro d
  induction d with
  | zero =>
    intro k j out hj ho
    rw [show k + 0 + 1 = k + 1 by omega, spec_l10Number.l1, if_neg (by omega), List.drop_of_length_le (by omega), w64 (by omega) (by omega)]
    simp [hits]
  | succ d ih =>
    intro k j out hj ho
    have hlt : j < seen.length := by omega
    rw [show k + (d + 1) + 1 = (k + d + 1) + 1 by omega, spec_l10Number.l1, if_pos (by omega), if_pos (by omega), if_pos (by omega), if_pos (by omega), rd_get seen j hlt, rd_get p i hi, drop_get seen j hlt, hits, w64 (x := (j : Int) + 1) (by omega) (by omega)]
    have next := fun out h => ih k (j + 1) out (by omega) h
    rw [show ((j + 1 : Nat) : Int) = (j : Int) + 1 by omega] at next
    by_cases c : seen[j] = p[i]
    · rw [if_pos c, if_pos c, if_pos (by omega), next _ (by simp only [List.length_append, List.length_cons, List.length_nil]; omega), List.append_assoc]
      rfl
    · rw [if_neg c, if_neg c, next _ (by omega)]
theorem spec_l10Number_l0 (p : List Int) (hp : p.length ≤ 1000) : ∀ (d k i : Nat) (seen out : List Int), i + d = p.length → 1010 * d + 1 ≤ k → seen.length ≤ i → out.length = i → Once seen → spec_l10Number.l0 k p seen out (i : Int) = some (out ++ num (p.drop i) seen) := by
  intro d
  induction d with
  | zero =>
    intro k i seen out hi hk hs ho h
    obtain ⟨k, rfl⟩ : ∃ m, k = m + 1 := ⟨k - 1, by omega⟩
    rw [spec_l10Number.l0, if_neg (by omega), List.drop_of_length_le (by omega)]
    simp [num]
  | succ d ih =>
    intro k i seen out hi hk hs ho h
    have hlt : i < p.length := by omega
    have main : ∀ seen' : List Int, seen' = (if seen.contains p[i] = true then seen else seen ++ [p[i]]) → seen'.length ≤ i + 1 → Once seen' → p[i] ∈ seen' → ∀ k, 1010 * d + 1 + 1003 ≤ k → spec_l10Number.j1 k p seen' out (i : Int) = some (out ++ num (p.drop i) seen) := by
      intro seen' e hl h1 hm k hk
      obtain ⟨k, rfl⟩ : ∃ m, k = (m + seen'.length + 1) + 1 := ⟨k - seen'.length - 2, by omega⟩
      have step := spec_l10Number_l1 p seen' i hlt hp (by omega) seen'.length k 0 out (by omega) (by omega)
      have next := ih k (i + 1) seen' (out ++ hits p[i] seen' 0) (by omega) (by omega) (by omega) (by rw [h1 _ hm]; simp [ho]) h1
      rw [show ((i + 1 : Nat) : Int) = (i : Int) + 1 by omega] at next
      rw [spec_l10Number.j1]
      rw [List.drop_zero] at step
      refine step.trans (next.trans ?_)
      rw [h1 _ hm, drop_get p i hlt, num, ← e, List.append_assoc]
      rfl
    obtain ⟨k, rfl⟩ : ∃ m, k = m + 1 := ⟨k - 1, by omega⟩
    rw [spec_l10Number.l0, if_pos (by omega), if_pos (by omega), rd_get p i hlt, spec_l01Has_eq seen p[i] k (by omega) (by omega)]
    simp only [Option.bind_some]
    by_cases c : seen.contains p[i] = true
    · rw [if_pos c]
      exact main seen (by rw [if_pos c]) (by omega) h (by simpa using c) k (by omega)
    · rw [if_neg c, if_pos (by omega)]
      have hx : ¬ p[i] ∈ seen := by simpa using c
      exact main (seen ++ [p[i]]) (by rw [if_neg c]) (by simp only [List.length_append, List.length_cons, List.length_nil]; omega) (once_snoc h hx) (by simp) k (by omega)
theorem spec_l10Number_eq (p : List Int) (k : Nat) (hp : p.length ≤ 12) (hk : 20000 ≤ k) : spec_l10Number.f k p = some (num p []) := by
  unfold spec_l10Number.f
  have := spec_l10Number_l0 p (by omega) p.length k 0 [] [] (by omega) (by omega) (by simp) rfl (fun y hy => by simp at hy)
  rw [List.drop_zero, List.nil_append] at this
  exact this

theorem insF_split (s : List Int) (x : Int) : ∀ (L : List Int) (j : Nat), j ≤ L.length → (∀ m (h : m < L.length), m < j → rd s L[m] ≥ rd s x) → insF s x L = L.take j ++ insF s x (L.drop j)
  | L, 0, _, _ => by simp
  | [], j + 1, h, _ => by simp at h
  | y :: t, j + 1, h, hg => by
    have h0 := hg 0 (by simp) (by omega)
    simp only [List.getElem_cons_zero] at h0
    rw [insF, if_pos h0, List.take_succ_cons, List.drop_succ_cons, List.cons_append, insF_split s x t j (by simpa using h) (fun m hm hmj => by have := hg (m + 1) (by simpa using hm) (by omega); simpa using this)]
theorem spec_LongestFirst_l1 (roll : Int) (s order : List Int) (hs : s.length ≤ 12) (i : Nat) (hi : i < s.length) (ho : ∀ x ∈ order, 0 ≤ x ∧ x < (s.length : Int)) (hol : order.length ≤ 12) :
    ∀ (d k j : Nat), j + d = order.length → (∀ m (h : m < order.length), m < j → rd s order[m] ≥ rd s (i : Int)) → ∃ k', k ≤ k' ∧ spec_LongestFirst.l1 (k + d + 1) roll s order (i : Int) (j : Int) = spec_LongestFirst.l0 k' roll s (insF s (i : Int) order) ((i : Int) + 1) := by
  have ins : ∀ (k j : Nat), j ≤ order.length → ((spec_l01Own.f (order.take (j : Int).toNat)).bind fun t230 => ((some (([(i : Int)] : List Int) : List Int)).bind fun y233 => (if t230.length + y233.length < 17592186044416 then ((some (t230 ++ y233 : List Int)).bind fun y236 => ((some (order.drop (j : Int).toNat : List Int)).bind fun y239 => (if y236.length + y239.length < 17592186044416 then (spec_LongestFirst.l0 k roll s (y236 ++ y239) (wrap64 ((i : Int) + 1))) else (none)))) else (none)))) = spec_LongestFirst.l0 k roll s (order.take j ++ (i : Int) :: order.drop j) ((i : Int) + 1) := by
    intro k j hj
    rw [Int.toNat_natCast, spec_l01Own_eq _ (by rw [List.length_take]; omega)]
    simp only [Option.bind_some]
    rw [if_pos (by simp only [List.length_take, List.length_cons, List.length_nil]; omega), if_pos (by simp only [List.length_append, List.length_take, List.length_drop, List.length_cons, List.length_nil]; omega), w64 (by omega) (by omega), List.append_assoc]
    rfl
  intro d
  induction d with
  | zero =>
    intro k j hj hg
    refine ⟨k, Nat.le_refl _, ?_⟩
    rw [show k + 0 + 1 = k + 1 by omega, spec_LongestFirst.l1, if_neg (by omega), if_pos (by omega), if_pos (by omega), ins k j (by omega), insF_split s (i : Int) order j (by omega) hg, List.drop_of_length_le (by omega)]
    rfl
  | succ d ih =>
    intro k j hj hg
    have hlt : j < order.length := by omega
    have hoj := ho order[j] (List.getElem_mem hlt)
    rw [show k + (d + 1) + 1 = (k + d + 1) + 1 by omega, spec_LongestFirst.l1, if_pos (by omega), if_pos (by omega), rd_get order j hlt, if_pos hoj.1, if_pos hoj.2, if_pos (by omega), if_pos (by omega)]
    by_cases c : rd s order[j] ≥ rd s (i : Int)
    · rw [if_pos c, w64 (x := (j : Int) + 1) (by omega) (by omega)]
      have := ih k (j + 1) (by omega) (fun m hm hmj => by
        by_cases e : m = j
        · subst e; exact c
        · exact hg m hm (by omega))
      rw [show ((j + 1 : Nat) : Int) = (j : Int) + 1 by omega] at this
      exact this
    · refine ⟨k + d + 1, by omega, ?_⟩
      rw [if_neg c, if_pos (by omega), ins (k + d + 1) j (by omega), insF_split s (i : Int) order j (by omega) hg, drop_get order j hlt, insF, if_neg c]
theorem spec_LongestFirst_l0 (roll : Int) (s : List Int) (h : rollTask roll s = true) : ∀ (d k i : Nat), i + d = s.length → 20100 + 20 * d ≤ k → spec_LongestFirst.l0 k roll s (ordr s (nums i 0) []) (i : Int) = some (num (ffit roll s (ordr s (nums s.length 0) []) (List.replicate s.length 0) []) [], 0) := by
  have h2 := (rollTask_true h).2.1
  intro d
  induction d with
  | zero =>
    intro k i hi hk
    obtain ⟨k, rfl⟩ : ∃ m, k = m + 1 := ⟨k - 1, by omega⟩
    obtain ⟨o1, o2⟩ := ordr_in s
    rw [spec_LongestFirst.l0, if_neg (by omega), show i = s.length by omega, spec_l10First_eq roll s _ _ h o1 (by omega) (by omega)]
    simp only [Option.bind_some]
    rw [spec_l10Number_eq _ _ (by rw [ffit_len, List.length_replicate]; omega) (by omega)]
    rfl
  | succ d ih =>
    intro k i hi hk
    have hlen : (ordr s (nums i 0) []).length = i := by simp [ordr_len, nums_len]
    have hin : ∀ x ∈ ordr s (nums i 0) [], 0 ≤ x ∧ x < (s.length : Int) := fun x hx => by
      rcases ordr_mem s _ [] x hx with e | e
      · have := nums_mem i 0 x e; omega
      · simp at e
    obtain ⟨k, rfl⟩ : ∃ m, k = (m + i + 1) + 1 := ⟨k - i - 2, by omega⟩
    obtain ⟨k', hk', e⟩ := spec_LongestFirst_l1 roll s (ordr s (nums i 0) []) h2 i (by omega) hin (by omega) i k 0 (by omega) (fun m _ hm => absurd hm (by omega))
    have next := ih k' (i + 1) (by omega) (by omega)
    rw [nums_snoc, Nat.zero_add, ordr_snoc, show ((i + 1 : Nat) : Int) = (i : Int) + 1 by omega] at next
    rw [spec_LongestFirst.l0, if_pos (by omega)]
    exact e.trans next
theorem spec_LongestFirst_eq (roll : Int) (s : List Int) (k : Nat) (hl : s.length ≤ 1048576) (hk : s.length + 20400 ≤ k) : spec_LongestFirst.f k roll s = some (longestFirst roll s) := by
  unfold spec_LongestFirst.f longestFirst
  rw [spec_IsRollTask_eq roll s k (by omega) (by omega)]
  simp only [Option.bind_some]
  by_cases h : rollTask roll s = true
  · have h2 := (rollTask_true h).2.1
    rw [if_pos h, if_pos h]
    exact spec_LongestFirst_l0 roll s h s.length k 0 (by omega) (by omega)
  · rw [if_neg h, if_neg h]

theorem laws_toInt64S_l0 (xs : List Int) (hl : xs.length ≤ 35184372088832) : ∀ (d k i : Nat) (ys : List Int), ys.length = xs.length → i + d = xs.length → (∀ j, j < i → ys[j]? = xs[j]?) → d < k → laws_toInt64S.l0 k xs ys (i : Int) = some xs := by
  intro d
  induction d with
  | zero =>
    intro k i ys hy h hj hk
    obtain ⟨k, rfl⟩ : ∃ m, k = m + 1 := ⟨k - 1, by omega⟩
    rw [laws_toInt64S.l0, if_neg (by omega)]
    congr 1
    apply List.ext_getElem?
    intro j
    by_cases h1 : j < i
    · exact hj j h1
    · rw [List.getElem?_eq_none (by omega), List.getElem?_eq_none (by omega)]
  | succ d ih =>
    intro k i ys hy h hj hk
    obtain ⟨k, rfl⟩ : ∃ m, k = m + 1 := ⟨k - 1, by omega⟩
    have hi : i < xs.length := by omega
    have e2 : rd xs (i : Int) = xs[i] := by rw [rd_nat, List.getD_eq_getElem?_getD, List.getElem?_eq_getElem hi]; rfl
    rw [laws_toInt64S.l0, if_pos (by omega), if_pos (by omega), if_pos (by omega), w64 (by omega) (by omega), Int.toNat_natCast, e2]
    refine ih k (i + 1) _ (by rw [List.length_set]; exact hy) (by omega) (fun j hlt => ?_) (by omega)
    by_cases e : j = i
    · subst e
      rw [List.getElem?_set_self (by omega), List.getElem?_eq_getElem hi]
    · rw [List.getElem?_set_ne (by omega)]
      exact hj j (by omega)
theorem laws_toInt64S_eq (xs : List Int) (k : Nat) (hl : xs.length ≤ 35184372088832) (hk : xs.length < k) : laws_toInt64S.f k xs = some xs := by
  unfold laws_toInt64S.f
  rw [if_pos (by omega), if_pos (by omega)]
  exact laws_toInt64S_l0 xs hl xs.length k 0 _ (by simp) (by omega) (fun j hj => absurd hj (Nat.not_lt_zero _)) hk

theorem laws_eqInt64S_l0 (xs : List Int) (hl : xs.length ≤ 9223372036854775806) : ∀ (d k i : Nat), i + d = xs.length → d < k → laws_eqInt64S.l0 k xs xs (i : Int) = some true := by
  intro d
  induction d with
  | zero =>
    intro k i h hk
    obtain ⟨k, rfl⟩ : ∃ m, k = m + 1 := ⟨k - 1, by omega⟩
    rw [laws_eqInt64S.l0, if_neg (by omega)]
  | succ d ih =>
    intro k i h hk
    obtain ⟨k, rfl⟩ : ∃ m, k = m + 1 := ⟨k - 1, by omega⟩
    rw [laws_eqInt64S.l0, if_pos (by omega), if_pos (by omega), if_pos (by omega), if_pos rfl, w64 (by omega) (by omega)]
    exact ih k (i + 1) (by omega) (by omega)
theorem laws_eqInt64S_eq (xs : List Int) (k : Nat) (hl : xs.length ≤ 9223372036854775806) (hk : xs.length < k) : laws_eqInt64S.f k xs xs = some true := by
  unfold laws_eqInt64S.f
  rw [if_pos rfl]
  exact laws_eqInt64S_l0 xs hl xs.length k 0 (by omega) hk

theorem laws_markInt64S_l0 (n : Nat) (hn : n ≤ 9223372036854775806) : ∀ (d k i : Nat) (ys : List Int), ys.length = n → i + d = n → d < k →
    ∃ zs : List Int, laws_markInt64S.l0 k ys ((i : Int) + 1) (i : Int) = some ((n : Int) + 1, zs) ∧ zs.length = n ∧ (∀ j, j < i → zs.getD j 0 = ys.getD j 0) ∧ (∀ j, i ≤ j → j < n → zs.getD j 0 = (j : Int) + 1) := by
  intro d
  induction d with
  | zero =>
    intro k i ys hy h hk
    obtain ⟨k, rfl⟩ : ∃ m, k = m + 1 := ⟨k - 1, by omega⟩
    have e : i = n := by omega
    subst e
    refine ⟨ys, ?_, hy, fun _ _ => rfl, fun j h1 h2 => by omega⟩
    rw [laws_markInt64S.l0, if_neg (by omega)]
  | succ d ih =>
    intro k i ys hy h hk
    obtain ⟨k, rfl⟩ : ∃ m, k = m + 1 := ⟨k - 1, by omega⟩
    obtain ⟨zs, h1, h2, h3, h4⟩ := ih k (i + 1) (ys.set i ((i : Int) + 1)) (by simpa using hy) (by omega) (by omega)
    refine ⟨zs, ?_, h2, fun j hj => ?_, fun j hj1 hj2 => ?_⟩
    · rw [laws_markInt64S.l0, if_pos (by omega), if_pos (by omega), w64 (by omega) (by omega), w64 (by omega) (by omega), Int.toNat_natCast]
      have e : ((i + 1 : Nat) : Int) = (i : Int) + 1 := by omega
      rw [e] at h1
      exact h1
    · rw [h3 j (by omega)]
      simp only [List.getD_eq_getElem?_getD]
      rw [List.getElem?_set_ne (by omega)]
    · by_cases e : j = i
      · subst e
        rw [h3 j (by omega)]
        simp only [List.getD_eq_getElem?_getD]
        rw [List.getElem?_set_self (by omega)]
        rfl
      · exact h4 j (by omega) hj2

theorem laws_heldInt64S_l0 (n : Nat) (hn : n ≤ 9223372036854775806) (zs : List Int) (hz : zs.length = n) (hv : ∀ j, j < n → zs.getD j 0 = (j : Int) + 1) : ∀ (d k i : Nat), i + d = n → d < k →
    laws_heldInt64S.l0 k zs ((i : Int) + 1) (i : Int) = some ((n : Int) + 1) := by
  intro d
  induction d with
  | zero =>
    intro k i h hk
    obtain ⟨k, rfl⟩ : ∃ m, k = m + 1 := ⟨k - 1, by omega⟩
    have e : i = n := by omega
    subst e
    rw [laws_heldInt64S.l0, if_neg (by omega)]
  | succ d ih =>
    intro k i h hk
    obtain ⟨k, rfl⟩ : ∃ m, k = m + 1 := ⟨k - 1, by omega⟩
    have := ih k (i + 1) (by omega) (by omega)
    have e : ((i + 1 : Nat) : Int) = (i : Int) + 1 := by omega
    rw [e] at this
    rw [laws_heldInt64S.l0, if_pos (by omega), if_pos (by omega), if_pos (by rw [rd_nat, hv i (by omega)]), w64 (by omega) (by omega), w64 (by omega) (by omega)]
    exact this
/-- What was marked is held. -/
theorem marks_held (xs : List Int) (hn : xs.length ≤ 9223372036854775806) (k : Nat) (hk : xs.length < k) :
    ∃ zs : List Int, laws_markInt64S.f k xs 1 = some ((xs.length : Int) + 1, zs) ∧ zs.length = xs.length ∧ (∀ k', xs.length < k' → laws_heldInt64S.f k' zs 1 = some ((xs.length : Int) + 1)) := by
  obtain ⟨zs, h1, h2, _, h4⟩ := laws_markInt64S_l0 xs.length hn xs.length k 0 xs rfl (by omega) hk
  exact ⟨zs, h1, h2, fun k' hk' => laws_heldInt64S_l0 xs.length hn zs h2 (fun j hj => h4 j (by omega) hj) xs.length k' 0 (by omega) hk'⟩
theorem mark_any (a n : Int) (ha : 0 ≤ a ∧ a ≤ 1048577) (hn : n ≤ 1048576) : ∀ (d k i : Nat) (ys : List Int), (ys.length : Int) = n → (i : Int) + d = n → d < k →
    ∃ zs : List Int, laws_markInt64S.l0 k ys (a + i) (i : Int) = some (a + n, zs) := by
  intro d
  induction d with
  | zero =>
    intro k i ys hy h hk
    obtain ⟨k, rfl⟩ : ∃ m, k = m + 1 := ⟨k - 1, by omega⟩
    refine ⟨ys, ?_⟩
    rw [laws_markInt64S.l0, if_neg (by omega)]
    have e : (i : Int) = n := by omega
    rw [e]
  | succ d ih =>
    intro k i ys hy h hk
    obtain ⟨k, rfl⟩ : ∃ m, k = m + 1 := ⟨k - 1, by omega⟩
    obtain ⟨zs, h1⟩ := ih k (i + 1) (ys.set i (a + i)) (by simpa using hy) (by omega) (by omega)
    refine ⟨zs, ?_⟩
    rw [laws_markInt64S.l0, if_pos (by omega), if_pos (by omega), w64 (by omega) (by omega), w64 (by omega) (by omega), Int.toNat_natCast]
    have e : ((i + 1 : Nat) : Int) = (i : Int) + 1 := by omega
    rw [e, ← Int.add_assoc] at h1
    exact h1

theorem FnExactLongestFirst : laws_FnExactLongestFirst.Pure := by
  intro a l _ _ _ _
  by_cases hbig : (l.length : Int) > 1048576
  · exact ⟨1, by unfold laws_FnExactLongestFirst.f; rw [if_pos hbig]⟩
  have hl := longestFirst_len a l
  obtain ⟨ys, hm2, hz2, hh2⟩ := marks_held l (by omega) (l.length + 20599) (by omega)
  obtain ⟨zs, hm, hz, hh⟩ := marks_held (longestFirst a l).1 (by omega) (l.length + 20598) (by omega)
  have h0 : ¬ (((longestFirst a l).1.length : Int) + 1 < 0) := by omega
  have h1 : ¬ ((l.length : Int) + 1 < 0) := by omega
  refine ⟨l.length + 20600, ?_⟩
  simp (disch := omega) only [laws_FnExactLongestFirst.f, if_neg hbig, laws_toInt64S_eq, spec_LongestFirst_eq, impl_LongestFirst_eq, laws_eqInt64S_eq, Option.bind_some, bne_self_eq_false, if_true]
  simp (disch := omega) only [laws_FnExactLongestFirst.j0, laws_toInt64S_eq, laws_eqInt64S_eq, hm2, if_neg h1, Option.bind_some, bne_self_eq_false, Bool.false_eq_true, if_false, if_true]
  simp (disch := omega) only [laws_FnExactLongestFirst.j1, laws_toInt64S_eq, impl_LongestFirst_eq, laws_eqInt64S_eq, hm, hh, if_neg h0, Option.bind_some, bne_self_eq_false, Bool.false_eq_true, if_false, if_true]
  simp (disch := omega) only [laws_FnExactLongestFirst.j2, hh, if_neg h0, Option.bind_some, Bool.false_eq_true, if_false, if_true]

end Go.Proofs.Ytaapnjhgkbjdkaa.Pure
