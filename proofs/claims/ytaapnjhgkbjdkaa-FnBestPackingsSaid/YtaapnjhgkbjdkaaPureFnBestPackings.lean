/- For all arguments the law FnBestPackings returns true, with no condition beyond the bounds that the printed statement names. -/
import Derived.Test.YtaapnjhgkbjdkaaPFnBestPackingsx8
namespace Go.Proofs.Ytaapnjhgkbjdkaa.Pure
open Go.RowKit Go.Proofs.Ytaapnjhgkbjdkaa.PFnBestPackings Go.Proofs.YtaapnjhgkbjdkaaW.PrintWords Go.Proofs.YtaapnjhgkbjdkaaW.PrintLast
set_option linter.unusedVariables false
set_option linter.unusedSimpArgs false

theorem w64 {x : Int} (h1 : -9223372036854775808 ≤ x) (h2 : x ≤ 9223372036854775807) : wrap64 x = x := by
  unfold wrap64; omega
theorem wf64 {x : Int} (h : (Lit.int .i64 x).wf = true) : -9223372036854775808 ≤ x ∧ x ≤ 9223372036854775807 := by
  simp [Lit.wf, IntKind.min, IntKind.max, IntKind.signed, IntKind.bits] at h
  omega
/-- 'a lies from b to c'. -/
def inR (a b c : Int) : Bool := decide (b ≤ a ∧ a ≤ c)
theorem inR_true {a b c : Int} (h : inR a b c = true) : b ≤ a ∧ a ≤ c := by simpa [inR] using h
theorem inR_mk {a b c : Int} (h1 : b ≤ a) (h2 : a ≤ c) : inR a b c = true := by simp [inR, h1, h2]
theorem inR_false {a b c : Int} (h : inR a b c = false) : a < b ∨ c < a := by
  have : ¬ (b ≤ a ∧ a ≤ c) := by simpa [inR] using h
  omega
theorem rd_nat (xs : List Int) (i : Nat) : rd xs (i : Int) = xs.getD i 0 := by simp [rd]
theorem mul_bd {a b A B : Int} (h0 : 0 ≤ a) (h1 : a ≤ A) (k0 : 0 ≤ b) (k1 : b ≤ B) : 0 ≤ a * b ∧ a * b ≤ A * B :=
  ⟨Int.mul_nonneg h0 k0, Int.mul_le_mul h1 k1 k0 (by omega)⟩
theorem tdiv_n {a b : Int} (h : 0 ≤ a) : Int.tdiv a b = a / b := Int.tdiv_eq_ediv_of_nonneg h
theorem tmod_n {a b : Int} (h : 0 ≤ a) : Int.tmod a b = a % b := Int.tmod_eq_emod_of_nonneg h
theorem mn_min (a b : Int) : mn a b = min a b := by unfold mn; split <;> omega
theorem mx_max (a b : Int) : mx a b = max a b := by unfold mx; split <;> omega

def allR (xs : List Int) (lo hi : Int) : Bool := xs.all fun x => inR x lo hi
theorem allR_mem {xs : List Int} {lo hi : Int} (h : allR xs lo hi = true) : ∀ x ∈ xs, lo ≤ x ∧ x ≤ hi := fun x hx => inR_true (List.all_eq_true.1 h x hx)
theorem drop_get (xs : List Int) (i : Nat) (hi : i < xs.length) : xs.drop i = xs[i] :: xs.drop (i + 1) := List.drop_eq_getElem_cons hi
theorem rd_get (xs : List Int) (i : Nat) (hi : i < xs.length) : rd xs (i : Int) = xs[i] := by rw [rd_nat, List.getD_eq_getElem?_getD, List.getElem?_eq_getElem hi]; rfl
/-- The sum, as the program adds it up. -/
def wsum (a : Int) (xs : List Int) : Int := xs.foldl (fun a x => wrap64 (a + x)) a
theorem wsum_cons (a x : Int) (xs : List Int) : wsum a (x :: xs) = wsum (wrap64 (a + x)) xs := rfl
theorem wsum_eq : ∀ (xs : List Int) (a : Int), (∀ x ∈ xs, 0 ≤ x ∧ x ≤ 1000000) → 0 ≤ a → a + xs.length * 1000000 ≤ 4611686018427387904 → wsum a xs = a + xs.sum ∧ 0 ≤ xs.sum ∧ xs.sum ≤ xs.length * 1000000
  | [], a, _, h0, _ => ⟨by simp [wsum], by simp, by simp⟩
  | x :: xs, a, h, h0, hb => by
    have hx := h x (by simp)
    simp only [List.length_cons] at hb ⊢
    obtain ⟨e, l, u⟩ := wsum_eq xs (a + x) (fun y hy => h y (by simp [hy])) (by omega) (by omega)
    rw [wsum_cons, w64 (by omega) (by omega), e, List.sum_cons]
    exact ⟨by omega, by omega, by omega⟩

def rollTask (roll : Int) (s : List Int) : Bool := inR roll 1 100000 && (decide ((s.length : Int) ≤ 12) && allR s 1 roll)
theorem rollTask_true {roll : Int} {s : List Int} (h : rollTask roll s = true) : (1 ≤ roll ∧ roll ≤ 100000) ∧ s.length ≤ 12 ∧ ∀ x ∈ s, 1 ≤ x ∧ x ≤ roll := by
  simp only [rollTask, Bool.and_eq_true, decide_eq_true_eq] at h
  exact ⟨inR_true h.1, by omega, allR_mem h.2.2⟩
theorem roll_sum {roll : Int} {s : List Int} (h : rollTask roll s = true) : wsum 0 s = s.sum ∧ 0 ≤ s.sum ∧ s.sum ≤ 12000000 := by
  obtain ⟨h1, h2, h3⟩ := rollTask_true h
  obtain ⟨e, l, u⟩ := wsum_eq s 0 (fun x hx => by have := h3 x hx; omega) (by omega) (by omega)
  exact ⟨by omega, l, by omega⟩
/-- How many strips are longer than half a roll. -/
def longs (roll : Int) : List Int → Int
  | [] => 0
  | x :: xs => (if 2 * x > roll then 1 else 0) + longs roll xs
theorem longs_bd (roll : Int) : ∀ xs : List Int, 0 ≤ longs roll xs ∧ longs roll xs ≤ xs.length
  | [] => by simp [longs]
  | x :: xs => by
    have := longs_bd roll xs
    simp only [longs, List.length_cons]
    split <;> omega
def rollBound (roll : Int) (s : List Int) : Int × Int := if rollTask roll s = true then (max (longs roll s) ((s.sum + roll - 1) / roll), 0) else (0, 1)

/-- The place of the first x in a list, counted from i on, or -1. -/
def idxFrom : List Int → Int → Nat → Int
  | [], _, _ => -1
  | y :: ys, x, i => if x = y then (i : Int) else idxFrom ys x (i + 1)

/-- 'Each strip goes to a roll that is there or to the next one'; n rolls are there. -/
def rg : List Int → Int → Bool
  | [], _ => true
  | p :: ps, n => inR p 0 n && rg ps (max n (p + 1))
def room (acc : List Int) (p : Int) : List Int := if p = (acc.length : Int) then acc ++ [0] else acc
def addTo (acc : List Int) (p s : Int) : List Int := (room acc p).set p.toNat (rd (room acc p) p + s)
/-- The sums of the strips of each roll. -/
def loads : List Int → List Int → List Int → List Int
  | s :: ss, p :: ps, acc => loads ss ps (addTo acc p s)
  | _, _, acc => acc
theorem room_len {acc : List Int} {p : Int} (h : inR p 0 acc.length = true) : ((room acc p).length : Int) = max (acc.length : Int) (p + 1) := by
  have := inR_true h
  unfold room
  split
  · simp only [List.length_append, List.length_cons, List.length_nil]; omega
  · omega
theorem addTo_len {acc : List Int} {p : Int} (s : Int) (h : inR p 0 acc.length = true) : ((addTo acc p s).length : Int) = max (acc.length : Int) (p + 1) := by
  unfold addTo
  rw [List.length_set, room_len h]
theorem room_mem {acc : List Int} {p B : Int} (hB : 0 ≤ B) (h : ∀ a ∈ acc, 0 ≤ a ∧ a ≤ B) : ∀ a ∈ room acc p, 0 ≤ a ∧ a ≤ B := by
  intro a ha
  unfold room at ha
  split at ha
  · rcases List.mem_append.1 ha with h1 | h1
    · exact h a h1
    · simp only [List.mem_singleton] at h1
      omega
  · exact h a ha
theorem rd_mem {xs : List Int} {p : Int} (h0 : 0 ≤ p) (h : p < xs.length) : rd xs p ∈ xs := by
  obtain ⟨n, rfl⟩ : ∃ n : Nat, p = n := ⟨p.toNat, by omega⟩
  rw [rd_get xs n (by omega)]
  exact List.getElem_mem _
theorem room_rd {acc : List Int} {p B : Int} (hi : inR p 0 acc.length = true) (hB : 0 ≤ B) (h : ∀ a ∈ acc, 0 ≤ a ∧ a ≤ B) : 0 ≤ rd (room acc p) p ∧ rd (room acc p) p ≤ B := by
  have h1 := inR_true hi
  have h2 := room_len hi
  exact room_mem hB h _ (rd_mem h1.1 (by omega))
theorem addTo_mem {acc : List Int} {p s B C : Int} (hi : inR p 0 acc.length = true) (hB : 0 ≤ B) (h : ∀ a ∈ acc, 0 ≤ a ∧ a ≤ B) (hs : 0 ≤ s) (hC : B + s ≤ C) : ∀ a ∈ addTo acc p s, 0 ≤ a ∧ a ≤ C := by
  intro a ha
  have h3 := room_rd hi hB h
  rcases List.mem_or_eq_of_mem_set ha with h1 | h1
  · have := room_mem hB h a h1
    omega
  · omega
theorem loads_ok : ∀ (s p acc : List Int) (B : Int), rg p acc.length = true → (∀ x ∈ s, 1 ≤ x ∧ x ≤ 100000) → 0 ≤ B → (∀ a ∈ acc, 0 ≤ a ∧ a ≤ B) → ∀ a ∈ loads s p acc, 0 ≤ a ∧ a ≤ B + s.length * 100000
  | [], p, acc, B, _, _, _, h => by
    intro a ha
    rw [loads.eq_def] at ha
    simp only at ha
    have := h a ha
    simp only [List.length_nil]
    omega
  | s :: ss, [], acc, B, _, _, _, h => by
    intro a ha
    rw [loads.eq_def] at ha
    simp only at ha
    have := h a ha
    simp only [List.length_cons]
    omega
  | s :: ss, p :: ps, acc, B, hr, hs, hB, h => by
    simp only [rg, Bool.and_eq_true] at hr
    have h1 := hs s (by simp)
    intro a ha
    rw [loads] at ha
    have := loads_ok ss ps (addTo acc p s) (B + 100000) (by rw [addTo_len s hr.1]; exact hr.2) (fun x hx => hs x (by simp [hx])) (by omega) (addTo_mem hr.1 hB h (by omega) (by omega)) a ha
    simp only [List.length_cons]
    omega
def isPacking (roll : Int) (s p : List Int) : Bool := rollTask roll s && (decide (p.length = s.length) && (rg p 0 && (loads s p []).all fun a => decide (a ≤ roll)))

theorem room_len_le (acc : List Int) (p : Int) : (room acc p).length ≤ acc.length + 1 := by
  unfold room
  split
  · simp
  · omega
theorem loads_len2 : ∀ (s p acc : List Int), (loads s p acc).length ≤ acc.length + s.length
  | [], p, acc => by rw [loads.eq_def]; simp
  | s :: ss, [], acc => by rw [loads.eq_def]; simp only [List.length_cons]; omega
  | s :: ss, p :: ps, acc => by
    rw [loads]
    have h1 := loads_len2 ss ps (addTo acc p s)
    have h2 := room_len_le acc p
    have h3 : (addTo acc p s).length = (room acc p).length := by unfold addTo; rw [List.length_set]
    simp only [List.length_cons]
    omega
def sparesOf (roll : Int) (s p : List Int) : List Int × Int :=
  if rollTask roll s = true then (if isPacking roll s p = true then ((loads s p []).map (fun x => roll - x), 0) else ([], 2)) else ([], 1)
theorem sparesOf_len (roll : Int) (s p : List Int) : (sparesOf roll s p).1.length ≤ 12 := by
  unfold sparesOf
  split
  · rename_i h
    have := (rollTask_true h).2.1
    have := loads_len2 s p []
    split
    · simp only [List.length_map]
      simp only [List.length_nil] at this
      omega
    · simp
  · simp
theorem set_map (xs : List Int) (i : Nat) (h : i < xs.length) (f : Int → Int) : (xs.set i (f xs[i])).take (i + 1) ++ ((xs.set i (f xs[i])).drop (i + 1)).map f = xs.take i ++ (xs.drop i).map f := by
  have h' : i < (xs.set i (f xs[i])).length := by rw [List.length_set]; exact h
  rw [List.take_succ_eq_append_getElem h', List.getElem_set_self, List.take_set_of_le (Nat.le_refl i), List.drop_set_of_lt (Nat.lt_succ_self i), drop_get xs i h, List.map_cons]
  simp
theorem spares_ok {roll : Int} {s p : List Int} (h1 : rollTask roll s = true) (h2 : isPacking roll s p = true) : p.length = s.length ∧ s.length ≤ 12 ∧ (∀ x ∈ s, 1 ≤ x ∧ x ≤ 100000) ∧ rg p 0 = true ∧ (∀ a ∈ loads s p [], 0 ≤ a ∧ a ≤ 1200000) ∧ (loads s p []).length ≤ 12 ∧ (∀ a ∈ loads s p [], a ≤ roll) := by
  obtain ⟨g1, g2, g3⟩ := rollTask_true h1
  simp only [isPacking, Bool.and_eq_true, decide_eq_true_eq, List.all_eq_true] at h2
  have hs : ∀ x ∈ s, 1 ≤ x ∧ x ≤ 100000 := fun x hx => by have := g3 x hx; omega
  have hlen := loads_len2 s p []
  simp only [List.length_nil] at hlen
  refine ⟨h2.2.1, g2, hs, h2.2.2.1, fun a ha => ?_, by omega, h2.2.2.2⟩
  have := loads_ok s p [] 0 h2.2.2.1 hs (by omega) (by simp) a ha
  omega

/-- The first number of n, from k on, for which there is an answer, ahead of this answer. -/
def tryK (f : Int → Option (List Int)) : Nat → Int → Option (List Int)
  | 0, _ => none
  | n + 1, k => match f k with
    | some q => some (k :: q)
    | none => tryK f n (k + 1)
/-- The smallest way to go on with at most so many rolls. -/
def packs (roll : Int) (most : Nat) : List Int → List Int → Option (List Int)
  | [], _ => some []
  | s :: ss, acc => tryK (fun k => if k < (acc.length : Int) ∧ rd acc k + s > roll then none else packs roll most ss (addTo acc k s)) (min (acc.length + 1) most) 0
theorem tryK_some {f : Int → Option (List Int)} : ∀ {n : Nat} {k : Int} {q : List Int}, tryK f n k = some q → ∃ j r, q = j :: r ∧ k ≤ j ∧ j < k + n ∧ f j = some r
  | 0, k, q, h => by simp [tryK] at h
  | n + 1, k, q, h => by
    rw [tryK] at h
    cases e : f k with
    | some r =>
      rw [e] at h
      exact ⟨k, r, (Option.some.inj h).symm, by omega, by omega, e⟩
    | none =>
      rw [e] at h
      obtain ⟨j, r, h1, h2, h3, h4⟩ := tryK_some h
      exact ⟨j, r, h1, by omega, by omega, h4⟩
theorem tryK_ne {f : Int → Option (List Int)} : ∀ {n : Nat} {k j : Int}, k ≤ j → j < k + n → f j ≠ none → tryK f n k ≠ none
  | 0, k, j, h1, h2, _ => by omega
  | n + 1, k, j, h1, h2, h3 => by
    rw [tryK]
    cases e : f k with
    | some r => simp
    | none =>
      have : k ≠ j := fun h => h3 (h ▸ e)
      exact tryK_ne (by omega) (by omega) h3
theorem addTo_new (acc : List Int) (s : Int) : addTo acc (acc.length : Int) s = acc ++ [s] := by
  unfold addTo room
  rw [if_pos rfl, Int.toNat_natCast, rd_nat]
  simp
theorem addTo_old {acc : List Int} {k s : Int} (h : k < (acc.length : Int)) : addTo acc k s = acc.set k.toNat (rd acc k + s) := by
  unfold addTo room
  rw [if_neg (by omega)]
theorem longs_app (roll : Int) : ∀ (xs ys : List Int), longs roll (xs ++ ys) = longs roll xs + longs roll ys
  | [], ys => by simp [longs]
  | x :: xs, ys => by
    rw [List.cons_append, longs, longs, longs_app roll xs ys]
    omega
theorem longs_set (roll v : Int) : ∀ (xs : List Int) (i : Nat) (h : i < xs.length), longs roll (xs.set i v) = longs roll xs - (if 2 * xs[i] > roll then 1 else 0) + (if 2 * v > roll then 1 else 0)
  | x :: xs, 0, _ => by
    simp only [List.set_cons_zero, longs, List.getElem_cons_zero]
    omega
  | x :: xs, i + 1, h => by
    have := longs_set roll v xs i (by simpa using h)
    simp only [List.set_cons_succ, longs, List.getElem_cons_succ, this]
    omega
theorem sum_set (v : Int) : ∀ (xs : List Int) (i : Nat) (h : i < xs.length), (xs.set i v).sum = xs.sum - xs[i] + v
  | x :: xs, 0, _ => by
    simp only [List.set_cons_zero, List.sum_cons, List.getElem_cons_zero]
    omega
  | x :: xs, i + 1, h => by
    have := sum_set v xs i (by simpa using h)
    simp only [List.set_cons_succ, List.sum_cons, List.getElem_cons_succ, this]
    omega
/-- One strip more: the sums stay in the roll, and as much is longer than half a roll. -/
theorem addTo_step {roll k s : Int} {acc : List Int} (hk : inR k 0 acc.length = true) (ha : ∀ a ∈ acc, 0 ≤ a ∧ a ≤ roll) (hs : 0 ≤ s ∧ s ≤ roll) (hf : ¬ (k < (acc.length : Int) ∧ rd acc k + s > roll)) :
    (∀ a ∈ addTo acc k s, 0 ≤ a ∧ a ≤ roll) ∧ (addTo acc k s).sum = acc.sum + s ∧ longs roll acc + (if 2 * s > roll then 1 else 0) ≤ longs roll (addTo acc k s) := by
  have h := inR_true hk
  by_cases e : k = (acc.length : Int)
  · subst e
    rw [addTo_new]
    refine ⟨fun a h1 => ?_, ?_, ?_⟩
    · rcases List.mem_append.1 h1 with h2 | h2
      · exact ha a h2
      · simp only [List.mem_singleton] at h2
        omega
    · simp
    · rw [longs_app]
      simp only [longs]
      omega
  · have hlt : k < (acc.length : Int) := by omega
    obtain ⟨i, rfl⟩ : ∃ i : Nat, k = i := ⟨k.toNat, by omega⟩
    have hi : i < acc.length := by omega
    have hg := ha acc[i] (List.getElem_mem hi)
    have hr := rd_get acc i hi
    have hfit : acc[i] + s ≤ roll := by
      by_cases g : acc[i] + s ≤ roll
      · exact g
      · exact absurd ⟨hlt, by omega⟩ hf
    rw [addTo_old hlt, Int.toNat_natCast, hr]
    refine ⟨fun a h1 => ?_, ?_, ?_⟩
    · rcases List.mem_or_eq_of_mem_set h1 with h2 | h2
      · exact ha a h2
      · omega
    · rw [sum_set _ _ _ hi]; omega
    · rw [longs_set _ _ _ _ hi]
      by_cases c1 : 2 * s > roll
      · rw [if_pos c1, if_pos (show 2 * (acc[i] + s) > roll by omega), if_neg (show ¬ 2 * acc[i] > roll by omega)]; omega
      · by_cases c2 : 2 * acc[i] > roll
        · rw [if_neg c1, if_pos c2, if_pos (show 2 * (acc[i] + s) > roll by omega)]; omega
        · rw [if_neg c1, if_neg c2]; split <;> omega
theorem packs_some (roll : Int) (most : Nat) : ∀ (ss acc q : List Int), (∀ x ∈ ss, 0 ≤ x ∧ x ≤ roll) → (∀ a ∈ acc, 0 ≤ a ∧ a ≤ roll) → acc.length ≤ most → packs roll most ss acc = some q →
    q.length = ss.length ∧ rg q acc.length = true ∧ (∀ a ∈ loads ss q acc, 0 ≤ a ∧ a ≤ roll) ∧ acc.length ≤ (loads ss q acc).length ∧ (loads ss q acc).length ≤ most ∧ (loads ss q acc).sum = acc.sum + ss.sum ∧ longs roll acc + longs roll ss ≤ longs roll (loads ss q acc) ∧
      ∀ n : Nat, (loads ss q acc).length ≤ n → packs roll n ss acc ≠ none
  | [], acc, q, _, ha, hm, h => by
    obtain rfl := (Option.some.inj h)
    refine ⟨rfl, rfl, ha, Nat.le_refl _, hm, ?_, ?_, fun n _ => by simp [packs]⟩
    · simp [loads]
    · simp [loads, longs]
  | s :: ss, acc, q, hs, ha, hm, h => by
    rw [packs] at h
    obtain ⟨j, r, rfl, h1, h2, h3⟩ := tryK_some h
    by_cases hf : j < (acc.length : Int) ∧ rd acc j + s > roll
    · rw [if_pos hf] at h3; cases h3
    rw [if_neg hf] at h3
    have hjr : inR j 0 acc.length = true := inR_mk (by omega) (by omega)
    obtain ⟨k1, k2, k3⟩ := addTo_step hjr ha (hs s (by simp)) hf
    have hl := addTo_len s hjr
    obtain ⟨g1, g2, g3, g4, g5, g6, g7, g8⟩ := packs_some roll most ss (addTo acc j s) r (fun x hx => hs x (by simp [hx])) k1 (by omega) h3
    rw [loads]
    refine ⟨by simp [g1], ?_, g3, by omega, g5, by rw [g6, k2, List.sum_cons]; omega, by rw [longs]; omega, fun n hn => ?_⟩
    · simp only [rg, Bool.and_eq_true]
      exact ⟨hjr, by rw [← hl]; exact g2⟩
    · rw [packs]
      refine tryK_ne (j := j) (by omega) (by omega) ?_
      rw [if_neg hf]
      exact g8 n hn
theorem packs_all (roll : Int) (most : Nat) : ∀ (ss acc : List Int), acc.length + ss.length ≤ most → packs roll most ss acc ≠ none
  | [], acc, _ => by simp [packs]
  | s :: ss, acc, h => by
    simp only [List.length_cons] at h
    rw [packs]
    refine tryK_ne (j := (acc.length : Int)) (by omega) (by omega) ?_
    rw [if_neg (by omega), addTo_new]
    exact packs_all roll most ss _ (by simp only [List.length_append, List.length_cons, List.length_nil]; omega)
theorem sum_le_len {roll : Int} : ∀ xs : List Int, (∀ a ∈ xs, 0 ≤ a ∧ a ≤ roll) → xs.sum ≤ xs.length * roll
  | [], _ => by simp
  | x :: xs, h => by
    have h1 := h x (by simp)
    have h2 := sum_le_len xs (fun a ha => h a (by simp [ha]))
    rw [List.sum_cons, List.length_cons, show ((xs.length + 1 : Nat) : Int) = (xs.length : Int) + 1 by omega, Int.add_mul]
    omega
/-- No packing has fewer rolls than the bound. -/
theorem packs_bound {roll : Int} {most : Nat} {ss q : List Int} (h : rollTask roll ss = true) (hp : packs roll most ss [] = some q) : (rollBound roll ss).1 ≤ (loads ss q []).length := by
  obtain ⟨h1, h2, h3⟩ := rollTask_true h
  obtain ⟨g1, g2, g3, g4, g5, g6, g7, g8⟩ := packs_some roll most ss [] q (fun x hx => by have := h3 x hx; omega) (by simp) (by simp) hp
  unfold rollBound
  rw [if_pos h]
  have e1 := sum_le_len _ g3
  have e2 := (longs_bd roll (loads ss q [])).2
  simp only [longs, List.sum_nil] at g6 g7
  have e3 : (ss.sum + roll - 1) / roll < ((loads ss q []).length : Int) + 1 := Int.ediv_lt_of_lt_mul (by omega) (by rw [Int.add_mul]; omega)
  simp only
  omega
/-- The first number of n, from m on, with a packing, and this packing. -/
def firstM (f : Nat → Option (List Int)) : Nat → Nat → Nat × List Int
  | 0, m => (m, [])
  | n + 1, m => match f m with
    | some q => (m, q)
    | none => firstM f n (m + 1)
theorem firstM_ok {f : Nat → Option (List Int)} : ∀ (n m j : Nat), m ≤ j → j < m + n → f j ≠ none → f (firstM f n m).1 = some (firstM f n m).2 ∧ m ≤ (firstM f n m).1 ∧ (firstM f n m).1 ≤ j ∧ ∀ i, m ≤ i → i < (firstM f n m).1 → f i = none
  | 0, m, j, h1, h2, _ => by omega
  | n + 1, m, j, h1, h2, h3 => by
    rw [firstM]
    cases e : f m with
    | some q => exact ⟨e, Nat.le_refl _, h1, fun i h4 h5 => by simp only at h5; omega⟩
    | none =>
      have hne : m ≠ j := fun h => h3 (h ▸ e)
      obtain ⟨g1, g2, g3, g4⟩ := firstM_ok (f := f) n (m + 1) j (by omega) (by omega) h3
      refine ⟨g1, by simp only; omega, g3, fun i h4 h5 => ?_⟩
      by_cases hi : i = m
      · exact hi ▸ e
      · exact g4 i (by omega) h5
def bestP (roll : Int) (ss : List Int) : Nat × List Int := firstM (fun m => packs roll m ss []) 13 0
theorem bestP_ok {roll : Int} {ss : List Int} (h : rollTask roll ss = true) : packs roll (bestP roll ss).1 ss [] = some (bestP roll ss).2 ∧ (bestP roll ss).1 ≤ 12 ∧ (∀ i, i < (bestP roll ss).1 → packs roll i ss [] = none) ∧
    (rollBound roll ss).1 ≤ (bestP roll ss).1 ∧ (loads ss (bestP roll ss).2 []).length = (bestP roll ss).1 ∧ rg (bestP roll ss).2 0 = true ∧ (bestP roll ss).2.length = ss.length ∧ (∀ a ∈ loads ss (bestP roll ss).2 [], 0 ≤ a ∧ a ≤ roll) := by
  obtain ⟨h1, h2, h3⟩ := rollTask_true h
  obtain ⟨g1, g2, g3, g4⟩ := firstM_ok (f := fun m => packs roll m ss []) 13 0 ss.length (by omega) (by omega) (packs_all roll ss.length ss [] (by simp))
  obtain ⟨e1, e2, e3, e4, e5, e6, e7, e8⟩ := packs_some roll _ ss [] _ (fun x hx => by have := h3 x hx; omega) (by simp) (by simp) g1
  have hb := packs_bound h g1
  have hle : (bestP roll ss).1 ≤ (loads ss (bestP roll ss).2 []).length := by
    by_cases hc : (bestP roll ss).1 ≤ (loads ss (bestP roll ss).2 []).length
    · exact hc
    · exact absurd (g4 _ (Nat.zero_le _) (Nat.lt_of_not_le hc)) (e8 _ (Nat.le_refl _))
  have heq : (loads ss (bestP roll ss).2 []).length = (bestP roll ss).1 := Nat.le_antisymm e5 hle
  exact ⟨g1, by unfold bestP; omega, fun i hi => g4 i (by omega) hi, by rw [← heq]; exact hb, heq, e2, e1, e3⟩

/-- The first roll with room for s, or the next one. -/
def pos (roll s : Int) : List Int → Nat
  | [] => 0
  | a :: acc => if a + s ≤ roll then 0 else pos roll s acc + 1
theorem pos_le (roll s : Int) : ∀ acc : List Int, pos roll s acc ≤ acc.length
  | [] => by simp [pos]
  | a :: acc => by
    have := pos_le roll s acc
    simp only [pos, List.length_cons]
    split <;> omega
theorem pos_fits (roll s : Int) : ∀ (acc : List Int) (h : pos roll s acc < acc.length), acc[pos roll s acc] + s ≤ roll
  | [], h => by simp at h
  | a :: acc, h => by
    by_cases c : a + s ≤ roll
    · simp only [pos, c, if_true, List.getElem_cons_zero]
    · have := pos_fits roll s acc
      simp only [pos, c, if_false, List.getElem_cons_succ, List.length_cons] at h ⊢
      exact this (by omega)
theorem pos_rd (roll s : Int) (acc : List Int) : ¬ ((pos roll s acc : Int) < (acc.length : Int) ∧ rd acc (pos roll s acc : Int) + s > roll) := by
  intro h
  have h1 : pos roll s acc < acc.length := by omega
  have h2 := pos_fits roll s acc h1
  rw [rd_get acc _ h1] at h
  omega
/-- First fit, strip by strip. -/
def ff (roll : Int) : List Int → List Int → List Int
  | [], _ => []
  | s :: ss, acc => (pos roll s acc : Int) :: ff roll ss (addTo acc (pos roll s acc : Int) s)
/-- First fit for the strips with the numbers of a list. -/
def ffit (roll : Int) (s : List Int) : List Int → List Int → List Int → List Int
  | [], out, _ => out
  | i :: is, out, acc => ffit roll s is (out.set i.toNat (pos roll (rd s i) acc : Int)) (addTo acc (pos roll (rd s i) acc : Int) (rd s i))
theorem ff_ok (roll : Int) : ∀ (ss acc : List Int), (∀ x ∈ ss, 0 ≤ x ∧ x ≤ roll) → (∀ a ∈ acc, 0 ≤ a ∧ a ≤ roll) →
    (ff roll ss acc).length = ss.length ∧ rg (ff roll ss acc) acc.length = true ∧ (∀ a ∈ loads ss (ff roll ss acc) acc, 0 ≤ a ∧ a ≤ roll) ∧ acc.length ≤ (loads ss (ff roll ss acc) acc).length ∧
      ∀ n : Nat, (loads ss (ff roll ss acc) acc).length ≤ n → packs roll n ss acc ≠ none
  | [], acc, _, ha => ⟨rfl, rfl, ha, Nat.le_refl _, fun n _ => by simp [packs]⟩
  | s :: ss, acc, hs, ha => by
    have hp := pos_le roll s acc
    have hf := pos_rd roll s acc
    have hjr : inR (pos roll s acc : Int) 0 acc.length = true := inR_mk (by omega) (by omega)
    obtain ⟨k1, k2, k3⟩ := addTo_step hjr ha (hs s (by simp)) hf
    have hl := addTo_len s hjr
    obtain ⟨g1, g2, g3, g4, g5⟩ := ff_ok roll ss (addTo acc (pos roll s acc : Int) s) (fun x hx => hs x (by simp [hx])) k1
    rw [ff, loads]
    refine ⟨by simp [g1], ?_, g3, by omega, fun n hn => ?_⟩
    · simp only [rg, Bool.and_eq_true]
      exact ⟨hjr, by rw [← hl]; exact g2⟩
    · rw [packs]
      refine tryK_ne (j := (pos roll s acc : Int)) (by omega) (by omega) ?_
      rw [if_neg hf]
      exact g5 n hn
theorem ff_packing {roll : Int} {s : List Int} (h : rollTask roll s = true) : isPacking roll s (ff roll s []) = true := by
  obtain ⟨h1, h2, h3⟩ := rollTask_true h
  obtain ⟨g1, g2, g3, _, _⟩ := ff_ok roll s [] (fun x hx => by have := h3 x hx; omega) (by simp)
  simp only [isPacking, Bool.and_eq_true, h, g1, decide_true, true_and, List.all_eq_true, decide_eq_true_eq]
  exact ⟨g2, fun a ha => (g3 a ha).2⟩
theorem pos_before (roll s : Int) : ∀ (acc : List Int) (j : Nat) (h : j < acc.length), j < pos roll s acc → acc[j] + s > roll
  | a :: acc, 0, h, hp => by
    by_cases c : a + s ≤ roll
    · simp only [pos, c, if_true] at hp
      omega
    · simp only [List.getElem_cons_zero]
      omega
  | a :: acc, j + 1, h, hp => by
    by_cases c : a + s ≤ roll
    · simp only [pos, c, if_true] at hp
      omega
    · simp only [pos, c, if_false] at hp
      simp only [List.getElem_cons_succ]
      exact pos_before roll s acc j (by simpa using h) (by omega)
/-- The numbers from i on, d of them. -/
def nums : Nat → Nat → List Int
  | 0, _ => []
  | d + 1, i => (i : Int) :: nums d (i + 1)
theorem nums_len : ∀ d i, (nums d i).length = d
  | 0, _ => rfl
  | d + 1, i => by simp [nums, nums_len d]
theorem nums_snoc : ∀ d i, nums (d + 1) i = nums d i ++ [((i + d : Nat) : Int)]
  | 0, i => by simp [nums]
  | d + 1, i => by
    rw [nums, nums_snoc d (i + 1), nums, List.cons_append, show i + 1 + d = i + (d + 1) by omega]
theorem nums_mem : ∀ d i, ∀ x ∈ nums d i, (i : Int) ≤ x ∧ x < (i : Int) + d
  | 0, i, x, h => by simp [nums] at h
  | d + 1, i, x, h => by
    rw [nums, List.mem_cons] at h
    rcases h with h | h
    · omega
    · have := nums_mem d (i + 1) x h
      omega
theorem set_at {α : Type} (pre : List α) (x y : α) (post : List α) : (pre ++ x :: post).set pre.length y = pre ++ y :: post := by
  rw [List.set_append_right (h := Nat.le_refl _)]
  simp
/-- First fit, in the strips' own order. -/
theorem ffit_id (roll : Int) (s : List Int) : ∀ (d i : Nat) (pre acc : List Int), pre.length = i → i + d = s.length → ffit roll s (nums d i) (pre ++ List.replicate d 0) acc = pre ++ ff roll (s.drop i) acc
  | 0, i, pre, acc, hp, hi => by
    rw [List.drop_of_length_le (by omega)]
    simp [nums, ffit, ff]
  | d + 1, i, pre, acc, hp, hi => by
    have hlt : i < s.length := by omega
    have e := set_at pre 0 (pos roll s[i] acc : Int) (List.replicate d 0)
    rw [hp] at e
    rw [nums, ffit, drop_get s i hlt, ff, rd_get s i hlt, Int.toNat_natCast, List.replicate_succ, e]
    have := ffit_id roll s d (i + 1) (pre ++ [(pos roll s[i] acc : Int)]) (addTo acc (pos roll s[i] acc : Int) s[i]) (by simp [hp]) (by omega)
    rw [List.append_assoc, List.append_assoc] at this
    exact this
/-- What holds of what the rolls take, strip by strip. -/
theorem pos_step {roll s : Int} {acc : List Int} (ha : ∀ a ∈ acc, 0 ≤ a ∧ a ≤ roll) (hs : 0 ≤ s ∧ s ≤ roll) : (∀ a ∈ addTo acc (pos roll s acc : Int) s, 0 ≤ a ∧ a ≤ roll) ∧ (addTo acc (pos roll s acc : Int) s).length ≤ acc.length + 1 := by
  have hp := pos_le roll s acc
  have hjr : inR (pos roll s acc : Int) 0 acc.length = true := inR_mk (by omega) (by omega)
  have hl := addTo_len s hjr
  exact ⟨(addTo_step hjr ha hs (pos_rd roll s acc)).1, by omega⟩
def firstFit (roll : Int) (s : List Int) : List Int × Int := if rollTask roll s = true then (ff roll s [], 0) else ([], 1)
theorem firstFit_len (roll : Int) (s : List Int) : (firstFit roll s).1.length ≤ s.length := by
  unfold firstFit
  split
  · rename_i h
    have h3 := (rollTask_true h).2.2
    have := (ff_ok roll s [] (fun x hx => by have := h3 x hx; omega) (by simp)).1
    simp only
    omega
  · simp
theorem rd_in {s : List Int} {i : Int} (h0 : 0 ≤ i) (h1 : i < s.length) : rd s i ∈ s := rd_mem h0 h1

/-- A code that is drawn from. -/
def Code (c : List Int) : Prop := (∀ x ∈ c, 0 ≤ x ∧ x ≤ 255) ∧ c.length ≤ 4096
/-- Where a source stands, and its seed. -/
def SOk (q : Int × Int) : Prop := 0 ≤ q.1 ∧ 0 ≤ q.2 ∧ q.2 < 2147483647
theorem wfByte {x : Int} (h : (Lit.int .u8 x).wf = true) : 0 ≤ x ∧ x ≤ 255 := by
  simp [Lit.wf, IntKind.min, IntKind.max, IntKind.signed, IntKind.bits] at h
  omega
theorem rd_byte {c : List Int} (h : Code c) {i : Int} (h0 : 0 ≤ i) (h1 : i < c.length) : 0 ≤ rd c i ∧ rd c i ≤ 255 := by
  obtain ⟨n, rfl⟩ : ∃ n : Nat, i = n := ⟨i.toNat, by omega⟩
  have hn : n < c.length := by omega
  have e : rd c (n : Int) = c[n] := by rw [rd_nat, List.getD_eq_getElem?_getD, List.getElem?_eq_getElem hn]; rfl
  rw [e]
  exact h.1 _ (List.getElem_mem hn)
theorem bind_ok {α β : Type} {x : Option α} {P : α → Prop} {f : α → Option β} {Q : β → Prop} (h : ∃ p, x = some p ∧ P p) (hf : ∀ p, P p → ∃ r, f p = some r ∧ Q r) : ∃ r, x.bind f = some r ∧ Q r := by
  obtain ⟨p, e, hp⟩ := h
  rw [e]
  exact hf p hp
theorem ite_ok {α : Type} {c : Prop} [Decidable c] {a b : Option α} {Q : α → Prop} (h1 : c → ∃ r, a = some r ∧ Q r) (h2 : ¬ c → ∃ r, b = some r ∧ Q r) : ∃ r, (if c then a else b) = some r ∧ Q r := by
  by_cases h : c
  · rw [if_pos h]; exact h1 h
  · rw [if_neg h]; exact h2 h
theorem some_ok {α β : Type} {x : Option α} {v : α} {f : α → Option β} {Q : β → Prop} (h : x = some v) (hf : ∃ r, f v = some r ∧ Q r) : ∃ r, x.bind f = some r ∧ Q r := by
  rw [h]
  exact hf

theorem laws_big_eq (l : List Int) : laws_big.f l = some (decide ((l.length : Int) > 4096)) := rfl

theorem impl_inRange_eq (a b c : Int) : impl_inRange.f a b c = some (inR a b c) := by
  unfold impl_inRange.f inR
  by_cases h : b ≤ a
  · rw [if_pos h]; simp [h]
  · rw [if_neg h]; simp [h]

theorem impl_allIn_eq (xs : List Int) (lo hi : Int) : impl_allIn.f xs lo hi = some (allR xs lo hi) := rfl

theorem impl_IsRollTask_eq (roll : Int) (s : List Int) : impl_IsRollTask.f roll s = some (rollTask roll s) := by
  unfold impl_IsRollTask.f rollTask
  simp only [impl_inRange_eq, impl_allIn_eq, Option.bind_some]
  cases inR roll 1 100000
  · simp
  · by_cases h : (s.length : Int) ≤ 12
    · simp [h]
    · simp [h]

theorem slices_Index_int64_int64_l0 (xs : List Int) (x : Int) (hl : xs.length ≤ 9223372036854775806) : ∀ (d k i : Nat), i + d = xs.length → d < k → slices_Index_int64_int64.l0 k xs x (xs.length : Int) (i : Int) = some (idxFrom (xs.drop i) x i) := by
  intro d
  induction d with
  | zero =>
    intro k i h hk
    obtain ⟨k, rfl⟩ : ∃ m, k = m + 1 := ⟨k - 1, by omega⟩
    rw [slices_Index_int64_int64.l0, if_neg (by omega), List.drop_of_length_le (by omega)]
    rfl
  | succ d ih =>
    intro k i h hk
    obtain ⟨k, rfl⟩ : ∃ m, k = m + 1 := ⟨k - 1, by omega⟩
    have hi : i < xs.length := by omega
    have e : xs.drop i = xs[i] :: xs.drop (i + 1) := List.drop_eq_getElem_cons hi
    have e2 : xs.getD i 0 = xs[i] := by simp [List.getD_eq_getElem?_getD, List.getElem?_eq_getElem hi]
    have e3 := ih k (i + 1) (by omega) (by omega)
    rw [slices_Index_int64_int64.l0, if_pos (by omega), if_pos (by omega), if_pos (by omega), rd_nat, e2, e, idxFrom]
    by_cases hx : x = xs[i]
    · rw [if_pos hx, if_pos hx]
    · rw [if_neg hx, if_neg hx, w64 (by omega) (by omega)]
      exact e3
theorem slices_Index_int64_int64_eq (xs : List Int) (x : Int) (k : Nat) (hl : xs.length ≤ 9223372036854775806) (hk : xs.length < k) : slices_Index_int64_int64.f k xs x = some (idxFrom xs x 0) := by
  unfold slices_Index_int64_int64.f
  exact slices_Index_int64_int64_l0 xs x hl xs.length k 0 (by omega) hk

theorem idx_pos (roll s : Int) : ∀ (acc : List Int) (i : Nat), (∀ a ∈ acc, 0 ≤ a ∧ a ≤ 100000) → 0 ≤ s → s ≤ 100000 → Hand.idxBy (fun n_ => decide (wrap64 (n_ + s) ≤ roll)) acc i = if pos roll s acc < acc.length then ((i + pos roll s acc : Nat) : Int) else -1
  | [], i, _, _, _ => by simp [Hand.idxBy]
  | a :: acc, i, h, h0, h1 => by
    have ha := h a (by simp)
    have ih := idx_pos roll s acc (i + 1) (fun x hx => h x (by simp [hx])) h0 h1
    rw [Hand.idxBy, w64 (x := a + s) (by omega) (by omega)]
    by_cases c : a + s ≤ roll
    · rw [if_pos (by simpa using c)]
      simp [pos, c]
    · rw [if_neg (by simpa using c), ih]
      simp only [pos, c, if_false, List.length_cons]
      by_cases e : pos roll s acc < acc.length
      · rw [if_pos e, if_pos (by omega)]
        omega
      · rw [if_neg e, if_neg (by omega)]
theorem impl_firstFit_l0 (roll : Int) (s : List Int) (h : rollTask roll s = true) (order : List Int) (ho : ∀ i ∈ order, 0 ≤ i ∧ i < (s.length : Int)) (hb : order.length ≤ 1000) : ∀ (d k i : Nat) (out acc : List Int), i + d = order.length → d < k → out.length = s.length → acc.length ≤ i → (∀ a ∈ acc, 0 ≤ a ∧ a ≤ roll) →
    impl_firstFit.l0 k roll s out acc order (order.length : Int) (i : Int) = some (ffit roll s (order.drop i) out acc) := by
  obtain ⟨h1, h2, h3⟩ := rollTask_true h
  intro d
  induction d with
  | zero =>
    intro k i out acc hi hk _ _ _
    obtain ⟨k, rfl⟩ : ∃ m, k = m + 1 := ⟨k - 1, by omega⟩
    rw [impl_firstFit.l0, if_neg (by omega), List.drop_of_length_le (by omega)]
    rfl
  | succ d ih =>
    intro k i out acc hi hk hout hacc ha
    obtain ⟨k, rfl⟩ : ∃ m, k = m + 1 := ⟨k - 1, by omega⟩
    have hlt : i < order.length := by omega
    have hi2 := ho order[i] (List.getElem_mem hlt)
    have hs := h3 _ (rd_in hi2.1 hi2.2)
    have hp := pos_le roll (rd s order[i]) acc
    have hst := pos_step ha (show 0 ≤ rd s order[i] ∧ rd s order[i] ≤ roll by omega)
    have next := ih k (i + 1) (out.set order[i].toNat (pos roll (rd s order[i]) acc : Int)) (addTo acc (pos roll (rd s order[i]) acc : Int) (rd s order[i])) (by omega) (by omega) (by rw [List.length_set]; exact hout) (by omega) hst.1
    rw [show ((i + 1 : Nat) : Int) = (i : Int) + 1 by omega] at next
    rw [impl_firstFit.l0, if_pos (by omega), if_pos (by omega), if_pos (by omega), rd_get order i hlt, drop_get order i hlt, ffit, idx_pos roll (rd s order[i]) acc 0 (fun a hx => by have := ha a hx; omega) (by omega) (by omega)]
    simp only [Option.bind_some, Nat.zero_add]
    by_cases c : pos roll (rd s order[i]) acc < acc.length
    · have hg := ha _ (rd_mem (xs := acc) (p := (pos roll (rd s order[i]) acc : Int)) (by omega) (by omega))
      rw [if_pos c, if_neg (by omega), if_pos (by omega), if_pos (by omega), if_pos hi2.1, if_pos hi2.2, if_pos (by omega), w64 (x := rd acc (pos roll (rd s order[i]) acc : Int) + rd s order[i]) (by omega) (by omega), w64 (by omega) (by omega), ← addTo_old (by omega)]
      exact next
    · have e : pos roll (rd s order[i]) acc = acc.length := by omega
      have hz : rd (acc ++ [0]) (acc.length : Int) = 0 := by rw [rd_nat]; simp
      rw [e] at next
      rw [if_neg c, if_pos (by omega), if_pos (by omega), if_pos (by omega), if_pos (by simp only [List.length_append, List.length_cons, List.length_nil]; omega), if_pos hi2.1, if_pos hi2.2, if_pos (by omega), w64 (x := rd (acc ++ [0]) (acc.length : Int) + rd s order[i]) (by omega) (by omega), w64 (x := (i : Int) + 1) (by omega) (by omega)]
      have er : addTo acc (acc.length : Int) (rd s order[i]) = (acc ++ [0]).set (acc.length : Int).toNat (rd (acc ++ [0]) (acc.length : Int) + rd s order[i]) := by
        unfold addTo
        rw [show room acc (acc.length : Int) = acc ++ [0] from if_pos rfl]
      rw [e, er]
      rw [er] at next
      exact next
theorem impl_firstFit_eq (roll : Int) (s order : List Int) (k : Nat) (h : rollTask roll s = true) (ho : ∀ i ∈ order, 0 ≤ i ∧ i < (s.length : Int)) (hb : order.length ≤ 1000) (hk : order.length < k) : impl_firstFit.f k roll s order = some (ffit roll s order (List.replicate s.length 0) []) := by
  have h2 := (rollTask_true h).2.1
  unfold impl_firstFit.f
  rw [if_pos (by omega), if_pos (by omega), Int.toNat_natCast]
  have := impl_firstFit_l0 roll s h order ho hb order.length k 0 (List.replicate s.length 0) [] (by omega) hk (by simp) (by simp) (by simp)
  rw [List.drop_zero] at this
  exact this

theorem impl_indices_l0 (n : Nat) (hn : n ≤ 1000) : ∀ (d k i : Nat), i + d = n → d < k → impl_indices.l0 k (nums i 0) (n : Int) (i : Int) = some (nums n 0) := by
  intro d
  induction d with
  | zero =>
    intro k i hi hk
    obtain ⟨k, rfl⟩ : ∃ m, k = m + 1 := ⟨k - 1, by omega⟩
    rw [impl_indices.l0, if_neg (by omega), show i = n by omega]
  | succ d ih =>
    intro k i hi hk
    obtain ⟨k, rfl⟩ : ∃ m, k = m + 1 := ⟨k - 1, by omega⟩
    have next := ih k (i + 1) (by omega) (by omega)
    rw [nums_snoc, Nat.zero_add, show ((i + 1 : Nat) : Int) = (i : Int) + 1 by omega] at next
    rw [impl_indices.l0, if_pos (by omega), nums_len, if_pos (by omega), w64 (by omega) (by omega)]
    exact next
theorem impl_indices_eq (n k : Nat) (hn : n ≤ 1000) (hk : n < k) : impl_indices.f k (n : Int) = some (nums n 0) := by
  unfold impl_indices.f
  exact impl_indices_l0 n hn n k 0 (by omega) hk

theorem impl_FirstFit_eq (roll : Int) (s : List Int) (k : Nat) (hk : s.length + 20 < k) : impl_FirstFit.f k roll s = some (firstFit roll s) := by
  unfold impl_FirstFit.f firstFit
  rw [impl_IsRollTask_eq roll s]
  simp only [Option.bind_some]
  by_cases h : rollTask roll s = true
  · have h2 := (rollTask_true h).2.1
    rw [if_pos h, if_pos h, impl_indices_eq s.length k (by omega) (by omega)]
    simp only [Option.bind_some]
    rw [impl_firstFit_eq roll s _ k h (fun i hi => by have := nums_mem s.length 0 i hi; omega) (by rw [nums_len]; omega) (by rw [nums_len]; omega)]
    have := ffit_id roll s s.length 0 [] [] rfl (by omega)
    rw [List.nil_append, List.nil_append, List.drop_zero] at this
    rw [this]
    rfl
  · rw [if_neg h, if_neg h]

theorem impl_toInt_eq (b : Bool) : impl_toInt.f b = some (if b = true then 1 else 0) := by
  unfold impl_toInt.f; cases b <;> rfl

theorem impl_sumOf_l0 (xs : List Int) (hl : xs.length ≤ 9223372036854775806) : ∀ (d k i : Nat) (a : Int), i + d = xs.length → d < k → impl_sumOf.l0 k a xs (xs.length : Int) (i : Int) = some (wsum a (xs.drop i)) := by
  intro d
  induction d with
  | zero =>
    intro k i a h hk
    obtain ⟨k, rfl⟩ : ∃ m, k = m + 1 := ⟨k - 1, by omega⟩
    rw [impl_sumOf.l0, if_neg (by omega), List.drop_of_length_le (by omega)]
    rfl
  | succ d ih =>
    intro k i a h hk
    obtain ⟨k, rfl⟩ : ∃ m, k = m + 1 := ⟨k - 1, by omega⟩
    have hi : i < xs.length := by omega
    rw [impl_sumOf.l0, if_pos (by omega), if_pos (by omega), if_pos (by omega), rd_get xs i hi, drop_get xs i hi, w64 (x := (i : Int) + 1) (by omega) (by omega), wsum_cons]
    exact ih k (i + 1) _ (by omega) (by omega)
theorem impl_sumOf_eq (xs : List Int) (k : Nat) (hl : xs.length ≤ 9223372036854775806) (hk : xs.length < k) : impl_sumOf.f k xs = some (wsum 0 xs) := by
  unfold impl_sumOf.f
  exact impl_sumOf_l0 xs hl xs.length k 0 0 (by omega) hk

theorem impl_RollBound_l0 (roll : Int) (s : List Int) (h : rollTask roll s = true) : ∀ (d k i : Nat) (c : Int), i + d = s.length → d + 14 < k → 0 ≤ c → c ≤ i → impl_RollBound.l0 k roll s c s (s.length : Int) (i : Int) = some (max (c + longs roll (s.drop i)) ((s.sum + roll - 1) / roll), 0) := by
  obtain ⟨h1, h2, h3⟩ := rollTask_true h
  obtain ⟨e, l, u⟩ := roll_sum h
  intro d
  induction d with
  | zero =>
    intro k i c hi hk h0 hc
    obtain ⟨k, rfl⟩ : ∃ m, k = m + 1 := ⟨k - 1, by omega⟩
    rw [impl_RollBound.l0, if_neg (by omega), List.drop_of_length_le (by omega), impl_sumOf_eq s k (by omega) (by omega), e]
    simp only [Option.bind_some]
    have h4 : 0 ≤ (s.sum + roll - 1) / roll := Int.ediv_nonneg (by omega) (by omega)
    have h5 : (s.sum + roll - 1) / roll ≤ s.sum + roll - 1 := Int.ediv_le_self _ (by omega)
    rw [if_neg (by omega), w64 (x := s.sum + roll) (by omega) (by omega), w64 (x := s.sum + roll - 1) (by omega) (by omega), tdiv_n (by omega), w64 (by omega) (by omega), mx_max]
    simp only [longs, Int.add_zero]
  | succ d ih =>
    intro k i c hi hk h0 hc
    obtain ⟨k, rfl⟩ : ∃ m, k = m + 1 := ⟨k - 1, by omega⟩
    have hlt : i < s.length := by omega
    have hx := h3 s[i] (List.getElem_mem hlt)
    rw [impl_RollBound.l0, if_pos (by omega), if_pos (by omega), if_pos (by omega), rd_get s i hlt, drop_get s i hlt, w64 (x := 2 * s[i]) (by omega) (by omega), w64 (x := (i : Int) + 1) (by omega) (by omega), longs, impl_toInt_eq]
    simp only [Option.bind_some, decide_eq_true_eq]
    by_cases hg : 2 * s[i] > roll
    · rw [if_pos hg, w64 (by omega) (by omega)]
      have := ih k (i + 1) (c + 1) (by omega) (by omega) (by omega) (by omega)
      rw [show ((i + 1 : Nat) : Int) = (i : Int) + 1 by omega] at this
      rw [this, Int.add_assoc]
    · rw [if_neg hg, w64 (by omega) (by omega), Int.add_zero]
      have := ih k (i + 1) c (by omega) (by omega) (by omega) (by omega)
      rw [show ((i + 1 : Nat) : Int) = (i : Int) + 1 by omega] at this
      rw [this, Int.zero_add]
theorem impl_RollBound_eq (roll : Int) (s : List Int) (k : Nat) (hk : s.length + 20 < k) : impl_RollBound.f k roll s = some (rollBound roll s) := by
  unfold impl_RollBound.f rollBound
  simp only [impl_IsRollTask_eq roll s, Option.bind_some]
  cases h : rollTask roll s
  · simp
  · have := impl_RollBound_l0 roll s h s.length k 0 0 (by omega) (by omega) (by omega) (by omega)
    simp only [if_true]
    rw [List.drop_zero, Int.zero_add] at this
    exact this

theorem impl_length_int64_eq (xs : List Int) : impl_length_int64.f xs = some (xs.length : Int) := rfl

theorem impl_used_l0 (s p : List Int) (hl : p.length = s.length) (hb : p.length ≤ 12) (hs : ∀ x ∈ s, 1 ≤ x ∧ x ≤ 100000) : ∀ (d k i : Nat) (acc : List Int), i + d = p.length → d < k → rg (p.drop i) acc.length = true → (∀ a ∈ acc, 0 ≤ a ∧ a ≤ i * 100000) → acc.length ≤ i → impl_used.l0 k s acc p (p.length : Int) (i : Int) = some (loads (s.drop i) (p.drop i) acc) := by
  intro d
  induction d with
  | zero =>
    intro k i acc h hk _ _ _
    obtain ⟨k, rfl⟩ : ∃ m, k = m + 1 := ⟨k - 1, by omega⟩
    rw [impl_used.l0, if_neg (by omega), List.drop_of_length_le (by omega), List.drop_of_length_le (by omega)]
    rfl
  | succ d ih =>
    intro k i acc h hk hr ha hal
    obtain ⟨k, rfl⟩ : ∃ m, k = m + 1 := ⟨k - 1, by omega⟩
    have h1 : i < p.length := by omega
    have h2 : i < s.length := by omega
    rw [drop_get p i h1] at hr ⊢
    rw [drop_get s i h2]
    simp only [rg, Bool.and_eq_true] at hr
    have hp := inR_true hr.1
    have hx := hs s[i] (List.getElem_mem h2)
    have hrr := room_rd hr.1 (by omega) ha
    have hm := addTo_mem (C := ((i + 1 : Nat) : Int) * 100000) hr.1 (by omega) ha (show 0 ≤ s[i] by omega) (by omega)
    have hln := addTo_len s[i] hr.1
    have next := ih k (i + 1) (addTo acc p[i] s[i]) (by omega) (by omega) (by rw [hln]; exact hr.2) hm (by omega)
    rw [loads]
    rw [impl_used.l0, if_pos (by omega), if_pos (by omega), if_pos (by omega), impl_length_int64_eq, rd_get p i h1]
    simp only [Option.bind_some]
    by_cases e : p[i] = (acc.length : Int)
    · have er : room acc p[i] = acc ++ [0] := if_pos e
      unfold addTo at next
      rw [er] at next hrr
      rw [if_pos e, if_pos (by omega), if_pos (by omega), if_pos (by simp only [List.length_append, List.length_cons, List.length_nil]; omega), if_pos (by omega), rd_get s i h2, w64 (x := rd (acc ++ [0]) p[i] + s[i]) (by omega) (by omega), w64 (by omega) (by omega)]
      unfold addTo
      rw [er]
      exact next
    · have er : room acc p[i] = acc := if_neg e
      unfold addTo at next
      rw [er] at next hrr
      rw [if_neg e, if_pos (by omega), if_pos (by omega), if_pos (by omega), rd_get s i h2, w64 (x := rd acc p[i] + s[i]) (by omega) (by omega), w64 (by omega) (by omega)]
      unfold addTo
      rw [er]
      exact next
theorem impl_used_eq (s p : List Int) (k : Nat) (hl : p.length = s.length) (hb : p.length ≤ 12) (hs : ∀ x ∈ s, 1 ≤ x ∧ x ≤ 100000) (hr : rg p 0 = true) (hk : 40 ≤ k) : impl_used.f k s p = some (loads s p []) := by
  unfold impl_used.f
  exact impl_used_l0 s p hl hb hs p.length k 0 [] (by omega) (by omega) hr (by simp) (by simp)

theorem impl_IsPacking_l0 (roll : Int) (s p : List Int) (hl : p.length = s.length) (hb : p.length ≤ 12) (hs : ∀ x ∈ s, 1 ≤ x ∧ x ≤ 100000) : ∀ (d k i : Nat) (n : Int), i + d = p.length → d + 60 < k → 0 ≤ n → n ≤ i → (rg p 0 = rg (p.drop i) n) → impl_IsPacking.l0 k roll s p n p (p.length : Int) (i : Int) = some (rg p 0 && (loads s p []).all fun a => decide (a ≤ roll)) := by
  intro d
  induction d with
  | zero =>
    intro k i n h hk h0 hn hr
    obtain ⟨k, rfl⟩ : ∃ m, k = m + 1 := ⟨k - 1, by omega⟩
    have hr2 : rg p 0 = true := by rw [hr, List.drop_of_length_le (by omega)]; rfl
    have hok := loads_ok s p [] 0 hr2 hs (by omega) (by simp)
    rw [impl_IsPacking.l0, if_neg (by omega), impl_used_eq s p k hl hb hs hr2 (by omega)]
    simp only [Option.bind_some, impl_allIn_eq]
    rw [hr2, Bool.true_and]
    congr 1
    unfold allR
    rw [Bool.eq_iff_iff, List.all_eq_true, List.all_eq_true]
    constructor
    · intro h a ha
      have := inR_true (h a ha)
      exact decide_eq_true this.2
    · intro h a ha
      exact inR_mk (hok a ha).1 (of_decide_eq_true (h a ha))
  | succ d ih =>
    intro k i n h hk h0 hn hr
    obtain ⟨k, rfl⟩ : ∃ m, k = m + 1 := ⟨k - 1, by omega⟩
    have h1 : i < p.length := by omega
    rw [drop_get p i h1, rg] at hr
    rw [impl_IsPacking.l0, if_pos (by omega), if_pos (by omega), if_pos (by omega), rd_get p i h1, impl_inRange_eq]
    simp only [Option.bind_some]
    cases e : inR p[i] 0 n
    · rw [hr, e]; simp
    · have h2 := inR_true e
      rw [e, Bool.true_and] at hr
      simp only [if_true]
      rw [w64 (x := p[i] + 1) (by omega) (by omega), w64 (x := (i : Int) + 1) (by omega) (by omega), mx_max]
      exact ih k (i + 1) _ (by omega) (by omega) (by omega) (by omega) hr
theorem impl_IsPacking_eq (roll : Int) (s p : List Int) (k : Nat) (hk : s.length + 80 < k) : impl_IsPacking.f k roll s p = some (isPacking roll s p) := by
  obtain ⟨k, rfl⟩ : ∃ m, k = m + 1 := ⟨k - 1, by omega⟩
  unfold impl_IsPacking.f isPacking
  simp only [impl_IsRollTask_eq, Option.bind_some]
  cases h : rollTask roll s
  · simp [impl_IsPacking.j0]
  obtain ⟨h1, h2, h3⟩ := rollTask_true h
  simp only [if_true, impl_IsPacking.j0, Bool.true_and]
  by_cases e : p.length = s.length
  · have e2 : ((p.length : Int) != (s.length : Int)) = false := bne_eq_false_iff_eq.mpr (by omega)
    rw [e2, decide_eq_true e, if_neg (by simp)]
    simp only [Bool.true_and]
    exact impl_IsPacking_l0 roll s p e (by omega) (fun x hx => by have := h3 x hx; omega) p.length k 0 0 (by omega) (by omega) (by omega) (by omega) rfl
  · have e2 : ((p.length : Int) != (s.length : Int)) = true := bne_iff_ne.mpr (by omega)
    rw [e2, decide_eq_false e]; simp

theorem impl_SparesOf_l0 (roll : Int) (hr : 0 ≤ roll ∧ roll ≤ 100000) (n : Nat) (hn : n ≤ 1048576) : ∀ (d k i : Nat) (xs : List Int), xs.length = n → i + d = n → d < k → (∀ x ∈ xs.drop i, 0 ≤ x ∧ x ≤ 1200000) → impl_SparesOf.l0 k roll xs (n : Int) (i : Int) = some (xs.take i ++ (xs.drop i).map (fun x => roll - x), 0) := by
  intro d
  induction d with
  | zero =>
    intro k i xs hx h hk _
    obtain ⟨k, rfl⟩ : ∃ m, k = m + 1 := ⟨k - 1, by omega⟩
    rw [impl_SparesOf.l0, if_neg (by omega), List.drop_of_length_le (by omega), List.take_of_length_le (by omega)]
    simp
  | succ d ih =>
    intro k i xs hx h hk hb
    obtain ⟨k, rfl⟩ : ∃ m, k = m + 1 := ⟨k - 1, by omega⟩
    have hi : i < xs.length := by omega
    rw [drop_get xs i hi] at hb
    have b1 := hb xs[i] (.head _)
    rw [impl_SparesOf.l0, if_pos (by omega), if_pos (by omega), if_pos (by omega), rd_get xs i hi, w64 (x := roll - xs[i]) (by omega) (by omega), w64 (x := (i : Int) + 1) (by omega) (by omega), Int.toNat_natCast, ← set_map xs i hi (fun x => roll - x)]
    exact ih k (i + 1) _ (by rw [List.length_set]; exact hx) (by omega) (by omega) (by rw [List.drop_set_of_lt (Nat.lt_succ_self i)]; exact fun x hx => hb x (.tail _ hx))
theorem impl_SparesOf_eq (roll : Int) (s p : List Int) (k : Nat) (hk : s.length + 80 < k) : impl_SparesOf.f k roll s p = some (sparesOf roll s p) := by
  unfold impl_SparesOf.f sparesOf
  rw [impl_IsRollTask_eq roll s]
  simp only [Option.bind_some]
  cases h1 : rollTask roll s
  · simp
  rw [if_pos rfl, if_pos rfl, impl_IsPacking_eq roll s p k hk]
  simp only [Option.bind_some]
  cases h2 : isPacking roll s p
  · simp
  obtain ⟨g1, g2, g3, g4, g5, g6, g7⟩ := spares_ok h1 h2
  have g0 := (rollTask_true h1).1
  rw [if_pos rfl, if_pos rfl, impl_used_eq s p k g1 (by omega) g3 g4 (by omega)]
  simp only [Option.bind_some]
  exact (impl_SparesOf_l0 roll (by omega) _ (by omega) (loads s p []).length k 0 _ rfl (by omega) (by omega) (by rw [List.drop_zero]; exact g5)).trans (by rw [List.drop_zero, List.take_zero, List.nil_append])

theorem laws_likeInts_l0 (l : List Int) (hl : l.length ≤ 9223372036854775806) : ∀ (d k i : Nat), i + d = l.length → d < k → laws_likeInts.l0 k l l (i : Int) = some true := by
  intro d
  induction d with
  | zero =>
    intro k i h hk
    obtain ⟨k, rfl⟩ : ∃ m, k = m + 1 := ⟨k - 1, by omega⟩
    rw [laws_likeInts.l0, if_neg (by omega)]
  | succ d ih =>
    intro k i h hk
    obtain ⟨k, rfl⟩ : ∃ m, k = m + 1 := ⟨k - 1, by omega⟩
    rw [laws_likeInts.l0, if_pos (by omega), if_pos (by omega), if_pos (by omega), if_pos rfl, w64 (x := (i : Int) + 1) (by omega) (by omega)]
    exact ih k (i + 1) (by omega) (by omega)
theorem laws_likeInts_eq (l : List Int) (k : Nat) (hl : l.length ≤ 9223372036854775806) (hk : l.length < k) : laws_likeInts.f k l l = some true := by
  unfold laws_likeInts.f
  rw [if_pos rfl]
  exact laws_likeInts_l0 l hl l.length k 0 (by omega) hk

theorem spec_l01In_eq (a b c : Int) : spec_l01In.f a b c = some (inR a b c) := by
  unfold spec_l01In.f inR
  by_cases h : a ≥ b
  · rw [if_pos h]; simp [show b ≤ a from h]
  · rw [if_neg h]; simp [show ¬ b ≤ a from h]

theorem spec_l01Within_l0 (xs : List Int) (m lo hi : Int) (hl : xs.length ≤ 9223372036854775806) : ∀ (d k i : Nat), i + d = xs.length → d < k → spec_l01Within.l0 k xs m lo hi (i : Int) = some (allR (xs.drop i) lo hi && decide ((xs.length : Int) ≤ m)) := by
  intro d
  induction d with
  | zero =>
    intro k i h hk
    obtain ⟨k, rfl⟩ : ∃ m, k = m + 1 := ⟨k - 1, by omega⟩
    rw [spec_l01Within.l0, if_neg (by omega), List.drop_of_length_le (by omega)]
    rfl
  | succ d ih =>
    intro k i h hk
    obtain ⟨k, rfl⟩ : ∃ m, k = m + 1 := ⟨k - 1, by omega⟩
    have hlt : i < xs.length := by omega
    have e3 := ih k (i + 1) (by omega) (by omega)
    rw [spec_l01Within.l0, if_pos (by omega), if_pos (by omega), rd_get xs i hlt, spec_l01In_eq, drop_get xs i hlt, w64 (by omega) (by omega)]
    simp only [Option.bind_some, allR, List.all_cons]
    cases hx : inR xs[i] lo hi
    · simp
    · simp only [if_true, Bool.true_and]
      exact e3
theorem spec_l01Within_eq (xs : List Int) (m lo hi : Int) (k : Nat) (hl : xs.length ≤ 9223372036854775806) (hk : xs.length < k) : spec_l01Within.f k xs m lo hi = some (allR xs lo hi && decide ((xs.length : Int) ≤ m)) := by
  unfold spec_l01Within.f
  exact spec_l01Within_l0 xs m lo hi hl xs.length k 0 (by omega) hk

theorem spec_IsRollTask_eq (roll : Int) (s : List Int) (k : Nat) (hl : s.length ≤ 9223372036854775806) (hk : s.length < k) : spec_IsRollTask.f k roll s = some (rollTask roll s) := by
  unfold spec_IsRollTask.f rollTask
  simp only [spec_l01In_eq, spec_l01Within_eq s _ _ _ k hl hk, Option.bind_some]
  cases inR roll 1 100000 <;> simp [Bool.and_comm]

theorem spec_l10Loads_l0 (s p : List Int) (hl : p.length = s.length) (hb : p.length ≤ 12) (hs : ∀ x ∈ s, 1 ≤ x ∧ x ≤ 100000) : ∀ (d k i : Nat) (acc : List Int), i + d = p.length → 3 * d + 2 ≤ k → rg (p.drop i) acc.length = true → (∀ a ∈ acc, 0 ≤ a ∧ a ≤ i * 100000) → acc.length ≤ i → spec_l10Loads.l0 k s p acc (i : Int) = some (loads (s.drop i) (p.drop i) acc) := by
  intro d
  induction d with
  | zero =>
    intro k i acc h hk _ _ _
    obtain ⟨k, rfl⟩ : ∃ m, k = m + 1 := ⟨k - 1, by omega⟩
    rw [spec_l10Loads.l0, if_neg (by omega), List.drop_of_length_le (by omega), List.drop_of_length_le (by omega)]
    rfl
  | succ d ih =>
    intro k i acc h hk hr ha hal
    obtain ⟨k, rfl⟩ : ∃ m, k = m + 3 := ⟨k - 3, by omega⟩
    have h1 : i < p.length := by omega
    have h2 : i < s.length := by omega
    rw [drop_get p i h1] at hr ⊢
    rw [drop_get s i h2]
    simp only [rg, Bool.and_eq_true] at hr
    have hp := inR_true hr.1
    have hx := hs s[i] (List.getElem_mem h2)
    have hrr := room_rd hr.1 (by omega) ha
    have hm := addTo_mem (C := ((i + 1 : Nat) : Int) * 100000) hr.1 (by omega) ha (show 0 ≤ s[i] by omega) (by omega)
    have hln := addTo_len s[i] hr.1
    have next := ih k (i + 1) (addTo acc p[i] s[i]) (by omega) (by omega) (by rw [hln]; exact hr.2) hm (by omega)
    have next1 := ih (k + 1) (i + 1) (addTo acc p[i] s[i]) (by omega) (by omega) (by rw [hln]; exact hr.2) hm (by omega)
    rw [loads]
    rw [spec_l10Loads.l0, if_pos (by omega), spec_l10Loads.l1, if_pos (by omega), if_pos (by omega), rd_get p i h1]
    by_cases e : p[i] = (acc.length : Int)
    · have er : room acc p[i] = acc ++ [0] := if_pos e
      unfold addTo at next hln
      rw [er] at next hrr hln
      rw [if_pos (by omega), if_pos (by omega), spec_l10Loads.l1, if_pos (by omega), if_pos (by omega), rd_get p i h1]
      rw [if_neg (by simp only [List.length_append, List.length_cons, List.length_nil]; omega), if_pos (by omega), if_pos (by simp only [List.length_append, List.length_cons, List.length_nil]; omega), if_pos (by omega), rd_get s i h2, w64 (x := rd (acc ++ [0]) p[i] + s[i]) (by omega) (by omega), w64 (by omega) (by omega)]
      unfold addTo
      rw [er]
      exact next
    · have er : room acc p[i] = acc := if_neg e
      unfold addTo at next1
      rw [er] at next1 hrr
      rw [if_neg (by omega), if_pos (by omega), if_pos (by omega), if_pos (by omega), rd_get s i h2, w64 (x := rd acc p[i] + s[i]) (by omega) (by omega), w64 (by omega) (by omega)]
      unfold addTo
      rw [er]
      exact next1
theorem spec_l10Loads_eq (s p : List Int) (k : Nat) (hl : p.length = s.length) (hb : p.length ≤ 12) (hs : ∀ x ∈ s, 1 ≤ x ∧ x ≤ 100000) (hr : rg p 0 = true) (hk : 40 ≤ k) : spec_l10Loads.f k s p = some (loads s p []) := by
  unfold spec_l10Loads.f
  exact spec_l10Loads_l0 s p hl hb hs p.length k 0 [] (by omega) (by omega) hr (by simp) (by simp)

theorem spec_l01Own_eq (l : List Int) (h : l.length ≤ 1048576) : spec_l01Own.f l = some l := by
  unfold spec_l01Own.f
  simp only [Option.bind_some, List.nil_append, List.length_nil]
  rw [if_pos (by omega)]

theorem loads_nil_r : ∀ (s acc : List Int), loads s [] acc = acc
  | [], acc => rfl
  | s :: ss, acc => rfl
theorem loads_snoc : ∀ (s p acc : List Int) (k : Int) (h : p.length < s.length), loads s (p ++ [k]) acc = addTo (loads s p acc) k s[p.length]
  | s :: ss, [], acc, k, h => by simp only [List.nil_append, loads, loads_nil_r, List.length_nil, List.getElem_cons_zero]
  | s :: ss, p :: ps, acc, k, h => by
    rw [List.cons_append, loads, loads]
    have := loads_snoc ss ps (addTo acc p s) k (by simpa using h)
    simpa using this
theorem rg_snoc : ∀ (p : List Int) (n k : Int), rg (p ++ [k]) n = (rg p n && inR k 0 (p.foldl (fun m x => max m (x + 1)) n))
  | [], n, k => by simp [rg]
  | p :: ps, n, k => by
    rw [List.cons_append, rg, rg, rg_snoc ps, List.foldl_cons, Bool.and_assoc]
theorem rg_loads : ∀ (s p acc : List Int), p.length ≤ s.length → rg p acc.length = true → ((loads s p acc).length : Int) = p.foldl (fun m x => max m (x + 1)) (acc.length : Int)
  | s, [], acc, _, _ => by rw [loads_nil_r]; rfl
  | [], p :: ps, acc, h, _ => by simp at h
  | s :: ss, p :: ps, acc, h, hr => by
    simp only [rg, Bool.and_eq_true] at hr
    have hl := addTo_len s hr.1
    rw [loads, List.foldl_cons, rg_loads ss ps (addTo acc p s) (by simpa using h) (by rw [hl]; exact hr.2), hl]
theorem spec_l10Loads_le_l0 (s p : List Int) (hl : p.length ≤ s.length) (hb : p.length ≤ 12) (hs : ∀ x ∈ s, 1 ≤ x ∧ x ≤ 100000) : ∀ (d k i : Nat) (acc : List Int), i + d = p.length → 3 * d + 2 ≤ k → rg (p.drop i) acc.length = true → (∀ a ∈ acc, 0 ≤ a ∧ a ≤ i * 100000) → acc.length ≤ i → spec_l10Loads.l0 k s p acc (i : Int) = some (loads (s.drop i) (p.drop i) acc) := by
  intro d
  induction d with
  | zero =>
    intro k i acc h hk _ _ _
    obtain ⟨k, rfl⟩ : ∃ m, k = m + 1 := ⟨k - 1, by omega⟩
    rw [spec_l10Loads.l0, if_neg (by omega), show p.drop i = [] from List.drop_of_length_le (by omega), loads_nil_r]
  | succ d ih =>
    intro k i acc h hk hr ha hal
    obtain ⟨k, rfl⟩ : ∃ m, k = m + 3 := ⟨k - 3, by omega⟩
    have h1 : i < p.length := by omega
    have h2 : i < s.length := by omega
    rw [drop_get p i h1] at hr ⊢
    rw [drop_get s i h2]
    simp only [rg, Bool.and_eq_true] at hr
    have hp := inR_true hr.1
    have hx := hs s[i] (List.getElem_mem h2)
    have hrr := room_rd hr.1 (by omega) ha
    have hm := addTo_mem (C := ((i + 1 : Nat) : Int) * 100000) hr.1 (by omega) ha (show 0 ≤ s[i] by omega) (by omega)
    have hln := addTo_len s[i] hr.1
    have next := ih k (i + 1) (addTo acc p[i] s[i]) (by omega) (by omega) (by rw [hln]; exact hr.2) hm (by omega)
    have next1 := ih (k + 1) (i + 1) (addTo acc p[i] s[i]) (by omega) (by omega) (by rw [hln]; exact hr.2) hm (by omega)
    rw [loads]
    rw [spec_l10Loads.l0, if_pos (by omega), spec_l10Loads.l1, if_pos (by omega), if_pos (by omega), rd_get p i h1]
    by_cases e : p[i] = (acc.length : Int)
    · have er : room acc p[i] = acc ++ [0] := if_pos e
      unfold addTo at next hln
      rw [er] at next hrr hln
      rw [if_pos (by omega), if_pos (by omega), spec_l10Loads.l1, if_pos (by omega), if_pos (by omega), rd_get p i h1]
      rw [if_neg (by simp only [List.length_append, List.length_cons, List.length_nil]; omega), if_pos (by omega), if_pos (by simp only [List.length_append, List.length_cons, List.length_nil]; omega), if_pos (by omega), rd_get s i h2, w64 (x := rd (acc ++ [0]) p[i] + s[i]) (by omega) (by omega), w64 (by omega) (by omega)]
      unfold addTo
      rw [er]
      exact next
    · have er : room acc p[i] = acc := if_neg e
      unfold addTo at next1
      rw [er] at next1 hrr
      rw [if_neg (by omega), if_pos (by omega), if_pos (by omega), if_pos (by omega), rd_get s i h2, w64 (x := rd acc p[i] + s[i]) (by omega) (by omega), w64 (by omega) (by omega)]
      unfold addTo
      rw [er]
      exact next1
theorem spec_l10Loads_le (s p : List Int) (k : Nat) (hl : p.length ≤ s.length) (hb : p.length ≤ 12) (hs : ∀ x ∈ s, 1 ≤ x ∧ x ≤ 100000) (hr : rg p 0 = true) (hk : 40 ≤ k) : spec_l10Loads.f k s p = some (loads s p []) := by
  unfold spec_l10Loads.f
  exact spec_l10Loads_le_l0 s p hl hb hs p.length k 0 [] (by omega) (by omega) hr (by simp) (by simp)
/-- What the search hands back. -/
def found (p : List Int) : Option (List Int) → List Int × Bool
  | some q => (p ++ q, true)
  | none => ([], false)
theorem spec_l10Search_ok (roll : Int) (s : List Int) (h : rollTask roll s = true) (most : Nat) (hm : most ≤ 100) : ∀ (d k : Nat) (p : List Int), p.length + d = s.length → 60 + 60 * d ≤ k → rg p 0 = true → (∀ a ∈ loads s p [], 0 ≤ a ∧ a ≤ roll) →
    spec_l10Search.f k roll s p (most : Int) = some (found p (packs roll most (s.drop p.length) (loads s p []))) := by
  obtain ⟨h1, h2, h3⟩ := rollTask_true h
  have hs : ∀ x ∈ s, 1 ≤ x ∧ x ≤ 100000 := fun x hx => by have := h3 x hx; omega
  intro d
  induction d with
  | zero =>
    intro k p hp hk hr ha
    obtain ⟨k, rfl⟩ : ∃ m, k = m + 1 := ⟨k - 1, by omega⟩
    rw [spec_l10Search.f, if_pos (by omega), List.drop_of_length_le (by omega)]
    simp [packs, found]
  | succ d ih =>
    intro k p hp hk hr ha
    obtain ⟨k, rfl⟩ : ∃ m, k = m + 1 := ⟨k - 1, by omega⟩
    have hlt : p.length < s.length := by omega
    have hx := h3 s[p.length] (List.getElem_mem hlt)
    have hll := loads_len2 s p []
    have hll2 := rg_loads s p [] (by omega) hr
    rw [spec_l10Search.f, if_neg (by omega), spec_l10Loads_le s p k (by omega) (by omega) hs hr (by omega), drop_get s p.length hlt, packs]
    simp only [Option.bind_some, List.length_nil, Nat.zero_add] at hll ⊢
    generalize hacc : loads s p [] = acc at *
    have hal : acc.length ≤ 12 := by omega
    -- the loop over the rolls
    have loop : ∀ (e j k : Nat), j + e = min (acc.length + 1) most → 60 + 60 * d + 3 * e + 3 ≤ k →
        spec_l10Search.l0 k roll s p (most : Int) acc (j : Int) = some (found p (tryK (fun k => if k < (acc.length : Int) ∧ rd acc k + s[p.length] > roll then none else packs roll most (s.drop (p.length + 1)) (addTo acc k s[p.length])) e (j : Int))) := by
      intro e
      induction e with
      | zero =>
        intro j k hj hk
        obtain ⟨k, rfl⟩ : ∃ m, k = m + 2 := ⟨k - 2, by omega⟩
        rw [spec_l10Search.l0]
        by_cases c : (j : Int) ≤ (acc.length : Int)
        · rw [if_pos c, decide_eq_false (by omega), spec_l10Search.j1, if_neg (by simp)]
          rfl
        · rw [if_neg c, spec_l10Search.j1, if_neg (by simp)]
          rfl
      | succ e ihe =>
        intro j k hj hk
        obtain ⟨k, rfl⟩ : ∃ m, k = m + 3 := ⟨k - 3, by omega⟩
        have hjr : inR (j : Int) 0 acc.length = true := inR_mk (by omega) (by omega)
        have next := ihe (j + 1) k (by omega) (by omega)
        rw [show ((j + 1 : Nat) : Int) = (j : Int) + 1 by omega] at next
        rw [spec_l10Search.l0, if_pos (by omega), decide_eq_true (by omega), spec_l10Search.j1, if_pos rfl, tryK]
        by_cases hf : (j : Int) < (acc.length : Int) ∧ rd acc (j : Int) + s[p.length] > roll
        · have hg := ha _ (rd_mem (xs := acc) (p := (j : Int)) (by omega) hf.1)
          rw [if_pos hf.1, if_pos (by omega), if_pos (by omega), if_pos (by omega), rd_get s p.length hlt, w64 (x := rd acc (j : Int) + s[p.length]) (by omega) (by omega), decide_eq_true hf.2, spec_l10Search.j2, if_pos rfl, w64 (x := (j : Int) + 1) (by omega) (by omega), next]
          simp only [if_pos hf]
        · have hstep := addTo_step hjr ha (show 0 ≤ s[p.length] ∧ s[p.length] ≤ roll by omega) hf
          have hsn := loads_snoc s p [] (j : Int) hlt
          rw [hacc] at hsn
          have hrec := ih k (p ++ [(j : Int)]) (by simp only [List.length_append, List.length_cons, List.length_nil]; omega) (by omega) (by rw [rg_snoc, hr, Bool.true_and, show (p.foldl (fun m x => max m (x + 1)) 0 : Int) = (acc.length : Int) from hll2.symm]; exact hjr) (by rw [hsn]; exact hstep.1)
          rw [hsn, show (p ++ [(j : Int)]).length = p.length + 1 by simp] at hrec
          have j2 : spec_l10Search.j2 (k + 1) roll s p (most : Int) acc (j : Int) false = some (found p (match packs roll most (s.drop (p.length + 1)) (addTo acc (j : Int) s[p.length]) with | some q => some ((j : Int) :: q) | none => tryK (fun k => if k < (acc.length : Int) ∧ rd acc k + s[p.length] > roll then none else packs roll most (s.drop (p.length + 1)) (addTo acc k s[p.length])) e ((j : Int) + 1))) := by
            rw [spec_l10Search.j2, if_neg (by simp), spec_l01Own_eq _ (by omega)]
            simp only [Option.bind_some]
            rw [if_pos (by omega), hrec]
            cases hq : packs roll most (s.drop (p.length + 1)) (addTo acc (j : Int) s[p.length]) with
            | some q => simp [found]
            | none =>
              rw [show found (p ++ [(j : Int)]) none = ([], false) from rfl]
              simp only [Option.bind_some, Bool.false_eq_true, if_false]
              rw [w64 (x := (j : Int) + 1) (by omega) (by omega), next]
          by_cases hc : (j : Int) < (acc.length : Int)
          · have hg := ha _ (rd_mem (xs := acc) (p := (j : Int)) (by omega) hc)
            have hnf : ¬ (rd acc (j : Int) + s[p.length] > roll) := fun g => hf ⟨hc, g⟩
            rw [if_pos hc, if_pos (by omega), if_pos (by omega), if_pos (by omega), rd_get s p.length hlt, w64 (x := rd acc (j : Int) + s[p.length]) (by omega) (by omega), decide_eq_false hnf, j2]
            simp only [if_neg hf]
          · rw [if_neg hc, j2]
            simp only [if_neg hf]
    have := loop (min (acc.length + 1) most) 0 k (by omega) (by omega)
    exact this

theorem spec_l10Best_l0 (roll : Int) (s : List Int) (h : rollTask roll s = true) : ∀ (d k i : Nat), i + d = (bestP roll s).1 → 900 + d ≤ k → spec_l10Best.l0 k roll s (i : Int) = some (bestP roll s).2 := by
  obtain ⟨b1, b2, b3, b4, b5, b6, b7, b8⟩ := bestP_ok h
  have hl := (rollTask_true h).2.1
  intro d
  induction d with
  | zero =>
    intro k i hi hk
    obtain ⟨k, rfl⟩ : ∃ m, k = m + 1 := ⟨k - 1, by omega⟩
    have := spec_l10Search_ok roll s h i (by omega) s.length k [] (by simp) (by omega) rfl (by rw [loads_nil_r]; simp)
    rw [spec_l10Best.l0, this, loads_nil_r, List.length_nil, List.drop_zero, show i = (bestP roll s).1 by omega, b1]
    simp [found]
  | succ d ih =>
    intro k i hi hk
    obtain ⟨k, rfl⟩ : ∃ m, k = m + 1 := ⟨k - 1, by omega⟩
    have := spec_l10Search_ok roll s h i (by omega) s.length k [] (by simp) (by omega) rfl (by rw [loads_nil_r]; simp)
    have next := ih k (i + 1) (by omega) (by omega)
    rw [spec_l10Best.l0, this, loads_nil_r, List.length_nil, List.drop_zero, b3 i (by omega)]
    simp only [found, Option.bind_some, Bool.false_eq_true, if_false]
    rw [w64 (by omega) (by omega)]
    exact next
theorem spec_l10Best_eq (roll : Int) (s : List Int) (k : Nat) (h : rollTask roll s = true) (hk : 1000 ≤ k) : spec_l10Best.f k roll s = some (bestP roll s).2 := by
  have hb := (bestP_ok h).2.1
  unfold spec_l10Best.f
  exact spec_l10Best_l0 roll s h (bestP roll s).1 k 0 (by omega) (by omega)

def leastRolls (roll : Int) (s : List Int) : Int × Int := if rollTask roll s = true then (((bestP roll s).1 : Int), 0) else (0, 1)
theorem spec_LeastRolls_eq (roll : Int) (s : List Int) (k : Nat) (hl : s.length ≤ 1048576) (hk : s.length + 1000 ≤ k) : spec_LeastRolls.f k roll s = some (leastRolls roll s) := by
  unfold spec_LeastRolls.f leastRolls
  rw [spec_IsRollTask_eq roll s k (by omega) (by omega)]
  simp only [Option.bind_some]
  by_cases h : rollTask roll s = true
  · obtain ⟨b1, b2, b3, b4, b5, b6, b7, b8⟩ := bestP_ok h
    obtain ⟨h1, h2, h3⟩ := rollTask_true h
    rw [if_pos h, if_pos h, spec_l10Best_eq roll s k h (by omega)]
    simp only [Option.bind_some]
    rw [spec_l10Loads_le s _ k (by omega) (by omega) (fun x hx => by have := h3 x hx; omega) b6 (by omega)]
    simp only [Option.bind_some, b5]
  · rw [if_neg h, if_neg h]

theorem slices_Clone_int64_int64_eq (l : List Int) (h : l.length ≤ 1048576) : slices_Clone_int64_int64.f l = some l := by
  unfold slices_Clone_int64_int64.f
  by_cases c : (l.length : Int) = 0
  · have e : l = [] := List.length_eq_zero_iff.1 (by omega)
    subst e
    rfl
  · rw [if_neg c]
    simp only [Option.bind_some, List.nil_append, List.length_nil]
    rw [if_pos (by omega)]

theorem impl_packOn_ok (roll : Int) (s : List Int) (h : rollTask roll s = true) (most : Nat) (hm : most ≤ 100) : ∀ (d k : Nat) (p acc : List Int), p.length + d = s.length → 60 + 60 * d ≤ k → acc.length ≤ 12 - d → (∀ a ∈ acc, 0 ≤ a ∧ a ≤ roll) →
    impl_packOn.f k roll s p acc (most : Int) = some (found p (packs roll most (s.drop p.length) acc)).1 := by
  obtain ⟨h1, h2, h3⟩ := rollTask_true h
  intro d
  induction d with
  | zero =>
    intro k p acc hp hk hal ha
    obtain ⟨k, rfl⟩ : ∃ m, k = m + 1 := ⟨k - 1, by omega⟩
    rw [impl_packOn.f, if_pos (by omega), List.drop_of_length_le (by omega)]
    simp [packs, found]
  | succ d ih =>
    intro k p acc hp hk hal ha
    obtain ⟨k, rfl⟩ : ∃ m, k = m + 1 := ⟨k - 1, by omega⟩
    have hlt : p.length < s.length := by omega
    have hx := h3 s[p.length] (List.getElem_mem hlt)
    rw [impl_packOn.f, if_neg (by omega), drop_get s p.length hlt, packs, mn_min, w64 (x := (acc.length : Int) + 1) (by omega) (by omega)]
    have loop : ∀ (e j k : Nat), j + e = min (acc.length + 1) most → 60 + 60 * d + 3 * e + 3 ≤ k →
        impl_packOn.l0 k roll s p acc (most : Int) (p.length : Int) (min ((acc.length : Int) + 1) (most : Int)) (j : Int) = some (found p (tryK (fun k => if k < (acc.length : Int) ∧ rd acc k + s[p.length] > roll then none else packs roll most (s.drop (p.length + 1)) (addTo acc k s[p.length])) e (j : Int))).1 := by
      intro e
      induction e with
      | zero =>
        intro j k hj hk
        obtain ⟨k, rfl⟩ : ∃ m, k = m + 1 := ⟨k - 1, by omega⟩
        rw [impl_packOn.l0, if_neg (by omega)]
        rfl
      | succ e ihe =>
        intro j k hj hk
        obtain ⟨k, rfl⟩ : ∃ m, k = m + 2 := ⟨k - 2, by omega⟩
        have hjr : inR (j : Int) 0 acc.length = true := inR_mk (by omega) (by omega)
        have next := ihe (j + 1) k (by omega) (by omega)
        rw [show ((j + 1 : Nat) : Int) = (j : Int) + 1 by omega] at next
        have e1 : impl_packOn.l0 (k + 2) roll s p acc (most : Int) (p.length : Int) (min ((acc.length : Int) + 1) (most : Int)) (j : Int) = impl_packOn.j1 (k + 1) roll s p acc (most : Int) (p.length : Int) (j : Int) (room acc (j : Int)) (min ((acc.length : Int) + 1) (most : Int)) (j : Int) := by
          rw [impl_packOn.l0, if_pos (by omega), slices_Clone_int64_int64_eq _ (by omega)]
          simp only [Option.bind_some]
          by_cases c : (j : Int) = (acc.length : Int)
          · rw [if_pos c, if_pos (by omega), show room acc (j : Int) = acc ++ [0] from if_pos c]
          · rw [if_neg c, show room acc (j : Int) = acc from if_neg c]
        have hrl := room_len hjr
        have hrr := room_rd hjr (show 0 ≤ roll by omega) ha
        rw [e1, impl_packOn.j1, if_pos (by omega), if_pos (by omega), if_pos (by omega), if_pos (by omega), rd_get s p.length hlt, w64 (x := rd (room acc (j : Int)) (j : Int) + s[p.length]) (by omega) (by omega), tryK]
        have hroom : rd (room acc (j : Int)) (j : Int) + s[p.length] > roll ↔ ((j : Int) < (acc.length : Int) ∧ rd acc (j : Int) + s[p.length] > roll) := by
          by_cases c : (j : Int) = (acc.length : Int)
          · have e2 : room acc (j : Int) = acc ++ [0] := if_pos c
            have e3 : rd (acc ++ [0]) (j : Int) = 0 := by rw [c, rd_nat]; simp
            rw [e2, e3]
            omega
          · have e2 : room acc (j : Int) = acc := if_neg c
            rw [e2]
            exact ⟨fun g => ⟨by omega, g⟩, fun g => g.2⟩
        by_cases hf : (j : Int) < (acc.length : Int) ∧ rd acc (j : Int) + s[p.length] > roll
        · rw [if_pos (hroom.2 hf), w64 (x := (j : Int) + 1) (by omega) (by omega), next]
          simp only [if_pos hf]
        · have hstep := addTo_step hjr ha (show 0 ≤ s[p.length] ∧ s[p.length] ≤ roll by omega) hf
          have hlen := addTo_len s[p.length] hjr
          have hrec := ih k (p ++ [(j : Int)]) (addTo acc (j : Int) s[p.length]) (by simp only [List.length_append, List.length_cons, List.length_nil]; omega) (by omega) (by omega) hstep.1
          rw [show (p ++ [(j : Int)]).length = p.length + 1 by simp] at hrec
          rw [if_neg (fun g => hf (hroom.1 g)), slices_Clone_int64_int64_eq _ (by omega)]
          simp only [Option.bind_some]
          rw [if_pos (by omega), show (room acc (j : Int)).set (j : Int).toNat (rd (room acc (j : Int)) (j : Int) + s[p.length]) = addTo acc (j : Int) s[p.length] from rfl, hrec]
          simp only [if_neg hf]
          cases hq : packs roll most (s.drop (p.length + 1)) (addTo acc (j : Int) s[p.length]) with
          | some q =>
            simp only [found, Option.bind_some]
            rw [if_neg (by simp only [List.length_append, List.length_cons]; omega), List.append_assoc]
            rfl
          | none =>
            rw [show (found (p ++ [(j : Int)]) none).1 = [] from rfl]
            simp only [Option.bind_some, List.length_nil]
            rw [if_pos (by omega), w64 (x := (j : Int) + 1) (by omega) (by omega), next]
    exact loop (min (acc.length + 1) most) 0 k (by omega) (by omega)

theorem impl_bestPacking_l0 (roll : Int) (s : List Int) (h : rollTask roll s = true) : ∀ (d k i : Nat), i + d = (bestP roll s).1 → 900 + d ≤ k → impl_bestPacking.l0 k roll s (i : Int) = some ((bestP roll s).2, ((bestP roll s).1 : Int)) := by
  obtain ⟨b1, b2, b3, b4, b5, b6, b7, b8⟩ := bestP_ok h
  have hl := (rollTask_true h).2.1
  intro d
  induction d with
  | zero =>
    intro k i hi hk
    obtain ⟨k, rfl⟩ : ∃ m, k = m + 1 := ⟨k - 1, by omega⟩
    have := impl_packOn_ok roll s h i (by omega) s.length k [] [] (by simp) (by omega) (by simp) (by simp)
    rw [impl_bestPacking.l0, this, List.length_nil, List.drop_zero, show i = (bestP roll s).1 by omega, b1]
    simp only [found, Option.bind_some, List.nil_append]
    rw [if_neg (fun g => g.2 (List.length_eq_zero_iff.1 (by omega)))]
  | succ d ih =>
    intro k i hi hk
    obtain ⟨k, rfl⟩ : ∃ m, k = m + 1 := ⟨k - 1, by omega⟩
    have := impl_packOn_ok roll s h i (by omega) s.length k [] [] (by simp) (by omega) (by simp) (by simp)
    have next := ih k (i + 1) (by omega) (by omega)
    have hne : s ≠ [] := fun e => by
      have := b3 i (by omega)
      rw [e] at this
      simp [packs] at this
    rw [impl_bestPacking.l0, this, List.length_nil, List.drop_zero, b3 i (by omega)]
    simp only [found, Option.bind_some]
    rw [if_pos ⟨rfl, hne⟩, w64 (by omega) (by omega)]
    exact next
theorem impl_bestPacking_eq (roll : Int) (s : List Int) (k : Nat) (h : rollTask roll s = true) (hk : 1000 ≤ k) : impl_bestPacking.f k roll s = some ((bestP roll s).2, ((bestP roll s).1 : Int)) := by
  obtain ⟨b1, b2, b3, b4, b5, b6, b7, b8⟩ := bestP_ok h
  obtain ⟨h1, h2, h3⟩ := rollTask_true h
  unfold impl_bestPacking.f
  rw [impl_RollBound_eq roll s k (by omega)]
  simp only [Option.bind_some]
  have h0 : 0 ≤ (rollBound roll s).1 := by
    unfold rollBound
    rw [if_pos h]
    have := (longs_bd roll s).1
    simp only
    omega
  obtain ⟨n, hn⟩ : ∃ n : Nat, (rollBound roll s).1 = n := ⟨(rollBound roll s).1.toNat, by omega⟩
  rw [hn]
  exact impl_bestPacking_l0 roll s h ((bestP roll s).1 - n) k n (by omega) (by omega)

theorem impl_LeastRolls_eq (roll : Int) (s : List Int) (k : Nat) (hk : 1000 ≤ k) : impl_LeastRolls.f k roll s = some (leastRolls roll s) := by
  unfold impl_LeastRolls.f leastRolls
  rw [impl_IsRollTask_eq roll s]
  simp only [Option.bind_some]
  by_cases h : rollTask roll s = true
  · rw [if_pos h, if_pos h, impl_bestPacking_eq roll s k h hk]
    rfl
  · rw [if_neg h, if_neg h]

def bestPacking (roll : Int) (s : List Int) : List Int × Int := if rollTask roll s = true then ((bestP roll s).2, 0) else ([], 1)
theorem bestPacking_len (roll : Int) (s : List Int) : (bestPacking roll s).1.length ≤ s.length := by
  unfold bestPacking
  split
  · rename_i h
    have := (bestP_ok h).2.2.2.2.2.2.1
    simp only
    omega
  · simp
theorem spec_BestPacking_eq (roll : Int) (s : List Int) (k : Nat) (hl : s.length ≤ 1048576) (hk : s.length + 1000 ≤ k) : spec_BestPacking.f k roll s = some (bestPacking roll s) := by
  unfold spec_BestPacking.f bestPacking
  rw [spec_IsRollTask_eq roll s k (by omega) (by omega)]
  simp only [Option.bind_some]
  by_cases h : rollTask roll s = true
  · rw [if_pos h, if_pos h, spec_l10Best_eq roll s k h (by omega)]
    rfl
  · rw [if_neg h, if_neg h]

theorem impl_BestPacking_eq (roll : Int) (s : List Int) (k : Nat) (hk : 1000 ≤ k) : impl_BestPacking.f k roll s = some (bestPacking roll s) := by
  unfold impl_BestPacking.f bestPacking
  rw [impl_IsRollTask_eq roll s]
  simp only [Option.bind_some]
  by_cases h : rollTask roll s = true
  · rw [if_pos h, if_pos h, impl_bestPacking_eq roll s k h hk]
    rfl
  · rw [if_neg h, if_neg h]

theorem next_ok {c : List Int} (hc : Code c) {q : Int × Int} (hq : SOk q) (n : Int) : ∃ p, spec_l01Next.f c q.1 q.2 n = some p ∧ SOk p.2 ∧ 0 ≤ p.1 ∧ (p.1 < n ∨ p.1 = 0) := by
  obtain ⟨a, s⟩ := q
  obtain ⟨ha, h0, h1⟩ := hq
  have hl := hc.2
  simp only at ha h0 h1
  unfold spec_l01Next.f
  simp only
  by_cases hn : n ≤ 1
  · rw [if_pos hn]
    exact ⟨_, rfl, ⟨ha, h0, h1⟩, by simp, .inr rfl⟩
  rw [if_neg hn, w64 (x := s * 48271) (by omega) (by omega), w64 (x := s * 48271 + 61) (by omega) (by omega), tmod_n (a := s * 48271 + 61) (by omega)]
  have hS : 0 ≤ (s * 48271 + 61) % 2147483647 ∧ (s * 48271 + 61) % 2147483647 < 2147483647 := by omega
  generalize (s * 48271 + 61) % 2147483647 = S at hS
  rw [tdiv_n (a := S) (by omega)]
  have hm : ∀ x : Int, 0 ≤ x → 0 ≤ Int.tmod x n ∧ Int.tmod x n < n := fun x hx => by
    rw [tmod_n hx]
    exact ⟨Int.emod_nonneg _ (by omega), Int.emod_lt_of_pos _ (by omega)⟩
  by_cases hlt : a < (c.length : Int)
  · have hb := rd_byte hc ha hlt
    rw [if_pos hlt, if_pos ha, w64 (x := a + 1) (by omega) (by omega), w64 (x := a + 1 - 1) (by omega) (by omega), show a + 1 - 1 = a by omega, w64 (x := rd c a) (by omega) (by omega), w64 (x := S / 31) (by omega) (by omega), w64 (x := S / 31 + rd c a) (by omega) (by omega)]
    have g1 := hm (rd c a) hb.1
    have g2 := hm (S / 31 + rd c a) (by omega)
    split
    · split
      · rw [if_neg (by omega)]
        exact ⟨_, rfl, ⟨by simp only; omega, hS.1, hS.2⟩, g1.1, .inl g1.2⟩
      · rw [if_neg (by omega)]
        exact ⟨_, rfl, ⟨by simp only; omega, hS.1, hS.2⟩, g2.1, .inl g2.2⟩
    · rw [if_neg (by omega)]
      exact ⟨_, rfl, ⟨by simp only; omega, hS.1, hS.2⟩, g2.1, .inl g2.2⟩
  · have g3 := hm (S / 31) (by omega)
    rw [if_neg hlt, if_neg (by omega), w64 (x := S / 31) (by omega) (by omega)]
    exact ⟨_, rfl, ⟨ha, hS.1, hS.2⟩, g3.1, .inl g3.2⟩

theorem pick_ok {c : List Int} (hc : Code c) {q : Int × Int} (hq : SOk q) (l : List Int) (hl : 0 < l.length) : ∃ p, spec_l01Pick.f c q.1 q.2 l = some p ∧ SOk p.2 ∧ p.1 ∈ l := by
  unfold spec_l01Pick.f
  obtain ⟨p, e, h1, h2, h3⟩ := next_ok hc hq (l.length : Int)
  rw [e]
  simp only [Option.bind_some]
  have h4 : p.1 < (l.length : Int) := by omega
  rw [if_pos h2, if_pos h4]
  refine ⟨_, rfl, h1, ?_⟩
  simp only
  obtain ⟨n, hn⟩ : ∃ n : Nat, p.1 = n := ⟨p.1.toNat, by omega⟩
  have hn2 : n < l.length := by omega
  have e2 : rd l (n : Int) = l[n] := by rw [rd_nat, List.getD_eq_getElem?_getD, List.getElem?_eq_getElem hn2]; rfl
  rw [hn, e2]
  exact List.getElem_mem hn2

theorem l10Draw_l1 (c : List Int) (q1 q2 x4 : Int) : ∀ (d k i : Nat) (xs : List Int), i + d = xs.length → d < k → xs.length ≤ 1000 → ∃ ys, spec_l10Draw.l1 k x4 xs (i : Int) c q1 q2 = some (x4, ys, q1, q2) ∧ ys.length = xs.length := by
  intro d
  induction d with
  | zero =>
    intro k i xs hi hk hx
    obtain ⟨k, rfl⟩ : ∃ m, k = m + 1 := ⟨k - 1, by omega⟩
    exact ⟨xs, by rw [spec_l10Draw.l1, if_neg (by omega)], rfl⟩
  | succ d ih =>
    intro k i xs hi hk hx
    obtain ⟨k, rfl⟩ : ∃ m, k = m + 1 := ⟨k - 1, by omega⟩
    obtain ⟨ys, e, hl⟩ := ih k (i + 1) (xs.set (i : Int).toNat x4) (by rw [List.length_set]; omega) (by omega) (by rw [List.length_set]; exact hx)
    refine ⟨ys, ?_, by rw [hl, List.length_set]⟩
    rw [spec_l10Draw.l1, if_pos (by omega), if_pos (by omega), w64 (by omega) (by omega)]
    exact e
theorem l10Draw_l0 {c : List Int} (hc : Code c) (x4 : Int) : ∀ (n k : Nat) (strips : List Int) (q : Int × Int), SOk q → n + 20 ≤ k → n ≤ 8 → strips.length + n ≤ 8 → ∃ p, spec_l10Draw.l0 k x4 strips (n : Int) c q.1 q.2 = some p ∧ p.2.1.length ≤ 13 ∧ SOk p.2.2 := by
  intro n
  induction n with
  | zero =>
    intro k strips q hq hk hn hs
    obtain ⟨k, rfl⟩ : ∃ m, k = m + 1 := ⟨k - 1, by omega⟩
    rw [spec_l10Draw.l0, if_neg (by omega)]
    refine bind_ok (next_ok hc hq 40) fun a ha => ite_ok (fun _ => bind_ok (pick_ok hc ha.1 _ (by simp)) fun r hr => ⟨_, rfl, by simp only; omega, hr.1⟩) (fun _ => ite_ok (fun _ => bind_ok (pick_ok hc ha.1 _ (by simp)) fun r hr => ?_) (fun _ => ite_ok (fun _ => bind_ok (next_ok hc ha.1 2) fun r hr => ?_) (fun _ => ⟨_, rfl, by simp only; omega, ha.1⟩)))
    · rw [if_pos (by omega)]
      exact ⟨_, rfl, by simp only [List.length_append, List.length_cons, List.length_nil]; omega, hr.1⟩
    · have h1 := hr.2.1
      have h2 := hr.2.2
      have e : wrap64 (12 + r.1) = 12 + r.1 := w64 (by omega) (by omega)
      rw [e, if_pos (by omega), if_pos (by omega)]
      obtain ⟨ys, e1, hl⟩ := l10Draw_l1 c r.2.1 r.2.2 x4 (12 + r.1).toNat k 0 (List.replicate (12 + r.1).toNat 0) (by simp) (by omega) (by simp; omega)
      exact ⟨_, e1, by simp only; rw [hl, List.length_replicate]; omega, hr.1⟩
  | succ n ih =>
    intro k strips q hq hk hn hs
    obtain ⟨k, rfl⟩ : ∃ m, k = m + 1 := ⟨k - 1, by omega⟩
    rw [spec_l10Draw.l0, if_pos (by omega)]
    refine bind_ok (pick_ok hc hq _ (by simp)) fun a ha => bind_ok (next_ok hc ha.1 a.1) fun r hr => ?_
    rw [if_pos (by omega), w64 (x := ((n + 1 : Nat) : Int) - 1) (by omega) (by omega), show ((n + 1 : Nat) : Int) - 1 = (n : Int) by omega]
    exact ih k _ r.2 hr.1 (by omega) (by omega) (by simp only [List.length_append, List.length_cons, List.length_nil]; omega)
theorem l10Draw_ok {c : List Int} (hc : Code c) {k : Nat} (hk : 30 ≤ k) {q : Int × Int} (hq : SOk q) : ∃ p, spec_l10Draw.f k c q.1 q.2 = some p ∧ p.2.1.length ≤ 13 ∧ SOk p.2.2 := by
  unfold spec_l10Draw.f
  refine bind_ok (next_ok hc hq 30) fun a ha => bind_ok (next_ok hc ha.1 9) fun b hb => ?_
  have h1 := hb.2.1
  have h2 := hb.2.2
  obtain ⟨n, hn⟩ : ∃ n : Nat, b.1 = n := ⟨b.1.toNat, by omega⟩
  rw [hn]
  exact l10Draw_l0 hc _ n k [] b.2 hb.1 (by omega) (by omega) (by simp; omega)

theorem spec_l01From_l0 (c : List Int) (hc : Code c) : ∀ (d k i : Nat) (l : List Int) (a s : Int), i + d = c.length → d < k → 0 ≤ a → 0 ≤ s → s < 2147483647 → ∃ q, spec_l01From.l0 k c (i : Int) l a s = some (l, q) ∧ SOk q := by
  intro d
  have hl := hc.2
  induction d with
  | zero =>
    intro k i l a s h hk ha h0 h1
    obtain ⟨k, rfl⟩ : ∃ m, k = m + 1 := ⟨k - 1, by omega⟩
    rw [spec_l01From.l0, if_neg (by omega)]
    exact ⟨(a, s), rfl, ha, h0, h1⟩
  | succ d ih =>
    intro k i l a s h hk ha h0 h1
    obtain ⟨k, rfl⟩ : ∃ m, k = m + 1 := ⟨k - 1, by omega⟩
    rw [spec_l01From.l0, if_pos (by omega)]
    by_cases h64 : (i : Int) < 64
    · have hb := rd_byte hc (i := (i : Int)) (by omega) (by omega)
      rw [if_pos h64, if_pos (by omega), w64 (x := (i : Int) + 1) (by omega) (by omega), w64 (x := rd c (i : Int)) (by omega) (by omega), w64 (x := s * 71) (by omega) (by omega), w64 (x := s * 71 + rd c (i : Int)) (by omega) (by omega), tmod_n (by omega)]
      exact ih k (i + 1) l a _ (by omega) (by omega) ha (by omega) (by omega)
    · rw [if_neg h64]
      exact ⟨(a, s), rfl, ha, h0, h1⟩
theorem from_ok {c : List Int} (hc : Code c) {k : Nat} (hk : c.length < k) : ∃ p, spec_l01From.f k c = some p ∧ p.1 = c ∧ SOk p.2 := by
  obtain ⟨q, e, h⟩ := spec_l01From_l0 c hc c.length k 0 c 0 88007 (by omega) hk (by omega) (by omega) (by omega)
  exact ⟨(c, q), e, rfl, h⟩

theorem DrawBestPacking_ok {c : List Int} (hc : Code c) {k : Nat} (hk : c.length + 30 < k) : ∃ p, spec_DrawBestPacking.f k c = some p ∧ p.2.length ≤ 13 := by
  unfold spec_DrawBestPacking.f
  refine bind_ok (from_ok hc (by omega)) fun p hp => ?_
  rw [hp.1]
  exact bind_ok (l10Draw_ok hc (by omega) hp.2) fun g hg => ⟨_, rfl, hg.1⟩

theorem FnBestPackings : laws_FnBestPackings.Pure := by
  intro l _ _ hb
  by_cases hbig : (l.length : Int) > 4096
  · exact ⟨1, by unfold laws_FnBestPackings.f; rw [laws_big_eq, decide_eq_true hbig]; rfl⟩
  have hc : Code l := ⟨fun x hx => wfByte (hb x hx), by omega⟩
  obtain ⟨⟨roll, s⟩, e1, hs⟩ := DrawBestPacking_ok hc (k := 5010) (by omega)
  simp only at hs
  have hl := bestPacking_len roll s
  refine ⟨5010, ?_⟩
  unfold laws_FnBestPackings.f
  rw [laws_big_eq, decide_eq_false hbig, e1]
  simp only [Option.bind_some, Bool.false_eq_true, if_false]
  rw [impl_BestPacking_eq roll s 5010 (by omega), spec_BestPacking_eq roll s 5010 (by omega) (by omega), impl_LeastRolls_eq roll s 5010 (by omega), spec_LeastRolls_eq roll s 5010 (by omega) (by omega)]
  simp only [Option.bind_some, if_true]
  rw [laws_likeInts_eq _ 5010 (by omega) (by omega)]
  simp only [Option.bind_some, if_true, bne_self_eq_false]
  rw [laws_FnBestPackings.j0, if_neg (by simp)]
  by_cases h : rollTask roll s = true
  · obtain ⟨b1, b2, b3, b4, b5, b6, b7, b8⟩ := bestP_ok h
    obtain ⟨h1, h2, h3⟩ := rollTask_true h
    obtain ⟨f1, f2, f3, f4, f5⟩ := ff_ok roll s [] (fun x hx => by have := h3 x hx; omega) (by simp)
    have ep : bestPacking roll s = ((bestP roll s).2, 0) := by unfold bestPacking; rw [if_pos h]
    have el : leastRolls roll s = (((bestP roll s).1 : Int), 0) := by unfold leastRolls; rw [if_pos h]
    have ef : firstFit roll s = (ff roll s [], 0) := by unfold firstFit; rw [if_pos h]
    have hp : isPacking roll s (bestP roll s).2 = true := by
      simp only [isPacking, Bool.and_eq_true, h, b7, decide_true, true_and, List.all_eq_true, decide_eq_true_eq]
      exact ⟨b6, fun a ha => (b8 a ha).2⟩
    have hf := ff_packing h
    have es : sparesOf roll s (bestP roll s).2 = ((loads s (bestP roll s).2 []).map (fun x => roll - x), 0) := by unfold sparesOf; rw [if_pos h, if_pos hp]
    have eo : sparesOf roll s (ff roll s []) = ((loads s (ff roll s []) []).map (fun x => roll - x), 0) := by unfold sparesOf; rw [if_pos h, if_pos hf]
    have hle : (bestP roll s).1 ≤ (loads s (ff roll s []) []).length := by
      by_cases hc : (bestP roll s).1 ≤ (loads s (ff roll s []) []).length
      · exact hc
      · exact absurd (b3 _ (Nat.lt_of_not_le hc)) (f5 _ (Nat.le_refl _))
    have eb : (rollBound roll s).2 = 0 := by unfold rollBound; rw [if_pos h]
    rw [ep, el, if_pos rfl, impl_SparesOf_eq roll s _ 5009 (by omega), impl_FirstFit_eq roll s 5009 (by omega)]
    simp only [Option.bind_some]
    rw [ef]
    simp only
    rw [impl_SparesOf_eq roll s _ 5009 (by omega), impl_RollBound_eq roll s 5009 (by omega), es, eo]
    simp only [Option.bind_some, List.length_map, b5, if_true, eb]
    rw [if_pos (by omega), decide_eq_true b4]
  · have ep : bestPacking roll s = ([], 1) := by unfold bestPacking; rw [if_neg h]
    rw [ep, if_neg (by simp)]

end Go.Proofs.Ytaapnjhgkbjdkaa.Pure
