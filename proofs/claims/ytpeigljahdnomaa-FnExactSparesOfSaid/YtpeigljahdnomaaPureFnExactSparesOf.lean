/- For all arguments the law FnExactSparesOf returns true, with no condition beyond the bounds that the printed statement names. -/
import Derived.Test.YtpeigljahdnomaaPFnExactSparesOfx5
namespace Go.Proofs.Ytpeigljahdnomaa.Pure
open Go.RowKit Go.Proofs.Ytpeigljahdnomaa.PFnExactSparesOf Go.Proofs.YtpeigljahdnomaaW.PrintWords Go.Proofs.YtpeigljahdnomaaW.PrintLast
set_option linter.unusedVariables false
set_option linter.unusedSimpArgs false

theorem w64 {x : Int} (h1 : -9223372036854775808 ≤ x) (h2 : x ≤ 9223372036854775807) : wrap64 x = x := by
  unfold wrap64; omega
theorem wf64 {x : Int} (h : (Lit.int .i64 x).wf = true) : -9223372036854775808 ≤ x ∧ x ≤ 9223372036854775807 := by
  simp [Lit.wf, IntKind.min, IntKind.max, IntKind.signed, IntKind.bits] at h
  omega
/-- 'a lies from b to c'. -/
def inR (a b c : Int) : Bool := decide (b ≤ a ∧ a ≤ c)
theorem inR_true {a b c : Int} (h : inR a b c = true) : b ≤ a ∧ a ≤ c := by simpa [inR] using h
theorem inR_mk {a b c : Int} (h1 : b ≤ a) (h2 : a ≤ c) : inR a b c = true := by simp [inR, h1, h2]
theorem inR_false {a b c : Int} (h : inR a b c = false) : a < b ∨ c < a := by
  have : ¬ (b ≤ a ∧ a ≤ c) := by simpa [inR] using h
  omega
theorem rd_nat (xs : List Int) (i : Nat) : rd xs (i : Int) = xs.getD i 0 := by simp [rd]
theorem mul_bd {a b A B : Int} (h0 : 0 ≤ a) (h1 : a ≤ A) (k0 : 0 ≤ b) (k1 : b ≤ B) : 0 ≤ a * b ∧ a * b ≤ A * B :=
  ⟨Int.mul_nonneg h0 k0, Int.mul_le_mul h1 k1 k0 (by omega)⟩
theorem tdiv_n {a b : Int} (h : 0 ≤ a) : Int.tdiv a b = a / b := Int.tdiv_eq_ediv_of_nonneg h
theorem tmod_n {a b : Int} (h : 0 ≤ a) : Int.tmod a b = a % b := Int.tmod_eq_emod_of_nonneg h
theorem mn_min (a b : Int) : mn a b = min a b := by unfold mn; split <;> omega
theorem mx_max (a b : Int) : mx a b = max a b := by unfold mx; split <;> omega

def allR (xs : List Int) (lo hi : Int) : Bool := xs.all fun x => inR x lo hi
theorem allR_mem {xs : List Int} {lo hi : Int} (h : allR xs lo hi = true) : ∀ x ∈ xs, lo ≤ x ∧ x ≤ hi := fun x hx => inR_true (List.all_eq_true.1 h x hx)
theorem drop_get (xs : List Int) (i : Nat) (hi : i < xs.length) : xs.drop i = xs[i] :: xs.drop (i + 1) := List.drop_eq_getElem_cons hi
theorem rd_get (xs : List Int) (i : Nat) (hi : i < xs.length) : rd xs (i : Int) = xs[i] := by rw [rd_nat, List.getD_eq_getElem?_getD, List.getElem?_eq_getElem hi]; rfl
/-- The sum, as the program adds it up. -/
def wsum (a : Int) (xs : List Int) : Int := xs.foldl (fun a x => wrap64 (a + x)) a
theorem wsum_cons (a x : Int) (xs : List Int) : wsum a (x :: xs) = wsum (wrap64 (a + x)) xs := rfl
theorem wsum_eq : ∀ (xs : List Int) (a : Int), (∀ x ∈ xs, 0 ≤ x ∧ x ≤ 1000000) → 0 ≤ a → a + xs.length * 1000000 ≤ 4611686018427387904 → wsum a xs = a + xs.sum ∧ 0 ≤ xs.sum ∧ xs.sum ≤ xs.length * 1000000
  | [], a, _, h0, _ => ⟨by simp [wsum], by simp, by simp⟩
  | x :: xs, a, h, h0, hb => by
    have hx := h x (by simp)
    simp only [List.length_cons] at hb ⊢
    obtain ⟨e, l, u⟩ := wsum_eq xs (a + x) (fun y hy => h y (by simp [hy])) (by omega) (by omega)
    rw [wsum_cons, w64 (by omega) (by omega), e, List.sum_cons]
    exact ⟨by omega, by omega, by omega⟩

def rollTask (roll : Int) (s : List Int) : Bool := inR roll 1 100000 && (decide ((s.length : Int) ≤ 12) && allR s 1 roll)
theorem rollTask_true {roll : Int} {s : List Int} (h : rollTask roll s = true) : (1 ≤ roll ∧ roll ≤ 100000) ∧ s.length ≤ 12 ∧ ∀ x ∈ s, 1 ≤ x ∧ x ≤ roll := by
  simp only [rollTask, Bool.and_eq_true, decide_eq_true_eq] at h
  exact ⟨inR_true h.1, by omega, allR_mem h.2.2⟩
theorem roll_sum {roll : Int} {s : List Int} (h : rollTask roll s = true) : wsum 0 s = s.sum ∧ 0 ≤ s.sum ∧ s.sum ≤ 12000000 := by
  obtain ⟨h1, h2, h3⟩ := rollTask_true h
  obtain ⟨e, l, u⟩ := wsum_eq s 0 (fun x hx => by have := h3 x hx; omega) (by omega) (by omega)
  exact ⟨by omega, l, by omega⟩
/-- How many strips are longer than half a roll. -/
def longs (roll : Int) : List Int → Int
  | [] => 0
  | x :: xs => (if 2 * x > roll then 1 else 0) + longs roll xs
theorem longs_bd (roll : Int) : ∀ xs : List Int, 0 ≤ longs roll xs ∧ longs roll xs ≤ xs.length
  | [] => by simp [longs]
  | x :: xs => by
    have := longs_bd roll xs
    simp only [longs, List.length_cons]
    split <;> omega
def rollBound (roll : Int) (s : List Int) : Int × Int := if rollTask roll s = true then (max (longs roll s) ((s.sum + roll - 1) / roll), 0) else (0, 1)

/-- 'Each strip goes to a roll that is there or to the next one'; n rolls are there. -/
def rg : List Int → Int → Bool
  | [], _ => true
  | p :: ps, n => inR p 0 n && rg ps (max n (p + 1))
def room (acc : List Int) (p : Int) : List Int := if p = (acc.length : Int) then acc ++ [0] else acc
def addTo (acc : List Int) (p s : Int) : List Int := (room acc p).set p.toNat (rd (room acc p) p + s)
/-- The sums of the strips of each roll. -/
def loads : List Int → List Int → List Int → List Int
  | s :: ss, p :: ps, acc => loads ss ps (addTo acc p s)
  | _, _, acc => acc
theorem room_len {acc : List Int} {p : Int} (h : inR p 0 acc.length = true) : ((room acc p).length : Int) = max (acc.length : Int) (p + 1) := by
  have := inR_true h
  unfold room
  split
  · simp only [List.length_append, List.length_cons, List.length_nil]; omega
  · omega
theorem addTo_len {acc : List Int} {p : Int} (s : Int) (h : inR p 0 acc.length = true) : ((addTo acc p s).length : Int) = max (acc.length : Int) (p + 1) := by
  unfold addTo
  rw [List.length_set, room_len h]
theorem room_mem {acc : List Int} {p B : Int} (hB : 0 ≤ B) (h : ∀ a ∈ acc, 0 ≤ a ∧ a ≤ B) : ∀ a ∈ room acc p, 0 ≤ a ∧ a ≤ B := by
  intro a ha
  unfold room at ha
  split at ha
  · rcases List.mem_append.1 ha with h1 | h1
    · exact h a h1
    · simp only [List.mem_singleton] at h1
      omega
  · exact h a ha
theorem rd_mem {xs : List Int} {p : Int} (h0 : 0 ≤ p) (h : p < xs.length) : rd xs p ∈ xs := by
  obtain ⟨n, rfl⟩ : ∃ n : Nat, p = n := ⟨p.toNat, by omega⟩
  rw [rd_get xs n (by omega)]
  exact List.getElem_mem _
theorem room_rd {acc : List Int} {p B : Int} (hi : inR p 0 acc.length = true) (hB : 0 ≤ B) (h : ∀ a ∈ acc, 0 ≤ a ∧ a ≤ B) : 0 ≤ rd (room acc p) p ∧ rd (room acc p) p ≤ B := by
  have h1 := inR_true hi
  have h2 := room_len hi
  exact room_mem hB h _ (rd_mem h1.1 (by omega))
theorem addTo_mem {acc : List Int} {p s B C : Int} (hi : inR p 0 acc.length = true) (hB : 0 ≤ B) (h : ∀ a ∈ acc, 0 ≤ a ∧ a ≤ B) (hs : 0 ≤ s) (hC : B + s ≤ C) : ∀ a ∈ addTo acc p s, 0 ≤ a ∧ a ≤ C := by
  intro a ha
  have h3 := room_rd hi hB h
  rcases List.mem_or_eq_of_mem_set ha with h1 | h1
  · have := room_mem hB h a h1
    omega
  · omega
theorem loads_ok : ∀ (s p acc : List Int) (B : Int), rg p acc.length = true → (∀ x ∈ s, 1 ≤ x ∧ x ≤ 100000) → 0 ≤ B → (∀ a ∈ acc, 0 ≤ a ∧ a ≤ B) → ∀ a ∈ loads s p acc, 0 ≤ a ∧ a ≤ B + s.length * 100000
  | [], p, acc, B, _, _, _, h => by
    intro a ha
    rw [loads.eq_def] at ha
    simp only at ha
    have := h a ha
    simp only [List.length_nil]
    omega
  | s :: ss, [], acc, B, _, _, _, h => by
    intro a ha
    rw [loads.eq_def] at ha
    simp only at ha
    have := h a ha
    simp only [List.length_cons]
    omega
  | s :: ss, p :: ps, acc, B, hr, hs, hB, h => by
    simp only [rg, Bool.and_eq_true] at hr
    have h1 := hs s (by simp)
    intro a ha
    rw [loads] at ha
    have := loads_ok ss ps (addTo acc p s) (B + 100000) (by rw [addTo_len s hr.1]; exact hr.2) (fun x hx => hs x (by simp [hx])) (by omega) (addTo_mem hr.1 hB h (by omega) (by omega)) a ha
    simp only [List.length_cons]
    omega
def isPacking (roll : Int) (s p : List Int) : Bool := rollTask roll s && (decide (p.length = s.length) && (rg p 0 && (loads s p []).all fun a => decide (a ≤ roll)))

theorem room_len_le (acc : List Int) (p : Int) : (room acc p).length ≤ acc.length + 1 := by
  unfold room
  split
  · simp
  · omega
theorem loads_len2 : ∀ (s p acc : List Int), (loads s p acc).length ≤ acc.length + s.length
  | [], p, acc => by rw [loads.eq_def]; simp
  | s :: ss, [], acc => by rw [loads.eq_def]; simp only [List.length_cons]; omega
  | s :: ss, p :: ps, acc => by
    rw [loads]
    have h1 := loads_len2 ss ps (addTo acc p s)
    have h2 := room_len_le acc p
    have h3 : (addTo acc p s).length = (room acc p).length := by unfold addTo; rw [List.length_set]
    simp only [List.length_cons]
    omega
def sparesOf (roll : Int) (s p : List Int) : List Int × Int :=
  if rollTask roll s = true then (if isPacking roll s p = true then ((loads s p []).map (fun x => roll - x), 0) else ([], 2)) else ([], 1)
theorem sparesOf_len (roll : Int) (s p : List Int) : (sparesOf roll s p).1.length ≤ 12 := by
  unfold sparesOf
  split
  · rename_i h
    have := (rollTask_true h).2.1
    have := loads_len2 s p []
    split
    · simp only [List.length_map]
      simp only [List.length_nil] at this
      omega
    · simp
  · simp
theorem set_map (xs : List Int) (i : Nat) (h : i < xs.length) (f : Int → Int) : (xs.set i (f xs[i])).take (i + 1) ++ ((xs.set i (f xs[i])).drop (i + 1)).map f = xs.take i ++ (xs.drop i).map f := by
  have h' : i < (xs.set i (f xs[i])).length := by rw [List.length_set]; exact h
  rw [List.take_succ_eq_append_getElem h', List.getElem_set_self, List.take_set_of_le (Nat.le_refl i), List.drop_set_of_lt (Nat.lt_succ_self i), drop_get xs i h, List.map_cons]
  simp
theorem spares_ok {roll : Int} {s p : List Int} (h1 : rollTask roll s = true) (h2 : isPacking roll s p = true) : p.length = s.length ∧ s.length ≤ 12 ∧ (∀ x ∈ s, 1 ≤ x ∧ x ≤ 100000) ∧ rg p 0 = true ∧ (∀ a ∈ loads s p [], 0 ≤ a ∧ a ≤ 1200000) ∧ (loads s p []).length ≤ 12 ∧ (∀ a ∈ loads s p [], a ≤ roll) := by
  obtain ⟨g1, g2, g3⟩ := rollTask_true h1
  simp only [isPacking, Bool.and_eq_true, decide_eq_true_eq, List.all_eq_true] at h2
  have hs : ∀ x ∈ s, 1 ≤ x ∧ x ≤ 100000 := fun x hx => by have := g3 x hx; omega
  have hlen := loads_len2 s p []
  simp only [List.length_nil] at hlen
  refine ⟨h2.2.1, g2, hs, h2.2.2.1, fun a ha => ?_, by omega, h2.2.2.2⟩
  have := loads_ok s p [] 0 h2.2.2.1 hs (by omega) (by simp) a ha
  omega

theorem laws_toInt64S_l0 (xs : List Int) (hl : xs.length ≤ 35184372088832) : ∀ (d k i : Nat) (ys : List Int), ys.length = xs.length → i + d = xs.length → (∀ j, j < i → ys[j]? = xs[j]?) → d < k → laws_toInt64S.l0 k xs ys (i : Int) = some xs := by
  intro d
  induction d with
  | zero =>
    intro k i ys hy h hj hk
    obtain ⟨k, rfl⟩ : ∃ m, k = m + 1 := ⟨k - 1, by omega⟩
    rw [laws_toInt64S.l0, if_neg (by omega)]
    congr 1
    apply List.ext_getElem?
    intro j
    by_cases h1 : j < i
    · exact hj j h1
    · rw [List.getElem?_eq_none (by omega), List.getElem?_eq_none (by omega)]
  | succ d ih =>
    intro k i ys hy h hj hk
    obtain ⟨k, rfl⟩ : ∃ m, k = m + 1 := ⟨k - 1, by omega⟩
    have hi : i < xs.length := by omega
    have e2 : rd xs (i : Int) = xs[i] := by rw [rd_nat, List.getD_eq_getElem?_getD, List.getElem?_eq_getElem hi]; rfl
    rw [laws_toInt64S.l0, if_pos (by omega), if_pos (by omega), if_pos (by omega), w64 (by omega) (by omega), Int.toNat_natCast, e2]
    refine ih k (i + 1) _ (by rw [List.length_set]; exact hy) (by omega) (fun j hlt => ?_) (by omega)
    by_cases e : j = i
    · subst e
      rw [List.getElem?_set_self (by omega), List.getElem?_eq_getElem hi]
    · rw [List.getElem?_set_ne (by omega)]
      exact hj j (by omega)
theorem laws_toInt64S_eq (xs : List Int) (k : Nat) (hl : xs.length ≤ 35184372088832) (hk : xs.length < k) : laws_toInt64S.f k xs = some xs := by
  unfold laws_toInt64S.f
  rw [if_pos (by omega), if_pos (by omega)]
  exact laws_toInt64S_l0 xs hl xs.length k 0 _ (by simp) (by omega) (fun j hj => absurd hj (Nat.not_lt_zero _)) hk

theorem laws_eqInt64S_l0 (xs : List Int) (hl : xs.length ≤ 9223372036854775806) : ∀ (d k i : Nat), i + d = xs.length → d < k → laws_eqInt64S.l0 k xs xs (i : Int) = some true := by
  intro d
  induction d with
  | zero =>
    intro k i h hk
    obtain ⟨k, rfl⟩ : ∃ m, k = m + 1 := ⟨k - 1, by omega⟩
    rw [laws_eqInt64S.l0, if_neg (by omega)]
  | succ d ih =>
    intro k i h hk
    obtain ⟨k, rfl⟩ : ∃ m, k = m + 1 := ⟨k - 1, by omega⟩
    rw [laws_eqInt64S.l0, if_pos (by omega), if_pos (by omega), if_pos (by omega), if_pos rfl, w64 (by omega) (by omega)]
    exact ih k (i + 1) (by omega) (by omega)
theorem laws_eqInt64S_eq (xs : List Int) (k : Nat) (hl : xs.length ≤ 9223372036854775806) (hk : xs.length < k) : laws_eqInt64S.f k xs xs = some true := by
  unfold laws_eqInt64S.f
  rw [if_pos rfl]
  exact laws_eqInt64S_l0 xs hl xs.length k 0 (by omega) hk

theorem laws_markInt64S_l0 (n : Nat) (hn : n ≤ 9223372036854775806) : ∀ (d k i : Nat) (ys : List Int), ys.length = n → i + d = n → d < k →
    ∃ zs : List Int, laws_markInt64S.l0 k ys ((i : Int) + 1) (i : Int) = some ((n : Int) + 1, zs) ∧ zs.length = n ∧ (∀ j, j < i → zs.getD j 0 = ys.getD j 0) ∧ (∀ j, i ≤ j → j < n → zs.getD j 0 = (j : Int) + 1) := by
  intro d
  induction d with
  | zero =>
    intro k i ys hy h hk
    obtain ⟨k, rfl⟩ : ∃ m, k = m + 1 := ⟨k - 1, by omega⟩
    have e : i = n := by omega
    subst e
    refine ⟨ys, ?_, hy, fun _ _ => rfl, fun j h1 h2 => by omega⟩
    rw [laws_markInt64S.l0, if_neg (by omega)]
  | succ d ih =>
    intro k i ys hy h hk
    obtain ⟨k, rfl⟩ : ∃ m, k = m + 1 := ⟨k - 1, by omega⟩
    obtain ⟨zs, h1, h2, h3, h4⟩ := ih k (i + 1) (ys.set i ((i : Int) + 1)) (by simpa using hy) (by omega) (by omega)
    refine ⟨zs, ?_, h2, fun j hj => ?_, fun j hj1 hj2 => ?_⟩
    · rw [laws_markInt64S.l0, if_pos (by omega), if_pos (by omega), w64 (by omega) (by omega), w64 (by omega) (by omega), Int.toNat_natCast]
      have e : ((i + 1 : Nat) : Int) = (i : Int) + 1 := by omega
      rw [e] at h1
      exact h1
    · rw [h3 j (by omega)]
      simp only [List.getD_eq_getElem?_getD]
      rw [List.getElem?_set_ne (by omega)]
    · by_cases e : j = i
      · subst e
        rw [h3 j (by omega)]
        simp only [List.getD_eq_getElem?_getD]
        rw [List.getElem?_set_self (by omega)]
        rfl
      · exact h4 j (by omega) hj2

theorem laws_heldInt64S_l0 (n : Nat) (hn : n ≤ 9223372036854775806) (zs : List Int) (hz : zs.length = n) (hv : ∀ j, j < n → zs.getD j 0 = (j : Int) + 1) : ∀ (d k i : Nat), i + d = n → d < k →
    laws_heldInt64S.l0 k zs ((i : Int) + 1) (i : Int) = some ((n : Int) + 1) := by
  intro d
  induction d with
  | zero =>
    intro k i h hk
    obtain ⟨k, rfl⟩ : ∃ m, k = m + 1 := ⟨k - 1, by omega⟩
    have e : i = n := by omega
    subst e
    rw [laws_heldInt64S.l0, if_neg (by omega)]
  | succ d ih =>
    intro k i h hk
    obtain ⟨k, rfl⟩ : ∃ m, k = m + 1 := ⟨k - 1, by omega⟩
    have := ih k (i + 1) (by omega) (by omega)
    have e : ((i + 1 : Nat) : Int) = (i : Int) + 1 := by omega
    rw [e] at this
    rw [laws_heldInt64S.l0, if_pos (by omega), if_pos (by omega), if_pos (by rw [rd_nat, hv i (by omega)]), w64 (by omega) (by omega), w64 (by omega) (by omega)]
    exact this
/-- What was marked is held. -/
theorem marks_held (xs : List Int) (hn : xs.length ≤ 9223372036854775806) (k : Nat) (hk : xs.length < k) :
    ∃ zs : List Int, laws_markInt64S.f k xs 1 = some ((xs.length : Int) + 1, zs) ∧ zs.length = xs.length ∧ (∀ k', xs.length < k' → laws_heldInt64S.f k' zs 1 = some ((xs.length : Int) + 1)) := by
  obtain ⟨zs, h1, h2, _, h4⟩ := laws_markInt64S_l0 xs.length hn xs.length k 0 xs rfl (by omega) hk
  exact ⟨zs, h1, h2, fun k' hk' => laws_heldInt64S_l0 xs.length hn zs h2 (fun j hj => h4 j (by omega) hj) xs.length k' 0 (by omega) hk'⟩
theorem mark_any (a n : Int) (ha : 0 ≤ a ∧ a ≤ 1048577) (hn : n ≤ 1048576) : ∀ (d k i : Nat) (ys : List Int), (ys.length : Int) = n → (i : Int) + d = n → d < k →
    ∃ zs : List Int, laws_markInt64S.l0 k ys (a + i) (i : Int) = some (a + n, zs) := by
  intro d
  induction d with
  | zero =>
    intro k i ys hy h hk
    obtain ⟨k, rfl⟩ : ∃ m, k = m + 1 := ⟨k - 1, by omega⟩
    refine ⟨ys, ?_⟩
    rw [laws_markInt64S.l0, if_neg (by omega)]
    have e : (i : Int) = n := by omega
    rw [e]
  | succ d ih =>
    intro k i ys hy h hk
    obtain ⟨k, rfl⟩ : ∃ m, k = m + 1 := ⟨k - 1, by omega⟩
    obtain ⟨zs, h1⟩ := ih k (i + 1) (ys.set i (a + i)) (by simpa using hy) (by omega) (by omega)
    refine ⟨zs, ?_⟩
    rw [laws_markInt64S.l0, if_pos (by omega), if_pos (by omega), w64 (by omega) (by omega), w64 (by omega) (by omega), Int.toNat_natCast]
    have e : ((i + 1 : Nat) : Int) = (i : Int) + 1 := by omega
    rw [e, ← Int.add_assoc] at h1
    exact h1

theorem spec_l01In_eq (a b c : Int) : spec_l01In.f a b c = some (inR a b c) := by
  unfold spec_l01In.f inR
  by_cases h : a ≥ b
  · rw [if_pos h]; simp [show b ≤ a from h]
  · rw [if_neg h]; simp [show ¬ b ≤ a from h]

theorem spec_l01Within_l0 (xs : List Int) (m lo hi : Int) (hl : xs.length ≤ 9223372036854775806) : ∀ (d k i : Nat), i + d = xs.length → d < k → spec_l01Within.l0 k xs m lo hi (i : Int) = some (allR (xs.drop i) lo hi && decide ((xs.length : Int) ≤ m)) := by
  intro d
  induction d with
  | zero =>
    intro k i h hk
    obtain ⟨k, rfl⟩ : ∃ m, k = m + 1 := ⟨k - 1, by omega⟩
    rw [spec_l01Within.l0, if_neg (by omega), List.drop_of_length_le (by omega)]
    rfl
  | succ d ih =>
    intro k i h hk
    obtain ⟨k, rfl⟩ : ∃ m, k = m + 1 := ⟨k - 1, by omega⟩
    have hlt : i < xs.length := by omega
    have e3 := ih k (i + 1) (by omega) (by omega)
    rw [spec_l01Within.l0, if_pos (by omega), if_pos (by omega), rd_get xs i hlt, spec_l01In_eq, drop_get xs i hlt, w64 (by omega) (by omega)]
    simp only [Option.bind_some, allR, List.all_cons]
    cases hx : inR xs[i] lo hi
    · simp
    · simp only [if_true, Bool.true_and]
      exact e3
theorem spec_l01Within_eq (xs : List Int) (m lo hi : Int) (k : Nat) (hl : xs.length ≤ 9223372036854775806) (hk : xs.length < k) : spec_l01Within.f k xs m lo hi = some (allR xs lo hi && decide ((xs.length : Int) ≤ m)) := by
  unfold spec_l01Within.f
  exact spec_l01Within_l0 xs m lo hi hl xs.length k 0 (by omega) hk

theorem spec_IsRollTask_eq (roll : Int) (s : List Int) (k : Nat) (hl : s.length ≤ 9223372036854775806) (hk : s.length < k) : spec_IsRollTask.f k roll s = some (rollTask roll s) := by
  unfold spec_IsRollTask.f rollTask
  simp only [spec_l01In_eq, spec_l01Within_eq s _ _ _ k hl hk, Option.bind_some]
  cases inR roll 1 100000 <;> simp [Bool.and_comm]

theorem spec_l10Loads_l0 (s p : List Int) (hl : p.length = s.length) (hb : p.length ≤ 12) (hs : ∀ x ∈ s, 1 ≤ x ∧ x ≤ 100000) : ∀ (d k i : Nat) (acc : List Int), i + d = p.length → 3 * d + 2 ≤ k → rg (p.drop i) acc.length = true → (∀ a ∈ acc, 0 ≤ a ∧ a ≤ i * 100000) → acc.length ≤ i → spec_l10Loads.l0 k s p acc (i : Int) = some (loads (s.drop i) (p.drop i) acc) := by
  intro d
  induction d with
  | zero =>
    intro k i acc h hk _ _ _
    obtain ⟨k, rfl⟩ : ∃ m, k = m + 1 := ⟨k - 1, by omega⟩
    rw [spec_l10Loads.l0, if_neg (by omega), List.drop_of_length_le (by omega), List.drop_of_length_le (by omega)]
    rfl
  | succ d ih =>
    intro k i acc h hk hr ha hal
    obtain ⟨k, rfl⟩ : ∃ m, k = m + 3 := ⟨k - 3, by omega⟩
    have h1 : i < p.length := by omega
    have h2 : i < s.length := by omega
    rw [drop_get p i h1] at hr ⊢
    rw [drop_get s i h2]
    simp only [rg, Bool.and_eq_true] at hr
    have hp := inR_true hr.1
    have hx := hs s[i] (List.getElem_mem h2)
    have hrr := room_rd hr.1 (by omega) ha
    have hm := addTo_mem (C := ((i + 1 : Nat) : Int) * 100000) hr.1 (by omega) ha (show 0 ≤ s[i] by omega) (by omega)
    have hln := addTo_len s[i] hr.1
    have next := ih k (i + 1) (addTo acc p[i] s[i]) (by omega) (by omega) (by rw [hln]; exact hr.2) hm (by omega)
    have next1 := ih (k + 1) (i + 1) (addTo acc p[i] s[i]) (by omega) (by omega) (by rw [hln]; exact hr.2) hm (by omega)
    rw [loads]
    rw [spec_l10Loads.l0, if_pos (by omega), spec_l10Loads.l1, if_pos (by omega), if_pos (by omega), rd_get p i h1]
    by_cases e : p[i] = (acc.length : Int)
    · have er : room acc p[i] = acc ++ [0] := if_pos e
      unfold addTo at next hln
      rw [er] at next hrr hln
      rw [if_pos (by omega), if_pos (by omega), spec_l10Loads.l1, if_pos (by omega), if_pos (by omega), rd_get p i h1]
      rw [if_neg (by simp only [List.length_append, List.length_cons, List.length_nil]; omega), if_pos (by omega), if_pos (by simp only [List.length_append, List.length_cons, List.length_nil]; omega), if_pos (by omega), rd_get s i h2, w64 (x := rd (acc ++ [0]) p[i] + s[i]) (by omega) (by omega), w64 (by omega) (by omega)]
      unfold addTo
      rw [er]
      exact next
    · have er : room acc p[i] = acc := if_neg e
      unfold addTo at next1
      rw [er] at next1 hrr
      rw [if_neg (by omega), if_pos (by omega), if_pos (by omega), if_pos (by omega), rd_get s i h2, w64 (x := rd acc p[i] + s[i]) (by omega) (by omega), w64 (by omega) (by omega)]
      unfold addTo
      rw [er]
      exact next1
theorem spec_l10Loads_eq (s p : List Int) (k : Nat) (hl : p.length = s.length) (hb : p.length ≤ 12) (hs : ∀ x ∈ s, 1 ≤ x ∧ x ≤ 100000) (hr : rg p 0 = true) (hk : 40 ≤ k) : spec_l10Loads.f k s p = some (loads s p []) := by
  unfold spec_l10Loads.f
  exact spec_l10Loads_l0 s p hl hb hs p.length k 0 [] (by omega) (by omega) hr (by simp) (by simp)

theorem loads_len : ∀ (s p acc : List Int), rg p acc.length = true → (loads s p acc).length ≤ acc.length + p.length
  | [], p, acc, _ => by rw [loads.eq_def]; simp only; omega
  | s :: ss, [], acc, _ => by rw [loads.eq_def]; simp
  | s :: ss, p :: ps, acc, hr => by
    simp only [rg, Bool.and_eq_true] at hr
    have h0 := inR_true hr.1
    have h1 := addTo_len s hr.1
    have h2 := loads_len ss ps (addTo acc p s) (by rw [h1]; exact hr.2)
    rw [loads]
    simp only [List.length_cons]
    omega
theorem spec_IsPacking_l1 (roll : Int) (xs : List Int) (hl : xs.length ≤ 9223372036854775806) : ∀ (d k i : Nat), i + d = xs.length → d < k → spec_IsPacking.l1 k roll xs (i : Int) = some ((xs.drop i).all fun a => decide (a ≤ roll)) := by
  intro d
  induction d with
  | zero =>
    intro k i h hk
    obtain ⟨k, rfl⟩ : ∃ m, k = m + 1 := ⟨k - 1, by omega⟩
    rw [spec_IsPacking.l1, if_neg (by omega), List.drop_of_length_le (by omega)]
    rfl
  | succ d ih =>
    intro k i h hk
    obtain ⟨k, rfl⟩ : ∃ m, k = m + 1 := ⟨k - 1, by omega⟩
    have h1 : i < xs.length := by omega
    rw [spec_IsPacking.l1, if_pos (by omega), if_pos (by omega), rd_get xs i h1, drop_get xs i h1, List.all_cons]
    by_cases e : xs[i] > roll
    · rw [if_pos e, decide_eq_false (by omega)]; rfl
    · rw [if_neg e, decide_eq_true (by omega), w64 (by omega) (by omega), Bool.true_and]
      exact ih k (i + 1) (by omega) (by omega)
theorem spec_IsPacking_l0 (roll : Int) (s p : List Int) (hl : p.length = s.length) (hb : p.length ≤ 12) (hs : ∀ x ∈ s, 1 ≤ x ∧ x ≤ 100000) : ∀ (d k i : Nat) (n : Int), i + d = p.length → d + 60 < k → 0 ≤ n → n ≤ i → (rg p 0 = rg (p.drop i) n) → spec_IsPacking.l0 k roll s p n (i : Int) = some (rg p 0 && (loads s p []).all fun a => decide (a ≤ roll)) := by
  intro d
  induction d with
  | zero =>
    intro k i n h hk h0 hn hr
    obtain ⟨k, rfl⟩ : ∃ m, k = m + 1 := ⟨k - 1, by omega⟩
    have hr2 : rg p 0 = true := by rw [hr, List.drop_of_length_le (by omega)]; rfl
    have hll := loads_len s p [] hr2
    simp only [List.length_nil] at hll
    rw [spec_IsPacking.l0, if_neg (by omega), spec_l10Loads_eq s p k hl hb hs hr2 (by omega)]
    simp only [Option.bind_some]
    rw [hr2, Bool.true_and]
    exact spec_IsPacking_l1 roll _ (by omega) (loads s p []).length k 0 (by omega) (by omega)
  | succ d ih =>
    intro k i n h hk h0 hn hr
    obtain ⟨k, rfl⟩ : ∃ m, k = m + 1 := ⟨k - 1, by omega⟩
    have h1 : i < p.length := by omega
    rw [drop_get p i h1, rg] at hr
    rw [spec_IsPacking.l0, if_pos (by omega), if_pos (by omega), rd_get p i h1, spec_l01In_eq]
    simp only [Option.bind_some]
    cases e : inR p[i] 0 n
    · rw [hr, e]; simp
    · have h2 := inR_true e
      rw [e, Bool.true_and] at hr
      simp only [if_true]
      rw [w64 (x := p[i] + 1) (by omega) (by omega), w64 (x := (i : Int) + 1) (by omega) (by omega), mx_max]
      exact ih k (i + 1) _ (by omega) (by omega) (by omega) (by omega) hr
theorem spec_IsPacking_eq (roll : Int) (s p : List Int) (k : Nat) (hls : s.length ≤ 9223372036854775806) (hk : s.length + 80 < k) : spec_IsPacking.f k roll s p = some (isPacking roll s p) := by
  obtain ⟨k, rfl⟩ : ∃ m, k = m + 1 := ⟨k - 1, by omega⟩
  unfold spec_IsPacking.f isPacking
  simp only [spec_IsRollTask_eq roll s (k + 1) hls (by omega), Option.bind_some]
  cases h : rollTask roll s
  · simp [spec_IsPacking.j0]
  obtain ⟨h1, h2, h3⟩ := rollTask_true h
  simp only [if_true, spec_IsPacking.j0, Bool.true_and]
  by_cases e : p.length = s.length
  · have e2 : ((p.length : Int) != (s.length : Int)) = false := bne_eq_false_iff_eq.mpr (by omega)
    rw [e2, decide_eq_true e, if_neg (by simp)]
    simp only [Bool.true_and]
    exact spec_IsPacking_l0 roll s p e (by omega) (fun x hx => by have := h3 x hx; omega) p.length k 0 0 (by omega) (by omega) (by omega) (by omega) rfl
  · have e2 : ((p.length : Int) != (s.length : Int)) = true := bne_iff_ne.mpr (by omega)
    rw [e2, decide_eq_false e]; simp

theorem spec_SparesOf_l0 (roll : Int) (hr : 0 ≤ roll ∧ roll ≤ 100000) (n : Nat) (hn : n ≤ 1048576) : ∀ (d k i : Nat) (xs : List Int), xs.length = n → i + d = n → d < k → (∀ x ∈ xs.drop i, 0 ≤ x ∧ x ≤ 1200000) → spec_SparesOf.l0 k roll xs (i : Int) = some (xs.take i ++ (xs.drop i).map (fun x => roll - x), 0) := by
  intro d
  induction d with
  | zero =>
    intro k i xs hx h hk _
    obtain ⟨k, rfl⟩ : ∃ m, k = m + 1 := ⟨k - 1, by omega⟩
    rw [spec_SparesOf.l0, if_neg (by omega), List.drop_of_length_le (by omega), List.take_of_length_le (by omega)]
    simp
  | succ d ih =>
    intro k i xs hx h hk hb
    obtain ⟨k, rfl⟩ : ∃ m, k = m + 1 := ⟨k - 1, by omega⟩
    have hi : i < xs.length := by omega
    rw [drop_get xs i hi] at hb
    have b1 := hb xs[i] (.head _)
    rw [spec_SparesOf.l0, if_pos (by omega), if_pos (by omega), rd_get xs i hi, w64 (x := roll - xs[i]) (by omega) (by omega), w64 (x := (i : Int) + 1) (by omega) (by omega), Int.toNat_natCast, ← set_map xs i hi (fun x => roll - x)]
    exact ih k (i + 1) _ (by rw [List.length_set]; exact hx) (by omega) (by omega) (by rw [List.drop_set_of_lt (Nat.lt_succ_self i)]; exact fun x hx => hb x (.tail _ hx))
theorem spec_SparesOf_eq (roll : Int) (s p : List Int) (k : Nat) (hls : s.length ≤ 9223372036854775806) (hk : s.length + 80 < k) : spec_SparesOf.f k roll s p = some (sparesOf roll s p) := by
  unfold spec_SparesOf.f sparesOf
  rw [spec_IsRollTask_eq roll s k hls (by omega)]
  simp only [Option.bind_some]
  cases h1 : rollTask roll s
  · simp
  rw [if_pos rfl, if_pos rfl, spec_IsPacking_eq roll s p k hls hk]
  simp only [Option.bind_some]
  cases h2 : isPacking roll s p
  · simp
  obtain ⟨g1, g2, g3, g4, g5, g6, g7⟩ := spares_ok h1 h2
  have g0 := (rollTask_true h1).1
  rw [if_pos rfl, if_pos rfl, spec_l10Loads_eq s p k g1 (by omega) g3 g4 (by omega)]
  simp only [Option.bind_some]
  exact (spec_SparesOf_l0 roll (by omega) _ (by omega) (loads s p []).length k 0 _ rfl (by omega) (by omega) (by rw [List.drop_zero]; exact g5)).trans (by rw [List.drop_zero, List.take_zero, List.nil_append])

theorem impl_inRange_eq (a b c : Int) : impl_inRange.f a b c = some (inR a b c) := by
  unfold impl_inRange.f inR
  by_cases h : b ≤ a
  · rw [if_pos h]; simp [h]
  · rw [if_neg h]; simp [h]

theorem impl_allIn_eq (xs : List Int) (lo hi : Int) : impl_allIn.f xs lo hi = some (allR xs lo hi) := rfl

theorem impl_IsRollTask_eq (roll : Int) (s : List Int) : impl_IsRollTask.f roll s = some (rollTask roll s) := by
  unfold impl_IsRollTask.f rollTask
  simp only [impl_inRange_eq, impl_allIn_eq, Option.bind_some]
  cases inR roll 1 100000
  · simp
  · by_cases h : (s.length : Int) ≤ 12
    · simp [h]
    · simp [h]

theorem impl_length_int64_eq (xs : List Int) : impl_length_int64.f xs = some (xs.length : Int) := rfl

theorem impl_used_l0 (s p : List Int) (hl : p.length = s.length) (hb : p.length ≤ 12) (hs : ∀ x ∈ s, 1 ≤ x ∧ x ≤ 100000) : ∀ (d k i : Nat) (acc : List Int), i + d = p.length → d < k → rg (p.drop i) acc.length = true → (∀ a ∈ acc, 0 ≤ a ∧ a ≤ i * 100000) → acc.length ≤ i → impl_used.l0 k s acc p (p.length : Int) (i : Int) = some (loads (s.drop i) (p.drop i) acc) := by
  intro d
  induction d with
  | zero =>
    intro k i acc h hk _ _ _
    obtain ⟨k, rfl⟩ : ∃ m, k = m + 1 := ⟨k - 1, by omega⟩
    rw [impl_used.l0, if_neg (by omega), List.drop_of_length_le (by omega), List.drop_of_length_le (by omega)]
    rfl
  | succ d ih =>
    intro k i acc h hk hr ha hal
    obtain ⟨k, rfl⟩ : ∃ m, k = m + 1 := ⟨k - 1, by omega⟩
    have h1 : i < p.length := by omega
    have h2 : i < s.length := by omega
    rw [drop_get p i h1] at hr ⊢
    rw [drop_get s i h2]
    simp only [rg, Bool.and_eq_true] at hr
    have hp := inR_true hr.1
    have hx := hs s[i] (List.getElem_mem h2)
    have hrr := room_rd hr.1 (by omega) ha
    have hm := addTo_mem (C := ((i + 1 : Nat) : Int) * 100000) hr.1 (by omega) ha (show 0 ≤ s[i] by omega) (by omega)
    have hln := addTo_len s[i] hr.1
    have next := ih k (i + 1) (addTo acc p[i] s[i]) (by omega) (by omega) (by rw [hln]; exact hr.2) hm (by omega)
    rw [loads]
    rw [impl_used.l0, if_pos (by omega), if_pos (by omega), if_pos (by omega), impl_length_int64_eq, rd_get p i h1]
    simp only [Option.bind_some]
    by_cases e : p[i] = (acc.length : Int)
    · have er : room acc p[i] = acc ++ [0] := if_pos e
      unfold addTo at next
      rw [er] at next hrr
      rw [if_pos e, if_pos (by omega), if_pos (by omega), if_pos (by simp only [List.length_append, List.length_cons, List.length_nil]; omega), if_pos (by omega), rd_get s i h2, w64 (x := rd (acc ++ [0]) p[i] + s[i]) (by omega) (by omega), w64 (by omega) (by omega)]
      unfold addTo
      rw [er]
      exact next
    · have er : room acc p[i] = acc := if_neg e
      unfold addTo at next
      rw [er] at next hrr
      rw [if_neg e, if_pos (by omega), if_pos (by omega), if_pos (by omega), rd_get s i h2, w64 (x := rd acc p[i] + s[i]) (by omega) (by omega), w64 (by omega) (by omega)]
      unfold addTo
      rw [er]
      exact next
theorem impl_used_eq (s p : List Int) (k : Nat) (hl : p.length = s.length) (hb : p.length ≤ 12) (hs : ∀ x ∈ s, 1 ≤ x ∧ x ≤ 100000) (hr : rg p 0 = true) (hk : 40 ≤ k) : impl_used.f k s p = some (loads s p []) := by
  unfold impl_used.f
  exact impl_used_l0 s p hl hb hs p.length k 0 [] (by omega) (by omega) hr (by simp) (by simp)

theorem impl_IsPacking_l0 (roll : Int) (s p : List Int) (hl : p.length = s.length) (hb : p.length ≤ 12) (hs : ∀ x ∈ s, 1 ≤ x ∧ x ≤ 100000) : ∀ (d k i : Nat) (n : Int), i + d = p.length → d + 60 < k → 0 ≤ n → n ≤ i → (rg p 0 = rg (p.drop i) n) → impl_IsPacking.l0 k roll s p n p (p.length : Int) (i : Int) = some (rg p 0 && (loads s p []).all fun a => decide (a ≤ roll)) := by
  intro d
  induction d with
  | zero =>
    intro k i n h hk h0 hn hr
    obtain ⟨k, rfl⟩ : ∃ m, k = m + 1 := ⟨k - 1, by omega⟩
    have hr2 : rg p 0 = true := by rw [hr, List.drop_of_length_le (by omega)]; rfl
    have hok := loads_ok s p [] 0 hr2 hs (by omega) (by simp)
    rw [impl_IsPacking.l0, if_neg (by omega), impl_used_eq s p k hl hb hs hr2 (by omega)]
    simp only [Option.bind_some, impl_allIn_eq]
    rw [hr2, Bool.true_and]
    congr 1
    unfold allR
    rw [Bool.eq_iff_iff, List.all_eq_true, List.all_eq_true]
    constructor
    · intro h a ha
      have := inR_true (h a ha)
      exact decide_eq_true this.2
    · intro h a ha
      exact inR_mk (hok a ha).1 (of_decide_eq_true (h a ha))
  | succ d ih =>
    intro k i n h hk h0 hn hr
    obtain ⟨k, rfl⟩ : ∃ m, k = m + 1 := ⟨k - 1, by omega⟩
    have h1 : i < p.length := by omega
    rw [drop_get p i h1, rg] at hr
    rw [impl_IsPacking.l0, if_pos (by omega), if_pos (by omega), if_pos (by omega), rd_get p i h1, impl_inRange_eq]
    simp only [Option.bind_some]
    cases e : inR p[i] 0 n
    · rw [hr, e]; simp
    · have h2 := inR_true e
      rw [e, Bool.true_and] at hr
      simp only [if_true]
      rw [w64 (x := p[i] + 1) (by omega) (by omega), w64 (x := (i : Int) + 1) (by omega) (by omega), mx_max]
      exact ih k (i + 1) _ (by omega) (by omega) (by omega) (by omega) hr
theorem impl_IsPacking_eq (roll : Int) (s p : List Int) (k : Nat) (hk : s.length + 80 < k) : impl_IsPacking.f k roll s p = some (isPacking roll s p) := by
  obtain ⟨k, rfl⟩ : ∃ m, k = m + 1 := ⟨k - 1, by omega⟩
  unfold impl_IsPacking.f isPacking
  simp only [impl_IsRollTask_eq, Option.bind_some]
  cases h : rollTask roll s
  · simp [impl_IsPacking.j0]
  obtain ⟨h1, h2, h3⟩ := rollTask_true h
  simp only [if_true, impl_IsPacking.j0, Bool.true_and]
  by_cases e : p.length = s.length
  · have e2 : ((p.length : Int) != (s.length : Int)) = false := bne_eq_false_iff_eq.mpr (by omega)
    rw [e2, decide_eq_true e, if_neg (by simp)]
    simp only [Bool.true_and]
    exact impl_IsPacking_l0 roll s p e (by omega) (fun x hx => by have := h3 x hx; omega) p.length k 0 0 (by omega) (by omega) (by omega) (by omega) rfl
  · have e2 : ((p.length : Int) != (s.length : Int)) = true := bne_iff_ne.mpr (by omega)
    rw [e2, decide_eq_false e]; simp

theorem impl_SparesOf_l0 (roll : Int) (hr : 0 ≤ roll ∧ roll ≤ 100000) (n : Nat) (hn : n ≤ 1048576) : ∀ (d k i : Nat) (xs : List Int), xs.length = n → i + d = n → d < k → (∀ x ∈ xs.drop i, 0 ≤ x ∧ x ≤ 1200000) → impl_SparesOf.l0 k roll xs (n : Int) (i : Int) = some (xs.take i ++ (xs.drop i).map (fun x => roll - x), 0) := by
  intro d
  induction d with
  | zero =>
    intro k i xs hx h hk _
    obtain ⟨k, rfl⟩ : ∃ m, k = m + 1 := ⟨k - 1, by omega⟩
    rw [impl_SparesOf.l0, if_neg (by omega), List.drop_of_length_le (by omega), List.take_of_length_le (by omega)]
    simp
  | succ d ih =>
    intro k i xs hx h hk hb
    obtain ⟨k, rfl⟩ : ∃ m, k = m + 1 := ⟨k - 1, by omega⟩
    have hi : i < xs.length := by omega
    rw [drop_get xs i hi] at hb
    have b1 := hb xs[i] (.head _)
    rw [impl_SparesOf.l0, if_pos (by omega), if_pos (by omega), if_pos (by omega), rd_get xs i hi, w64 (x := roll - xs[i]) (by omega) (by omega), w64 (x := (i : Int) + 1) (by omega) (by omega), Int.toNat_natCast, ← set_map xs i hi (fun x => roll - x)]
    exact ih k (i + 1) _ (by rw [List.length_set]; exact hx) (by omega) (by omega) (by rw [List.drop_set_of_lt (Nat.lt_succ_self i)]; exact fun x hx => hb x (.tail _ hx))
theorem impl_SparesOf_eq (roll : Int) (s p : List Int) (k : Nat) (hk : s.length + 80 < k) : impl_SparesOf.f k roll s p = some (sparesOf roll s p) := by
  unfold impl_SparesOf.f sparesOf
  rw [impl_IsRollTask_eq roll s]
  simp only [Option.bind_some]
  cases h1 : rollTask roll s
  · simp
  rw [if_pos rfl, if_pos rfl, impl_IsPacking_eq roll s p k hk]
  simp only [Option.bind_some]
  cases h2 : isPacking roll s p
  · simp
  obtain ⟨g1, g2, g3, g4, g5, g6, g7⟩ := spares_ok h1 h2
  have g0 := (rollTask_true h1).1
  rw [if_pos rfl, if_pos rfl, impl_used_eq s p k g1 (by omega) g3 g4 (by omega)]
  simp only [Option.bind_some]
  exact (impl_SparesOf_l0 roll (by omega) _ (by omega) (loads s p []).length k 0 _ rfl (by omega) (by omega) (by rw [List.drop_zero]; exact g5)).trans (by rw [List.drop_zero, List.take_zero, List.nil_append])

theorem FnExactSparesOf : laws_FnExactSparesOf.Pure := by
  intro a l m _ _ _ _ _ _ _
  by_cases hbig : (l.length : Int) > 1048576
  · exact ⟨1, by unfold laws_FnExactSparesOf.f; rw [if_pos hbig]⟩
  by_cases hbig2 : (m.length : Int) > 1048576
  · exact ⟨1, by unfold laws_FnExactSparesOf.f; rw [if_neg hbig, if_pos hbig2]⟩
  have hl := sparesOf_len a l m
  obtain ⟨ys, hm2, hz2, hh2⟩ := marks_held l (by omega) (l.length + m.length + 199) (by omega)
  obtain ⟨ys3, hm3⟩ := mark_any ((l.length : Int) + 1) (m.length : Int) (by omega) (by omega) m.length (l.length + m.length + 199) 0 m rfl (by simp) (by omega)
  rw [show ((l.length : Int) + 1 + ((0 : Nat) : Int)) = (l.length : Int) + 1 by simp] at hm3
  obtain ⟨zs, hm, hz, hh⟩ := marks_held (sparesOf a l m).1 (by omega) (l.length + m.length + 198) (by omega)
  have h0 : ¬ (((sparesOf a l m).1.length : Int) + 1 < 0) := by omega
  have h1 : ¬ ((l.length : Int) + 1 + (m.length : Int) < 0) := by omega
  have hm4 : laws_markInt64S.f (l.length + m.length + 199) m ((l.length : Int) + 1) = some ((l.length : Int) + 1 + (m.length : Int), ys3) := hm3
  refine ⟨l.length + m.length + 200, ?_⟩
  simp (disch := omega) only [laws_FnExactSparesOf.f, if_neg hbig, if_neg hbig2, laws_toInt64S_eq, spec_SparesOf_eq, impl_SparesOf_eq, laws_eqInt64S_eq, Option.bind_some, bne_self_eq_false, if_true]
  simp (disch := omega) only [laws_FnExactSparesOf.j0, laws_toInt64S_eq, laws_eqInt64S_eq, hm2, hm4, if_neg h1, Option.bind_some, bne_self_eq_false, Bool.false_eq_true, if_false, if_true]
  simp (disch := omega) only [laws_FnExactSparesOf.j1, laws_toInt64S_eq, impl_SparesOf_eq, laws_eqInt64S_eq, hm, hh, if_neg h0, Option.bind_some, bne_self_eq_false, Bool.false_eq_true, if_false, if_true]
  simp (disch := omega) only [laws_FnExactSparesOf.j2, hh, if_neg h0, Option.bind_some, Bool.false_eq_true, if_false, if_true]

end Go.Proofs.Ytpeigljahdnomaa.Pure
