/- For all arguments the law FnExactReadProgram returns true, with no condition beyond the bounds that the printed statement names. -/
import Derived.Lib.AtoiTie
import Derived.Lib.ParseIntBTie
import Derived.Test.YtdafddgmeidclaaDoorPFnExactReadProgramx7
namespace Go.Proofs.YtdafddgmeidclaaDoor.Pure
open Go.RowKit Go.Proofs.YtdafddgmeidclaaDoor.PFnExactReadProgram Go.Proofs.YtdafddgmeidclaaDoorW.PrintWords Go.Proofs.YtdafddgmeidclaaDoorW.PrintLast
set_option linter.unusedVariables false
set_option linter.unusedSimpArgs false

theorem w64 {x : Int} (h1 : -9223372036854775808 ≤ x) (h2 : x ≤ 9223372036854775807) : wrap64 x = x := by
  unfold wrap64; omega
theorem wf64 {x : Int} (h : (Lit.int .i64 x).wf = true) : -9223372036854775808 ≤ x ∧ x ≤ 9223372036854775807 := by
  simp [Lit.wf, IntKind.min, IntKind.max, IntKind.signed, IntKind.bits] at h
  omega
/-- 'a lies from b to c'. -/
def inR (a b c : Int) : Bool := decide (b ≤ a ∧ a ≤ c)
theorem inR_true {a b c : Int} (h : inR a b c = true) : b ≤ a ∧ a ≤ c := by simpa [inR] using h
theorem inR_mk {a b c : Int} (h1 : b ≤ a) (h2 : a ≤ c) : inR a b c = true := by simp [inR, h1, h2]
theorem inR_false {a b c : Int} (h : inR a b c = false) : a < b ∨ c < a := by
  have : ¬ (b ≤ a ∧ a ≤ c) := by simpa [inR] using h
  omega
theorem rd_nat (xs : List Int) (i : Nat) : rd xs (i : Int) = xs.getD i 0 := by simp [rd]
theorem mul_bd {a b A B : Int} (h0 : 0 ≤ a) (h1 : a ≤ A) (k0 : 0 ≤ b) (k1 : b ≤ B) : 0 ≤ a * b ∧ a * b ≤ A * B :=
  ⟨Int.mul_nonneg h0 k0, Int.mul_le_mul h1 k1 k0 (by omega)⟩
theorem tdiv_n {a b : Int} (h : 0 ≤ a) : Int.tdiv a b = a / b := Int.tdiv_eq_ediv_of_nonneg h
theorem tmod_n {a b : Int} (h : 0 ≤ a) : Int.tmod a b = a % b := Int.tmod_eq_emod_of_nonneg h
theorem mn_min (a b : Int) : mn a b = min a b := by unfold mn; split <;> omega
theorem mx_max (a b : Int) : mx a b = max a b := by unfold mx; split <;> omega

theorem rdICut (xs : List S34) (i : Nat) (h : i < xs.length) : rd_T34 xs (i : Int) = xs[i] := by simp [rd_T34, List.getD_eq_getElem?_getD, List.getElem?_eq_getElem h]
theorem dropICut (xs : List S34) (i : Nat) (h : i < xs.length) : xs.drop i = xs[i] :: xs.drop (i + 1) := List.drop_eq_getElem_cons h

/-- A string of these bytes. -/
def bs (l : List UInt8) : ByteArray := ⟨l.toArray⟩
theorem bs_size (l : List UInt8) : (bs l).size = l.length := by simp [bs, ByteArray.size]
theorem bs_data (l : List UInt8) : (bs l).data.toList = l := by simp [bs]
theorem bs_toList (l : List UInt8) : (bs l).toList = l := by rw [Lib.toList_data]; exact bs_data l
theorem bs_of (s : ByteArray) : bs s.data.toList = s := by cases s; simp [bs]
theorem bs_append (a b : List UInt8) : bs a ++ bs b = bs (a ++ b) := by
  apply ByteArray.ext
  simp [bs]
theorem bs_one (x : Int) : strOfNums [x] = bs [UInt8.ofNat x.toNat] := by
  unfold strOfNums
  first
    | rfl
    | (apply ByteArray.ext; simp [bs])
theorem bs_inj {a b : List UInt8} (h : bs a = bs b) : a = b := by
  have := congrArg (fun s : ByteArray => s.data.toList) h
  simpa [bs_data] using this
theorem bs_nil : (⟨#[]⟩ : ByteArray) = bs [] := rfl
theorem bs_32 : (⟨#[32]⟩ : ByteArray) = bs [32] := rfl
theorem bs_45 : (⟨#[45]⟩ : ByteArray) = bs [45] := rfl
theorem bs_124 : (⟨#[124]⟩ : ByteArray) = bs [124] := rfl
theorem dec_small {n : Nat} (h : n < 10) : Lib.decDigits n = [UInt8.ofNat (48 + n)] := by rw [Lib.decDigits, dif_pos h]
theorem dec_big {n : Nat} (h : ¬ n < 10) : Lib.decDigits n = Lib.decDigits (n / 10) ++ [UInt8.ofNat (48 + n % 10)] := by rw [Lib.decDigits, dif_neg h]
theorem dec_len : ∀ (d n : Nat), n < 10 ^ (d + 1) → (Lib.decDigits n).length ≤ d + 1
  | d, n, h => by
    by_cases h10 : n < 10
    · rw [dec_small h10]; simp
    · cases d with
      | zero => exact absurd (by simpa using h) h10
      | succ d =>
        have := dec_len d (n / 10) (by rw [Nat.pow_succ] at h; omega)
        rw [dec_big h10]
        simp
        omega
theorem spec_l01Dec_eq : ∀ (d k n : Nat), n < 10 ^ (d + 1) → d < k → d ≤ 18 → n ≤ 9223372036854775807 → spec_l01Dec.f k (n : Int) = some (bs (Lib.decDigits n))
  | d, 0, n, _, h, _, _ => by omega
  | d, k + 1, n, hn, hk, hd, hm => by
    rw [spec_l01Dec.f]
    by_cases h10 : n < 10
    · rw [if_pos (by omega), dec_small h10, w64 (by omega) (by omega), bs_one]
      congr 4
      omega
    · rw [if_neg (by omega)]
      cases d with
      | zero => exact absurd (by simpa using hn) h10
      | succ d =>
        have h1 : n / 10 < 10 ^ (d + 1) := by rw [Nat.pow_succ] at hn; omega
        have e1 : wrap64 (Int.tdiv (n : Int) 10) = ((n / 10 : Nat) : Int) := by
          rw [tdiv_n (by omega), w64 (by omega) (by omega)]
          omega
        rw [e1, spec_l01Dec_eq d k (n / 10) h1 (by omega) (by omega) (by omega)]
        have hl := dec_len d (n / 10) h1
        have e2 : strOfNums [(wrap64 (48 + Int.tmod (n : Int) 10)) % 256] = bs [UInt8.ofNat (48 + n % 10)] := by
          rw [bs_one, tmod_n (by omega), w64 (by omega) (by omega)]
          congr 3
          omega
        simp only [Option.bind_some]
        rw [e2, bs_size, bs_size, if_pos (by simp; omega), bs_append, dec_big h10]
theorem impl_decimal_eq (n : Nat) (h : n ≤ 9223372036854775807) : impl_decimal.f (n : Int) = some (bs (Lib.decDigits n)) := by
  unfold impl_decimal.f
  rw [if_pos (by omega), if_pos (by omega)]
  have e : Lib.itoa (n : Int) = Lib.decDigits n := by
    unfold Lib.itoa
    rw [if_neg (by omega), Int.toNat_natCast]
  rw [e]
  rfl
/-- The text of a cut, and of a list of cuts. -/
def cutText (c : S34) : List UInt8 := Lib.decDigits c.f0.toNat ++ (if c.f1 then [45] else [124]) ++ Lib.decDigits c.f2.toNat
def okCut (c : S34) : Bool := inR c.f0 0 20000 && inR c.f2 0 20000
def progText (cs : List S34) : List UInt8 := if cs.length ≤ 79 ∧ cs.all okCut = true then Lib.join (cs.map cutText) [32] else []
theorem okCut_nat {c : S34} (h : okCut c = true) : ∃ a b : Nat, c.f0 = a ∧ c.f2 = b ∧ a ≤ 20000 ∧ b ≤ 20000 := by
  unfold okCut at h
  rw [Bool.and_eq_true] at h
  have h1 := inR_true h.1
  have h2 := inR_true h.2
  exact ⟨c.f0.toNat, c.f2.toNat, by omega, by omega, by omega, by omega⟩
theorem cutText_len {c : S34} (h : okCut c = true) : (cutText c).length ≤ 11 := by
  obtain ⟨a, b, ea, eb, ha, hb⟩ := okCut_nat h
  have h1 := dec_len 4 a (by omega)
  have h2 := dec_len 4 b (by omega)
  unfold cutText
  rw [ea, eb, Int.toNat_natCast, Int.toNat_natCast]
  split <;> simp <;> omega
theorem joinTail_cons (sep x : List UInt8) (r : List (List UInt8)) : Lib.joinTail sep (x :: r) = sep ++ x ++ Lib.joinTail sep r := by simp [Lib.joinTail]
theorem lens_le (n : Nat) : ∀ (xs : List (List UInt8)), (∀ x ∈ xs, x.length ≤ n) → Lib.lens xs ≤ n * xs.length
  | [], _ => by simp [Lib.lens]
  | x :: r, h => by
    have h1 := h x (by simp)
    have h2 := lens_le n r (fun y hy => h y (by simp [hy]))
    have e : Lib.lens (x :: r) = x.length + Lib.lens r := by simp [Lib.lens]
    rw [e, List.length_cons, Nat.mul_succ]
    omega
theorem join_len (xs : List (List UInt8)) (h : ∀ x ∈ xs, x.length ≤ 11) : (Lib.join xs [32]).length ≤ 12 * xs.length := by
  cases xs with
  | nil => simp [Lib.join_nil]
  | cons x r =>
    have h2 := lens_le 11 (x :: r) h
    rw [Lib.join_length]
    simp only [List.length_cons, List.length_nil] at h2 ⊢
    omega

/-- The pieces of a list of bytes at a byte; cur: the piece that is being read. -/
def splA (c : UInt8) (cur : List UInt8) : List UInt8 → List (List UInt8)
  | [] => [cur]
  | b :: r => if b = c then cur :: splA c [] r else splA c (cur ++ [b]) r
theorem splA_none (c : UInt8) : ∀ (l cur : List UInt8), (∀ b ∈ l, b ≠ c) → splA c cur l = [cur ++ l]
  | [], cur, _ => by simp [splA]
  | b :: r, cur, h => by
    rw [splA, if_neg (h b (by simp)), splA_none c r _ (fun x hx => h x (by simp [hx]))]
    simp
theorem splA_hit (c : UInt8) (r : List UInt8) : ∀ (l cur : List UInt8), (∀ b ∈ l, b ≠ c) → splA c cur (l ++ c :: r) = (cur ++ l) :: splA c [] r
  | [], cur, _ => by simp [splA]
  | b :: l, cur, h => by
    rw [List.cons_append, splA, if_neg (h b (by simp)), splA_hit c r l _ (fun x hx => h x (by simp [hx]))]
    simp
theorem splA_len (c : UInt8) : ∀ (l cur : List UInt8), (splA c cur l).length ≤ l.length + 1 ∧ 1 ≤ (splA c cur l).length ∧ ∀ w ∈ splA c cur l, w.length ≤ cur.length + l.length
  | [], cur => by simp [splA]
  | b :: r, cur => by
    unfold splA
    split
    · have := splA_len c r []
      refine ⟨by simp; omega, by simp, fun w hw => ?_⟩
      rcases List.mem_cons.1 hw with rfl | h
      · simp
      · have := this.2.2 w h; simp at this ⊢; omega
    · have := splA_len c r (cur ++ [b])
      refine ⟨by simp; omega, this.2.1, fun w hw => ?_⟩
      have := this.2.2 w hw
      simp at this ⊢
      omega
theorem join_two (c : UInt8) (x y : List UInt8) (r : List (List UInt8)) : Lib.join (x :: y :: r) [c] = x ++ c :: Lib.join (y :: r) [c] := by
  rw [Lib.join_cons, Lib.join_cons]
  simp [Lib.joinTail]
theorem splA_join (c : UInt8) : ∀ (xs : List (List UInt8)), xs ≠ [] → (∀ x ∈ xs, ∀ b ∈ x, b ≠ c) → splA c [] (Lib.join xs [c]) = xs
  | [], h, _ => absurd rfl h
  | [x], _, h => by
    rw [Lib.join_one, splA_none c x [] (h x (by simp))]
    simp
  | x :: y :: r, _, h => by
    rw [join_two, splA_hit c _ x [] (h x (by simp)), splA_join c (y :: r) (by simp) (fun z hz => h z (by simp [hz]))]
    simp
/-! The library's pieces of texts joined. -/
theorem indexByte_miss (c : UInt8) : ∀ (x : List UInt8), (∀ b ∈ x, b ≠ c) → Lib.indexByte x c = -1
  | [], _ => rfl
  | b :: l, h => by
    have h1 : (b == c) = false := beq_eq_false_iff_ne.2 (h b (by simp))
    rw [Lib.indexByte, h1, indexByte_miss c l (fun z hz => h z (by simp [hz]))]
    rfl
theorem indexByte_at (c : UInt8) (r : List UInt8) : ∀ (x : List UInt8), (∀ b ∈ x, b ≠ c) → Lib.indexByte (x ++ c :: r) c = x.length
  | [], _ => by simp [Lib.indexByte]
  | b :: l, h => by
    have h1 : (b == c) = false := beq_eq_false_iff_ne.2 (h b (by simp))
    rw [List.cons_append, Lib.indexByte, h1, indexByte_at c r l (fun z hz => h z (by simp [hz]))]
    have h2 : (((l.length : Nat) : Int) == -1) = false := beq_eq_false_iff_ne.2 (by omega)
    rw [h2]
    simp
theorem splitK_join (c : UInt8) : ∀ (xs : List (List UInt8)), xs ≠ [] → (∀ x ∈ xs, ∀ b ∈ x, b ≠ c) → Lib.splitK [c] 0 (Lib.count (Lib.join xs [c]) [c]) (Lib.join xs [c]) = xs
  | [], h, _ => absurd rfl h
  | [x], _, h => by
    have hx := h x (by simp)
    rw [Lib.join_one, Lib.count_one, List.count_eq_zero_of_not_mem (fun hm => hx c hm rfl)]
    rfl
  | x :: y :: r, _, h => by
    have hx := h x (by simp)
    have ih := splitK_join c (y :: r) (by simp) (fun z hz => h z (by simp [hz]))
    have e1 : Lib.count (x ++ c :: Lib.join (y :: r) [c]) [c] = Lib.count (Lib.join (y :: r) [c]) [c] + 1 := by
      rw [Lib.count_one, Lib.count_one, List.count_append, List.count_cons_self, List.count_eq_zero_of_not_mem (fun hm => hx c hm rfl)]
      omega
    have e2 : Lib.index (x ++ c :: Lib.join (y :: r) [c]) [c] = x.length := by rw [Lib.index_one]; exact indexByte_at c _ x hx
    rw [join_two, e1, Lib.splitK, e2, if_neg (by simp <;> omega)]
    have e3 : (((x.length : Nat) : Int).toNat + 0) = x.length := by simp
    have e4 : (((x.length : Nat) : Int).toNat + [c].length) = x.length + 1 := by simp
    rw [e3, e4, List.take_left, ← List.drop_drop, List.drop_left]
    simp only [List.drop_succ_cons, List.drop_zero]
    rw [ih]
theorem bs_map (ws : List ByteArray) : (ws.map (fun x => x.data.toList)).map bs = ws := by
  rw [List.map_map]
  exact (List.map_congr_left (fun y _ => bs_of y)).trans (List.map_id _)
theorem pieces_join (c : UInt8) (xs : List (List UInt8)) (h0 : xs ≠ []) (h : ∀ x ∈ xs, ∀ b ∈ x, b ≠ c) : HandR.pieces (bs (Lib.join xs [c])) (bs [c]) = xs.map bs := by
  have h1 := Lib.splitB_data (bs [c]) 0 (Lib.countB (bs (Lib.join xs [c])) (bs [c])) (bs (Lib.join xs [c]))
  have e : Lib.countB (bs (Lib.join xs [c])) (bs [c]) = Lib.count (Lib.join xs [c]) [c] := by
    unfold Lib.countB
    rw [bs_data, bs_data]
  rw [bs_data, bs_data, e, splitK_join c xs h0 h] at h1
  unfold HandR.pieces
  rw [e, ← bs_map (Lib.splitB _ _ _ _), h1]
theorem splitB_sizes (sep : ByteArray) (save : Nat) : ∀ (k : Nat) (s : ByteArray), ∀ w ∈ Lib.splitB sep save k s, w.size ≤ s.size
  | 0, s, w, hw => by
    rw [Lib.splitB_zero, List.mem_singleton] at hw
    rw [hw]
    exact Nat.le_refl _
  | k + 1, s, w, hw => by
    unfold Lib.splitB at hw
    split at hw
    · rw [List.mem_singleton] at hw; rw [hw]; exact Nat.le_refl _
    · rcases List.mem_cons.1 hw with rfl | h
      · rw [ByteArray.size_extract]; omega
      · have := splitB_sizes sep save k _ w h
        rw [ByteArray.size_extract] at this
        omega
/-! Numerals. -/
theorem dec_digit : ∀ (n : Nat), ∀ b ∈ Lib.decDigits n, 48 ≤ b.toNat ∧ b.toNat ≤ 57 := by
  intro n
  induction n using Nat.strongRecOn with
  | _ n ih =>
    intro b hb
    by_cases h : n < 10
    · rw [dec_small h, List.mem_singleton] at hb
      subst hb
      rw [UInt8.toNat_ofNat']
      omega
    · rw [dec_big h] at hb
      rcases List.mem_append.1 hb with h1 | h1
      · exact ih (n / 10) (by omega) b h1
      · rw [List.mem_singleton] at h1
        subst h1
        rw [UInt8.toNat_ofNat']
        omega
theorem dec_ne (n : Nat) : Lib.decDigits n ≠ [] := by
  intro h
  by_cases h1 : n < 10
  · rw [dec_small h1] at h; cases h
  · rw [dec_big h1] at h; simp at h
theorem decFrom_append : ∀ (a b : List UInt8) (n : Nat), Lib.decFrom n (a ++ b) = (Lib.decFrom n a).bind (fun m => Lib.decFrom m b)
  | [], b, n => rfl
  | x :: a, b, n => by
    simp only [List.cons_append, Lib.decFrom]
    cases Lib.digitVal x with
    | none => rfl
    | some d => exact decFrom_append a b _
theorem digit_at {n : Nat} (h : n < 10) : Lib.digitVal (UInt8.ofNat (48 + n)) = some n := by
  unfold Lib.digitVal
  rw [UInt8.toNat_ofNat']
  rw [if_pos (by omega)]
  congr 1
  omega
theorem decFrom_dec (n : Nat) : Lib.decFrom 0 (Lib.decDigits n) = some n := by
  induction n using Nat.strongRecOn with
  | _ n ih =>
    by_cases h : n < 10
    · rw [dec_small h]
      simp only [Lib.decFrom, digit_at h]
      simp
    · rw [dec_big h, decFrom_append, ih (n / 10) (by omega)]
      simp only [Option.bind_some, Lib.decFrom, digit_at (Nat.mod_lt n (by omega : 0 < 10))]
      congr 1
      omega
theorem readDec_dec (n : Nat) (h : n ≤ 20000) : HandR.readDec (bs (Lib.decDigits n)) = ((n : Int), true) := by
  have hl := dec_len 4 n (by omega)
  have hne := dec_ne n
  have hd := decFrom_dec n
  have hat : Lib.atoi (Lib.decDigits n) = some (n : Int) := by
    have hdig := dec_digit n
    cases hx : Lib.decDigits n with
    | nil => exact absurd hx hne
    | cons b r =>
      rw [hx] at hd hdig
      have h1 := hdig b (by simp)
      have h2 : (b == 45) = false := beq_eq_false_iff_ne.2 (fun e => by rw [e] at h1; exact absurd h1.1 (by decide))
      have h3 : (b == 43) = false := beq_eq_false_iff_ne.2 (fun e => by rw [e] at h1; exact absurd h1.1 (by decide))
      rw [Lib.atoi, h2, h3]
      simp only [Bool.false_eq_true, if_false]
      rw [Lib.decNat, hd]
      rfl
  have hp : Lib.parseIntB 64 (bs (Lib.decDigits n)).data.toList = .ok (n : Int) := by
    rw [bs_data, Lib.parseIntB_64, Lib.atoiAll_short _ (by omega), hat]
    rfl
  have hi : Lib.itoa (n : Int) = Lib.decDigits n := by
    unfold Lib.itoa
    rw [if_neg (by omega), Int.toNat_natCast]
  unfold HandR.readDec
  rw [hp]
  exact if_pos ⟨by rw [bs_size]; omega, by omega, by rw [hi, bs_data]⟩
/-- The two marks. -/
def mark (b : Bool) : UInt8 := if b then 45 else 124
theorem cutText_of {c : S34} {a b : Nat} (ea : c.f0 = a) (eb : c.f2 = b) : cutText c = Lib.decDigits a ++ mark c.f1 :: Lib.decDigits b := by
  unfold cutText mark
  rw [ea, eb, Int.toNat_natCast, Int.toNat_natCast]
  cases c.f1 <;> simp
theorem dec_no {n : Nat} {m : UInt8} (hm : m = 32 ∨ m = 45 ∨ m = 124) : ∀ b ∈ Lib.decDigits n, b ≠ m := fun b hb e => by
  have := dec_digit n b hb
  subst e
  rcases hm with rfl | rfl | rfl <;> exact absurd this (by decide)
theorem mark_cases (b : Bool) : mark b = 45 ∨ mark b = 124 := by cases b <;> simp [mark]
theorem cutText_no {c : S34} (h : okCut c = true) : ∀ b ∈ cutText c, b ≠ 32 := by
  obtain ⟨a, d, ea, eb, ha, hb⟩ := okCut_nat h
  rw [cutText_of ea eb]
  intro b hb
  rcases List.mem_append.1 hb with h1 | h1
  · exact dec_no (.inl rfl) b h1
  · rcases List.mem_cons.1 h1 with h2 | h2
    · rw [h2]
      rcases mark_cases c.f1 with e | e <;> rw [e] <;> decide
    · exact dec_no (.inl rfl) b h2
/-! What the program's reading does. -/
theorem indexAny_lt (cs : List UInt8) : ∀ (l : List UInt8), Lib.indexAny l cs < 0 ∨ ∃ i : Nat, Lib.indexAny l cs = i ∧ i < l.length
  | [] => .inl (by simp [Lib.indexAny])
  | b :: l => by
    unfold Lib.indexAny
    split
    · exact .inr ⟨0, rfl, by simp⟩
    · split
      · exact .inl (by omega)
      · rcases indexAny_lt cs l with h | ⟨i, h, hi⟩
        · have := Lib.indexAny_ge cs l
          rename_i h2
          exact absurd (beq_iff_eq.2 (by omega)) h2
        · exact .inr ⟨i + 1, by rw [h]; omega, by simp; omega⟩
def goI : List ByteArray → List S34 → Option (List S34)
  | [], acc => some acc
  | w :: ws, acc =>
    if Lib.indexAny w.data.toList [124, 45] < 0 then none else if acc.length = 79 then none else
    if (HandR.readDec (w.extract 0 (Lib.indexAny w.data.toList [124, 45]).toNat)).2 = true then
      if (HandR.readDec (w.extract ((Lib.indexAny w.data.toList [124, 45]).toNat + 1) w.size)).2 = true then
        goI ws (acc ++ [⟨(HandR.readDec (w.extract 0 (Lib.indexAny w.data.toList [124, 45]).toNat)).1, bt w (Lib.indexAny w.data.toList [124, 45]) == 45, (HandR.readDec (w.extract ((Lib.indexAny w.data.toList [124, 45]).toNat + 1) w.size)).1⟩])
      else none
    else none
def ends (l : List UInt8) (o : Option (List S34)) : List S34 × Bool :=
  match o with
  | none => ([], false)
  | some out => if progText out = l then (out, true) else ([], false)
def readI (l : List UInt8) : List S34 × Bool := if l = [] then ([], true) else ends l (goI (HandR.pieces (bs l) (bs [32])) [])
theorem goI_cut (c : S34) (h : okCut c = true) (ws : List ByteArray) (acc : List S34) (ha : acc.length < 79) : goI (bs (cutText c) :: ws) acc = goI ws (acc ++ [c]) := by
  obtain ⟨a, b, ea, eb, hA, hB⟩ := okCut_nat h
  have ht := cutText_of ea eb
  have hi : Lib.indexAny (cutText c) [124, 45] = ((Lib.decDigits a).length : Int) := by
    refine Lib.indexAny_hit (x := mark c.f1) (fun j x hj hx => ?_) ?_ ?_
    · rw [ht, List.getElem?_append_left hj] at hx
      have hm := List.mem_of_getElem? hx
      have h1 := dec_no (m := 124) (.inr (.inr rfl)) x hm
      have h2 := dec_no (m := 45) (.inr (.inl rfl)) x hm
      simp [h1, h2]
    · rw [ht, List.getElem?_append_right (Nat.le_refl _), Nat.sub_self, List.getElem?_cons_zero]
    · rcases mark_cases c.f1 with e | e <;> rw [e] <;> rfl
  have e1 : (bs (cutText c)).extract 0 (Lib.decDigits a).length = bs (Lib.decDigits a) := by
    rw [← bs_of ((bs (cutText c)).extract 0 _), Lib.extract_data, bs_data, ht]
    simp
  have e2 : (bs (cutText c)).extract ((Lib.decDigits a).length + 1) (bs (cutText c)).size = bs (Lib.decDigits b) := by
    rw [← bs_of ((bs (cutText c)).extract _ _), Lib.extract_to_end, bs_data, ht, ← List.drop_drop, List.drop_left]
    rfl
  have e3 : (bt (bs (cutText c)) ((Lib.decDigits a).length : Int) == 45) = c.f1 := by
    have hlt : (Lib.decDigits a).length < (cutText c).length := by rw [ht]; simp
    unfold bt
    rw [Int.toNat_natCast, dif_pos (by rw [bs_size]; exact hlt)]
    have e4 : (bs (cutText c))[(Lib.decDigits a).length]'(by rw [bs_size]; exact hlt) = mark c.f1 := by
      have h5 := Lib.data_getElem? (bs (cutText c)) (Lib.decDigits a).length (by rw [bs_size]; exact hlt)
      rw [bs_data] at h5
      have h6 : (cutText c)[(Lib.decDigits a).length]? = some (mark c.f1) := by rw [ht, List.getElem?_append_right (Nat.le_refl _), Nat.sub_self, List.getElem?_cons_zero]
      exact Option.some.inj (h5.symm.trans h6)
    rw [e4]
    cases c.f1 <;> rfl
  rw [goI, bs_data, hi, if_neg (by omega), if_neg (by omega), Int.toNat_natCast, e1, e2, readDec_dec a hA, readDec_dec b hB, if_pos rfl, if_pos rfl, e3]
  congr 3
  rw [← ea, ← eb]
theorem goI_cuts : ∀ (cs : List S34) (acc : List S34), cs.all okCut = true → acc.length + cs.length ≤ 79 → goI (cs.map fun c => bs (cutText c)) acc = some (acc ++ cs)
  | [], acc, _, _ => by simp [goI]
  | c :: cs, acc, h, hl => by
    rw [List.all_cons, Bool.and_eq_true] at h
    rw [List.map_cons, goI_cut c h.1 _ acc (by simp at hl; omega), goI_cuts cs _ h.2 (by simp at hl ⊢; omega)]
    simp
theorem prog_words {cs : List S34} (h0 : cs ≠ []) (hl : cs.length ≤ 79) (h : cs.all okCut = true) : progText cs = Lib.join (cs.map cutText) [32] ∧ cs.map cutText ≠ [] ∧ ∀ x ∈ cs.map cutText, ∀ b ∈ x, b ≠ 32 := by
  refine ⟨if_pos ⟨hl, h⟩, by simpa using h0, fun x hx => ?_⟩
  obtain ⟨c, hc, rfl⟩ := List.mem_map.1 hx
  exact cutText_no (List.all_eq_true.1 h c hc)
theorem prog_ok {cs : List S34} {l : List UInt8} (h : progText cs = l) (h0 : l ≠ []) : cs ≠ [] ∧ cs.length ≤ 79 ∧ cs.all okCut = true := by
  unfold progText at h
  split at h
  · rename_i hh
    refine ⟨fun e => ?_, hh.1, hh.2⟩
    subst e
    exact h0 (by rw [← h]; rfl)
  · exact absurd h.symm h0
theorem readI_of {cs : List S34} {l : List UInt8} (h : progText cs = l) (h0 : l ≠ []) : readI l = (cs, true) := by
  obtain ⟨h1, h2, h3⟩ := prog_ok h h0
  obtain ⟨e1, e2, e3⟩ := prog_words h1 h2 h3
  unfold readI
  rw [if_neg h0, ← h, e1, pieces_join 32 _ e2 e3, List.map_map]
  have := goI_cuts cs [] h3 (by simpa using h2)
  rw [show (bs ∘ cutText) = fun c => bs (cutText c) from rfl, this]
  unfold ends
  simp only [List.nil_append]
  rw [if_pos e1]
/-! What the reference's reading does. -/
def dgs : List UInt8 → Int → Option Int
  | [], n => some n
  | b :: r, n => if (b.toNat : Int) < 48 then none else if (b.toNat : Int) > 57 then none else dgs r (10 * n + ((b.toNat : Int) - 48))
def digitsM (l : List UInt8) : Int × Bool :=
  if l.length < 1 ∨ 10 < l.length then (0, false) else match dgs l 0 with
  | none => (0, false)
  | some n => (n, Lib.decDigits n.toNat == l)
def signedM (l : List UInt8) : Int × Bool :=
  if l.head? = some 45 then (wrap64 (-(digitsM l.tail).1), (digitsM l.tail).2 && decide ((digitsM l.tail).1 > 0)) else digitsM l
def numsM : List (List UInt8) → List Int → List Int × Bool
  | [], acc => (acc, true)
  | x :: r, acc => if (signedM x).2 = true then numsM r (acc ++ [(signedM x).1]) else ([], false)
def byM (w : List UInt8) : UInt8 := if (splA 45 [] w).length = 2 then 45 else 124
def goS : List (List UInt8) → List S34 → Option (List S34)
  | [], acc => some acc
  | w :: ws, acc =>
    if (numsM (splA (byM w) [] w) []).2 = true then
      if (numsM (splA (byM w) [] w) []).1.length = 2 then
        if rd (numsM (splA (byM w) [] w) []).1 0 < 0 then none else if rd (numsM (splA (byM w) [] w) []).1 1 < 0 then none else
        goS ws (acc ++ [⟨rd (numsM (splA (byM w) [] w) []).1 0, byM w == 45, rd (numsM (splA (byM w) [] w) []).1 1⟩])
      else none
    else none
def readS (l : List UInt8) : List S34 × Bool := if l = [] then ([], true) else ends l (goS (splA 32 [] l) [])
theorem dgs_append : ∀ (a b : List UInt8) (n : Int), dgs (a ++ b) n = (dgs a n).bind (fun m => dgs b m)
  | [], b, n => rfl
  | x :: a, b, n => by
    simp only [List.cons_append, dgs]
    split
    · rfl
    · split
      · rfl
      · exact dgs_append a b _
theorem dgs_one (m : Int) {n : Nat} (h : n < 10) : dgs [UInt8.ofNat (48 + n)] m = some (10 * m + n) := by
  have e : ((UInt8.ofNat (48 + n)).toNat : Int) = 48 + n := by rw [UInt8.toNat_ofNat']; omega
  simp only [dgs, e]
  rw [if_neg (by omega), if_neg (by omega)]
  congr 1
  omega
theorem dgs_dec (n : Nat) : dgs (Lib.decDigits n) 0 = some (n : Int) := by
  induction n using Nat.strongRecOn with
  | _ n ih =>
    by_cases h : n < 10
    · rw [dec_small h, dgs_one 0 h]
      simp
    · rw [dec_big h, dgs_append, ih (n / 10) (by omega)]
      simp only [Option.bind_some]
      rw [dgs_one _ (Nat.mod_lt n (by omega : 0 < 10))]
      congr 1
      omega
theorem signedM_dec (n : Nat) (h : n ≤ 20000) : signedM (Lib.decDigits n) = ((n : Int), true) := by
  have hl := dec_len 4 n (by omega)
  have hne := dec_ne n
  have hh : ¬ (Lib.decDigits n).head? = some 45 := fun e => by
    cases hx : Lib.decDigits n with
    | nil => exact hne hx
    | cons b r =>
      rw [hx] at e
      have := dec_no (n := n) (m := 45) (.inr (.inl rfl)) b (by rw [hx]; simp)
      simp at e
      exact this e
  have h1 : 1 ≤ (Lib.decDigits n).length := by
    cases hx : Lib.decDigits n with
    | nil => exact absurd hx hne
    | cons b r => simp
  unfold signedM
  rw [if_neg hh]
  unfold digitsM
  rw [if_neg (by omega), dgs_dec]
  simp
theorem numsM_two (a b : Nat) (ha : a ≤ 20000) (hb : b ≤ 20000) : numsM [Lib.decDigits a, Lib.decDigits b] [] = ([(a : Int), (b : Int)], true) := by
  simp only [numsM, signedM_dec a ha, signedM_dec b hb]
  simp
theorem goS_cut (c : S34) (h : okCut c = true) (ws : List (List UInt8)) (acc : List S34) : goS (cutText c :: ws) acc = goS ws (acc ++ [c]) := by
  obtain ⟨a, b, ea, eb, hA, hB⟩ := okCut_nat h
  have ht := cutText_of ea eb
  have hby : byM (cutText c) = mark c.f1 := by
    unfold byM
    rw [ht]
    cases hf : c.f1 with
    | true =>
      have e : mark true = 45 := rfl
      rw [e, splA_hit 45 _ _ _ (dec_no (.inr (.inl rfl))), splA_none 45 _ _ (dec_no (.inr (.inl rfl)))]
      rfl
    | false =>
      have e : mark false = 124 := rfl
      rw [e, splA_none 45 _ _ (fun x hx => by
        rcases List.mem_append.1 hx with h1 | h1
        · exact dec_no (.inr (.inl rfl)) x h1
        · rcases List.mem_cons.1 h1 with h2 | h2
          · rw [h2]; decide
          · exact dec_no (.inr (.inl rfl)) x h2)]
      rfl
  have hm : mark c.f1 = 32 ∨ mark c.f1 = 45 ∨ mark c.f1 = 124 := .inr (mark_cases c.f1)
  have hs : splA (mark c.f1) [] (cutText c) = [Lib.decDigits a, Lib.decDigits b] := by
    rw [ht, splA_hit _ _ _ _ (dec_no hm), splA_none _ _ _ (dec_no hm)]
    simp
  have hk : (mark c.f1 == 45) = c.f1 := by cases c.f1 <;> rfl
  rw [goS, hby, hs, numsM_two a b hA hB, hk]
  have r0 : rd ([(a : Int), (b : Int)], true).1 0 = a := rfl
  have r1 : rd ([(a : Int), (b : Int)], true).1 1 = b := rfl
  rw [if_pos rfl, if_pos (show ([(a : Int), (b : Int)], true).1.length = 2 from rfl), r0, r1, if_neg (by omega), if_neg (by omega)]
  congr 3
  rw [← ea, ← eb]
theorem goS_cuts : ∀ (cs : List S34) (acc : List S34), cs.all okCut = true → goS (cs.map cutText) acc = some (acc ++ cs)
  | [], acc, _ => by simp [goS]
  | c :: cs, acc, h => by
    rw [List.all_cons, Bool.and_eq_true] at h
    rw [List.map_cons, goS_cut c h.1, goS_cuts cs _ h.2]
    simp
theorem readS_of {cs : List S34} {l : List UInt8} (h : progText cs = l) (h0 : l ≠ []) : readS l = (cs, true) := by
  obtain ⟨h1, h2, h3⟩ := prog_ok h h0
  obtain ⟨e1, e2, e3⟩ := prog_words h1 h2 h3
  unfold readS
  rw [if_neg h0, ← h, e1, splA_join 32 _ e2 e3, goS_cuts cs [] h3]
  unfold ends
  simp only [List.nil_append]
  rw [if_pos e1]
theorem ends_ok {l : List UInt8} {o : Option (List S34)} : ends l o = ([], false) ∨ ∃ cs, progText cs = l ∧ ends l o = (cs, true) := by
  cases o with
  | none => exact .inl rfl
  | some out =>
    unfold ends
    by_cases h : progText out = l
    · exact .inr ⟨out, h, if_pos h⟩
    · exact .inl (if_neg h)
theorem read_same (l : List UInt8) : readI l = readS l := by
  by_cases h0 : l = []
  · unfold readI readS
    rw [if_pos h0, if_pos h0]
  · have hI : readI l = ends l (goI (HandR.pieces (bs l) (bs [32])) []) := if_neg h0
    have hS : readS l = ends l (goS (splA 32 [] l) []) := if_neg h0
    rcases ends_ok (l := l) (o := goS (splA 32 [] l) []) with e | ⟨cs, hc, _⟩
    · rcases ends_ok (l := l) (o := goI (HandR.pieces (bs l) (bs [32])) []) with e2 | ⟨cs, hc, _⟩
      · rw [hI, hS, e, e2]
      · rw [readI_of hc h0, readS_of hc h0]
    · rw [readI_of hc h0, readS_of hc h0]
theorem readS_len (l : List UInt8) : (readS l).1.length ≤ 79 := by
  by_cases h0 : l = []
  · unfold readS
    rw [if_pos h0]
    simp
  · have hS : readS l = ends l (goS (splA 32 [] l) []) := if_neg h0
    rcases ends_ok (l := l) (o := goS (splA 32 [] l) []) with e | ⟨cs, hc, e⟩
    · rw [hS, e]; simp
    · rw [hS, e]; exact (prog_ok hc h0).2.1

theorem laws_eqCut_self (x0 : Int) (x1 : Bool) (x2 : Int) : laws_eqCut.f x0 x1 x2 x0 x1 x2 = some true := by
  unfold laws_eqCut.f; simp

theorem laws_eqCutS_l0 (xs : List S34) (hl : xs.length ≤ 9223372036854775806) : ∀ (d k i : Nat), i + d = xs.length → d < k → laws_eqCutS.l0 k xs xs (i : Int) = some true := by
  intro d
  induction d with
  | zero =>
    intro k i h hk
    obtain ⟨k, rfl⟩ : ∃ m, k = m + 1 := ⟨k - 1, by omega⟩
    rw [laws_eqCutS.l0, if_neg (by omega)]
  | succ d ih =>
    intro k i h hk
    obtain ⟨k, rfl⟩ : ∃ m, k = m + 1 := ⟨k - 1, by omega⟩
    rw [laws_eqCutS.l0, if_pos (by omega), if_pos (by omega), if_pos (by omega), laws_eqCut_self]
    simp only [Option.bind_some, if_true]
    rw [w64 (by omega) (by omega)]
    exact ih k (i + 1) (by omega) (by omega)
theorem laws_eqCutS_eq (xs : List S34) (k : Nat) (hl : xs.length ≤ 9223372036854775806) (hk : xs.length < k) : laws_eqCutS.f k xs xs = some true := by
  unfold laws_eqCutS.f
  rw [if_pos rfl]
  exact laws_eqCutS_l0 xs hl xs.length k 0 (by omega) hk

theorem spec_l01In_eq (a b c : Int) : spec_l01In.f a b c = some (inR a b c) := by
  unfold spec_l01In.f inR
  by_cases h : a ≥ b
  · rw [if_pos h]; simp [show b ≤ a from h]
  · rw [if_neg h]; simp [show ¬ b ≤ a from h]

theorem spec_ProgramText_step (cs : List S34) (hl : cs.length ≤ 79) (k i : Nat) (out : List UInt8) (hlt : i < cs.length) (hk : 6 ≤ k) (ho : out.length ≤ 1000) :
    spec_ProgramText.l0 (k + 3) cs (bs out) (i : Int) = if okCut cs[i] = true then spec_ProgramText.l0 k cs (bs (out ++ (if 0 < i then [32] else []) ++ cutText cs[i])) ((i + 1 : Nat) : Int) else some (bs []) := by
  rw [spec_ProgramText.l0, if_pos (by omega), if_pos (by omega), rdICut cs i hlt, spec_l01In_eq, spec_l01In_eq]
  simp only [Option.bind_some]
  by_cases h0 : inR cs[i].f0 0 20000 = true
  · rw [if_pos h0, spec_ProgramText.j1]
    by_cases h2 : inR cs[i].f2 0 20000 = true
    · have hok : okCut cs[i] = true := by unfold okCut; rw [h0, h2]; rfl
      obtain ⟨a, b, ea, eb, ha, hb⟩ := okCut_nat hok
      have l1 := dec_len 4 a (by omega)
      have l2 := dec_len 4 b (by omega)
      have d1 := spec_l01Dec_eq 4 k a (by omega) (by omega) (by omega) (by omega)
      have d2 := spec_l01Dec_eq 4 k b (by omega) (by omega) (by omega) (by omega)
      have ht : cutText cs[i] = Lib.decDigits a ++ (if cs[i].f1 then [45] else [124]) ++ Lib.decDigits b := by
        unfold cutText
        rw [ea, eb, Int.toNat_natCast, Int.toNat_natCast]
      have fin : ∀ o2 : List UInt8, o2.length ≤ 1001 → spec_ProgramText.j2 (k + 1) cs (bs o2) (i : Int) cs[i].f0 cs[i].f1 cs[i].f2 = spec_ProgramText.l0 k cs (bs (o2 ++ cutText cs[i])) ((i + 1 : Nat) : Int) := fun o2 h2l => by
        rw [spec_ProgramText.j2, ea, eb, d1, d2, w64 (by omega) (by omega), ht]
        simp only [Option.bind_some]
        by_cases hc : cs[i].f1 = true
        · rw [if_pos hc, if_pos hc, bs_45]
          simp only [bs_append, bs_size]
          rw [if_pos (by omega), if_pos (by simp; omega), if_pos (by simp; omega)]
          simp
        · rw [if_neg hc, if_neg hc, bs_124]
          simp only [bs_append, bs_size]
          rw [if_pos (by omega), if_pos (by simp; omega), if_pos (by simp; omega)]
          simp
      rw [h2, if_neg (by simp), if_pos hok]
      by_cases hi : 0 < i
      · rw [if_pos (by omega), bs_size, if_pos (by omega), bs_32, bs_append, fin _ (by simp; omega), if_pos hi]
      · rw [if_neg (by omega), fin _ (by omega), if_neg hi, List.append_nil]
    · have h2' : inR cs[i].f2 0 20000 = false := by simpa using h2
      rw [h2', if_pos (by simp), if_neg (by unfold okCut; rw [h0, h2']; simp)]
      rfl
  · have h0' : inR cs[i].f0 0 20000 = false := by simpa using h0
    rw [if_neg h0, spec_ProgramText.j1, if_pos rfl, if_neg (by unfold okCut; rw [h0']; simp)]
    rfl
theorem spec_ProgramText_l0 (cs : List S34) (hl : cs.length ≤ 79) : ∀ (d k i : Nat) (out : List UInt8), 0 < i → i + d = cs.length → 3 * d + 10 ≤ k → out.length ≤ 12 * i →
    spec_ProgramText.l0 k cs (bs out) (i : Int) = some (bs (if (cs.drop i).all okCut = true then out ++ Lib.joinTail [32] ((cs.drop i).map cutText) else [])) := by
  intro d
  induction d with
  | zero =>
    intro k i out h0 hi hk ho
    obtain ⟨k, rfl⟩ : ∃ m, k = m + 1 := ⟨k - 1, by omega⟩
    rw [spec_ProgramText.l0, if_neg (by omega), List.drop_of_length_le (by omega)]
    simp [Lib.joinTail]
  | succ d ih =>
    intro k i out h0 hi hk ho
    obtain ⟨k, rfl⟩ : ∃ m, k = m + 3 := ⟨k - 3, by omega⟩
    have hlt : i < cs.length := by omega
    rw [spec_ProgramText_step cs hl k i out hlt (by omega) (by omega), dropICut cs i hlt, if_pos h0]
    by_cases hok : okCut cs[i] = true
    · have hc := cutText_len hok
      rw [if_pos hok, ih k (i + 1) _ (by omega) (by omega) (by omega) (by simp; omega), List.all_cons, hok, Bool.true_and, List.map_cons, joinTail_cons]
      simp only [List.append_assoc]
    · have hok' : okCut cs[i] = false := by simpa using hok
      rw [if_neg hok, List.all_cons, hok', Bool.false_and, if_neg (by simp)]
theorem spec_ProgramText_eq (cs : List S34) (k : Nat) (hk : 300 ≤ k) : spec_ProgramText.f k cs = some (bs (progText cs)) := by
  unfold spec_ProgramText.f progText
  by_cases h : (cs.length : Int) > 79
  · rw [if_pos h, if_neg (by omega)]
    rfl
  · rw [if_neg h]
    cases cs with
    | nil =>
      obtain ⟨k, rfl⟩ : ∃ m, k = m + 1 := ⟨k - 1, by omega⟩
      rw [spec_ProgramText.l0, if_neg (by simp)]
      simp [Lib.join_nil]
      rfl
    | cons c r =>
      obtain ⟨k, rfl⟩ : ∃ m, k = m + 3 := ⟨k - 3, by omega⟩
      have hl : (c :: r).length ≤ 79 := by omega
      have hr : r.length + 1 = (c :: r).length := rfl
      have h1 := spec_ProgramText_step (c :: r) hl k 0 [] (by simp) (by omega) (by simp)
      refine (show _ = _ from h1).trans ?_
      have e0 : (c :: r)[0] = c := rfl
      rw [e0]
      by_cases hok : okCut c = true
      · have hc := cutText_len hok
        rw [if_pos hok, if_neg (Nat.lt_irrefl 0), spec_ProgramText_l0 (c :: r) hl r.length k (0 + 1) _ (by omega) (by omega) (by omega) (by simp; omega)]
        have e1 : (c :: r).drop (0 + 1) = r := rfl
        rw [e1]
        by_cases ha : r.all okCut = true
        · rw [if_pos ha, if_pos ⟨hl, by rw [List.all_cons, hok, ha]; rfl⟩, List.map_cons, Lib.join_cons]
          simp only [List.append_nil, List.nil_append]
        · rw [if_neg ha, if_neg (fun hh => ha (by have := hh.2; rw [List.all_cons, Bool.and_eq_true] at this; exact this.2))]
      · have hok' : okCut c = false := by simpa using hok
        rw [if_neg hok, if_neg (fun hh => by have := hh.2; rw [List.all_cons, hok'] at this; simp at this)]

theorem bs_extract (l : List UInt8) (a b : Nat) : (bs l).extract a b = bs ((l.drop a).take (b - a)) := by
  rw [← bs_of ((bs l).extract a b), Lib.extract_data, bs_data]
theorem bs_bt (l : List UInt8) (i : Nat) (h : i < l.length) : bt (bs l) (i : Int) = (l[i].toNat : Int) := by
  unfold bt
  rw [Int.toNat_natCast, dif_pos (by rw [bs_size]; exact h)]
  have h5 := Lib.data_getElem? (bs l) i (by rw [bs_size]; exact h)
  rw [bs_data, List.getElem?_eq_getElem h] at h5
  rw [← Option.some.inj h5]
theorem spec_l01Split_l0 (l : List UInt8) (c : UInt8) (hl : l.length ≤ 2097152) : ∀ (d k i s : Nat) (out : List (List UInt8)), i + d = l.length → d + 2 ≤ k → s ≤ i → out.length ≤ i →
    spec_l01Split.l0 k (bs l) (c.toNat : Int) (out.map bs) (s : Int) (i : Int) = some ((out ++ splA c ((l.drop s).take (i - s)) (l.drop i)).map bs) := by
  intro d
  induction d with
  | zero =>
    intro k i s out hi hk hs ho
    obtain ⟨k, rfl⟩ : ∃ m, k = m + 2 := ⟨k - 2, by omega⟩
    rw [spec_l01Split.l0, bs_size, if_pos (by omega), if_pos (by omega), if_pos (by omega), if_pos (by omega), List.length_map, if_pos (by omega), w64 (by omega) (by omega), spec_l01Split.l0, bs_size, if_neg (by omega), Int.toNat_natCast, Int.toNat_natCast, bs_extract, List.drop_of_length_le (l := l) (i := i) (by omega), splA]
    simp
  | succ d ih =>
    intro k i s out hi hk hs ho
    obtain ⟨k, rfl⟩ : ∃ m, k = m + 1 := ⟨k - 1, by omega⟩
    have hlt : i < l.length := by omega
    have hc : l.drop i = l[i] :: l.drop (i + 1) := List.drop_eq_getElem_cons hlt
    have hw : wrap64 ((i : Int) + 1) = ((i + 1 : Nat) : Int) := by rw [w64 (by omega) (by omega)]; omega
    rw [spec_l01Split.l0, bs_size, if_pos (by omega), if_neg (by omega), if_pos (by omega), if_pos (by omega), bs_bt l i hlt, hw, hc, splA]
    by_cases h : l[i] = c
    · rw [if_pos (by rw [h]), if_pos (by omega), if_pos (by omega), List.length_map, if_pos (by omega), if_pos h, Int.toNat_natCast, Int.toNat_natCast, bs_extract]
      have := ih k (i + 1) (i + 1) (out ++ [(l.drop s).take (i - s)]) (by omega) (by omega) (by omega) (by simp; omega)
      rw [List.map_append, Nat.sub_self, List.take_zero] at this
      rw [List.map_cons, List.map_nil] at this
      rw [this]
      simp
    · rw [if_neg (fun e => h (UInt8.toNat_inj.1 (by omega))), if_neg h]
      have := ih k (i + 1) s out (by omega) (by omega) (by omega) (by omega)
      rw [this]
      congr 3
      congr 1
      have e1 : i + 1 - s = (i - s) + 1 := by omega
      rw [e1, List.take_add_one, List.getElem?_drop, show s + (i - s) = i by omega, List.getElem?_eq_getElem hlt]
      rfl
theorem spec_l01Split_eq (l : List UInt8) (c : UInt8) (k : Nat) (hl : l.length ≤ 2097152) (hk : l.length + 2 ≤ k) : spec_l01Split.f k (bs l) (c.toNat : Int) = some ((splA c [] l).map bs) := by
  have := spec_l01Split_l0 l c hl l.length k 0 0 [] (by omega) hk (by omega) (by simp)
  unfold spec_l01Split.f
  refine (show _ = _ from this).trans ?_
  simp

theorem spec_l01Digits_l0 (l : List UInt8) (hl : l.length ≤ 10) : ∀ (d k i : Nat) (n : Int), i + d = l.length → d + 12 ≤ k → 0 ≤ n → n < 10 ^ i →
    spec_l01Digits.l0 k (bs l) n (i : Int) = some (match dgs (l.drop i) n with | none => (0, false) | some n => (n, Lib.decDigits n.toNat == l)) := by
  intro d
  induction d with
  | zero =>
    intro k i n hi hk h0 h1
    obtain ⟨k, rfl⟩ : ∃ m, k = m + 1 := ⟨k - 1, by omega⟩
    have hp : (10 : Int) ^ i ≤ 10 ^ 10 := by
      have : (10 : Nat) ^ i ≤ 10 ^ 10 := Nat.pow_le_pow_right (by omega) (by omega)
      exact_mod_cast this
    have hn : n = ((n.toNat : Nat) : Int) := by omega
    have hd : spec_l01Dec.f k n = some (bs (Lib.decDigits n.toNat)) := by
      rw [hn, Int.toNat_natCast]
      exact spec_l01Dec_eq 9 k n.toNat (by omega) (by omega) (by omega) (by omega)
    rw [spec_l01Digits.l0, bs_size, if_neg (by omega), hd, List.drop_of_length_le (by omega)]
    simp only [Option.bind_some, dgs, bs_toList]
  | succ d ih =>
    intro k i n hi hk h0 h1
    obtain ⟨k, rfl⟩ : ∃ m, k = m + 1 := ⟨k - 1, by omega⟩
    have hlt : i < l.length := by omega
    have hc : l.drop i = l[i] :: l.drop (i + 1) := List.drop_eq_getElem_cons hlt
    have hp : (10 : Int) ^ i ≤ 10 ^ 10 := by
      have : (10 : Nat) ^ i ≤ 10 ^ 10 := Nat.pow_le_pow_right (by omega) (by omega)
      exact_mod_cast this
    have hb := l[i].toNat_lt
    rw [spec_l01Digits.l0, bs_size, if_pos (by omega), if_pos (by omega), bs_bt l i hlt, hc, dgs]
    by_cases a1 : (l[i].toNat : Int) < 48
    · rw [if_pos a1, if_pos a1]
    · rw [if_neg a1, if_neg a1]
      by_cases a2 : (l[i].toNat : Int) > 57
      · rw [if_pos a2, if_pos a2]
      · have e1 : ((l[i].toNat : Int) - 48) % 256 = (l[i].toNat : Int) - 48 := by omega
        have e2 : (10 : Int) ^ (i + 1) = 10 * 10 ^ i := by rw [Int.pow_succ]; omega
        rw [if_neg a2, if_neg a2, e1, w64 (x := 10 * n) (by omega) (by omega), w64 (x := 10 * n + ((l[i].toNat : Int) - 48)) (by omega) (by omega), w64 (x := (i : Int) + 1) (by omega) (by omega)]
        exact ih k (i + 1) _ (by omega) (by omega) (by omega) (by rw [e2]; omega)
theorem spec_l01Digits_eq (l : List UInt8) (k : Nat) (hk : 30 ≤ k) (hl : l.length ≤ 2097152) : spec_l01Digits.f k (bs l) = some (digitsM l) := by
  obtain ⟨k, rfl⟩ : ∃ m, k = m + 1 := ⟨k - 1, by omega⟩
  unfold spec_l01Digits.f digitsM
  rw [bs_size]
  by_cases h1 : (l.length : Int) < 1
  · rw [if_pos h1, spec_l01Digits.j0, if_pos rfl, if_pos (.inl (by omega))]
  · rw [if_neg h1, spec_l01Digits.j0]
    by_cases h2 : (l.length : Int) > 10
    · rw [if_pos (decide_eq_true h2), if_pos (.inr (by omega))]
    · rw [if_neg (by simpa using h2), if_neg (by omega)]
      have := spec_l01Digits_l0 l (by omega) l.length k 0 0 (by omega) (by omega) (by omega) (by simp)
      exact this
theorem dgs_bd : ∀ (l : List UInt8) (n m : Int) (i : Nat), 0 ≤ n → n < 10 ^ i → dgs l n = some m → 0 ≤ m ∧ m < 10 ^ (i + l.length)
  | [], n, m, i, h0, h1, h => by
    simp only [dgs, Option.some.injEq] at h
    subst h
    exact ⟨h0, h1⟩
  | b :: r, n, m, i, h0, h1, h => by
    rw [dgs] at h
    split at h
    · cases h
    · split at h
      · cases h
      · have e2 : (10 : Int) ^ (i + 1) = 10 * 10 ^ i := by rw [Int.pow_succ]; omega
        have := dgs_bd r _ m (i + 1) (by omega) (by rw [e2]; omega) h
        rw [List.length_cons, show i + (r.length + 1) = i + 1 + r.length by omega]
        exact this
theorem digitsM_bd (l : List UInt8) : 0 ≤ (digitsM l).1 ∧ (digitsM l).1 ≤ 10000000000 := by
  unfold digitsM
  split
  · simp
  · cases h : dgs l 0 with
    | none => simp
    | some n =>
      have := dgs_bd l 0 n 0 (by omega) (by simp) h
      have hp : (10 : Int) ^ (0 + l.length) ≤ 10 ^ 10 := by
        have : (10 : Nat) ^ (0 + l.length) ≤ 10 ^ 10 := Nat.pow_le_pow_right (by omega) (by omega)
        exact_mod_cast this
      simp only
      omega

theorem spec_l01Signed_eq (l : List UInt8) (k : Nat) (hk : 40 ≤ k) (hl : l.length ≤ 2097152) : spec_l01Signed.f k (bs l) = some (signedM l) := by
  obtain ⟨k, rfl⟩ : ∃ m, k = m + 1 := ⟨k - 1, by omega⟩
  unfold spec_l01Signed.f signedM
  rw [bs_size]
  cases l with
  | nil =>
    rw [if_neg (by simp), spec_l01Signed.j0, if_neg (by simp), spec_l01Digits_eq [] k (by omega) (by simp)]
    simp
  | cons b r =>
    have hb : bt (bs (b :: r)) 0 = (b.toNat : Int) := bs_bt (b :: r) 0 (by simp)
    have hd := spec_l01Digits_eq (b :: r) k (by omega) hl
    have hd2 := spec_l01Digits_eq r k (by omega) (by simp at hl; omega)
    have he : (bs (b :: r)).extract 1 (bs (b :: r)).size = bs r := by
      rw [bs_extract, bs_size]
      simp
    rw [if_pos (by simp <;> omega), if_pos (by simp <;> omega), hb, spec_l01Signed.j0, he, hd, hd2, bs_size]
    simp only [Option.bind_some, List.head?_cons, Option.some.injEq, List.tail_cons]
    by_cases h : b = 45
    · subst h
      rw [if_pos (by decide), if_pos (by simp; omega), if_pos rfl]
      by_cases h2 : (digitsM r).2 = true
      · rw [if_pos h2, h2, Bool.true_and]
        rfl
      · have h2' : (digitsM r).2 = false := by simpa using h2
        rw [if_neg h2, h2', Bool.false_and]
    · have h3 : ((b.toNat : Int) == 45) = false := beq_eq_false_iff_ne.2 (fun e => h (UInt8.toNat_inj.1 (by rw [show (45 : UInt8).toNat = 45 from rfl]; omega)))
      rw [h3, if_neg (by simp), if_neg h]

theorem rdOf_bs (ws : List (List UInt8)) (i : Nat) (h : i < ws.length) : rdOf ByteArray.empty (ws.map bs) (i : Int) = bs ws[i] := by
  unfold rdOf
  rw [Int.toNat_natCast, List.getD_eq_getElem?_getD, List.getElem?_map, List.getElem?_eq_getElem h]
  rfl
theorem spec_l01Numbers_l0 (ws : List (List UInt8)) (hw : ws.length ≤ 2097153) (hs : ∀ w ∈ ws, w.length ≤ 2097152) : ∀ (d k i : Nat) (acc : List Int), i + d = ws.length → d + 42 ≤ k → acc.length ≤ i →
    spec_l01Numbers.l0 k (ws.map bs) acc (i : Int) = some (numsM (ws.drop i) acc) := by
  intro d
  induction d with
  | zero =>
    intro k i acc hi hk ha
    obtain ⟨k, rfl⟩ : ∃ m, k = m + 1 := ⟨k - 1, by omega⟩
    rw [spec_l01Numbers.l0, List.length_map, if_neg (by omega), List.drop_of_length_le (by omega), numsM]
  | succ d ih =>
    intro k i acc hi hk ha
    obtain ⟨k, rfl⟩ : ∃ m, k = m + 1 := ⟨k - 1, by omega⟩
    have hlt : i < ws.length := by omega
    rw [spec_l01Numbers.l0, List.length_map, if_pos (by omega), if_pos (by omega), rdOf_bs ws i hlt, spec_l01Signed_eq _ k (by omega) (hs _ (List.getElem_mem hlt)), List.drop_eq_getElem_cons hlt, numsM]
    simp only [Option.bind_some]
    by_cases h : (signedM ws[i]).2 = true
    · rw [if_pos h, if_pos h, if_pos (by omega), w64 (by omega) (by omega)]
      exact ih k (i + 1) _ (by omega) (by omega) (by simp; omega)
    · rw [if_neg h, if_neg h]
theorem spec_l01Numbers_eq (ws : List (List UInt8)) (k : Nat) (hw : ws.length ≤ 2097153) (hs : ∀ w ∈ ws, w.length ≤ 2097152) (hk : ws.length + 42 ≤ k) : spec_l01Numbers.f k (ws.map bs) = some (numsM ws []) := by
  unfold spec_l01Numbers.f
  exact spec_l01Numbers_l0 ws hw hs ws.length k 0 [] (by omega) hk (by simp)

theorem byM_cases (w : List UInt8) : byM w = 45 ∨ byM w = 124 := by unfold byM; split <;> simp
theorem spec_ReadProgram_j1 (l : List UInt8) (ws : List (List UInt8)) (hw : ws.length ≤ 1048577) (hs : ∀ w ∈ ws, w.length ≤ 1048576) (k i : Nat) (hlt : i < ws.length) (hk : 1048676 ≤ k) (acc : List S34) (ha : acc.length ≤ i) :
    spec_ReadProgram.j1 (k + 1) (bs l) acc (ws.map bs) (i : Int) ((byM ws[i]).toNat : Int) =
      if (numsM (splA (byM ws[i]) [] ws[i]) []).2 = true then
        if (numsM (splA (byM ws[i]) [] ws[i]) []).1.length = 2 then
          if rd (numsM (splA (byM ws[i]) [] ws[i]) []).1 0 < 0 then some ([], false) else if rd (numsM (splA (byM ws[i]) [] ws[i]) []).1 1 < 0 then some ([], false) else
          spec_ReadProgram.l0 k (bs l) (acc ++ [⟨rd (numsM (splA (byM ws[i]) [] ws[i]) []).1 0, byM ws[i] == 45, rd (numsM (splA (byM ws[i]) [] ws[i]) []).1 1⟩]) (ws.map bs) ((i + 1 : Nat) : Int)
        else some ([], false)
      else some ([], false) := by
  have hwl := hs _ (List.getElem_mem hlt)
  have hsp := splA_len (byM ws[i]) ws[i] []
  have hk2 : (((byM ws[i]).toNat : Int) == 45) = (byM ws[i] == 45) := by
    rcases byM_cases ws[i] with e | e <;> rw [e] <;> rfl
  rw [spec_ReadProgram.j1, if_pos (by omega), List.length_map, if_pos (by omega), rdOf_bs ws i hlt, spec_l01Split_eq _ _ k (by omega) (by omega)]
  simp only [Option.bind_some]
  rw [spec_l01Numbers_eq _ k (by omega) (fun w hw' => by have := hsp.2.2 w hw'; simp at this; omega) (by omega)]
  simp only [Option.bind_some]
  rw [hk2, w64 (by omega) (by omega)]
  generalize numsM (splA (byM ws[i]) [] ws[i]) [] = q
  by_cases h1 : q.2 = true
  · rw [if_pos h1, if_pos h1]
    by_cases h2 : q.1.length = 2
    · rw [if_pos (by omega), if_pos h2, if_pos (by omega)]
      by_cases h3 : rd q.1 0 < 0
      · rw [if_pos h3, if_pos h3]
      · rw [if_neg h3, if_neg h3, if_pos (by omega)]
        by_cases h4 : rd q.1 1 < 0
        · rw [if_pos h4, if_pos h4]
        · rw [if_neg h4, if_neg h4, if_pos (by omega)]
          rfl
    · rw [if_neg (by omega), if_neg h2]
  · rw [if_neg h1, if_neg h1]
theorem spec_ReadProgram_l0 (l : List UInt8) (ws : List (List UInt8)) (hw : ws.length ≤ 1048577) (hs : ∀ w ∈ ws, w.length ≤ 1048576) : ∀ (d k i : Nat) (acc : List S34), i + d = ws.length → 2 * d + 1048700 ≤ k → acc.length ≤ i →
    spec_ReadProgram.l0 k (bs l) acc (ws.map bs) (i : Int) = some (ends l (goS (ws.drop i) acc)) := by
  intro d
  induction d with
  | zero =>
    intro k i acc hi hk ha
    obtain ⟨k, rfl⟩ : ∃ m, k = m + 1 := ⟨k - 1, by omega⟩
    rw [spec_ReadProgram.l0, List.length_map, if_neg (by omega), spec_ProgramText_eq acc k (by omega), List.drop_of_length_le (by omega), goS]
    simp only [Option.bind_some, bs_toList, ends]
    by_cases h : progText acc = l
    · rw [if_pos h, if_pos h]
    · rw [if_neg h, if_neg h]
  | succ d ih =>
    intro k i acc hi hk ha
    obtain ⟨k, rfl⟩ : ∃ m, k = m + 2 := ⟨k - 2, by omega⟩
    have hlt : i < ws.length := by omega
    have hwl := hs _ (List.getElem_mem hlt)
    have h45 := spec_l01Split_eq ws[i] 45 (k + 1) (by omega) (by omega)
    have e45 : (((45 : UInt8).toNat : Nat) : Int) = 45 := rfl
    rw [e45] at h45
    rw [spec_ReadProgram.l0, List.length_map, if_pos (by omega), if_pos (by omega), rdOf_bs ws i hlt, h45]
    simp only [Option.bind_some]
    have hj := spec_ReadProgram_j1 l ws hw hs k i hlt (by omega) acc ha
    have hby : (if (((splA 45 [] ws[i]).map bs).length : Int) = 2 then spec_ReadProgram.j1 (k + 1) (bs l) acc (ws.map bs) (i : Int) 45 else spec_ReadProgram.j1 (k + 1) (bs l) acc (ws.map bs) (i : Int) 124) = spec_ReadProgram.j1 (k + 1) (bs l) acc (ws.map bs) (i : Int) ((byM ws[i]).toNat : Int) := by
      rw [List.length_map]
      unfold byM
      by_cases h : (splA 45 [] ws[i]).length = 2
      · rw [if_pos (by omega), if_pos h]; rfl
      · rw [if_neg (by omega), if_neg h]; rfl
    rw [hby, hj, List.drop_eq_getElem_cons hlt, goS]
    generalize numsM (splA (byM ws[i]) [] ws[i]) [] = q
    by_cases h1 : q.2 = true
    · rw [if_pos h1, if_pos h1]
      by_cases h2 : q.1.length = 2
      · rw [if_pos h2, if_pos h2]
        by_cases h3 : rd q.1 0 < 0
        · rw [if_pos h3, if_pos h3]; rfl
        · rw [if_neg h3, if_neg h3]
          by_cases h4 : rd q.1 1 < 0
          · rw [if_pos h4, if_pos h4]; rfl
          · rw [if_neg h4, if_neg h4]
            exact ih k (i + 1) _ (by omega) (by omega) (by simp; omega)
      · rw [if_neg h2, if_neg h2]; rfl
    · rw [if_neg h1, if_neg h1]; rfl
theorem spec_ReadProgram_eq (l : List UInt8) (k : Nat) (hl : l.length ≤ 1048576) (hk : 4000000 ≤ k) : spec_ReadProgram.f k (bs l) = some (readS l) := by
  unfold spec_ReadProgram.f readS
  simp only [Option.bind_some, bs_toList]
  by_cases h : l = []
  · rw [if_pos h, if_pos h]
  · have h32 := spec_l01Split_eq l 32 k (by omega) (by omega)
    have e32 : (((32 : UInt8).toNat : Nat) : Int) = 32 := rfl
    rw [e32] at h32
    have hsp := splA_len 32 l []
    rw [if_neg h, if_neg h, h32]
    simp only [Option.bind_some]
    exact spec_ReadProgram_l0 l _ (by omega) (fun w hw => by have := hsp.2.2 w hw; simp at this; omega) (splA 32 [] l).length k 0 [] (by omega) (by omega) (by simp)

theorem impl_inRange_eq (a b c : Int) : impl_inRange.f a b c = some (inR a b c) := by
  unfold impl_inRange.f inR
  by_cases h : b ≤ a
  · rw [if_pos h]; simp [h]
  · rw [if_neg h]; simp [h]

theorem impl_cutMark_eq (b : Bool) : impl_cutMark.f b = some (bs (if b then [45] else [124])) := by
  cases b <;> rfl

theorem impl_ProgramText_l0 (cs : List S34) (hl : cs.length ≤ 79) : ∀ (d k i : Nat) (ys : List (List UInt8)), i + d = cs.length → 2 * d < k → ys.length = i → (∀ y ∈ ys, y.length ≤ 11) →
    impl_ProgramText.l0 k (ys.map bs) cs (cs.length : Int) (i : Int) = some (bs (if (cs.drop i).all okCut = true then Lib.join (ys ++ (cs.drop i).map cutText) [32] else [])) := by
  intro d
  induction d with
  | zero =>
    intro k i ys hi hk hy hyl
    obtain ⟨k, rfl⟩ : ∃ m, k = m + 1 := ⟨k - 1, by omega⟩
    have hj := join_len ys hyl
    rw [impl_ProgramText.l0, if_neg (by omega), List.drop_of_length_le (by omega)]
    have e : (ys.map bs).map (fun x => x.data.toList) = ys := by
      rw [List.map_map]
      exact (List.map_congr_left (fun y _ => bs_data y)).trans (List.map_id _)
    unfold strings_Join.f
    rw [if_pos (by rw [List.length_map]; omega), e, bs_32, bs_data, if_pos (by omega)]
    simp [bs]
  | succ d ih =>
    intro k i ys hi hk hy hyl
    obtain ⟨k, rfl⟩ : ∃ m, k = m + 2 := ⟨k - 2, by omega⟩
    have hlt : i < cs.length := by omega
    rw [impl_ProgramText.l0, if_pos (by omega), if_pos (by omega), if_pos (by omega), rdICut cs i hlt, dropICut cs i hlt, impl_inRange_eq, impl_inRange_eq]
    simp only [Option.bind_some]
    have bad : okCut cs[i] = false → (some (⟨#[]⟩ : ByteArray) = some (bs (if (cs[i] :: cs.drop (i + 1)).all okCut = true then Lib.join (ys ++ (cs[i] :: cs.drop (i + 1)).map cutText) [32] else []))) := fun h => by
      rw [List.all_cons, h, Bool.false_and, if_neg (by simp)]
      rfl
    by_cases h0 : inR cs[i].f0 0 20000 = true
    · rw [if_pos h0, impl_ProgramText.j1]
      by_cases h2 : inR cs[i].f2 0 20000 = true
      · have hok : okCut cs[i] = true := by unfold okCut; rw [h0, h2]; rfl
        obtain ⟨a, b, ea, eb, ha, hb⟩ := okCut_nat hok
        have l1 := dec_len 4 a (by omega)
        have l2 := dec_len 4 b (by omega)
        have l3 : (if cs[i].f1 = true then [(45 : UInt8)] else [124]).length = 1 := by split <;> rfl
        have ht : cutText cs[i] = Lib.decDigits a ++ (if cs[i].f1 then [45] else [124]) ++ Lib.decDigits b := by
          unfold cutText
          rw [ea, eb, Int.toNat_natCast, Int.toNat_natCast]
        rw [h2, if_neg (by simp), ea, eb, impl_decimal_eq a (by omega), impl_cutMark_eq, impl_decimal_eq b (by omega)]
        simp only [Option.bind_some]
        rw [bs_append, bs_append, bs_size, bs_size, bs_size, bs_size, if_pos (by omega), if_pos (by rw [List.length_append]; omega), if_pos (by rw [List.length_map]; omega), w64 (by omega) (by omega), ← ht]
        have := ih k (i + 1) (ys ++ [cutText cs[i]]) (by omega) (by omega) (by simp [hy]) (fun y hy' => by
          rcases List.mem_append.1 hy' with h | h
          · exact hyl y h
          · rw [List.mem_singleton.1 h]; exact cutText_len hok)
        rw [List.map_append] at this
        rw [List.all_cons, hok, Bool.true_and, List.map_cons]
        have e3 : ys ++ cutText cs[i] :: (cs.drop (i + 1)).map cutText = ys ++ [cutText cs[i]] ++ (cs.drop (i + 1)).map cutText := by rw [List.append_assoc]; rfl
        rw [e3]
        exact this
      · have h2' : inR cs[i].f2 0 20000 = false := by simpa using h2
        rw [h2', if_pos (by simp)]
        exact bad (by unfold okCut; rw [h0, h2']; rfl)
    · have h0' : inR cs[i].f0 0 20000 = false := by simpa using h0
      rw [if_neg h0, impl_ProgramText.j1, if_pos rfl]
      exact bad (by unfold okCut; rw [h0']; rfl)
theorem impl_ProgramText_eq (cs : List S34) (k : Nat) (hk : 200 ≤ k) : impl_ProgramText.f k cs = some (bs (progText cs)) := by
  unfold impl_ProgramText.f progText
  by_cases h : (cs.length : Int) > 79
  · rw [if_pos h, if_neg (by omega)]
    rfl
  · have := impl_ProgramText_l0 cs (by omega) cs.length k 0 [] (by omega) (by omega) rfl (by simp)
    rw [if_neg h]
    refine (show _ = _ from this).trans ?_
    by_cases ha : cs.all okCut = true
    · rw [if_pos (by simpa using ha), if_pos ⟨by omega, ha⟩]
      simp
    · rw [if_neg (by simpa using ha), if_neg (fun hh => ha hh.2)]

theorem impl_ReadProgram_j1 (l : List UInt8) (ws : List ByteArray) (hw : ws.length ≤ 1048577) (w : ByteArray) (hs : w.size ≤ 1048576) (k i m : Nat) (hm : m < w.size) (hi : i < ws.length) (acc : List S34) (ha : acc.length ≤ 79) :
    impl_ReadProgram.j1 (k + 1) (bs l) acc w (m : Int) ws (ws.length : Int) (i : Int) ((acc.length : Int) == 79) =
      if acc.length = 79 then some ([], false) else
      if (HandR.readDec (w.extract 0 m)).2 = true then
        if (HandR.readDec (w.extract (m + 1) w.size)).2 = true then
          impl_ReadProgram.l0 k (bs l) (acc ++ [⟨(HandR.readDec (w.extract 0 m)).1, bt w (m : Int) == 45, (HandR.readDec (w.extract (m + 1) w.size)).1⟩]) ws (ws.length : Int) ((i + 1 : Nat) : Int)
        else some ([], false)
      else some ([], false) := by
  have e0 : ∀ a b, (w.extract a b).size ≤ 1099511627776 := fun a b => by rw [ByteArray.size_extract]; omega
  have em : wrap64 ((m : Int) + 1) = ((m + 1 : Nat) : Int) := by rw [w64 (by omega) (by omega)]; omega
  have ei : wrap64 ((i : Int) + 1) = ((i + 1 : Nat) : Int) := by rw [w64 (by omega) (by omega)]; omega
  rw [impl_ReadProgram.j1]
  by_cases h0 : acc.length = 79
  · rw [if_pos (by rw [h0]; rfl), if_pos h0]
  · have h0' : ((acc.length : Int) == 79) = false := beq_eq_false_iff_ne.2 (by omega)
    rw [h0', if_neg (by simp), if_neg h0, if_pos (by omega), if_pos (by omega), Int.toNat_natCast]
    unfold impl_readDecimal.f
    rw [if_pos (e0 _ _), em, Int.toNat_natCast, if_pos (e0 _ _), ei]
    simp only [Option.bind_some]
    rw [if_pos (by omega), if_pos (by omega)]
    generalize HandR.readDec (w.extract 0 m) = q1
    generalize HandR.readDec (w.extract (m + 1) w.size) = q2
    by_cases h1 : q1.2 = true
    · rw [if_pos h1, if_pos h1]
      by_cases h2 : q2.2 = true
      · rw [if_pos h2, if_pos h2, if_pos (by omega), if_pos (by omega)]
      · rw [if_neg h2, if_neg h2]
    · rw [if_neg h1, if_neg h1]
theorem impl_ReadProgram_l0 (l : List UInt8) (ws : List ByteArray) (hw : ws.length ≤ 1048577) (hs : ∀ w ∈ ws, w.size ≤ 1048576) : ∀ (d k i : Nat) (acc : List S34), i + d = ws.length → 2 * d + 400 ≤ k → acc.length ≤ 79 →
    impl_ReadProgram.l0 k (bs l) acc ws (ws.length : Int) (i : Int) = some (ends l (goI (ws.drop i) acc)) := by
  intro d
  induction d with
  | zero =>
    intro k i acc hi hk ha
    obtain ⟨k, rfl⟩ : ∃ m, k = m + 1 := ⟨k - 1, by omega⟩
    rw [impl_ReadProgram.l0, if_neg (by omega), impl_ProgramText_eq acc k (by omega), List.drop_of_length_le (by omega), goI]
    simp only [Option.bind_some, bs_toList, ends]
    by_cases h : progText acc = l
    · rw [if_pos h, if_pos h]
    · rw [if_neg h, if_neg h]
  | succ d ih =>
    intro k i acc hi hk ha
    obtain ⟨k, rfl⟩ : ∃ m, k = m + 2 := ⟨k - 2, by omega⟩
    have hlt : i < ws.length := by omega
    have hwl := hs _ (List.getElem_mem hlt)
    have hr : rdOf ByteArray.empty ws (i : Int) = ws[i] := by
      unfold rdOf
      rw [Int.toNat_natCast, List.getD_eq_getElem?_getD, List.getElem?_eq_getElem hlt]
      rfl
    have ha45 : (⟨#[124, 45]⟩ : ByteArray).data.toList = [124, 45] := rfl
    rw [impl_ReadProgram.l0, if_pos (by omega), if_pos (by omega), if_pos (by omega), hr]
    unfold strings_IndexAny.f
    rw [if_pos (by omega), if_pos ha45, List.drop_eq_getElem_cons hlt, goI]
    simp only [Option.bind_some]
    rcases indexAny_lt [124, 45] ws[i].data.toList with h | ⟨m, h, hm⟩
    · rw [if_pos h, if_pos h, impl_ReadProgram.j1, if_pos rfl]
      rfl
    · rw [h, if_neg (by omega), if_neg (by omega), Int.toNat_natCast]
      rw [← Lib.size_eq] at hm
      rw [impl_ReadProgram_j1 l ws hw ws[i] hwl k i m hm hlt acc ha]
      by_cases h0 : acc.length = 79
      · rw [if_pos h0, if_pos h0]; rfl
      · rw [if_neg h0, if_neg h0]
        by_cases h1 : (HandR.readDec (ws[i].extract 0 m)).2 = true
        · rw [if_pos h1, if_pos h1]
          by_cases h2 : (HandR.readDec (ws[i].extract (m + 1) ws[i].size)).2 = true
          · rw [if_pos h2, if_pos h2]
            exact ih k (i + 1) _ (by omega) (by omega) (by simp; omega)
          · rw [if_neg h2, if_neg h2]; rfl
        · rw [if_neg h1, if_neg h1]; rfl
theorem impl_ReadProgram_eq (l : List UInt8) (k : Nat) (hl : l.length ≤ 1048576) (hk : 4000000 ≤ k) : impl_ReadProgram.f k (bs l) = some (readS l) := by
  rw [← read_same]
  unfold impl_ReadProgram.f readI
  rw [bs_toList]
  by_cases h : l = []
  · rw [if_pos h, if_pos h]
  · have hn := HandR.pieces_len (bs l) (bs [32]) (by rw [bs_size]; simp)
    have hc := Lib.countB_le (bs [32]) (by rw [bs_size]; simp) (bs l).size (bs l) (Nat.le_refl _)
    rw [bs_size] at hc
    rw [if_neg h, if_neg h]
    unfold strings_Split.f
    rw [bs_size, if_pos (by omega), bs_32, if_pos (by rw [bs_size]; simp)]
    simp only [Option.bind_some]
    exact impl_ReadProgram_l0 l _ (by omega) (fun w hw => by have := splitB_sizes _ _ _ _ w hw; rw [bs_size] at this; omega) (HandR.pieces (bs l) (bs [32])).length k 0 [] (by omega) (by omega) (by simp)

theorem laws_markCutS_l0 (n : Nat) (hn : n ≤ 1048576) : ∀ (d k i : Nat) (ys : List S34), ys.length = n → i + d = n → d < k →
    ∃ zs : List S34, laws_markCutS.l0 k ys (3 * (i : Int) + 1) (i : Int) = some (3 * (n : Int) + 1, zs) ∧ zs.length = n ∧ (∀ j, j < i → zs[j]? = ys[j]?) ∧ (∀ j, i ≤ j → j < n → zs[j]? = some ⟨3 * (j : Int) + 1, (Int.tmod (3 * (j : Int) + 2) 3) == 0, 3 * (j : Int) + 3⟩) := by
  intro d
  induction d with
  | zero =>
    intro k i ys hy h hk
    obtain ⟨k, rfl⟩ : ∃ m, k = m + 1 := ⟨k - 1, by omega⟩
    have e : i = n := by omega
    subst e
    refine ⟨ys, ?_, hy, fun _ _ => rfl, fun j h1 h2 => by omega⟩
    rw [laws_markCutS.l0, if_neg (by omega)]
  | succ d ih =>
    intro k i ys hy h hk
    obtain ⟨k, rfl⟩ : ∃ m, k = m + 1 := ⟨k - 1, by omega⟩
    have hlt : i < ys.length := by omega
    obtain ⟨zs, h1, h2, h3, h4⟩ := ih k (i + 1) (ys.set i ⟨3 * (i : Int) + 1, (Int.tmod (3 * (i : Int) + 2) 3) == 0, 3 * (i : Int) + 3⟩) (by simpa using hy) (by omega) (by omega)
    refine ⟨zs, ?_, h2, fun j hj => ?_, fun j hj1 hj2 => ?_⟩
    · have e1 : rd_T34 (ys.set i ⟨3 * (i : Int) + 1, (rd_T34 ys (i : Int)).f1, (rd_T34 ys (i : Int)).f2⟩) (i : Int) = ⟨3 * (i : Int) + 1, (rd_T34 ys (i : Int)).f1, (rd_T34 ys (i : Int)).f2⟩ := by
        simp [rd_T34, List.getD_eq_getElem?_getD, List.getElem?_set_self hlt]
      have e2 : ∀ x : S34, rd_T34 (ys.set i x) (i : Int) = x := by
        intro x
        simp [rd_T34, List.getD_eq_getElem?_getD, List.getElem?_set_self hlt]
      rw [laws_markCutS.l0, if_pos (by omega), if_pos (by omega)]
      simp only [Option.bind_some, Int.toNat_natCast, e2, List.set_set]
      rw [w64 (x := 3 * (i : Int) + 1 + 1) (by omega) (by omega), w64 (x := 3 * (i : Int) + 1 + 1 + 1) (by omega) (by omega), w64 (x := 3 * (i : Int) + 1 + 1 + 1 + 1) (by omega) (by omega), w64 (x := (i : Int) + 1) (by omega) (by omega)]
      rw [show ((i + 1 : Nat) : Int) = (i : Int) + 1 by omega, show 3 * ((i : Int) + 1) + 1 = 3 * (i : Int) + 1 + 1 + 1 + 1 by omega] at h1
      rw [show 3 * (i : Int) + 1 + 1 + 1 = 3 * (i : Int) + 3 by omega, show 3 * (i : Int) + 1 + 1 = 3 * (i : Int) + 2 by omega]
      rw [show 3 * (i : Int) + 1 + 1 + 1 + 1 = 3 * (i : Int) + 3 + 1 by omega] at h1
      exact h1
    · rw [h3 j (by omega), List.getElem?_set_ne (by omega)]
    · by_cases e : j = i
      · subst e
        rw [h3 j (by omega), List.getElem?_set_self hlt]
      · exact h4 j (by omega) hj2

theorem laws_heldCutS_l0 (n : Nat) (hn : n ≤ 1048576) (zs : List S34) (hz : zs.length = n) (hv : ∀ j, j < n → zs[j]? = some ⟨3 * (j : Int) + 1, (Int.tmod (3 * (j : Int) + 2) 3) == 0, 3 * (j : Int) + 3⟩) : ∀ (d k i : Nat), i + d = n → d < k →
    laws_heldCutS.l0 k zs (3 * (i : Int) + 1) (i : Int) = some (3 * (n : Int) + 1) := by
  intro d
  induction d with
  | zero =>
    intro k i h hk
    obtain ⟨k, rfl⟩ : ∃ m, k = m + 1 := ⟨k - 1, by omega⟩
    have e : i = n := by omega
    subst e
    rw [laws_heldCutS.l0, if_neg (by omega)]
  | succ d ih =>
    intro k i h hk
    obtain ⟨k, rfl⟩ : ∃ m, k = m + 1 := ⟨k - 1, by omega⟩
    have h1 := ih k (i + 1) (by omega) (by omega)
    have e2 : rd_T34 zs (i : Int) = ⟨3 * (i : Int) + 1, (Int.tmod (3 * (i : Int) + 2) 3) == 0, 3 * (i : Int) + 3⟩ := by
      simp [rd_T34, List.getD_eq_getElem?_getD, hv i (by omega)]
    rw [show ((i + 1 : Nat) : Int) = (i : Int) + 1 by omega, show 3 * ((i : Int) + 1) + 1 = 3 * (i : Int) + 3 + 1 by omega] at h1
    rw [laws_heldCutS.l0, if_pos (by omega), if_pos (by omega), e2]
    simp only
    rw [if_pos trivial, w64 (x := 3 * (i : Int) + 1 + 1) (by omega) (by omega), show 3 * (i : Int) + 1 + 1 = 3 * (i : Int) + 2 by omega, if_neg (by simp), w64 (x := 3 * (i : Int) + 2 + 1) (by omega) (by omega), show 3 * (i : Int) + 2 + 1 = 3 * (i : Int) + 3 by omega, if_pos rfl, w64 (x := 3 * (i : Int) + 3 + 1) (by omega) (by omega), w64 (x := (i : Int) + 1) (by omega) (by omega)]
    exact h1
theorem marks_heldCut (xs : List S34) (hn : xs.length ≤ 1048576) (k : Nat) (hk : xs.length < k) :
    ∃ zs : List S34, laws_markCutS.f k xs 1 = some (3 * (xs.length : Int) + 1, zs) ∧ zs.length = xs.length ∧ (∀ k', xs.length < k' → laws_heldCutS.f k' zs 1 = some (3 * (xs.length : Int) + 1)) := by
  obtain ⟨zs, h1, h2, _, h4⟩ := laws_markCutS_l0 xs.length hn xs.length k 0 xs rfl (by omega) hk
  exact ⟨zs, h1, h2, fun k' hk' => laws_heldCutS_l0 xs.length hn zs h2 (fun j hj => h4 j (by omega) hj) xs.length k' 0 (by omega) hk'⟩

theorem FnExactReadProgram : laws_FnExactReadProgram.Pure := by
  intro a0 _
  rw [← bs_of a0]
  generalize a0.data.toList = l
  by_cases hbig : (l.length : Int) > 1048576
  · exact ⟨1, by unfold laws_FnExactReadProgram.f; rw [bs_size, if_pos hbig]⟩
  have hl := readS_len l
  obtain ⟨zs, hm, hz, hh⟩ := marks_heldCut (readS l).1 (by omega) 4000009 (by omega)
  have h0 : ¬ (3 * ((readS l).1.length : Int) + 1 < 0) := by omega
  have hS : ∀ k, 4000000 ≤ k → spec_ReadProgram.f k (bs l) = some (readS l) := fun k hk => spec_ReadProgram_eq l k (by omega) hk
  have hI : ∀ k, 4000000 ≤ k → impl_ReadProgram.f k (bs l) = some (readS l) := fun k hk => impl_ReadProgram_eq l k (by omega) hk
  refine ⟨4000010, ?_⟩
  simp (disch := omega) only [laws_FnExactReadProgram.f, bs_size, if_neg hbig, hS, hI, laws_eqCutS_eq, Option.bind_some, bne_self_eq_false, if_true]
  simp (disch := omega) only [laws_FnExactReadProgram.j0, hI, laws_eqCutS_eq, hm, hh, if_neg h0, Option.bind_some, bne_self_eq_false, Bool.false_eq_true, if_false, if_true]
  simp (disch := omega) only [laws_FnExactReadProgram.j1, hh, if_neg h0, Option.bind_some, Bool.false_eq_true, if_false, if_true]

end Go.Proofs.YtdafddgmeidclaaDoor.Pure
