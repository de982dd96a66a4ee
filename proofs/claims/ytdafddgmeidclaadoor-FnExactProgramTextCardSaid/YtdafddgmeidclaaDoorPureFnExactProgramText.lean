/- For all arguments the law FnExactProgramText returns true, with no condition beyond the bounds that the printed statement names. -/
import Derived.Test.YtdafddgmeidclaaDoorPFnExactProgramTextx4
namespace Go.Proofs.YtdafddgmeidclaaDoor.Pure
open Go.RowKit Go.Proofs.YtdafddgmeidclaaDoor.PFnExactProgramText Go.Proofs.YtdafddgmeidclaaDoorW.PrintWords Go.Proofs.YtdafddgmeidclaaDoorW.PrintLast
set_option linter.unusedVariables false
set_option linter.unusedSimpArgs false

theorem w64 {x : Int} (h1 : -9223372036854775808 ≤ x) (h2 : x ≤ 9223372036854775807) : wrap64 x = x := by
  unfold wrap64; omega
theorem wf64 {x : Int} (h : (Lit.int .i64 x).wf = true) : -9223372036854775808 ≤ x ∧ x ≤ 9223372036854775807 := by
  simp [Lit.wf, IntKind.min, IntKind.max, IntKind.signed, IntKind.bits] at h
  omega
/-- 'a lies from b to c'. -/
def inR (a b c : Int) : Bool := decide (b ≤ a ∧ a ≤ c)
theorem inR_true {a b c : Int} (h : inR a b c = true) : b ≤ a ∧ a ≤ c := by simpa [inR] using h
theorem inR_mk {a b c : Int} (h1 : b ≤ a) (h2 : a ≤ c) : inR a b c = true := by simp [inR, h1, h2]
theorem inR_false {a b c : Int} (h : inR a b c = false) : a < b ∨ c < a := by
  have : ¬ (b ≤ a ∧ a ≤ c) := by simpa [inR] using h
  omega
theorem rd_nat (xs : List Int) (i : Nat) : rd xs (i : Int) = xs.getD i 0 := by simp [rd]
theorem mul_bd {a b A B : Int} (h0 : 0 ≤ a) (h1 : a ≤ A) (k0 : 0 ≤ b) (k1 : b ≤ B) : 0 ≤ a * b ∧ a * b ≤ A * B :=
  ⟨Int.mul_nonneg h0 k0, Int.mul_le_mul h1 k1 k0 (by omega)⟩
theorem tdiv_n {a b : Int} (h : 0 ≤ a) : Int.tdiv a b = a / b := Int.tdiv_eq_ediv_of_nonneg h
theorem tmod_n {a b : Int} (h : 0 ≤ a) : Int.tmod a b = a % b := Int.tmod_eq_emod_of_nonneg h
theorem mn_min (a b : Int) : mn a b = min a b := by unfold mn; split <;> omega
theorem mx_max (a b : Int) : mx a b = max a b := by unfold mx; split <;> omega

theorem rdICut (xs : List S34) (i : Nat) (h : i < xs.length) : rd_T34 xs (i : Int) = xs[i] := by simp [rd_T34, List.getD_eq_getElem?_getD, List.getElem?_eq_getElem h]
theorem dropICut (xs : List S34) (i : Nat) (h : i < xs.length) : xs.drop i = xs[i] :: xs.drop (i + 1) := List.drop_eq_getElem_cons h

/-- A string of these bytes. -/
def bs (l : List UInt8) : ByteArray := ⟨l.toArray⟩
theorem bs_size (l : List UInt8) : (bs l).size = l.length := by simp [bs, ByteArray.size]
theorem bs_data (l : List UInt8) : (bs l).data.toList = l := by simp [bs]
theorem bs_toList (l : List UInt8) : (bs l).toList = l := by rw [Lib.toList_data]; exact bs_data l
theorem bs_of (s : ByteArray) : bs s.data.toList = s := by cases s; simp [bs]
theorem bs_append (a b : List UInt8) : bs a ++ bs b = bs (a ++ b) := by
  apply ByteArray.ext
  simp [bs]
theorem bs_one (x : Int) : strOfNums [x] = bs [UInt8.ofNat x.toNat] := by
  unfold strOfNums
  first
    | rfl
    | (apply ByteArray.ext; simp [bs])
theorem bs_inj {a b : List UInt8} (h : bs a = bs b) : a = b := by
  have := congrArg (fun s : ByteArray => s.data.toList) h
  simpa [bs_data] using this
theorem bs_nil : (⟨#[]⟩ : ByteArray) = bs [] := rfl
theorem bs_32 : (⟨#[32]⟩ : ByteArray) = bs [32] := rfl
theorem bs_45 : (⟨#[45]⟩ : ByteArray) = bs [45] := rfl
theorem bs_124 : (⟨#[124]⟩ : ByteArray) = bs [124] := rfl
theorem dec_small {n : Nat} (h : n < 10) : Lib.decDigits n = [UInt8.ofNat (48 + n)] := by rw [Lib.decDigits, dif_pos h]
theorem dec_big {n : Nat} (h : ¬ n < 10) : Lib.decDigits n = Lib.decDigits (n / 10) ++ [UInt8.ofNat (48 + n % 10)] := by rw [Lib.decDigits, dif_neg h]
theorem dec_len : ∀ (d n : Nat), n < 10 ^ (d + 1) → (Lib.decDigits n).length ≤ d + 1
  | d, n, h => by
    by_cases h10 : n < 10
    · rw [dec_small h10]; simp
    · cases d with
      | zero => exact absurd (by simpa using h) h10
      | succ d =>
        have := dec_len d (n / 10) (by rw [Nat.pow_succ] at h; omega)
        rw [dec_big h10]
        simp
        omega
theorem spec_l01Dec_eq : ∀ (d k n : Nat), n < 10 ^ (d + 1) → d < k → d ≤ 18 → n ≤ 9223372036854775807 → spec_l01Dec.f k (n : Int) = some (bs (Lib.decDigits n))
  | d, 0, n, _, h, _, _ => by omega
  | d, k + 1, n, hn, hk, hd, hm => by
    rw [spec_l01Dec.f]
    by_cases h10 : n < 10
    · rw [if_pos (by omega), dec_small h10, w64 (by omega) (by omega), bs_one]
      congr 4
      omega
    · rw [if_neg (by omega)]
      cases d with
      | zero => exact absurd (by simpa using hn) h10
      | succ d =>
        have h1 : n / 10 < 10 ^ (d + 1) := by rw [Nat.pow_succ] at hn; omega
        have e1 : wrap64 (Int.tdiv (n : Int) 10) = ((n / 10 : Nat) : Int) := by
          rw [tdiv_n (by omega), w64 (by omega) (by omega)]
          omega
        rw [e1, spec_l01Dec_eq d k (n / 10) h1 (by omega) (by omega) (by omega)]
        have hl := dec_len d (n / 10) h1
        have e2 : strOfNums [(wrap64 (48 + Int.tmod (n : Int) 10)) % 256] = bs [UInt8.ofNat (48 + n % 10)] := by
          rw [bs_one, tmod_n (by omega), w64 (by omega) (by omega)]
          congr 3
          omega
        simp only [Option.bind_some]
        rw [e2, bs_size, bs_size, if_pos (by simp; omega), bs_append, dec_big h10]
theorem impl_decimal_eq (n : Nat) (h : n ≤ 9223372036854775807) : impl_decimal.f (n : Int) = some (bs (Lib.decDigits n)) := by
  unfold impl_decimal.f
  rw [if_pos (by omega), if_pos (by omega)]
  have e : Lib.itoa (n : Int) = Lib.decDigits n := by
    unfold Lib.itoa
    rw [if_neg (by omega), Int.toNat_natCast]
  rw [e]
  rfl
/-- The text of a cut, and of a list of cuts. -/
def cutText (c : S34) : List UInt8 := Lib.decDigits c.f0.toNat ++ (if c.f1 then [45] else [124]) ++ Lib.decDigits c.f2.toNat
def okCut (c : S34) : Bool := inR c.f0 0 20000 && inR c.f2 0 20000
def progText (cs : List S34) : List UInt8 := if cs.length ≤ 79 ∧ cs.all okCut = true then Lib.join (cs.map cutText) [32] else []
theorem okCut_nat {c : S34} (h : okCut c = true) : ∃ a b : Nat, c.f0 = a ∧ c.f2 = b ∧ a ≤ 20000 ∧ b ≤ 20000 := by
  unfold okCut at h
  rw [Bool.and_eq_true] at h
  have h1 := inR_true h.1
  have h2 := inR_true h.2
  exact ⟨c.f0.toNat, c.f2.toNat, by omega, by omega, by omega, by omega⟩
theorem cutText_len {c : S34} (h : okCut c = true) : (cutText c).length ≤ 11 := by
  obtain ⟨a, b, ea, eb, ha, hb⟩ := okCut_nat h
  have h1 := dec_len 4 a (by omega)
  have h2 := dec_len 4 b (by omega)
  unfold cutText
  rw [ea, eb, Int.toNat_natCast, Int.toNat_natCast]
  split <;> simp <;> omega
theorem joinTail_cons (sep x : List UInt8) (r : List (List UInt8)) : Lib.joinTail sep (x :: r) = sep ++ x ++ Lib.joinTail sep r := by simp [Lib.joinTail]
theorem lens_le (n : Nat) : ∀ (xs : List (List UInt8)), (∀ x ∈ xs, x.length ≤ n) → Lib.lens xs ≤ n * xs.length
  | [], _ => by simp [Lib.lens]
  | x :: r, h => by
    have h1 := h x (by simp)
    have h2 := lens_le n r (fun y hy => h y (by simp [hy]))
    have e : Lib.lens (x :: r) = x.length + Lib.lens r := by simp [Lib.lens]
    rw [e, List.length_cons, Nat.mul_succ]
    omega
theorem join_len (xs : List (List UInt8)) (h : ∀ x ∈ xs, x.length ≤ 11) : (Lib.join xs [32]).length ≤ 12 * xs.length := by
  cases xs with
  | nil => simp [Lib.join_nil]
  | cons x r =>
    have h2 := lens_le 11 (x :: r) h
    rw [Lib.join_length]
    simp only [List.length_cons, List.length_nil] at h2 ⊢
    omega

theorem laws_szCutS_eq (l : List S38) (h : l.length ≤ 9223372036854775807) : laws_szCutS.f l 1048576 = some (if (l.length : Int) > 1048576 then -1 else 1048576 - (l.length : Int)) := by
  unfold laws_szCutS.f
  rw [w64 (by omega) (by omega)]
  by_cases h1 : (l.length : Int) > 1048576
  · rw [if_pos (by omega), if_pos h1]
  · rw [if_neg (by omega), if_neg h1]

theorem spec_l01In_eq (a b c : Int) : spec_l01In.f a b c = some (inR a b c) := by
  unfold spec_l01In.f inR
  by_cases h : a ≥ b
  · rw [if_pos h]; simp [show b ≤ a from h]
  · rw [if_neg h]; simp [show ¬ b ≤ a from h]

theorem spec_ProgramText_step (cs : List S34) (hl : cs.length ≤ 79) (k i : Nat) (out : List UInt8) (hlt : i < cs.length) (hk : 6 ≤ k) (ho : out.length ≤ 1000) :
    spec_ProgramText.l0 (k + 3) cs (bs out) (i : Int) = if okCut cs[i] = true then spec_ProgramText.l0 k cs (bs (out ++ (if 0 < i then [32] else []) ++ cutText cs[i])) ((i + 1 : Nat) : Int) else some (bs []) := by
  rw [spec_ProgramText.l0, if_pos (by omega), if_pos (by omega), rdICut cs i hlt, spec_l01In_eq, spec_l01In_eq]
  simp only [Option.bind_some]
  by_cases h0 : inR cs[i].f0 0 20000 = true
  · rw [if_pos h0, spec_ProgramText.j1]
    by_cases h2 : inR cs[i].f2 0 20000 = true
    · have hok : okCut cs[i] = true := by unfold okCut; rw [h0, h2]; rfl
      obtain ⟨a, b, ea, eb, ha, hb⟩ := okCut_nat hok
      have l1 := dec_len 4 a (by omega)
      have l2 := dec_len 4 b (by omega)
      have d1 := spec_l01Dec_eq 4 k a (by omega) (by omega) (by omega) (by omega)
      have d2 := spec_l01Dec_eq 4 k b (by omega) (by omega) (by omega) (by omega)
      have ht : cutText cs[i] = Lib.decDigits a ++ (if cs[i].f1 then [45] else [124]) ++ Lib.decDigits b := by
        unfold cutText
        rw [ea, eb, Int.toNat_natCast, Int.toNat_natCast]
      have fin : ∀ o2 : List UInt8, o2.length ≤ 1001 → spec_ProgramText.j2 (k + 1) cs (bs o2) (i : Int) cs[i].f0 cs[i].f1 cs[i].f2 = spec_ProgramText.l0 k cs (bs (o2 ++ cutText cs[i])) ((i + 1 : Nat) : Int) := fun o2 h2l => by
        rw [spec_ProgramText.j2, ea, eb, d1, d2, w64 (by omega) (by omega), ht]
        simp only [Option.bind_some]
        by_cases hc : cs[i].f1 = true
        · rw [if_pos hc, if_pos hc, bs_45]
          simp only [bs_append, bs_size]
          rw [if_pos (by omega), if_pos (by simp; omega), if_pos (by simp; omega)]
          simp
        · rw [if_neg hc, if_neg hc, bs_124]
          simp only [bs_append, bs_size]
          rw [if_pos (by omega), if_pos (by simp; omega), if_pos (by simp; omega)]
          simp
      rw [h2, if_neg (by simp), if_pos hok]
      by_cases hi : 0 < i
      · rw [if_pos (by omega), bs_size, if_pos (by omega), bs_32, bs_append, fin _ (by simp; omega), if_pos hi]
      · rw [if_neg (by omega), fin _ (by omega), if_neg hi, List.append_nil]
    · have h2' : inR cs[i].f2 0 20000 = false := by simpa using h2
      rw [h2', if_pos (by simp), if_neg (by unfold okCut; rw [h0, h2']; simp)]
      rfl
  · have h0' : inR cs[i].f0 0 20000 = false := by simpa using h0
    rw [if_neg h0, spec_ProgramText.j1, if_pos rfl, if_neg (by unfold okCut; rw [h0']; simp)]
    rfl
theorem spec_ProgramText_l0 (cs : List S34) (hl : cs.length ≤ 79) : ∀ (d k i : Nat) (out : List UInt8), 0 < i → i + d = cs.length → 3 * d + 10 ≤ k → out.length ≤ 12 * i →
    spec_ProgramText.l0 k cs (bs out) (i : Int) = some (bs (if (cs.drop i).all okCut = true then out ++ Lib.joinTail [32] ((cs.drop i).map cutText) else [])) := by
  intro d
  induction d with
  | zero =>
    intro k i out h0 hi hk ho
    obtain ⟨k, rfl⟩ : ∃ m, k = m + 1 := ⟨k - 1, by omega⟩
    rw [spec_ProgramText.l0, if_neg (by omega), List.drop_of_length_le (by omega)]
    simp [Lib.joinTail]
  | succ d ih =>
    intro k i out h0 hi hk ho
    obtain ⟨k, rfl⟩ : ∃ m, k = m + 3 := ⟨k - 3, by omega⟩
    have hlt : i < cs.length := by omega
    rw [spec_ProgramText_step cs hl k i out hlt (by omega) (by omega), dropICut cs i hlt, if_pos h0]
    by_cases hok : okCut cs[i] = true
    · have hc := cutText_len hok
      rw [if_pos hok, ih k (i + 1) _ (by omega) (by omega) (by omega) (by simp; omega), List.all_cons, hok, Bool.true_and, List.map_cons, joinTail_cons]
      simp only [List.append_assoc]
    · have hok' : okCut cs[i] = false := by simpa using hok
      rw [if_neg hok, List.all_cons, hok', Bool.false_and, if_neg (by simp)]
theorem spec_ProgramText_eq (cs : List S34) (k : Nat) (hk : 300 ≤ k) : spec_ProgramText.f k cs = some (bs (progText cs)) := by
  unfold spec_ProgramText.f progText
  by_cases h : (cs.length : Int) > 79
  · rw [if_pos h, if_neg (by omega)]
    rfl
  · rw [if_neg h]
    cases cs with
    | nil =>
      obtain ⟨k, rfl⟩ : ∃ m, k = m + 1 := ⟨k - 1, by omega⟩
      rw [spec_ProgramText.l0, if_neg (by simp)]
      simp [Lib.join_nil]
      rfl
    | cons c r =>
      obtain ⟨k, rfl⟩ : ∃ m, k = m + 3 := ⟨k - 3, by omega⟩
      have hl : (c :: r).length ≤ 79 := by omega
      have hr : r.length + 1 = (c :: r).length := rfl
      have h1 := spec_ProgramText_step (c :: r) hl k 0 [] (by simp) (by omega) (by simp)
      refine (show _ = _ from h1).trans ?_
      have e0 : (c :: r)[0] = c := rfl
      rw [e0]
      by_cases hok : okCut c = true
      · have hc := cutText_len hok
        rw [if_pos hok, if_neg (Nat.lt_irrefl 0), spec_ProgramText_l0 (c :: r) hl r.length k (0 + 1) _ (by omega) (by omega) (by omega) (by simp; omega)]
        have e1 : (c :: r).drop (0 + 1) = r := rfl
        rw [e1]
        by_cases ha : r.all okCut = true
        · rw [if_pos ha, if_pos ⟨hl, by rw [List.all_cons, hok, ha]; rfl⟩, List.map_cons, Lib.join_cons]
          simp only [List.append_nil, List.nil_append]
        · rw [if_neg ha, if_neg (fun hh => ha (by have := hh.2; rw [List.all_cons, Bool.and_eq_true] at this; exact this.2))]
      · have hok' : okCut c = false := by simpa using hok
        rw [if_neg hok, if_neg (fun hh => by have := hh.2; rw [List.all_cons, hok'] at this; simp at this)]

theorem laws_toCut_eq (x0 : Int) (x1 : Bool) (x2 : Int) : laws_toCut.f x0 x1 x2 = some (x0, x1, x2) := rfl

def convCut (l : List S38) : List S34 := l.map fun x => ⟨x.f0, x.f1, x.f2⟩
theorem convCut_len (l : List S38) : (convCut l).length = l.length := by simp [convCut]
theorem laws_toCutS_l0 (xs : List S38) (hl : xs.length ≤ 1099511627776) : ∀ (d k i : Nat) (ys : List S34), ys.length = xs.length → i + d = xs.length → (∀ j, j < i → ys[j]? = (convCut xs)[j]?) → d < k → laws_toCutS.l0 k xs ys (i : Int) = some (convCut xs) := by
  intro d
  induction d with
  | zero =>
    intro k i ys hy h hj hk
    obtain ⟨k, rfl⟩ : ∃ m, k = m + 1 := ⟨k - 1, by omega⟩
    rw [laws_toCutS.l0, if_neg (by omega)]
    congr 1
    apply List.ext_getElem?
    intro j
    by_cases h1 : j < i
    · exact hj j h1
    · rw [List.getElem?_eq_none (by omega), List.getElem?_eq_none (by rw [convCut_len]; omega)]
  | succ d ih =>
    intro k i ys hy h hj hk
    obtain ⟨k, rfl⟩ : ∃ m, k = m + 1 := ⟨k - 1, by omega⟩
    have hlt : i < xs.length := by omega
    have e2 : rd_T38 xs (i : Int) = xs[i] := by simp [rd_T38, List.getD_eq_getElem?_getD, List.getElem?_eq_getElem hlt]
    rw [laws_toCutS.l0, if_pos (by omega), if_pos (by omega), laws_toCut_eq, e2]
    simp only [Option.bind_some]
    rw [if_pos (by omega), w64 (by omega) (by omega), Int.toNat_natCast]
    refine ih k (i + 1) _ (by rw [List.length_set]; exact hy) (by omega) (fun j hjl => ?_) (by omega)
    by_cases e : j = i
    · subst e
      rw [List.getElem?_set_self (by omega)]
      simp [convCut, List.getElem?_eq_getElem hlt]
    · rw [List.getElem?_set_ne (by omega)]
      exact hj j (by omega)
theorem laws_toCutS_eq (xs : List S38) (k : Nat) (hl : xs.length ≤ 1048576) (hk : xs.length < k) : laws_toCutS.f k xs = some (convCut xs) := by
  unfold laws_toCutS.f
  rw [if_pos (by omega), if_pos (by omega)]
  exact laws_toCutS_l0 xs (by omega) xs.length k 0 _ (by simp) (by omega) (fun j hj => absurd hj (Nat.not_lt_zero _)) hk

theorem impl_inRange_eq (a b c : Int) : impl_inRange.f a b c = some (inR a b c) := by
  unfold impl_inRange.f inR
  by_cases h : b ≤ a
  · rw [if_pos h]; simp [h]
  · rw [if_neg h]; simp [h]

theorem impl_cutMark_eq (b : Bool) : impl_cutMark.f b = some (bs (if b then [45] else [124])) := by
  cases b <;> rfl

theorem impl_ProgramText_l0 (cs : List S34) (hl : cs.length ≤ 79) : ∀ (d k i : Nat) (ys : List (List UInt8)), i + d = cs.length → 2 * d < k → ys.length = i → (∀ y ∈ ys, y.length ≤ 11) →
    impl_ProgramText.l0 k (ys.map bs) cs (cs.length : Int) (i : Int) = some (bs (if (cs.drop i).all okCut = true then Lib.join (ys ++ (cs.drop i).map cutText) [32] else [])) := by
  intro d
  induction d with
  | zero =>
    intro k i ys hi hk hy hyl
    obtain ⟨k, rfl⟩ : ∃ m, k = m + 1 := ⟨k - 1, by omega⟩
    have hj := join_len ys hyl
    rw [impl_ProgramText.l0, if_neg (by omega), List.drop_of_length_le (by omega)]
    have e : (ys.map bs).map (fun x => x.data.toList) = ys := by
      rw [List.map_map]
      exact (List.map_congr_left (fun y _ => bs_data y)).trans (List.map_id _)
    unfold strings_Join.f
    rw [if_pos (by rw [List.length_map]; omega), e, bs_32, bs_data, if_pos (by omega)]
    simp [bs]
  | succ d ih =>
    intro k i ys hi hk hy hyl
    obtain ⟨k, rfl⟩ : ∃ m, k = m + 2 := ⟨k - 2, by omega⟩
    have hlt : i < cs.length := by omega
    rw [impl_ProgramText.l0, if_pos (by omega), if_pos (by omega), if_pos (by omega), rdICut cs i hlt, dropICut cs i hlt, impl_inRange_eq, impl_inRange_eq]
    simp only [Option.bind_some]
    have bad : okCut cs[i] = false → (some (⟨#[]⟩ : ByteArray) = some (bs (if (cs[i] :: cs.drop (i + 1)).all okCut = true then Lib.join (ys ++ (cs[i] :: cs.drop (i + 1)).map cutText) [32] else []))) := fun h => by
      rw [List.all_cons, h, Bool.false_and, if_neg (by simp)]
      rfl
    by_cases h0 : inR cs[i].f0 0 20000 = true
    · rw [if_pos h0, impl_ProgramText.j1]
      by_cases h2 : inR cs[i].f2 0 20000 = true
      · have hok : okCut cs[i] = true := by unfold okCut; rw [h0, h2]; rfl
        obtain ⟨a, b, ea, eb, ha, hb⟩ := okCut_nat hok
        have l1 := dec_len 4 a (by omega)
        have l2 := dec_len 4 b (by omega)
        have l3 : (if cs[i].f1 = true then [(45 : UInt8)] else [124]).length = 1 := by split <;> rfl
        have ht : cutText cs[i] = Lib.decDigits a ++ (if cs[i].f1 then [45] else [124]) ++ Lib.decDigits b := by
          unfold cutText
          rw [ea, eb, Int.toNat_natCast, Int.toNat_natCast]
        rw [h2, if_neg (by simp), ea, eb, impl_decimal_eq a (by omega), impl_cutMark_eq, impl_decimal_eq b (by omega)]
        simp only [Option.bind_some]
        rw [bs_append, bs_append, bs_size, bs_size, bs_size, bs_size, if_pos (by omega), if_pos (by rw [List.length_append]; omega), if_pos (by rw [List.length_map]; omega), w64 (by omega) (by omega), ← ht]
        have := ih k (i + 1) (ys ++ [cutText cs[i]]) (by omega) (by omega) (by simp [hy]) (fun y hy' => by
          rcases List.mem_append.1 hy' with h | h
          · exact hyl y h
          · rw [List.mem_singleton.1 h]; exact cutText_len hok)
        rw [List.map_append] at this
        rw [List.all_cons, hok, Bool.true_and, List.map_cons]
        have e3 : ys ++ cutText cs[i] :: (cs.drop (i + 1)).map cutText = ys ++ [cutText cs[i]] ++ (cs.drop (i + 1)).map cutText := by rw [List.append_assoc]; rfl
        rw [e3]
        exact this
      · have h2' : inR cs[i].f2 0 20000 = false := by simpa using h2
        rw [h2', if_pos (by simp)]
        exact bad (by unfold okCut; rw [h0, h2']; rfl)
    · have h0' : inR cs[i].f0 0 20000 = false := by simpa using h0
      rw [if_neg h0, impl_ProgramText.j1, if_pos rfl]
      exact bad (by unfold okCut; rw [h0']; rfl)
theorem impl_ProgramText_eq (cs : List S34) (k : Nat) (hk : 200 ≤ k) : impl_ProgramText.f k cs = some (bs (progText cs)) := by
  unfold impl_ProgramText.f progText
  by_cases h : (cs.length : Int) > 79
  · rw [if_pos h, if_neg (by omega)]
    rfl
  · have := impl_ProgramText_l0 cs (by omega) cs.length k 0 [] (by omega) (by omega) rfl (by simp)
    rw [if_neg h]
    refine (show _ = _ from this).trans ?_
    by_cases ha : cs.all okCut = true
    · rw [if_pos (by simpa using ha), if_pos ⟨by omega, ha⟩]
      simp
    · rw [if_neg (by simpa using ha), if_neg (fun hh => ha hh.2)]

theorem laws_eqCut_self (x0 : Int) (x1 : Bool) (x2 : Int) : laws_eqCut.f x0 x1 x2 x0 x1 x2 = some true := by
  unfold laws_eqCut.f; simp

theorem laws_eqCutS_l0 (xs : List S34) (hl : xs.length ≤ 9223372036854775806) : ∀ (d k i : Nat), i + d = xs.length → d < k → laws_eqCutS.l0 k xs xs (i : Int) = some true := by
  intro d
  induction d with
  | zero =>
    intro k i h hk
    obtain ⟨k, rfl⟩ : ∃ m, k = m + 1 := ⟨k - 1, by omega⟩
    rw [laws_eqCutS.l0, if_neg (by omega)]
  | succ d ih =>
    intro k i h hk
    obtain ⟨k, rfl⟩ : ∃ m, k = m + 1 := ⟨k - 1, by omega⟩
    rw [laws_eqCutS.l0, if_pos (by omega), if_pos (by omega), if_pos (by omega), laws_eqCut_self]
    simp only [Option.bind_some, if_true]
    rw [w64 (by omega) (by omega)]
    exact ih k (i + 1) (by omega) (by omega)
theorem laws_eqCutS_eq (xs : List S34) (k : Nat) (hl : xs.length ≤ 9223372036854775806) (hk : xs.length < k) : laws_eqCutS.f k xs xs = some true := by
  unfold laws_eqCutS.f
  rw [if_pos rfl]
  exact laws_eqCutS_l0 xs hl xs.length k 0 (by omega) hk

theorem FnExactProgramText : ∀ (l0 : List S38), l0.length ≤ maxLen → (∀ x ∈ l0, (Lit.int .i64 x.f0).wf = true ∧ (Lit.int .i64 x.f2).wf = true) → ∃ k, laws_FnExactProgramText.f k l0 = some true := by
  intro l hl _
  unfold maxLen at hl
  by_cases hbig : (l.length : Int) > 1048576
  · exact ⟨1, by unfold laws_FnExactProgramText.f; rw [laws_szCutS_eq l (by omega), if_pos hbig]; rfl⟩
  have hc := convCut_len l
  have hn : ¬ (1048576 - (l.length : Int) < 0) := by omega
  refine ⟨l.length + 400, ?_⟩
  simp (disch := omega) only [laws_FnExactProgramText.f, laws_szCutS_eq, if_neg hbig, if_neg hn, laws_toCutS_eq, spec_ProgramText_eq, impl_ProgramText_eq, laws_eqCutS_eq, Option.bind_some, if_true]

end Go.Proofs.YtdafddgmeidclaaDoor.Pure
