/- For all arguments the law FnGridCuts returns true, with no condition beyond the bounds that the printed statement names. -/
import Derived.Lib.AtoiTie
import Derived.Lib.ParseIntBTie
import Derived.Test.YtdafddgmeidclaaGreatDoorPFnGridCutsx19
namespace Go.Proofs.YtdafddgmeidclaaGreatDoor.Pure
open Go.RowKit Go.Proofs.YtdafddgmeidclaaGreatDoor.PFnGridCuts Go.Proofs.YtdafddgmeidclaaGreatDoorW.PrintWords Go.Proofs.YtdafddgmeidclaaGreatDoorW.PrintLast
set_option linter.unusedVariables false
set_option linter.unusedSimpArgs false

theorem w64 {x : Int} (h1 : -9223372036854775808 ≤ x) (h2 : x ≤ 9223372036854775807) : wrap64 x = x := by
  unfold wrap64; omega
theorem wf64 {x : Int} (h : (Lit.int .i64 x).wf = true) : -9223372036854775808 ≤ x ∧ x ≤ 9223372036854775807 := by
  simp [Lit.wf, IntKind.min, IntKind.max, IntKind.signed, IntKind.bits] at h
  omega
/-- 'a lies from b to c'. -/
def inR (a b c : Int) : Bool := decide (b ≤ a ∧ a ≤ c)
theorem inR_true {a b c : Int} (h : inR a b c = true) : b ≤ a ∧ a ≤ c := by simpa [inR] using h
theorem inR_mk {a b c : Int} (h1 : b ≤ a) (h2 : a ≤ c) : inR a b c = true := by simp [inR, h1, h2]
theorem inR_false {a b c : Int} (h : inR a b c = false) : a < b ∨ c < a := by
  have : ¬ (b ≤ a ∧ a ≤ c) := by simpa [inR] using h
  omega
theorem rd_nat (xs : List Int) (i : Nat) : rd xs (i : Int) = xs.getD i 0 := by simp [rd]
theorem mul_bd {a b A B : Int} (h0 : 0 ≤ a) (h1 : a ≤ A) (k0 : 0 ≤ b) (k1 : b ≤ B) : 0 ≤ a * b ∧ a * b ≤ A * B :=
  ⟨Int.mul_nonneg h0 k0, Int.mul_le_mul h1 k1 k0 (by omega)⟩
theorem tdiv_n {a b : Int} (h : 0 ≤ a) : Int.tdiv a b = a / b := Int.tdiv_eq_ediv_of_nonneg h
theorem tmod_n {a b : Int} (h : 0 ≤ a) : Int.tmod a b = a % b := Int.tmod_eq_emod_of_nonneg h
theorem mn_min (a b : Int) : mn a b = min a b := by unfold mn; split <;> omega
theorem mx_max (a b : Int) : mx a b = max a b := by unfold mx; split <;> omega

/-- A code that is drawn from. -/
def Code (c : List Int) : Prop := (∀ x ∈ c, 0 ≤ x ∧ x ≤ 255) ∧ c.length ≤ 4096
/-- Where a source stands, and its seed. -/
def SOk (q : Int × Int) : Prop := 0 ≤ q.1 ∧ 0 ≤ q.2 ∧ q.2 < 2147483647
theorem wfByte {x : Int} (h : (Lit.int .u8 x).wf = true) : 0 ≤ x ∧ x ≤ 255 := by
  simp [Lit.wf, IntKind.min, IntKind.max, IntKind.signed, IntKind.bits] at h
  omega
theorem rd_byte {c : List Int} (h : Code c) {i : Int} (h0 : 0 ≤ i) (h1 : i < c.length) : 0 ≤ rd c i ∧ rd c i ≤ 255 := by
  obtain ⟨n, rfl⟩ : ∃ n : Nat, i = n := ⟨i.toNat, by omega⟩
  have hn : n < c.length := by omega
  have e : rd c (n : Int) = c[n] := by rw [rd_nat, List.getD_eq_getElem?_getD, List.getElem?_eq_getElem hn]; rfl
  rw [e]
  exact h.1 _ (List.getElem_mem hn)
theorem bind_ok {α β : Type} {x : Option α} {P : α → Prop} {f : α → Option β} {Q : β → Prop} (h : ∃ p, x = some p ∧ P p) (hf : ∀ p, P p → ∃ r, f p = some r ∧ Q r) : ∃ r, x.bind f = some r ∧ Q r := by
  obtain ⟨p, e, hp⟩ := h
  rw [e]
  exact hf p hp
theorem ite_ok {α : Type} {c : Prop} [Decidable c] {a b : Option α} {Q : α → Prop} (h1 : c → ∃ r, a = some r ∧ Q r) (h2 : ¬ c → ∃ r, b = some r ∧ Q r) : ∃ r, (if c then a else b) = some r ∧ Q r := by
  by_cases h : c
  · rw [if_pos h]; exact h1 h
  · rw [if_neg h]; exact h2 h
theorem some_ok {α β : Type} {x : Option α} {v : α} {f : α → Option β} {Q : β → Prop} (h : x = some v) (hf : ∃ r, f v = some r ∧ Q r) : ∃ r, x.bind f = some r ∧ Q r := by
  rw [h]
  exact hf

def isPiece (a b : Int) : Bool := inR a 1 20000 && inR b 1 20000

theorem rdICut (xs : List S50) (i : Nat) (h : i < xs.length) : rd_T50 xs (i : Int) = xs[i] := by simp [rd_T50, List.getD_eq_getElem?_getD, List.getElem?_eq_getElem h]
theorem dropICut (xs : List S50) (i : Nat) (h : i < xs.length) : xs.drop i = xs[i] :: xs.drop (i + 1) := List.drop_eq_getElem_cons h

def g2 (rows i qh : Int) : Nat → Int → List S50 → List S50
  | 0, _, acc => acc
  | d + 1, j, acc => g2 rows i qh d (j + 1) (acc ++ [⟨i * (rows + 1) + j, true, qh⟩])
def g1 (rows qh : Int) : Nat → Int → List S50 → List S50
  | 0, _, acc => acc
  | d + 1, i, acc => g1 rows qh d (i + 1) (g2 rows i qh rows.toNat 0 acc)
def g0 (qw : Int) : Nat → Int → List S50 → List S50
  | 0, _, acc => acc
  | d + 1, i, acc => g0 qw d (i + 1) (acc ++ [⟨i, false, qw⟩])
theorem g2_len (rows i qh : Int) : ∀ (d : Nat) (j : Int) (acc : List S50), (g2 rows i qh d j acc).length = acc.length + d
  | 0, _, _ => rfl
  | d + 1, j, acc => by rw [g2, g2_len rows i qh d]; simp; omega
theorem g1_len (rows qh : Int) : ∀ (d : Nat) (i : Int) (acc : List S50), (g1 rows qh d i acc).length = acc.length + d * rows.toNat
  | 0, _, _ => by simp [g1]
  | d + 1, i, acc => by rw [g1, g1_len rows qh d, g2_len, Nat.succ_mul]; omega
theorem g0_len (qw : Int) : ∀ (d : Nat) (i : Int) (acc : List S50), (g0 qw d i acc).length = acc.length + d
  | 0, _, _ => rfl
  | d + 1, i, acc => by rw [g0, g0_len qw d]; simp; omega
def colsOf (a pw qw : Int) : Int := if a * qw < pw then a - 1 + 1 else a - 1
def gridCuts (pw ph a c qw qh : Int) : List S50 × Int :=
  if (isPiece pw ph && isPiece qw qh) = true then
    (if (inR a 1 80 && inR c 1 80) = true then
      (if colsOf a pw qw + a * colsOf c ph qh > 79 then ([], 3) else
        (if a * qw > pw ∨ c * qh > ph then ([], 5) else (g1 (colsOf c ph qh) qh a.toNat 0 (g0 qw (colsOf a pw qw).toNat 0 []), 0)))
    else ([], 2))
  else ([], 1)
theorem colsOf_bd {a pw qw : Int} (h : inR a 1 80 = true) : 0 ≤ colsOf a pw qw ∧ colsOf a pw qw ≤ 80 := by
  have := inR_true h
  unfold colsOf
  split <;> omega
theorem isPiece_true {a b : Int} (h : isPiece a b = true) : (1 ≤ a ∧ a ≤ 20000) ∧ (1 ≤ b ∧ b ≤ 20000) := by
  simp only [isPiece, Bool.and_eq_true] at h
  exact ⟨inR_true h.1, inR_true h.2⟩
theorem gridCuts_len (pw ph a c qw qh : Int) : (gridCuts pw ph a c qw qh).1.length ≤ 79 := by
  unfold gridCuts
  split
  · split
    · split
      · simp
      · rename_i h2 h3
        split
        · simp
        · simp only [Bool.and_eq_true] at h2
          have b1 := colsOf_bd (pw := pw) (qw := qw) h2.1
          have b2 := colsOf_bd (pw := ph) (qw := qh) h2.2
          have h4 := inR_true h2.1
          rw [g1_len, g0_len]
          have e : ((a.toNat * (colsOf c ph qh).toNat : Nat) : Int) = a * colsOf c ph qh := by
            rw [Int.natCast_mul, Int.toNat_of_nonneg (by omega), Int.toNat_of_nonneg b2.1]
          simp only [List.length_nil]
          omega
    · simp
  · simp

theorem rdIPiece (xs : List S25) (i : Nat) (h : i < xs.length) : rd_T25 xs (i : Int) = xs[i] := by simp [rd_T25, List.getD_eq_getElem?_getD, List.getElem?_eq_getElem h]
theorem dropIPiece (xs : List S25) (i : Nat) (h : i < xs.length) : xs.drop i = xs[i] :: xs.drop (i + 1) := List.drop_eq_getElem_cons h

def arePieces (l : List S25) : Bool := decide (l.length ≤ 80) && l.all fun x => isPiece x.f0 x.f1
theorem arePieces_true {l : List S25} (h : arePieces l = true) : l.length ≤ 80 ∧ ∀ x ∈ l, (1 ≤ x.f0 ∧ x.f0 ≤ 20000) ∧ (1 ≤ x.f1 ∧ x.f1 ≤ 20000) := by
  simp only [arePieces, Bool.and_eq_true, decide_eq_true_eq, List.all_eq_true, isPiece] at h
  exact ⟨h.1, fun x hx => ⟨inR_true (h.2 x hx).1, inR_true (h.2 x hx).2⟩⟩
/-- The area, as the program adds it up. -/
def warea (a : Int) (l : List S25) : Int := l.foldl (fun a x => wrap64 (a + wrap64 (x.f0 * x.f1))) a
def areaOf (l : List S25) : Int × Int := if arePieces l = true then (warea 0 l, 0) else (0, 1)

def sideOf (l : List S25) (i : Int) (acr : Bool) : Int := if acr = true then (rd_T25 l i).f1 else (rd_T25 l i).f0
def possible (l : List S25) (i : Int) (acr : Bool) (at_ : Int) : Bool := inR i 0 ((l.length : Int) - 1) && (decide (l.length < 80) && inR at_ 1 (sideOf l i acr - 1))
theorem sideOf_bd {l : List S25} {i : Int} {acr : Bool} (h : arePieces l = true) (hi : inR i 0 ((l.length : Int) - 1) = true) : 1 ≤ sideOf l i acr ∧ sideOf l i acr ≤ 20000 := by
  have h1 := inR_true hi
  obtain ⟨n, rfl⟩ : ∃ n : Nat, i = n := ⟨i.toNat, by omega⟩
  have hlt : n < l.length := by omega
  have h2 := (arePieces_true h).2 l[n] (List.getElem_mem hlt)
  unfold sideOf
  rw [rdIPiece l n hlt]
  split
  · exact h2.2
  · exact h2.1

/-- The pieces after a cut. -/
def cutP (l : List S25) (i : Int) (acr : Bool) (at_ : Int) : List S25 :=
  l.take i.toNat ++ ((if acr = true then [⟨(rd_T25 l i).f0, at_⟩, ⟨(rd_T25 l i).f0, (rd_T25 l i).f1 - at_⟩] else [⟨at_, (rd_T25 l i).f1⟩, ⟨(rd_T25 l i).f0 - at_, (rd_T25 l i).f1⟩]) ++ l.drop (i.toNat + 1))
theorem possible_true {l : List S25} {i : Int} {acr : Bool} {at_ : Int} (h : possible l i acr at_ = true) : (0 ≤ i ∧ i < (l.length : Int)) ∧ l.length < 80 ∧ 1 ≤ at_ ∧ at_ ≤ sideOf l i acr - 1 := by
  simp only [possible, Bool.and_eq_true, decide_eq_true_eq] at h
  have h1 := inR_true h.1
  have h2 := inR_true h.2.2
  exact ⟨⟨h1.1, by omega⟩, h.2.1, h2.1, h2.2⟩
theorem cutP_len {l : List S25} {i : Int} {acr : Bool} {at_ : Int} (h0 : 0 ≤ i) (h1 : i < (l.length : Int)) : (cutP l i acr at_).length = l.length + 1 := by
  unfold cutP
  cases acr <;> simp only [if_true, if_false, Bool.false_eq_true, List.length_append, List.length_take, List.length_drop, List.length_cons, List.length_nil] <;> omega
theorem rdP_ok {l : List S25} (h : arePieces l = true) {i : Int} (h0 : 0 ≤ i) (h1 : i < (l.length : Int)) : (1 ≤ (rd_T25 l i).f0 ∧ (rd_T25 l i).f0 ≤ 20000) ∧ (1 ≤ (rd_T25 l i).f1 ∧ (rd_T25 l i).f1 ≤ 20000) := by
  obtain ⟨n, rfl⟩ : ∃ n : Nat, i = n := ⟨i.toNat, by omega⟩
  have hlt : n < l.length := by omega
  rw [rdIPiece l n hlt]
  exact (arePieces_true h).2 l[n] (List.getElem_mem hlt)
theorem cutP_ok {l : List S25} {i : Int} {acr : Bool} {at_ : Int} (h : arePieces l = true) (hp : possible l i acr at_ = true) : arePieces (cutP l i acr at_) = true := by
  obtain ⟨⟨h0, h1⟩, h2, h3, h4⟩ := possible_true hp
  have hr := rdP_ok h h0 h1
  have hall := (arePieces_true h).2
  have hv : ∀ a b : Int, 1 ≤ a → a ≤ 20000 → 1 ≤ b → b ≤ 20000 → isPiece a b = true := fun a b _ _ _ _ => by
    unfold isPiece; rw [inR_mk (by omega) (by omega), inR_mk (by omega) (by omega)]; rfl
  simp only [arePieces, Bool.and_eq_true, decide_eq_true_eq, List.all_eq_true]
  refine ⟨by rw [cutP_len h0 h1]; omega, fun x hx => ?_⟩
  unfold cutP at hx
  unfold sideOf at h4
  rcases List.mem_append.1 hx with hx | hx
  · have := hall x (List.mem_of_mem_take hx)
    exact hv _ _ (by omega) (by omega) (by omega) (by omega)
  rcases List.mem_append.1 hx with hx | hx
  · cases acr
    · simp only [Bool.false_eq_true, if_false] at hx h4
      rcases List.mem_cons.1 hx with e | hx
      · rw [e]; exact hv _ _ (by simp only; omega) (by simp only; omega) (by simp only; omega) (by simp only; omega)
      · rw [List.mem_singleton.1 hx]; exact hv _ _ (by simp only; omega) (by simp only; omega) (by simp only; omega) (by simp only; omega)
    · simp only [if_true] at hx h4
      rcases List.mem_cons.1 hx with e | hx
      · rw [e]; exact hv _ _ (by simp only; omega) (by simp only; omega) (by simp only; omega) (by simp only; omega)
      · rw [List.mem_singleton.1 hx]; exact hv _ _ (by simp only; omega) (by simp only; omega) (by simp only; omega) (by simp only; omega)
  · have := hall x (List.mem_of_mem_drop hx)
    exact hv _ _ (by omega) (by omega) (by omega) (by omega)
def makeCut (l : List S25) (i : Int) (acr : Bool) (at_ : Int) : List S25 × Int :=
  if arePieces l = true then (if possible l i acr at_ = true then (cutP l i acr at_, 0) else ([], 5)) else ([], 1)
theorem makeCut_len (l : List S25) (i : Int) (acr : Bool) (at_ : Int) : (makeCut l i acr at_).1.length ≤ 80 := by
  unfold makeCut
  split
  · split
    · rename_i h2
      obtain ⟨⟨h0, h1⟩, h3, _, _⟩ := possible_true h2
      simp only
      rw [cutP_len h0 h1]
      omega
    · simp
  · simp

/-- A string of these bytes. -/
def bs (l : List UInt8) : ByteArray := ⟨l.toArray⟩
theorem bs_size (l : List UInt8) : (bs l).size = l.length := by simp [bs, ByteArray.size]
theorem bs_data (l : List UInt8) : (bs l).data.toList = l := by simp [bs]
theorem bs_toList (l : List UInt8) : (bs l).toList = l := by rw [Lib.toList_data]; exact bs_data l
theorem bs_of (s : ByteArray) : bs s.data.toList = s := by cases s; simp [bs]
theorem bs_append (a b : List UInt8) : bs a ++ bs b = bs (a ++ b) := by
  apply ByteArray.ext
  simp [bs]
theorem bs_one (x : Int) : strOfNums [x] = bs [UInt8.ofNat x.toNat] := by
  unfold strOfNums
  first
    | rfl
    | (apply ByteArray.ext; simp [bs])
theorem bs_inj {a b : List UInt8} (h : bs a = bs b) : a = b := by
  have := congrArg (fun s : ByteArray => s.data.toList) h
  simpa [bs_data] using this
theorem bs_nil : (⟨#[]⟩ : ByteArray) = bs [] := rfl
theorem bs_32 : (⟨#[32]⟩ : ByteArray) = bs [32] := rfl
theorem bs_45 : (⟨#[45]⟩ : ByteArray) = bs [45] := rfl
theorem bs_124 : (⟨#[124]⟩ : ByteArray) = bs [124] := rfl
theorem dec_small {n : Nat} (h : n < 10) : Lib.decDigits n = [UInt8.ofNat (48 + n)] := by rw [Lib.decDigits, dif_pos h]
theorem dec_big {n : Nat} (h : ¬ n < 10) : Lib.decDigits n = Lib.decDigits (n / 10) ++ [UInt8.ofNat (48 + n % 10)] := by rw [Lib.decDigits, dif_neg h]
theorem dec_len : ∀ (d n : Nat), n < 10 ^ (d + 1) → (Lib.decDigits n).length ≤ d + 1
  | d, n, h => by
    by_cases h10 : n < 10
    · rw [dec_small h10]; simp
    · cases d with
      | zero => exact absurd (by simpa using h) h10
      | succ d =>
        have := dec_len d (n / 10) (by rw [Nat.pow_succ] at h; omega)
        rw [dec_big h10]
        simp
        omega
theorem spec_l01Dec_eq : ∀ (d k n : Nat), n < 10 ^ (d + 1) → d < k → d ≤ 18 → n ≤ 9223372036854775807 → spec_l01Dec.f k (n : Int) = some (bs (Lib.decDigits n))
  | d, 0, n, _, h, _, _ => by omega
  | d, k + 1, n, hn, hk, hd, hm => by
    rw [spec_l01Dec.f]
    by_cases h10 : n < 10
    · rw [if_pos (by omega), dec_small h10, w64 (by omega) (by omega), bs_one]
      congr 4
      omega
    · rw [if_neg (by omega)]
      cases d with
      | zero => exact absurd (by simpa using hn) h10
      | succ d =>
        have h1 : n / 10 < 10 ^ (d + 1) := by rw [Nat.pow_succ] at hn; omega
        have e1 : wrap64 (Int.tdiv (n : Int) 10) = ((n / 10 : Nat) : Int) := by
          rw [tdiv_n (by omega), w64 (by omega) (by omega)]
          omega
        rw [e1, spec_l01Dec_eq d k (n / 10) h1 (by omega) (by omega) (by omega)]
        have hl := dec_len d (n / 10) h1
        have e2 : strOfNums [(wrap64 (48 + Int.tmod (n : Int) 10)) % 256] = bs [UInt8.ofNat (48 + n % 10)] := by
          rw [bs_one, tmod_n (by omega), w64 (by omega) (by omega)]
          congr 3
          omega
        simp only [Option.bind_some]
        rw [e2, bs_size, bs_size, if_pos (by simp; omega), bs_append, dec_big h10]
theorem impl_decimal_eq (n : Nat) (h : n ≤ 9223372036854775807) : impl_decimal.f (n : Int) = some (bs (Lib.decDigits n)) := by
  unfold impl_decimal.f
  rw [if_pos (by omega), if_pos (by omega)]
  have e : Lib.itoa (n : Int) = Lib.decDigits n := by
    unfold Lib.itoa
    rw [if_neg (by omega), Int.toNat_natCast]
  rw [e]
  rfl
/-- The text of a cut, and of a list of cuts. -/
def cutText (c : S50) : List UInt8 := Lib.decDigits c.f0.toNat ++ (if c.f1 then [45] else [124]) ++ Lib.decDigits c.f2.toNat
def okCut (c : S50) : Bool := inR c.f0 0 20000 && inR c.f2 0 20000
def progText (cs : List S50) : List UInt8 := if cs.length ≤ 79 ∧ cs.all okCut = true then Lib.join (cs.map cutText) [32] else []
theorem okCut_nat {c : S50} (h : okCut c = true) : ∃ a b : Nat, c.f0 = a ∧ c.f2 = b ∧ a ≤ 20000 ∧ b ≤ 20000 := by
  unfold okCut at h
  rw [Bool.and_eq_true] at h
  have h1 := inR_true h.1
  have h2 := inR_true h.2
  exact ⟨c.f0.toNat, c.f2.toNat, by omega, by omega, by omega, by omega⟩
theorem cutText_len {c : S50} (h : okCut c = true) : (cutText c).length ≤ 11 := by
  obtain ⟨a, b, ea, eb, ha, hb⟩ := okCut_nat h
  have h1 := dec_len 4 a (by omega)
  have h2 := dec_len 4 b (by omega)
  unfold cutText
  rw [ea, eb, Int.toNat_natCast, Int.toNat_natCast]
  split <;> simp <;> omega
theorem joinTail_cons (sep x : List UInt8) (r : List (List UInt8)) : Lib.joinTail sep (x :: r) = sep ++ x ++ Lib.joinTail sep r := by simp [Lib.joinTail]
theorem lens_le (n : Nat) : ∀ (xs : List (List UInt8)), (∀ x ∈ xs, x.length ≤ n) → Lib.lens xs ≤ n * xs.length
  | [], _ => by simp [Lib.lens]
  | x :: r, h => by
    have h1 := h x (by simp)
    have h2 := lens_le n r (fun y hy => h y (by simp [hy]))
    have e : Lib.lens (x :: r) = x.length + Lib.lens r := by simp [Lib.lens]
    rw [e, List.length_cons, Nat.mul_succ]
    omega
theorem join_len (xs : List (List UInt8)) (h : ∀ x ∈ xs, x.length ≤ 11) : (Lib.join xs [32]).length ≤ 12 * xs.length := by
  cases xs with
  | nil => simp [Lib.join_nil]
  | cons x r =>
    have h2 := lens_le 11 (x :: r) h
    rw [Lib.join_length]
    simp only [List.length_cons, List.length_nil] at h2 ⊢
    omega

/-- The pieces of a list of bytes at a byte; cur: the piece that is being read. -/
def splA (c : UInt8) (cur : List UInt8) : List UInt8 → List (List UInt8)
  | [] => [cur]
  | b :: r => if b = c then cur :: splA c [] r else splA c (cur ++ [b]) r
theorem splA_none (c : UInt8) : ∀ (l cur : List UInt8), (∀ b ∈ l, b ≠ c) → splA c cur l = [cur ++ l]
  | [], cur, _ => by simp [splA]
  | b :: r, cur, h => by
    rw [splA, if_neg (h b (by simp)), splA_none c r _ (fun x hx => h x (by simp [hx]))]
    simp
theorem splA_hit (c : UInt8) (r : List UInt8) : ∀ (l cur : List UInt8), (∀ b ∈ l, b ≠ c) → splA c cur (l ++ c :: r) = (cur ++ l) :: splA c [] r
  | [], cur, _ => by simp [splA]
  | b :: l, cur, h => by
    rw [List.cons_append, splA, if_neg (h b (by simp)), splA_hit c r l _ (fun x hx => h x (by simp [hx]))]
    simp
theorem splA_len (c : UInt8) : ∀ (l cur : List UInt8), (splA c cur l).length ≤ l.length + 1 ∧ 1 ≤ (splA c cur l).length ∧ ∀ w ∈ splA c cur l, w.length ≤ cur.length + l.length
  | [], cur => by simp [splA]
  | b :: r, cur => by
    unfold splA
    split
    · have := splA_len c r []
      refine ⟨by simp; omega, by simp, fun w hw => ?_⟩
      rcases List.mem_cons.1 hw with rfl | h
      · simp
      · have := this.2.2 w h; simp at this ⊢; omega
    · have := splA_len c r (cur ++ [b])
      refine ⟨by simp; omega, this.2.1, fun w hw => ?_⟩
      have := this.2.2 w hw
      simp at this ⊢
      omega
theorem join_two (c : UInt8) (x y : List UInt8) (r : List (List UInt8)) : Lib.join (x :: y :: r) [c] = x ++ c :: Lib.join (y :: r) [c] := by
  rw [Lib.join_cons, Lib.join_cons]
  simp [Lib.joinTail]
theorem splA_join (c : UInt8) : ∀ (xs : List (List UInt8)), xs ≠ [] → (∀ x ∈ xs, ∀ b ∈ x, b ≠ c) → splA c [] (Lib.join xs [c]) = xs
  | [], h, _ => absurd rfl h
  | [x], _, h => by
    rw [Lib.join_one, splA_none c x [] (h x (by simp))]
    simp
  | x :: y :: r, _, h => by
    rw [join_two, splA_hit c _ x [] (h x (by simp)), splA_join c (y :: r) (by simp) (fun z hz => h z (by simp [hz]))]
    simp
/-! The library's pieces of texts joined. -/
theorem indexByte_miss (c : UInt8) : ∀ (x : List UInt8), (∀ b ∈ x, b ≠ c) → Lib.indexByte x c = -1
  | [], _ => rfl
  | b :: l, h => by
    have h1 : (b == c) = false := beq_eq_false_iff_ne.2 (h b (by simp))
    rw [Lib.indexByte, h1, indexByte_miss c l (fun z hz => h z (by simp [hz]))]
    rfl
theorem indexByte_at (c : UInt8) (r : List UInt8) : ∀ (x : List UInt8), (∀ b ∈ x, b ≠ c) → Lib.indexByte (x ++ c :: r) c = x.length
  | [], _ => by simp [Lib.indexByte]
  | b :: l, h => by
    have h1 : (b == c) = false := beq_eq_false_iff_ne.2 (h b (by simp))
    rw [List.cons_append, Lib.indexByte, h1, indexByte_at c r l (fun z hz => h z (by simp [hz]))]
    have h2 : (((l.length : Nat) : Int) == -1) = false := beq_eq_false_iff_ne.2 (by omega)
    rw [h2]
    simp
theorem splitK_join (c : UInt8) : ∀ (xs : List (List UInt8)), xs ≠ [] → (∀ x ∈ xs, ∀ b ∈ x, b ≠ c) → Lib.splitK [c] 0 (Lib.count (Lib.join xs [c]) [c]) (Lib.join xs [c]) = xs
  | [], h, _ => absurd rfl h
  | [x], _, h => by
    have hx := h x (by simp)
    rw [Lib.join_one, Lib.count_one, List.count_eq_zero_of_not_mem (fun hm => hx c hm rfl)]
    rfl
  | x :: y :: r, _, h => by
    have hx := h x (by simp)
    have ih := splitK_join c (y :: r) (by simp) (fun z hz => h z (by simp [hz]))
    have e1 : Lib.count (x ++ c :: Lib.join (y :: r) [c]) [c] = Lib.count (Lib.join (y :: r) [c]) [c] + 1 := by
      rw [Lib.count_one, Lib.count_one, List.count_append, List.count_cons_self, List.count_eq_zero_of_not_mem (fun hm => hx c hm rfl)]
      omega
    have e2 : Lib.index (x ++ c :: Lib.join (y :: r) [c]) [c] = x.length := by rw [Lib.index_one]; exact indexByte_at c _ x hx
    rw [join_two, e1, Lib.splitK, e2, if_neg (by simp <;> omega)]
    have e3 : (((x.length : Nat) : Int).toNat + 0) = x.length := by simp
    have e4 : (((x.length : Nat) : Int).toNat + [c].length) = x.length + 1 := by simp
    rw [e3, e4, List.take_left, ← List.drop_drop, List.drop_left]
    simp only [List.drop_succ_cons, List.drop_zero]
    rw [ih]
theorem bs_map (ws : List ByteArray) : (ws.map (fun x => x.data.toList)).map bs = ws := by
  rw [List.map_map]
  exact (List.map_congr_left (fun y _ => bs_of y)).trans (List.map_id _)
theorem pieces_join (c : UInt8) (xs : List (List UInt8)) (h0 : xs ≠ []) (h : ∀ x ∈ xs, ∀ b ∈ x, b ≠ c) : HandR.pieces (bs (Lib.join xs [c])) (bs [c]) = xs.map bs := by
  have h1 := Lib.splitB_data (bs [c]) 0 (Lib.countB (bs (Lib.join xs [c])) (bs [c])) (bs (Lib.join xs [c]))
  have e : Lib.countB (bs (Lib.join xs [c])) (bs [c]) = Lib.count (Lib.join xs [c]) [c] := by
    unfold Lib.countB
    rw [bs_data, bs_data]
  rw [bs_data, bs_data, e, splitK_join c xs h0 h] at h1
  unfold HandR.pieces
  rw [e, ← bs_map (Lib.splitB _ _ _ _), h1]
theorem splitB_sizes (sep : ByteArray) (save : Nat) : ∀ (k : Nat) (s : ByteArray), ∀ w ∈ Lib.splitB sep save k s, w.size ≤ s.size
  | 0, s, w, hw => by
    rw [Lib.splitB_zero, List.mem_singleton] at hw
    rw [hw]
    exact Nat.le_refl _
  | k + 1, s, w, hw => by
    unfold Lib.splitB at hw
    split at hw
    · rw [List.mem_singleton] at hw; rw [hw]; exact Nat.le_refl _
    · rcases List.mem_cons.1 hw with rfl | h
      · rw [ByteArray.size_extract]; omega
      · have := splitB_sizes sep save k _ w h
        rw [ByteArray.size_extract] at this
        omega
/-! Numerals. -/
theorem dec_digit : ∀ (n : Nat), ∀ b ∈ Lib.decDigits n, 48 ≤ b.toNat ∧ b.toNat ≤ 57 := by
  intro n
  induction n using Nat.strongRecOn with
  | _ n ih =>
    intro b hb
    by_cases h : n < 10
    · rw [dec_small h, List.mem_singleton] at hb
      subst hb
      rw [UInt8.toNat_ofNat']
      omega
    · rw [dec_big h] at hb
      rcases List.mem_append.1 hb with h1 | h1
      · exact ih (n / 10) (by omega) b h1
      · rw [List.mem_singleton] at h1
        subst h1
        rw [UInt8.toNat_ofNat']
        omega
theorem dec_ne (n : Nat) : Lib.decDigits n ≠ [] := by
  intro h
  by_cases h1 : n < 10
  · rw [dec_small h1] at h; cases h
  · rw [dec_big h1] at h; simp at h
theorem decFrom_append : ∀ (a b : List UInt8) (n : Nat), Lib.decFrom n (a ++ b) = (Lib.decFrom n a).bind (fun m => Lib.decFrom m b)
  | [], b, n => rfl
  | x :: a, b, n => by
    simp only [List.cons_append, Lib.decFrom]
    cases Lib.digitVal x with
    | none => rfl
    | some d => exact decFrom_append a b _
theorem digit_at {n : Nat} (h : n < 10) : Lib.digitVal (UInt8.ofNat (48 + n)) = some n := by
  unfold Lib.digitVal
  rw [UInt8.toNat_ofNat']
  rw [if_pos (by omega)]
  congr 1
  omega
theorem decFrom_dec (n : Nat) : Lib.decFrom 0 (Lib.decDigits n) = some n := by
  induction n using Nat.strongRecOn with
  | _ n ih =>
    by_cases h : n < 10
    · rw [dec_small h]
      simp only [Lib.decFrom, digit_at h]
      simp
    · rw [dec_big h, decFrom_append, ih (n / 10) (by omega)]
      simp only [Option.bind_some, Lib.decFrom, digit_at (Nat.mod_lt n (by omega : 0 < 10))]
      congr 1
      omega
theorem readDec_dec (n : Nat) (h : n ≤ 20000) : HandR.readDec (bs (Lib.decDigits n)) = ((n : Int), true) := by
  have hl := dec_len 4 n (by omega)
  have hne := dec_ne n
  have hd := decFrom_dec n
  have hat : Lib.atoi (Lib.decDigits n) = some (n : Int) := by
    have hdig := dec_digit n
    cases hx : Lib.decDigits n with
    | nil => exact absurd hx hne
    | cons b r =>
      rw [hx] at hd hdig
      have h1 := hdig b (by simp)
      have h2 : (b == 45) = false := beq_eq_false_iff_ne.2 (fun e => by rw [e] at h1; exact absurd h1.1 (by decide))
      have h3 : (b == 43) = false := beq_eq_false_iff_ne.2 (fun e => by rw [e] at h1; exact absurd h1.1 (by decide))
      rw [Lib.atoi, h2, h3]
      simp only [Bool.false_eq_true, if_false]
      rw [Lib.decNat, hd]
      rfl
  have hp : Lib.parseIntB 64 (bs (Lib.decDigits n)).data.toList = .ok (n : Int) := by
    rw [bs_data, Lib.parseIntB_64, Lib.atoiAll_short _ (by omega), hat]
    rfl
  have hi : Lib.itoa (n : Int) = Lib.decDigits n := by
    unfold Lib.itoa
    rw [if_neg (by omega), Int.toNat_natCast]
  unfold HandR.readDec
  rw [hp]
  exact if_pos ⟨by rw [bs_size]; omega, by omega, by rw [hi, bs_data]⟩
/-- The two marks. -/
def mark (b : Bool) : UInt8 := if b then 45 else 124
theorem cutText_of {c : S50} {a b : Nat} (ea : c.f0 = a) (eb : c.f2 = b) : cutText c = Lib.decDigits a ++ mark c.f1 :: Lib.decDigits b := by
  unfold cutText mark
  rw [ea, eb, Int.toNat_natCast, Int.toNat_natCast]
  cases c.f1 <;> simp
theorem dec_no {n : Nat} {m : UInt8} (hm : m = 32 ∨ m = 45 ∨ m = 124) : ∀ b ∈ Lib.decDigits n, b ≠ m := fun b hb e => by
  have := dec_digit n b hb
  subst e
  rcases hm with rfl | rfl | rfl <;> exact absurd this (by decide)
theorem mark_cases (b : Bool) : mark b = 45 ∨ mark b = 124 := by cases b <;> simp [mark]
theorem cutText_no {c : S50} (h : okCut c = true) : ∀ b ∈ cutText c, b ≠ 32 := by
  obtain ⟨a, d, ea, eb, ha, hb⟩ := okCut_nat h
  rw [cutText_of ea eb]
  intro b hb
  rcases List.mem_append.1 hb with h1 | h1
  · exact dec_no (.inl rfl) b h1
  · rcases List.mem_cons.1 h1 with h2 | h2
    · rw [h2]
      rcases mark_cases c.f1 with e | e <;> rw [e] <;> decide
    · exact dec_no (.inl rfl) b h2
/-! What the program's reading does. -/
theorem indexAny_lt (cs : List UInt8) : ∀ (l : List UInt8), Lib.indexAny l cs < 0 ∨ ∃ i : Nat, Lib.indexAny l cs = i ∧ i < l.length
  | [] => .inl (by simp [Lib.indexAny])
  | b :: l => by
    unfold Lib.indexAny
    split
    · exact .inr ⟨0, rfl, by simp⟩
    · split
      · exact .inl (by omega)
      · rcases indexAny_lt cs l with h | ⟨i, h, hi⟩
        · have := Lib.indexAny_ge cs l
          rename_i h2
          exact absurd (beq_iff_eq.2 (by omega)) h2
        · exact .inr ⟨i + 1, by rw [h]; omega, by simp; omega⟩
def goI : List ByteArray → List S50 → Option (List S50)
  | [], acc => some acc
  | w :: ws, acc =>
    if Lib.indexAny w.data.toList [124, 45] < 0 then none else if acc.length = 79 then none else
    if (HandR.readDec (w.extract 0 (Lib.indexAny w.data.toList [124, 45]).toNat)).2 = true then
      if (HandR.readDec (w.extract ((Lib.indexAny w.data.toList [124, 45]).toNat + 1) w.size)).2 = true then
        goI ws (acc ++ [⟨(HandR.readDec (w.extract 0 (Lib.indexAny w.data.toList [124, 45]).toNat)).1, bt w (Lib.indexAny w.data.toList [124, 45]) == 45, (HandR.readDec (w.extract ((Lib.indexAny w.data.toList [124, 45]).toNat + 1) w.size)).1⟩])
      else none
    else none
def ends (l : List UInt8) (o : Option (List S50)) : List S50 × Bool :=
  match o with
  | none => ([], false)
  | some out => if progText out = l then (out, true) else ([], false)
def readI (l : List UInt8) : List S50 × Bool := if l = [] then ([], true) else ends l (goI (HandR.pieces (bs l) (bs [32])) [])
theorem goI_cut (c : S50) (h : okCut c = true) (ws : List ByteArray) (acc : List S50) (ha : acc.length < 79) : goI (bs (cutText c) :: ws) acc = goI ws (acc ++ [c]) := by
  obtain ⟨a, b, ea, eb, hA, hB⟩ := okCut_nat h
  have ht := cutText_of ea eb
  have hi : Lib.indexAny (cutText c) [124, 45] = ((Lib.decDigits a).length : Int) := by
    refine Lib.indexAny_hit (x := mark c.f1) (fun j x hj hx => ?_) ?_ ?_
    · rw [ht, List.getElem?_append_left hj] at hx
      have hm := List.mem_of_getElem? hx
      have h1 := dec_no (m := 124) (.inr (.inr rfl)) x hm
      have h2 := dec_no (m := 45) (.inr (.inl rfl)) x hm
      simp [h1, h2]
    · rw [ht, List.getElem?_append_right (Nat.le_refl _), Nat.sub_self, List.getElem?_cons_zero]
    · rcases mark_cases c.f1 with e | e <;> rw [e] <;> rfl
  have e1 : (bs (cutText c)).extract 0 (Lib.decDigits a).length = bs (Lib.decDigits a) := by
    rw [← bs_of ((bs (cutText c)).extract 0 _), Lib.extract_data, bs_data, ht]
    simp
  have e2 : (bs (cutText c)).extract ((Lib.decDigits a).length + 1) (bs (cutText c)).size = bs (Lib.decDigits b) := by
    rw [← bs_of ((bs (cutText c)).extract _ _), Lib.extract_to_end, bs_data, ht, ← List.drop_drop, List.drop_left]
    rfl
  have e3 : (bt (bs (cutText c)) ((Lib.decDigits a).length : Int) == 45) = c.f1 := by
    have hlt : (Lib.decDigits a).length < (cutText c).length := by rw [ht]; simp
    unfold bt
    rw [Int.toNat_natCast, dif_pos (by rw [bs_size]; exact hlt)]
    have e4 : (bs (cutText c))[(Lib.decDigits a).length]'(by rw [bs_size]; exact hlt) = mark c.f1 := by
      have h5 := Lib.data_getElem? (bs (cutText c)) (Lib.decDigits a).length (by rw [bs_size]; exact hlt)
      rw [bs_data] at h5
      have h6 : (cutText c)[(Lib.decDigits a).length]? = some (mark c.f1) := by rw [ht, List.getElem?_append_right (Nat.le_refl _), Nat.sub_self, List.getElem?_cons_zero]
      exact Option.some.inj (h5.symm.trans h6)
    rw [e4]
    cases c.f1 <;> rfl
  rw [goI, bs_data, hi, if_neg (by omega), if_neg (by omega), Int.toNat_natCast, e1, e2, readDec_dec a hA, readDec_dec b hB, if_pos rfl, if_pos rfl, e3]
  congr 3
  rw [← ea, ← eb]
theorem goI_cuts : ∀ (cs : List S50) (acc : List S50), cs.all okCut = true → acc.length + cs.length ≤ 79 → goI (cs.map fun c => bs (cutText c)) acc = some (acc ++ cs)
  | [], acc, _, _ => by simp [goI]
  | c :: cs, acc, h, hl => by
    rw [List.all_cons, Bool.and_eq_true] at h
    rw [List.map_cons, goI_cut c h.1 _ acc (by simp at hl; omega), goI_cuts cs _ h.2 (by simp at hl ⊢; omega)]
    simp
theorem prog_words {cs : List S50} (h0 : cs ≠ []) (hl : cs.length ≤ 79) (h : cs.all okCut = true) : progText cs = Lib.join (cs.map cutText) [32] ∧ cs.map cutText ≠ [] ∧ ∀ x ∈ cs.map cutText, ∀ b ∈ x, b ≠ 32 := by
  refine ⟨if_pos ⟨hl, h⟩, by simpa using h0, fun x hx => ?_⟩
  obtain ⟨c, hc, rfl⟩ := List.mem_map.1 hx
  exact cutText_no (List.all_eq_true.1 h c hc)
theorem prog_ok {cs : List S50} {l : List UInt8} (h : progText cs = l) (h0 : l ≠ []) : cs ≠ [] ∧ cs.length ≤ 79 ∧ cs.all okCut = true := by
  unfold progText at h
  split at h
  · rename_i hh
    refine ⟨fun e => ?_, hh.1, hh.2⟩
    subst e
    exact h0 (by rw [← h]; rfl)
  · exact absurd h.symm h0
theorem readI_of {cs : List S50} {l : List UInt8} (h : progText cs = l) (h0 : l ≠ []) : readI l = (cs, true) := by
  obtain ⟨h1, h2, h3⟩ := prog_ok h h0
  obtain ⟨e1, e2, e3⟩ := prog_words h1 h2 h3
  unfold readI
  rw [if_neg h0, ← h, e1, pieces_join 32 _ e2 e3, List.map_map]
  have := goI_cuts cs [] h3 (by simpa using h2)
  rw [show (bs ∘ cutText) = fun c => bs (cutText c) from rfl, this]
  unfold ends
  simp only [List.nil_append]
  rw [if_pos e1]
/-! What the reference's reading does. -/
def dgs : List UInt8 → Int → Option Int
  | [], n => some n
  | b :: r, n => if (b.toNat : Int) < 48 then none else if (b.toNat : Int) > 57 then none else dgs r (10 * n + ((b.toNat : Int) - 48))
def digitsM (l : List UInt8) : Int × Bool :=
  if l.length < 1 ∨ 10 < l.length then (0, false) else match dgs l 0 with
  | none => (0, false)
  | some n => (n, Lib.decDigits n.toNat == l)
def signedM (l : List UInt8) : Int × Bool :=
  if l.head? = some 45 then (wrap64 (-(digitsM l.tail).1), (digitsM l.tail).2 && decide ((digitsM l.tail).1 > 0)) else digitsM l
def numsM : List (List UInt8) → List Int → List Int × Bool
  | [], acc => (acc, true)
  | x :: r, acc => if (signedM x).2 = true then numsM r (acc ++ [(signedM x).1]) else ([], false)
def byM (w : List UInt8) : UInt8 := if (splA 45 [] w).length = 2 then 45 else 124
def goS : List (List UInt8) → List S50 → Option (List S50)
  | [], acc => some acc
  | w :: ws, acc =>
    if (numsM (splA (byM w) [] w) []).2 = true then
      if (numsM (splA (byM w) [] w) []).1.length = 2 then
        if rd (numsM (splA (byM w) [] w) []).1 0 < 0 then none else if rd (numsM (splA (byM w) [] w) []).1 1 < 0 then none else
        goS ws (acc ++ [⟨rd (numsM (splA (byM w) [] w) []).1 0, byM w == 45, rd (numsM (splA (byM w) [] w) []).1 1⟩])
      else none
    else none
def readS (l : List UInt8) : List S50 × Bool := if l = [] then ([], true) else ends l (goS (splA 32 [] l) [])
theorem dgs_append : ∀ (a b : List UInt8) (n : Int), dgs (a ++ b) n = (dgs a n).bind (fun m => dgs b m)
  | [], b, n => rfl
  | x :: a, b, n => by
    simp only [List.cons_append, dgs]
    split
    · rfl
    · split
      · rfl
      · exact dgs_append a b _
theorem dgs_one (m : Int) {n : Nat} (h : n < 10) : dgs [UInt8.ofNat (48 + n)] m = some (10 * m + n) := by
  have e : ((UInt8.ofNat (48 + n)).toNat : Int) = 48 + n := by rw [UInt8.toNat_ofNat']; omega
  simp only [dgs, e]
  rw [if_neg (by omega), if_neg (by omega)]
  congr 1
  omega
theorem dgs_dec (n : Nat) : dgs (Lib.decDigits n) 0 = some (n : Int) := by
  induction n using Nat.strongRecOn with
  | _ n ih =>
    by_cases h : n < 10
    · rw [dec_small h, dgs_one 0 h]
      simp
    · rw [dec_big h, dgs_append, ih (n / 10) (by omega)]
      simp only [Option.bind_some]
      rw [dgs_one _ (Nat.mod_lt n (by omega : 0 < 10))]
      congr 1
      omega
theorem signedM_dec (n : Nat) (h : n ≤ 20000) : signedM (Lib.decDigits n) = ((n : Int), true) := by
  have hl := dec_len 4 n (by omega)
  have hne := dec_ne n
  have hh : ¬ (Lib.decDigits n).head? = some 45 := fun e => by
    cases hx : Lib.decDigits n with
    | nil => exact hne hx
    | cons b r =>
      rw [hx] at e
      have := dec_no (n := n) (m := 45) (.inr (.inl rfl)) b (by rw [hx]; simp)
      simp at e
      exact this e
  have h1 : 1 ≤ (Lib.decDigits n).length := by
    cases hx : Lib.decDigits n with
    | nil => exact absurd hx hne
    | cons b r => simp
  unfold signedM
  rw [if_neg hh]
  unfold digitsM
  rw [if_neg (by omega), dgs_dec]
  simp
theorem numsM_two (a b : Nat) (ha : a ≤ 20000) (hb : b ≤ 20000) : numsM [Lib.decDigits a, Lib.decDigits b] [] = ([(a : Int), (b : Int)], true) := by
  simp only [numsM, signedM_dec a ha, signedM_dec b hb]
  simp
theorem goS_cut (c : S50) (h : okCut c = true) (ws : List (List UInt8)) (acc : List S50) : goS (cutText c :: ws) acc = goS ws (acc ++ [c]) := by
  obtain ⟨a, b, ea, eb, hA, hB⟩ := okCut_nat h
  have ht := cutText_of ea eb
  have hby : byM (cutText c) = mark c.f1 := by
    unfold byM
    rw [ht]
    cases hf : c.f1 with
    | true =>
      have e : mark true = 45 := rfl
      rw [e, splA_hit 45 _ _ _ (dec_no (.inr (.inl rfl))), splA_none 45 _ _ (dec_no (.inr (.inl rfl)))]
      rfl
    | false =>
      have e : mark false = 124 := rfl
      rw [e, splA_none 45 _ _ (fun x hx => by
        rcases List.mem_append.1 hx with h1 | h1
        · exact dec_no (.inr (.inl rfl)) x h1
        · rcases List.mem_cons.1 h1 with h2 | h2
          · rw [h2]; decide
          · exact dec_no (.inr (.inl rfl)) x h2)]
      rfl
  have hm : mark c.f1 = 32 ∨ mark c.f1 = 45 ∨ mark c.f1 = 124 := .inr (mark_cases c.f1)
  have hs : splA (mark c.f1) [] (cutText c) = [Lib.decDigits a, Lib.decDigits b] := by
    rw [ht, splA_hit _ _ _ _ (dec_no hm), splA_none _ _ _ (dec_no hm)]
    simp
  have hk : (mark c.f1 == 45) = c.f1 := by cases c.f1 <;> rfl
  rw [goS, hby, hs, numsM_two a b hA hB, hk]
  have r0 : rd ([(a : Int), (b : Int)], true).1 0 = a := rfl
  have r1 : rd ([(a : Int), (b : Int)], true).1 1 = b := rfl
  rw [if_pos rfl, if_pos (show ([(a : Int), (b : Int)], true).1.length = 2 from rfl), r0, r1, if_neg (by omega), if_neg (by omega)]
  congr 3
  rw [← ea, ← eb]
theorem goS_cuts : ∀ (cs : List S50) (acc : List S50), cs.all okCut = true → goS (cs.map cutText) acc = some (acc ++ cs)
  | [], acc, _ => by simp [goS]
  | c :: cs, acc, h => by
    rw [List.all_cons, Bool.and_eq_true] at h
    rw [List.map_cons, goS_cut c h.1, goS_cuts cs _ h.2]
    simp
theorem readS_of {cs : List S50} {l : List UInt8} (h : progText cs = l) (h0 : l ≠ []) : readS l = (cs, true) := by
  obtain ⟨h1, h2, h3⟩ := prog_ok h h0
  obtain ⟨e1, e2, e3⟩ := prog_words h1 h2 h3
  unfold readS
  rw [if_neg h0, ← h, e1, splA_join 32 _ e2 e3, goS_cuts cs [] h3]
  unfold ends
  simp only [List.nil_append]
  rw [if_pos e1]
theorem ends_ok {l : List UInt8} {o : Option (List S50)} : ends l o = ([], false) ∨ ∃ cs, progText cs = l ∧ ends l o = (cs, true) := by
  cases o with
  | none => exact .inl rfl
  | some out =>
    unfold ends
    by_cases h : progText out = l
    · exact .inr ⟨out, h, if_pos h⟩
    · exact .inl (if_neg h)
theorem read_same (l : List UInt8) : readI l = readS l := by
  by_cases h0 : l = []
  · unfold readI readS
    rw [if_pos h0, if_pos h0]
  · have hI : readI l = ends l (goI (HandR.pieces (bs l) (bs [32])) []) := if_neg h0
    have hS : readS l = ends l (goS (splA 32 [] l) []) := if_neg h0
    rcases ends_ok (l := l) (o := goS (splA 32 [] l) []) with e | ⟨cs, hc, _⟩
    · rcases ends_ok (l := l) (o := goI (HandR.pieces (bs l) (bs [32])) []) with e2 | ⟨cs, hc, _⟩
      · rw [hI, hS, e, e2]
      · rw [readI_of hc h0, readS_of hc h0]
    · rw [readI_of hc h0, readS_of hc h0]
theorem readS_len (l : List UInt8) : (readS l).1.length ≤ 79 := by
  by_cases h0 : l = []
  · unfold readS
    rw [if_pos h0]
    simp
  · have hS : readS l = ends l (goS (splA 32 [] l) []) := if_neg h0
    rcases ends_ok (l := l) (o := goS (splA 32 [] l) []) with e | ⟨cs, hc, e⟩
    · rw [hS, e]; simp
    · rw [hS, e]; exact (prog_ok hc h0).2.1

/-- The pieces after cuts, one after another. -/
def runL : List S25 → List S50 → List S25 × Int
  | l, [] => (l, 0)
  | l, c :: cs => if possible l c.f0 c.f1 c.f2 = true then runL (cutP l c.f0 c.f1 c.f2) cs else ([], 5)
theorem runL_len : ∀ (cs : List S50) (l : List S25), arePieces l = true → (runL l cs).1.length ≤ 80
  | [], l, h => by rw [runL]; exact (arePieces_true h).1
  | c :: cs, l, h => by
    rw [runL]
    split
    · rename_i hp
      exact runL_len cs _ (cutP_ok h hp)
    · simp
def runCuts (a b : Int) (cs : List S50) : List S25 × Int :=
  if isPiece a b = true then (if (cs.length : Int) > 79 then ([], 3) else runL [⟨a, b⟩] cs) else ([], 1)
theorem are_one {a b : Int} (h : isPiece a b = true) : arePieces [(⟨a, b⟩ : S25)] = true := by
  simp [arePieces, h]
theorem runCuts_len (a b : Int) (cs : List S50) : (runCuts a b cs).1.length ≤ 80 := by
  unfold runCuts
  split
  · rename_i h
    split
    · simp
    · exact runL_len cs _ (are_one h)
  · simp

def cntP (a b : Int) : List S25 → Int
  | [] => 0
  | x :: xs => (if (x.f0 == a && (x.f1 == b)) = true then 1 else 0) + cntP a b xs
def countPieces (l : List S25) (a b : Int) : Int × Int := if (arePieces l && isPiece a b) = true then (cntP a b l, 0) else (0, 1)

def area : List S25 → Int
  | [] => 0
  | x :: xs => x.f0 * x.f1 + area xs
theorem area_app : ∀ xs ys : List S25, area (xs ++ ys) = area xs + area ys
  | [], ys => by simp [area]
  | x :: xs, ys => by rw [List.cons_append, area, area, area_app xs ys]; omega
theorem prod_bd {a b : Int} (h1 : 1 ≤ a) (h2 : a ≤ 20000) (h3 : 1 ≤ b) (h4 : b ≤ 20000) : 0 ≤ a * b ∧ a * b ≤ 400000000 := by
  refine ⟨Int.mul_nonneg (by omega) (by omega), ?_⟩
  have := Int.mul_le_mul (a := a) (b := b) (c := 20000) (d := 20000) h2 h4 (by omega) (by omega)
  omega
theorem warea_eq : ∀ (xs : List S25) (a : Int), (∀ x ∈ xs, (1 ≤ x.f0 ∧ x.f0 ≤ 20000) ∧ (1 ≤ x.f1 ∧ x.f1 ≤ 20000)) → 0 ≤ a → a + 400000000 * xs.length ≤ 1000000000000 → warea a xs = a + area xs
  | [], a, _, _, _ => by simp [warea, area]
  | x :: xs, a, h, h0, h1 => by
    have hx := h x (by simp)
    have hp := prod_bd hx.1.1 hx.1.2 hx.2.1 hx.2.2
    rw [List.length_cons] at h1
    have e : warea a (x :: xs) = warea (wrap64 (a + wrap64 (x.f0 * x.f1))) xs := rfl
    rw [e, w64 (x := x.f0 * x.f1) (by omega) (by omega), w64 (by omega) (by omega), warea_eq xs _ (fun y hy => h y (by simp [hy])) (by omega) (by omega), area]
    omega
theorem areaOf_ok {l : List S25} (h : arePieces l = true) : areaOf l = (area l, 0) := by
  obtain ⟨h1, h2⟩ := arePieces_true h
  unfold areaOf
  rw [if_pos h, warea_eq l 0 h2 (by omega) (by omega), Int.zero_add]
theorem area_cut {l : List S25} {i : Int} {acr : Bool} {at_ : Int} (h0 : 0 ≤ i) (h1 : i < (l.length : Int)) : area (cutP l i acr at_) = area l := by
  obtain ⟨n, rfl⟩ : ∃ n : Nat, i = n := ⟨i.toNat, by omega⟩
  have hlt : n < l.length := by omega
  have e : area l = area (l.take n) + (l[n].f0 * l[n].f1 + area (l.drop (n + 1))) := by
    have := congrArg area (List.take_append_drop n l)
    rw [dropIPiece l n hlt, area_app, area] at this
    exact this.symm
  unfold cutP
  rw [Int.toNat_natCast, rdIPiece l n hlt, e, area_app, area_app]
  cases acr
  · simp only [Bool.false_eq_true, if_false, area]
    rw [Int.sub_mul]
    omega
  · simp only [if_true, area]
    rw [Int.mul_sub]
    omega
theorem runL_law : ∀ (cs : List S50) (l : List S25), arePieces l = true → (runL l cs).2 = 0 → area (runL l cs).1 = area l ∧ (runL l cs).1.length = l.length + cs.length ∧ arePieces (runL l cs).1 = true
  | [], l, h, _ => by rw [runL]; exact ⟨rfl, by simp, h⟩
  | c :: cs, l, h, hz => by
    rw [runL] at hz ⊢
    by_cases hp : possible l c.f0 c.f1 c.f2 = true
    · rw [if_pos hp] at hz ⊢
      obtain ⟨⟨h0, h1⟩, _⟩ := possible_true hp
      obtain ⟨r1, r2, r3⟩ := runL_law cs _ (cutP_ok h hp) hz
      refine ⟨by rw [r1, area_cut h0 h1], ?_, r3⟩
      rw [r2, cutP_len h0 h1, List.length_cons]
      omega
    · rw [if_neg hp] at hz
      simp at hz
theorem makeCut_zero {l : List S25} {i : Int} {acr : Bool} {at_ : Int} : (makeCut l i acr at_).2 = 0 ↔ (arePieces l && possible l i acr at_) = true := by
  unfold makeCut
  by_cases h : arePieces l = true
  · by_cases h2 : possible l i acr at_ = true
    · simp [h, h2]
    · simp [h, h2]
  · simp [h]
theorem runCuts_zero {a b : Int} {cs : List S50} (h : (runCuts a b cs).2 = 0) : isPiece a b = true ∧ area (runCuts a b cs).1 = a * b ∧ (runCuts a b cs).1.length = cs.length + 1 ∧ arePieces (runCuts a b cs).1 = true := by
  unfold runCuts at h ⊢
  by_cases hp : isPiece a b = true
  · rw [if_pos hp] at h ⊢
    by_cases hc : (cs.length : Int) > 79
    · rw [if_pos hc] at h
      simp at h
    · rw [if_neg hc] at h ⊢
      obtain ⟨r1, r2, r3⟩ := runL_law cs _ (are_one hp) h
      refine ⟨hp, by rw [r1]; simp [area], by rw [r2]; simp; omega, r3⟩
  · rw [if_neg hp] at h
    simp at h

/-- The cuts of a grid as lists. -/
def vCuts (qw : Int) : Nat → Nat → List S50
  | 0, _ => []
  | d + 1, i => ⟨(i : Int), false, qw⟩ :: vCuts qw d (i + 1)
def hCuts (qh : Int) : Nat → Nat → List S50
  | 0, _ => []
  | d + 1, b => ⟨(b : Int), true, qh⟩ :: hCuts qh d (b + 1)
def hAll (qh : Int) (r : Nat) : Nat → Nat → List S50
  | 0, _ => []
  | d + 1, i => hCuts qh r (i * (r + 1)) ++ hAll qh r d (i + 1)
theorem g0_list (qw : Int) : ∀ (d i : Nat) (acc : List S50), g0 qw d (i : Int) acc = acc ++ vCuts qw d i
  | 0, i, acc => by simp [g0, vCuts]
  | d + 1, i, acc => by
    have := g0_list qw d (i + 1) (acc ++ [⟨(i : Int), false, qw⟩])
    rw [g0, vCuts, show (i : Int) + 1 = ((i + 1 : Nat) : Int) by omega, this]
    simp
theorem g2_list (qh : Int) (r i : Nat) : ∀ (d j : Nat) (acc : List S50), g2 (r : Int) (i : Int) qh d (j : Int) acc = acc ++ hCuts qh d (i * (r + 1) + j)
  | 0, j, acc => by simp [g2, hCuts]
  | d + 1, j, acc => by
    have := g2_list qh r i d (j + 1) (acc ++ [⟨(i : Int) * ((r : Int) + 1) + (j : Int), true, qh⟩])
    rw [g2, hCuts, show (j : Int) + 1 = ((j + 1 : Nat) : Int) by omega, this]
    have e : (((i * (r + 1) + j : Nat)) : Int) = (i : Int) * ((r : Int) + 1) + (j : Int) := by rw [Int.natCast_add, Int.natCast_mul]; rfl
    rw [e, show i * (r + 1) + (j + 1) = i * (r + 1) + j + 1 by omega]
    simp
theorem g1_list (qh : Int) (r : Nat) : ∀ (d i : Nat) (acc : List S50), g1 (r : Int) qh d (i : Int) acc = acc ++ hAll qh r d i
  | 0, i, acc => by simp [g1, hAll]
  | d + 1, i, acc => by
    have h2 := g2_list qh r i r 0 acc
    have := g1_list qh r d (i + 1) (acc ++ hCuts qh r (i * (r + 1)))
    rw [Int.natCast_zero, Nat.add_zero] at h2
    rw [g1, hAll, Int.toNat_natCast, h2, show (i : Int) + 1 = ((i + 1 : Nat) : Int) by omega, this]
    simp
theorem runL_app : ∀ (xs ys : List S50) (l m : List S25), runL l xs = (m, 0) → runL l (xs ++ ys) = runL m ys
  | [], ys, l, m, h => by
    rw [runL] at h
    rw [List.nil_append, (Prod.mk.inj h).1]
  | c :: xs, ys, l, m, h => by
    rw [runL] at h
    rw [List.cons_append, runL]
    by_cases hp : possible l c.f0 c.f1 c.f2 = true
    · rw [if_pos hp] at h
      rw [if_pos hp]
      exact runL_app xs ys _ _ h
    · rw [if_neg hp] at h
      exact absurd (Prod.mk.inj h).2 (by decide)
theorem mid_rd (A B : List S25) (p : S25) : rd_T25 (A ++ p :: B) (A.length : Int) = p := by
  rw [rdIPiece _ _ (by simp)]
  simp
theorem mid_cut (A B : List S25) (p : S25) (acr : Bool) (at_ : Int) : cutP (A ++ p :: B) (A.length : Int) acr at_ = A ++ ((if acr = true then [⟨p.f0, at_⟩, ⟨p.f0, p.f1 - at_⟩] else [⟨at_, p.f1⟩, ⟨p.f0 - at_, p.f1⟩]) ++ B) := by
  unfold cutP
  rw [mid_rd, Int.toNat_natCast, List.take_left, ← List.drop_drop, List.drop_left]
  rfl
theorem mid_possible (A B : List S25) (p : S25) (acr : Bool) (at_ : Int) (h1 : A.length + B.length + 1 < 80) (h2 : 1 ≤ at_) (h3 : at_ + 1 ≤ (if acr = true then p.f1 else p.f0)) : possible (A ++ p :: B) (A.length : Int) acr at_ = true := by
  unfold possible sideOf
  rw [mid_rd, inR_mk (by omega) (by simp; omega), inR_mk h2 (by omega)]
  simp
  omega
theorem rep_snoc (n : Nat) (x : S25) (B : List S25) : List.replicate n x ++ x :: B = List.replicate (n + 1) x ++ B := by
  rw [List.replicate_succ', List.append_assoc]
  rfl
theorem runV (pw ph qw : Int) (c : Nat) (hq : 1 ≤ qw) (hc : c ≤ 79) (hw : ∀ k : Nat, k < c → ((k : Int) + 1) * qw + 1 ≤ pw) : ∀ (d k : Nat), k + d = c →
    runL (List.replicate k ⟨qw, ph⟩ ++ [⟨pw - k * qw, ph⟩]) (vCuts qw d k) = (List.replicate c ⟨qw, ph⟩ ++ [⟨pw - c * qw, ph⟩], 0)
  | 0, k, h => by
    obtain rfl : k = c := by omega
    rfl
  | d + 1, k, h => by
    have e := hw k (by omega)
    rw [Int.add_mul, Int.one_mul] at e
    have hp := mid_possible (List.replicate k ⟨qw, ph⟩) [] ⟨pw - k * qw, ph⟩ false qw (by simp; omega) hq (by simp only [Bool.false_eq_true, if_false]; omega)
    have hcut := mid_cut (List.replicate k ⟨qw, ph⟩) [] ⟨pw - k * qw, ph⟩ false qw
    rw [List.length_replicate] at hp hcut
    rw [vCuts, runL]
    simp only
    rw [if_pos hp, hcut]
    simp only [Bool.false_eq_true, if_false, List.append_nil]
    rw [rep_snoc, show pw - (k : Int) * qw - qw = pw - ((k + 1 : Nat) : Int) * qw by rw [Int.natCast_add, Int.add_mul]; simp; omega]
    exact runV pw ph qw c hq hc hw d (k + 1) (by omega)
theorem runH (ph qw qh : Int) (r : Nat) (hq : 1 ≤ qh) (hh : ∀ j : Nat, j < r → ((j : Int) + 1) * qh + 1 ≤ ph) (A B : List S25) (hl : A.length + r + B.length < 80) : ∀ (d j : Nat), j + d = r →
    runL (A ++ (List.replicate j ⟨qw, qh⟩ ++ ⟨qw, ph - j * qh⟩ :: B)) (hCuts qh d (A.length + j)) = (A ++ (List.replicate r ⟨qw, qh⟩ ++ ⟨qw, ph - r * qh⟩ :: B), 0)
  | 0, j, h => by
    obtain rfl : j = r := by omega
    rfl
  | d + 1, j, h => by
    have e := hh j (by omega)
    rw [Int.add_mul, Int.one_mul] at e
    have hp := mid_possible (A ++ List.replicate j ⟨qw, qh⟩) B ⟨qw, ph - j * qh⟩ true qh (by simp; omega) hq (by simp only [if_true]; omega)
    have hcut := mid_cut (A ++ List.replicate j ⟨qw, qh⟩) B ⟨qw, ph - j * qh⟩ true qh
    rw [List.length_append, List.length_replicate, List.append_assoc] at hp hcut
    rw [hCuts, runL]
    simp only
    rw [if_pos hp, hcut]
    simp only [if_true, List.append_assoc, List.cons_append, List.nil_append]
    rw [rep_snoc, show ph - (j : Int) * qh - qh = ph - ((j + 1 : Nat) : Int) * qh by rw [Int.natCast_add, Int.add_mul]; simp; omega]
    exact runH ph qw qh r hq hh A B hl d (j + 1) (by omega)
/-- A column, cut. -/
def column (ph qw qh : Int) (r : Nat) : List S25 := List.replicate r ⟨qw, qh⟩ ++ [⟨qw, ph - r * qh⟩]
def columns (ph qw qh : Int) (r : Nat) : Nat → List S25
  | 0 => []
  | d + 1 => column ph qw qh r ++ columns ph qw qh r d
theorem runAll (ph qw qh : Int) (r a : Nat) (hq : 1 ≤ qh) (hh : ∀ j : Nat, j < r → ((j : Int) + 1) * qh + 1 ≤ ph) (R : List S25) (hl : a * r + a + R.length ≤ 80) : ∀ (d i : Nat) (A : List S25), i + d = a → A.length = i * (r + 1) →
    runL (A ++ (List.replicate d ⟨qw, ph⟩ ++ R)) (hAll qh r d i) = (A ++ (columns ph qw qh r d ++ R), 0)
  | 0, i, A, _, _ => rfl
  | d + 1, i, A, hi, hA => by
    have hm : (i + 1) * r ≤ a * r := Nat.mul_le_mul_right r (by omega)
    have e1 : i * (r + 1) = i * r + i := Nat.mul_succ i r
    have e2 : (i + 1) * r = i * r + r := Nat.succ_mul i r
    have h1 := runH ph qw qh r hq hh A (List.replicate d ⟨qw, ph⟩ ++ R) (by simp; omega) r 0 (by omega)
    have e3 : ph - ((0 : Nat) : Int) * qh = ph := by simp
    rw [e3, List.replicate_zero, List.nil_append, Nat.add_zero, hA] at h1
    rw [hAll, List.replicate_succ, List.cons_append, runL_app _ _ _ _ h1]
    have h2 := runAll ph qw qh r a hq hh R hl d (i + 1) (A ++ column ph qw qh r) (by omega) (by simp [column]; rw [Nat.succ_mul]; omega)
    have e4 : A ++ (List.replicate r ⟨qw, qh⟩ ++ ⟨qw, ph - r * qh⟩ :: (List.replicate d ⟨qw, ph⟩ ++ R)) = A ++ column ph qw qh r ++ (List.replicate d ⟨qw, ph⟩ ++ R) := by simp [column]
    rw [e4, h2, columns]
    simp
theorem cntP_app (x y : Int) : ∀ l m : List S25, cntP x y (l ++ m) = cntP x y l + cntP x y m
  | [], m => by simp [cntP]
  | p :: l, m => by rw [List.cons_append, cntP, cntP, cntP_app x y l m]; omega
theorem cntP_ge (x y : Int) : ∀ l : List S25, 0 ≤ cntP x y l ∧ cntP x y l ≤ l.length
  | [] => by simp [cntP]
  | p :: l => by
    have := cntP_ge x y l
    rw [cntP]
    simp only [List.length_cons]
    split <;> omega
theorem cntP_rep (x y : Int) : ∀ n : Nat, cntP x y (List.replicate n ⟨x, y⟩) = n
  | 0 => rfl
  | n + 1 => by
    rw [List.replicate_succ, cntP, cntP_rep x y n]
    simp
    omega
theorem cnt_columns (ph qw qh : Int) (r c : Nat) (h : c ≤ r ∨ (c = r + 1 ∧ ph - r * qh = qh)) : ∀ d : Nat, (d : Int) * c ≤ cntP qw qh (columns ph qw qh r d)
  | 0 => by simp [columns, cntP]
  | d + 1 => by
    have ih := cnt_columns ph qw qh r c h d
    have h1 : (c : Int) ≤ cntP qw qh (column ph qw qh r) := by
      unfold column
      rw [cntP_app, cntP_rep]
      rcases h with h | ⟨h, e⟩
      · have := (cntP_ge qw qh [⟨qw, ph - r * qh⟩]).1
        omega
      · rw [e]
        have := cntP_rep qw qh 1
        simp at this
        omega
    rw [columns, cntP_app, Int.natCast_add, Int.add_mul]
    simp
    omega
/-- A program for a grid leaves as many pieces as it should. -/
theorem grid_law (pw ph a c qw qh : Int) (h : (gridCuts pw ph a c qw qh).2 = 0) :
    ∃ l, runCuts pw ph (gridCuts pw ph a c qw qh).1 = (l, 0) ∧ arePieces l = true ∧ isPiece qw qh = true ∧ l.length ≤ 80 ∧ a * c ≤ cntP qw qh l ∧ (1 ≤ a ∧ a ≤ 80) ∧ (1 ≤ c ∧ c ≤ 80) := by
  have hlen := gridCuts_len pw ph a c qw qh
  unfold gridCuts at h hlen ⊢
  by_cases h1 : (isPiece pw ph && isPiece qw qh) = true
  · rw [if_pos h1] at h hlen ⊢
    by_cases h2 : (inR a 1 80 && inR c 1 80) = true
    · rw [if_pos h2] at h hlen ⊢
      by_cases h3 : colsOf a pw qw + a * colsOf c ph qh > 79
      · rw [if_pos h3] at h; exact absurd h (by decide)
      · rw [if_neg h3] at h hlen ⊢
        by_cases h4 : a * qw > pw ∨ c * qh > ph
        · rw [if_pos h4] at h; exact absurd h (by decide)
        · rw [if_neg h4] at hlen ⊢
          simp only [Bool.and_eq_true] at h1 h2
          have ha := inR_true h2.1
          have hcc := inR_true h2.2
          have hp := isPiece_true h1.1
          have hq := isPiece_true h1.2
          have b1 := colsOf_bd (pw := pw) (qw := qw) h2.1
          have b2 := colsOf_bd (pw := ph) (qw := qh) h2.2
          obtain ⟨A, hA⟩ : ∃ A : Nat, a = A := ⟨a.toNat, by omega⟩
          obtain ⟨C, hC⟩ : ∃ C : Nat, c = C := ⟨c.toNat, by omega⟩
          obtain ⟨n, hn⟩ : ∃ n : Nat, colsOf a pw qw = n := ⟨(colsOf a pw qw).toNat, by omega⟩
          obtain ⟨r, hr⟩ : ∃ r : Nat, colsOf c ph qh = r := ⟨(colsOf c ph qh).toNat, by omega⟩
          have hw0 : a * qw ≤ pw := by omega
          have hh0 : c * qh ≤ ph := by omega
          -- where the last column, the last row stand
          have cw : (n = A ∧ a * qw < pw) ∨ (A = n + 1 ∧ a * qw = pw) := by
            unfold colsOf at hn
            split at hn <;> omega
          have ch : (r = C ∧ c * qh < ph) ∨ (C = r + 1 ∧ c * qh = ph) := by
            unfold colsOf at hr
            split at hr <;> omega
          have room : n + A * r ≤ 79 := by
            have e : ((A * r : Nat) : Int) = a * colsOf c ph qh := by rw [Int.natCast_mul, ← hA, ← hr]
            omega
          have fitw : ∀ k : Nat, k < n → ((k : Int) + 1) * qw + 1 ≤ pw := fun k hk => by
            rcases cw with ⟨e, e2⟩ | ⟨e, e2⟩
            · have : ((k : Int) + 1) * qw ≤ a * qw := Int.mul_le_mul_of_nonneg_right (by omega) (by omega)
              omega
            · have : ((k : Int) + 1 + 1) * qw ≤ a * qw := Int.mul_le_mul_of_nonneg_right (by omega) (by omega)
              rw [Int.add_mul, Int.one_mul] at this
              omega
          have fith : ∀ k : Nat, k < r → ((k : Int) + 1) * qh + 1 ≤ ph := fun k hk => by
            rcases ch with ⟨e, e2⟩ | ⟨e, e2⟩
            · have : ((k : Int) + 1) * qh ≤ c * qh := Int.mul_le_mul_of_nonneg_right (by omega) (by omega)
              omega
            · have : ((k : Int) + 1 + 1) * qh ≤ c * qh := Int.mul_le_mul_of_nonneg_right (by omega) (by omega)
              rw [Int.add_mul, Int.one_mul] at this
              omega
          -- the vertical cuts
          have hV := runV pw ph qw n (by omega) (by omega) fitw n 0 (by omega)
          have e0 : pw - ((0 : Nat) : Int) * qw = pw := by simp
          rw [e0, List.replicate_zero, List.nil_append] at hV
          obtain ⟨R, hR, hRl⟩ : ∃ R : List S25, List.replicate n (⟨qw, ph⟩ : S25) ++ [⟨pw - n * qw, ph⟩] = List.replicate A ⟨qw, ph⟩ ++ R ∧ A + R.length = n + 1 := by
            rcases cw with ⟨e, e2⟩ | ⟨e, e2⟩
            · exact ⟨[⟨pw - n * qw, ph⟩], by rw [e], by simp; omega⟩
            · refine ⟨[], ?_, by simp; omega⟩
              have e3 : pw - (n : Int) * qw = qw := by
                rw [← e2, hA, e, Int.natCast_add, Int.add_mul]
                simp
                omega
              rw [e3, e, List.append_nil, List.replicate_succ']
          rw [hR] at hV
          have e5 : A * r + A + R.length ≤ 80 := by omega
          have hH := runAll ph qw qh r A (by omega) fith R e5 A 0 [] (by omega) (by simp)
          rw [List.nil_append, List.nil_append] at hH
          have hg : g1 (colsOf c ph qh) qh a.toNat 0 (g0 qw (colsOf a pw qw).toNat 0 []) = vCuts qw n 0 ++ hAll qh r A 0 := by
            have k0 := g0_list qw n 0 []
            have k1 := g1_list qh r A 0 (vCuts qw n 0)
            rw [Int.natCast_zero, List.nil_append] at k0
            rw [Int.natCast_zero] at k1
            rw [hn, hr, hA, Int.toNat_natCast, Int.toNat_natCast, k0, k1]
          have hrun : runL [⟨pw, ph⟩] (vCuts qw n 0 ++ hAll qh r A 0) = (columns ph qw qh r A ++ R, 0) := by
            rw [runL_app _ _ _ _ hV, hH]
          have hrc : runCuts pw ph (g1 (colsOf c ph qh) qh a.toNat 0 (g0 qw (colsOf a pw qw).toNat 0 [])) = (columns ph qw qh r A ++ R, 0) := by
            unfold runCuts
            rw [if_pos h1.1, if_neg (by simp only at hlen; omega), hg, hrun]
          have hz := runCuts_zero (a := pw) (b := ph) (cs := g1 (colsOf c ph qh) qh a.toNat 0 (g0 qw (colsOf a pw qw).toNat 0 [])) (by rw [hrc])
          rw [hrc] at hz
          refine ⟨_, hrc, hz.2.2.2, h1.2, (arePieces_true hz.2.2.2).1, ?_, ha, hcc⟩
          have hcnt := cnt_columns ph qw qh r C (by
            rcases ch with ⟨e, e2⟩ | ⟨e, e2⟩
            · exact .inl (by omega)
            · refine .inr ⟨e, ?_⟩
              rw [← e2, hC, e, Int.natCast_add, Int.add_mul]
              simp
              omega) A
          rw [cntP_app, hA, hC]
          have := (cntP_ge qw qh R).1
          omega
    · rw [if_neg h2] at h; exact absurd h (by decide)
  · rw [if_neg h1] at h; exact absurd h (by decide)

theorem laws_big_eq (l : List Int) : laws_big.f l = some (decide ((l.length : Int) > 4096)) := rfl

theorem spec_l01From_l0 (c : List Int) (hc : Code c) : ∀ (d k i : Nat) (l : List Int) (a s : Int), i + d = c.length → d < k → 0 ≤ a → 0 ≤ s → s < 2147483647 → ∃ q, spec_l01From.l0 k c (i : Int) l a s = some (l, q) ∧ SOk q := by
  intro d
  have hl := hc.2
  induction d with
  | zero =>
    intro k i l a s h hk ha h0 h1
    obtain ⟨k, rfl⟩ : ∃ m, k = m + 1 := ⟨k - 1, by omega⟩
    rw [spec_l01From.l0, if_neg (by omega)]
    exact ⟨(a, s), rfl, ha, h0, h1⟩
  | succ d ih =>
    intro k i l a s h hk ha h0 h1
    obtain ⟨k, rfl⟩ : ∃ m, k = m + 1 := ⟨k - 1, by omega⟩
    rw [spec_l01From.l0, if_pos (by omega)]
    by_cases h64 : (i : Int) < 64
    · have hb := rd_byte hc (i := (i : Int)) (by omega) (by omega)
      rw [if_pos h64, if_pos (by omega), w64 (x := (i : Int) + 1) (by omega) (by omega), w64 (x := rd c (i : Int)) (by omega) (by omega), w64 (x := s * 71) (by omega) (by omega), w64 (x := s * 71 + rd c (i : Int)) (by omega) (by omega), tmod_n (by omega)]
      exact ih k (i + 1) l a _ (by omega) (by omega) ha (by omega) (by omega)
    · rw [if_neg h64]
      exact ⟨(a, s), rfl, ha, h0, h1⟩
theorem from_ok {c : List Int} (hc : Code c) {k : Nat} (hk : c.length < k) : ∃ p, spec_l01From.f k c = some p ∧ p.1 = c ∧ SOk p.2 := by
  obtain ⟨q, e, h⟩ := spec_l01From_l0 c hc c.length k 0 c 0 88007 (by omega) hk (by omega) (by omega) (by omega)
  exact ⟨(c, q), e, rfl, h⟩

theorem next_ok {c : List Int} (hc : Code c) {q : Int × Int} (hq : SOk q) (n : Int) : ∃ p, spec_l01Next.f c q.1 q.2 n = some p ∧ SOk p.2 ∧ 0 ≤ p.1 ∧ (p.1 < n ∨ p.1 = 0) := by
  obtain ⟨a, s⟩ := q
  obtain ⟨ha, h0, h1⟩ := hq
  have hl := hc.2
  simp only at ha h0 h1
  unfold spec_l01Next.f
  simp only
  by_cases hn : n ≤ 1
  · rw [if_pos hn]
    exact ⟨_, rfl, ⟨ha, h0, h1⟩, by simp, .inr rfl⟩
  rw [if_neg hn, w64 (x := s * 48271) (by omega) (by omega), w64 (x := s * 48271 + 61) (by omega) (by omega), tmod_n (a := s * 48271 + 61) (by omega)]
  have hS : 0 ≤ (s * 48271 + 61) % 2147483647 ∧ (s * 48271 + 61) % 2147483647 < 2147483647 := by omega
  generalize (s * 48271 + 61) % 2147483647 = S at hS
  rw [tdiv_n (a := S) (by omega)]
  have hm : ∀ x : Int, 0 ≤ x → 0 ≤ Int.tmod x n ∧ Int.tmod x n < n := fun x hx => by
    rw [tmod_n hx]
    exact ⟨Int.emod_nonneg _ (by omega), Int.emod_lt_of_pos _ (by omega)⟩
  by_cases hlt : a < (c.length : Int)
  · have hb := rd_byte hc ha hlt
    rw [if_pos hlt, if_pos ha, w64 (x := a + 1) (by omega) (by omega), w64 (x := a + 1 - 1) (by omega) (by omega), show a + 1 - 1 = a by omega, w64 (x := rd c a) (by omega) (by omega), w64 (x := S / 31) (by omega) (by omega), w64 (x := S / 31 + rd c a) (by omega) (by omega)]
    have g1 := hm (rd c a) hb.1
    have g2 := hm (S / 31 + rd c a) (by omega)
    split
    · split
      · rw [if_neg (by omega)]
        exact ⟨_, rfl, ⟨by simp only; omega, hS.1, hS.2⟩, g1.1, .inl g1.2⟩
      · rw [if_neg (by omega)]
        exact ⟨_, rfl, ⟨by simp only; omega, hS.1, hS.2⟩, g2.1, .inl g2.2⟩
    · rw [if_neg (by omega)]
      exact ⟨_, rfl, ⟨by simp only; omega, hS.1, hS.2⟩, g2.1, .inl g2.2⟩
  · have g3 := hm (S / 31) (by omega)
    rw [if_neg hlt, if_neg (by omega), w64 (x := S / 31) (by omega) (by omega)]
    exact ⟨_, rfl, ⟨ha, hS.1, hS.2⟩, g3.1, .inl g3.2⟩

theorem pick_ok {c : List Int} (hc : Code c) {q : Int × Int} (hq : SOk q) (l : List Int) (hl : 0 < l.length) : ∃ p, spec_l01Pick.f c q.1 q.2 l = some p ∧ SOk p.2 ∧ p.1 ∈ l := by
  unfold spec_l01Pick.f
  obtain ⟨p, e, h1, h2, h3⟩ := next_ok hc hq (l.length : Int)
  rw [e]
  simp only [Option.bind_some]
  have h4 : p.1 < (l.length : Int) := by omega
  rw [if_pos h2, if_pos h4]
  refine ⟨_, rfl, h1, ?_⟩
  simp only
  obtain ⟨n, hn⟩ : ∃ n : Nat, p.1 = n := ⟨p.1.toNat, by omega⟩
  have hn2 : n < l.length := by omega
  have e2 : rd l (n : Int) = l[n] := by rw [rd_nat, List.getD_eq_getElem?_getD, List.getElem?_eq_getElem hn2]; rfl
  rw [hn, e2]
  exact List.getElem_mem hn2

theorem DrawGridCuts_ok {c : List Int} (hc : Code c) {k : Nat} (hk : c.length < k) : ∃ p, spec_DrawGridCuts.f k c = some p ∧ True := by
  obtain ⟨k, rfl⟩ : ∃ m, k = m + 1 := ⟨k - 1, by omega⟩
  unfold spec_DrawGridCuts.f
  refine bind_ok (from_ok hc hk) fun p hp => ?_
  rw [hp.1]
  refine bind_ok (next_ok hc hp.2 20) fun q1 h1 => bind_ok (next_ok hc h1.1 20) fun q2 h2 => bind_ok (next_ok hc h2.1 5) fun q3 h3 => bind_ok (next_ok hc h3.1 5) fun q4 h4 => ?_
  refine bind_ok (next_ok hc h4.1 10) fun q5 h5 => bind_ok (pick_ok hc h5.1 _ (by simp)) fun q6 h6 => bind_ok (next_ok hc h6.1 10) fun q7 h7 => bind_ok (pick_ok hc h7.1 _ (by simp)) fun q8 h8 => ?_
  refine bind_ok (next_ok hc h8.1 24) fun q9 h9 => ite_ok (fun _ => ?_) (fun _ => ite_ok (fun _ => ?_) (fun _ => ite_ok (fun _ => ?_) (fun _ => ?_)))
  · rw [spec_DrawGridCuts.j0]
    exact ⟨_, rfl, trivial⟩
  · refine bind_ok (pick_ok hc h9.1 _ (by simp)) fun q10 _ => ?_
    rw [spec_DrawGridCuts.j0]
    exact ⟨_, rfl, trivial⟩
  · exact bind_ok (pick_ok hc h9.1 _ (by simp)) fun q10 h10 => bind_ok (pick_ok hc h10.1 _ (by simp)) fun q11 _ => ⟨_, rfl, trivial⟩
  · rw [spec_DrawGridCuts.j0]
    exact ⟨_, rfl, trivial⟩

theorem impl_inRange_eq (a b c : Int) : impl_inRange.f a b c = some (inR a b c) := by
  unfold impl_inRange.f inR
  by_cases h : b ≤ a
  · rw [if_pos h]; simp [h]
  · rw [if_neg h]; simp [h]

theorem impl_IsPiece_eq (a b : Int) : impl_IsPiece.f a b = some (isPiece a b) := by
  unfold impl_IsPiece.f isPiece
  simp only [impl_inRange_eq, Option.bind_some]
  cases inR a 1 20000 <;> rfl

theorem impl_toInt_eq (b : Bool) : impl_toInt.f b = some (if b = true then 1 else 0) := by
  unfold impl_toInt.f; cases b <;> rfl

theorem impl_GridCuts_l2 (a rows qw qh : Int) (hr : 0 ≤ rows ∧ rows ≤ 80) (ha : 1 ≤ a ∧ a ≤ 80) (r : Option (List S50 × Int)) (i : Int) (hi : 0 ≤ i ∧ i < a) (m : Nat) (acc2 : List S50) (hn : ∀ k, m ≤ k → impl_GridCuts.l1 k rows acc2 a (i + 1) qw qh = r) :
    ∀ (d k : Nat) (j : Int) (acc : List S50), 0 ≤ j → j + d = rows → m + d + 1 ≤ k → acc.length + d ≤ 100000 → g2 rows i qh d j acc = acc2 → impl_GridCuts.l2 k rows acc i a i rows j qw qh = r := by
  intro d
  induction d with
  | zero =>
    intro k j acc h0 h hk hl he
    obtain ⟨k, rfl⟩ : ∃ m, k = m + 1 := ⟨k - 1, by omega⟩
    rw [impl_GridCuts.l2, if_neg (by omega), w64 (x := i + 1) (by omega) (by omega)]
    rw [g2] at he
    rw [he]
    exact hn k (by omega)
  | succ d ih =>
    intro k j acc h0 h hk hl he
    obtain ⟨k, rfl⟩ : ∃ m, k = m + 1 := ⟨k - 1, by omega⟩
    have b := mul_bd (a := i) (b := rows + 1) (A := 80) (B := 81) (by omega) (by omega) (by omega) (by omega)
    rw [impl_GridCuts.l2, if_pos (by omega), if_pos (by omega), w64 (x := rows + 1) (by omega) (by omega), w64 (x := i * (rows + 1)) (by omega) (by omega), w64 (x := i * (rows + 1) + j) (by omega) (by omega), w64 (x := j + 1) (by omega) (by omega)]
    rw [g2] at he
    exact ih k (j + 1) _ (by omega) (by omega) (by omega) (by simp only [List.length_append, List.length_cons, List.length_nil]; omega) he
theorem impl_GridCuts_l1 (a rows qw qh : Int) (hr : 0 ≤ rows ∧ rows ≤ 80) (ha : 1 ≤ a ∧ a ≤ 80) : ∀ (d k : Nat) (i : Int) (acc : List S50), 0 ≤ i → i + d = a → d * (rows.toNat + 3) + 1 ≤ k → acc.length + d * (rows.toNat + 3) ≤ 100000 → impl_GridCuts.l1 k rows acc a i qw qh = some (g1 rows qh d i acc, 0) := by
  intro d
  induction d with
  | zero =>
    intro k i acc h0 h hk hl
    obtain ⟨k, rfl⟩ : ∃ m, k = m + 1 := ⟨k - 1, by omega⟩
    rw [impl_GridCuts.l1, if_neg (by omega), g1]
  | succ d ih =>
    intro k i acc h0 h hk hl
    rw [Nat.succ_mul] at hk hl
    obtain ⟨k, rfl⟩ : ∃ m, k = m + 1 := ⟨k - 1, by omega⟩
    rw [impl_GridCuts.l1, if_pos (by omega), g1]
    refine impl_GridCuts_l2 a rows qw qh hr ha _ i (by omega) (d * (rows.toNat + 3) + 1) (g2 rows i qh rows.toNat 0 acc) (fun k hk => ?_) rows.toNat k 0 acc (by omega) (by omega) (by omega) (by omega) rfl
    exact ih k (i + 1) _ (by omega) (by omega) hk (by rw [g2_len]; omega)
theorem impl_GridCuts_l0 (a cols rows qw qh : Int) (hc : 0 ≤ cols ∧ cols ≤ 80) (hr : 0 ≤ rows ∧ rows ≤ 80) (ha : 1 ≤ a ∧ a ≤ 80) : ∀ (d k : Nat) (i : Int) (acc : List S50), 0 ≤ i → i + d = cols → 7000 + d ≤ k → acc.length + d ≤ 100 → impl_GridCuts.l0 k a rows acc cols i qw qh = some (g1 rows qh a.toNat 0 (g0 qw d i acc), 0) := by
  have hb : a.toNat * (rows.toNat + 3) ≤ 80 * 83 := Nat.mul_le_mul (by omega) (by omega)
  intro d
  induction d with
  | zero =>
    intro k i acc h0 h hk hl
    obtain ⟨k, rfl⟩ : ∃ m, k = m + 1 := ⟨k - 1, by omega⟩
    rw [impl_GridCuts.l0, if_neg (by omega), g0]
    exact impl_GridCuts_l1 a rows qw qh hr ha a.toNat k 0 acc (by omega) (by omega) (by omega) (by omega)
  | succ d ih =>
    intro k i acc h0 h hk hl
    obtain ⟨k, rfl⟩ : ∃ m, k = m + 1 := ⟨k - 1, by omega⟩
    rw [impl_GridCuts.l0, if_pos (by omega), if_pos (by omega), w64 (x := i + 1) (by omega) (by omega), g0]
    exact ih k (i + 1) _ (by omega) (by omega) (by omega) (by simp only [List.length_append, List.length_cons, List.length_nil]; omega)
theorem impl_GridCuts_eq (k : Nat) (pw ph a c qw qh : Int) (hk : 7200 ≤ k) : impl_GridCuts.f k pw ph a c qw qh = some (gridCuts pw ph a c qw qh) := by
  obtain ⟨k, rfl⟩ : ∃ m, k = m + 1 := ⟨k - 1, by omega⟩
  unfold impl_GridCuts.f gridCuts
  simp only [impl_IsPiece_eq, Option.bind_some]
  cases hp : isPiece pw ph
  · simp [impl_GridCuts.j0]
  cases hq : isPiece qw qh
  · simp [impl_GridCuts.j0]
  simp only [if_true, Bool.and_self, Bool.not_true, impl_GridCuts.j0, Bool.false_eq_true, if_false, impl_inRange_eq, impl_toInt_eq, Option.bind_some, decide_eq_true_eq]
  cases ha : inR a 1 80
  · simp
  cases hc : inR c 1 80
  · simp
  have h1 := inR_true ha
  have h2 := inR_true hc
  have h3 := isPiece_true hp
  have h4 := isPiece_true hq
  have m1 := mul_bd (a := a) (b := qw) (A := 80) (B := 20000) (by omega) (by omega) (by omega) (by omega)
  have m2 := mul_bd (a := c) (b := qh) (A := 80) (B := 20000) (by omega) (by omega) (by omega) (by omega)
  have b1 := colsOf_bd (pw := pw) (qw := qw) ha
  have b2 := colsOf_bd (pw := ph) (qw := qh) hc
  have m3 := mul_bd (a := a) (b := colsOf c ph qh) (A := 80) (B := 80) (by omega) (by omega) (by omega) (by omega)
  rw [w64 (x := a * qw) (by omega) (by omega), w64 (x := c * qh) (by omega) (by omega), w64 (x := a - 1) (by omega) (by omega), w64 (x := c - 1) (by omega) (by omega)]
  have e1 : wrap64 (a - 1 + if pw > a * qw then 1 else 0) = colsOf a pw qw := by
    unfold colsOf at b1 ⊢
    by_cases x : a * qw < pw
    · rw [if_pos x] at b1 ⊢; rw [if_pos x, w64 (by omega) (by omega)]
    · rw [if_neg x] at b1 ⊢; rw [if_neg x, w64 (by omega) (by omega)]; omega
  have e2 : wrap64 (c - 1 + if ph > c * qh then 1 else 0) = colsOf c ph qh := by
    unfold colsOf at b2 ⊢
    by_cases x : c * qh < ph
    · rw [if_pos x] at b2 ⊢; rw [if_pos x, w64 (by omega) (by omega)]
    · rw [if_neg x] at b2 ⊢; rw [if_neg x, w64 (by omega) (by omega)]; omega
  simp only [if_true, Bool.and_self, e1, e2]
  rw [w64 (x := a * colsOf c ph qh) (by omega) (by omega), w64 (x := colsOf a pw qw + a * colsOf c ph qh) (by omega) (by omega)]
  by_cases g : colsOf a pw qw + a * colsOf c ph qh > 79
  · rw [if_pos g, if_pos g]
  · rw [if_neg g, if_neg g]
    by_cases x : pw < a * qw
    · rw [if_pos x, if_pos (.inl x)]
    · by_cases y : ph < c * qh
      · rw [if_neg x, if_pos y, if_pos (.inr y)]
      · rw [if_neg x, if_neg y, if_neg (fun h => h.elim x y)]
        exact impl_GridCuts_l0 a _ _ qw qh b1 b2 h1 (colsOf a pw qw).toNat k 0 [] (by omega) (by omega) (by omega) (by simp only [List.length_nil]; omega)

theorem spec_l01In_eq (a b c : Int) : spec_l01In.f a b c = some (inR a b c) := by
  unfold spec_l01In.f inR
  by_cases h : a ≥ b
  · rw [if_pos h]; simp [show b ≤ a from h]
  · rw [if_neg h]; simp [show ¬ b ≤ a from h]

theorem spec_IsPiece_eq (a b : Int) : spec_IsPiece.f a b = some (isPiece a b) := by
  unfold spec_IsPiece.f isPiece
  simp only [spec_l01In_eq, Option.bind_some]
  cases inR a 1 20000 <;> rfl

theorem spec_GridCuts_l2 (a rows qw qh : Int) (hr : 0 ≤ rows ∧ rows ≤ 80) (ha : 1 ≤ a ∧ a ≤ 80) (r : Option (List S50 × Int)) (i : Int) (hi : 0 ≤ i ∧ i < a) (m : Nat) (acc2 : List S50) (hn : ∀ k, m ≤ k → spec_GridCuts.l1 k a rows acc2 (i + 1) qw qh = r) :
    ∀ (d k : Nat) (j : Int) (acc : List S50), 0 ≤ j → j + d = rows → m + d + 1 ≤ k → acc.length + d ≤ 100000 → g2 rows i qh d j acc = acc2 → spec_GridCuts.l2 k a rows acc i j qw qh = r := by
  intro d
  induction d with
  | zero =>
    intro k j acc h0 h hk hl he
    obtain ⟨k, rfl⟩ : ∃ m, k = m + 1 := ⟨k - 1, by omega⟩
    rw [spec_GridCuts.l2, if_neg (by omega), w64 (x := i + 1) (by omega) (by omega)]
    rw [g2] at he
    rw [he]
    exact hn k (by omega)
  | succ d ih =>
    intro k j acc h0 h hk hl he
    obtain ⟨k, rfl⟩ : ∃ m, k = m + 1 := ⟨k - 1, by omega⟩
    have b := mul_bd (a := i) (b := rows + 1) (A := 80) (B := 81) (by omega) (by omega) (by omega) (by omega)
    rw [spec_GridCuts.l2, if_pos (by omega), if_pos (by omega), w64 (x := rows + 1) (by omega) (by omega), w64 (x := i * (rows + 1)) (by omega) (by omega), w64 (x := i * (rows + 1) + j) (by omega) (by omega), w64 (x := j + 1) (by omega) (by omega)]
    rw [g2] at he
    exact ih k (j + 1) _ (by omega) (by omega) (by omega) (by simp only [List.length_append, List.length_cons, List.length_nil]; omega) he
theorem spec_GridCuts_l1 (a rows qw qh : Int) (hr : 0 ≤ rows ∧ rows ≤ 80) (ha : 1 ≤ a ∧ a ≤ 80) : ∀ (d k : Nat) (i : Int) (acc : List S50), 0 ≤ i → i + d = a → d * (rows.toNat + 3) + 1 ≤ k → acc.length + d * (rows.toNat + 3) ≤ 100000 → spec_GridCuts.l1 k a rows acc i qw qh = some (g1 rows qh d i acc, 0) := by
  intro d
  induction d with
  | zero =>
    intro k i acc h0 h hk hl
    obtain ⟨k, rfl⟩ : ∃ m, k = m + 1 := ⟨k - 1, by omega⟩
    rw [spec_GridCuts.l1, if_neg (by omega), g1]
  | succ d ih =>
    intro k i acc h0 h hk hl
    rw [Nat.succ_mul] at hk hl
    obtain ⟨k, rfl⟩ : ∃ m, k = m + 1 := ⟨k - 1, by omega⟩
    rw [spec_GridCuts.l1, if_pos (by omega), g1]
    refine spec_GridCuts_l2 a rows qw qh hr ha _ i (by omega) (d * (rows.toNat + 3) + 1) (g2 rows i qh rows.toNat 0 acc) (fun k hk => ?_) rows.toNat k 0 acc (by omega) (by omega) (by omega) (by omega) rfl
    exact ih k (i + 1) _ (by omega) (by omega) hk (by rw [g2_len]; omega)
theorem spec_GridCuts_l0 (a cols rows qw qh : Int) (hc : 0 ≤ cols ∧ cols ≤ 80) (hr : 0 ≤ rows ∧ rows ≤ 80) (ha : 1 ≤ a ∧ a ≤ 80) : ∀ (d k : Nat) (i : Int) (acc : List S50), 0 ≤ i → i + d = cols → 7000 + d ≤ k → acc.length + d ≤ 100 → spec_GridCuts.l0 k a cols rows acc i qw qh = some (g1 rows qh a.toNat 0 (g0 qw d i acc), 0) := by
  have hb : a.toNat * (rows.toNat + 3) ≤ 80 * 83 := Nat.mul_le_mul (by omega) (by omega)
  intro d
  induction d with
  | zero =>
    intro k i acc h0 h hk hl
    obtain ⟨k, rfl⟩ : ∃ m, k = m + 1 := ⟨k - 1, by omega⟩
    rw [spec_GridCuts.l0, if_neg (by omega), g0]
    exact spec_GridCuts_l1 a rows qw qh hr ha a.toNat k 0 acc (by omega) (by omega) (by omega) (by omega)
  | succ d ih =>
    intro k i acc h0 h hk hl
    obtain ⟨k, rfl⟩ : ∃ m, k = m + 1 := ⟨k - 1, by omega⟩
    rw [spec_GridCuts.l0, if_pos (by omega), if_pos (by omega), w64 (x := i + 1) (by omega) (by omega), g0]
    exact ih k (i + 1) _ (by omega) (by omega) (by omega) (by simp only [List.length_append, List.length_cons, List.length_nil]; omega)
theorem spec_GridCuts_eq (k : Nat) (pw ph a c qw qh : Int) (hk : 7200 ≤ k) : spec_GridCuts.f k pw ph a c qw qh = some (gridCuts pw ph a c qw qh) := by
  obtain ⟨k, rfl⟩ : ∃ m, k = m + 3 := ⟨k - 3, by omega⟩
  unfold spec_GridCuts.f gridCuts
  simp only [spec_IsPiece_eq, Option.bind_some]
  cases hp : isPiece pw ph
  · simp [spec_GridCuts.j0]
  cases hq : isPiece qw qh
  · simp [spec_GridCuts.j0]
  simp only [if_true, Bool.and_self, Bool.not_true, spec_GridCuts.j0, Bool.false_eq_true, if_false, spec_l01In_eq, Option.bind_some]
  cases ha : inR a 1 80
  · simp
  cases hc : inR c 1 80
  · simp
  have h1 := inR_true ha
  have h2 := inR_true hc
  have h3 := isPiece_true hp
  have h4 := isPiece_true hq
  have m1 := mul_bd (a := a) (b := qw) (A := 80) (B := 20000) (by omega) (by omega) (by omega) (by omega)
  have m2 := mul_bd (a := c) (b := qh) (A := 80) (B := 20000) (by omega) (by omega) (by omega) (by omega)
  have b1 := colsOf_bd (pw := pw) (qw := qw) ha
  have b2 := colsOf_bd (pw := ph) (qw := qh) hc
  have m3 := mul_bd (a := a) (b := colsOf c ph qh) (A := 80) (B := 80) (by omega) (by omega) (by omega) (by omega)
  rw [w64 (x := a * qw) (by omega) (by omega), w64 (x := a - 1) (by omega) (by omega), w64 (x := c - 1) (by omega) (by omega), w64 (x := a - 1 + 1) (by omega) (by omega)]
  have e1 : (if a * qw < pw then spec_GridCuts.j1 (k + 2) a c (a - 1 + 1) (c - 1) pw ph qw qh else spec_GridCuts.j1 (k + 2) a c (a - 1) (c - 1) pw ph qw qh) = spec_GridCuts.j1 (k + 2) a c (colsOf a pw qw) (c - 1) pw ph qw qh := by
    unfold colsOf; split <;> rfl
  simp only [if_true, Bool.and_self]
  rw [e1, spec_GridCuts.j1, w64 (x := c * qh) (by omega) (by omega), w64 (x := c - 1 + 1) (by omega) (by omega)]
  have e2 : (if c * qh < ph then spec_GridCuts.j2 (k + 1) a c (colsOf a pw qw) (c - 1 + 1) pw ph qw qh else spec_GridCuts.j2 (k + 1) a c (colsOf a pw qw) (c - 1) pw ph qw qh) = spec_GridCuts.j2 (k + 1) a c (colsOf a pw qw) (colsOf c ph qh) pw ph qw qh := by
    rw [show colsOf c ph qh = if c * qh < ph then c - 1 + 1 else c - 1 from rfl]; split <;> rfl
  rw [e2, spec_GridCuts.j2, w64 (x := a * colsOf c ph qh) (by omega) (by omega), w64 (x := colsOf a pw qw + a * colsOf c ph qh) (by omega) (by omega), w64 (x := a * qw) (by omega) (by omega), w64 (x := c * qh) (by omega) (by omega)]
  by_cases g : colsOf a pw qw + a * colsOf c ph qh > 79
  · rw [if_pos g, if_pos g]
  · rw [if_neg g, if_neg g]
    by_cases x : a * qw > pw
    · rw [if_pos x, if_pos (.inl x)]
    · by_cases y : c * qh > ph
      · rw [if_neg x, if_pos y, if_pos (.inr y)]
      · rw [if_neg x, if_neg y, if_neg (fun h => h.elim x y)]
        exact spec_GridCuts_l0 a _ _ qw qh b1 b2 h1 (colsOf a pw qw).toNat k 0 [] (by omega) (by omega) (by omega) (by simp only [List.length_nil]; omega)

theorem l09DrawPiece_ok {c : List Int} (hc : Code c) {q : Int × Int} (hq : SOk q) : ∃ p, spec_l09DrawPiece.f c q.1 q.2 = some p ∧ SOk p.2.2 := by
  unfold spec_l09DrawPiece.f
  exact bind_ok (next_ok hc hq 40) fun a ha => ite_ok (fun _ => bind_ok (pick_ok hc ha.1 _ (by simp)) fun b hb => bind_ok (pick_ok hc hb.1 _ (by simp)) fun d hd => ⟨_, rfl, hd.1⟩) (fun _ => bind_ok (next_ok hc ha.1 60) fun b hb => bind_ok (next_ok hc hb.1 60) fun d hd => ⟨_, rfl, hd.1⟩)

theorem l09DrawCut_j0 {c : List Int} (hc : Code c) {q : Int × Int} (hq : SOk q) (k : Nat) (l : List S25) (x6 i : Int) (acr : Bool) (z : Int) : ∃ p, spec_l09DrawCut.j0 (k + 1) l x6 c q.1 q.2 i acr z = some p ∧ SOk p.2.2.2 := by
  rw [spec_l09DrawCut.j0]
  exact bind_ok (next_ok hc hq _) fun a ha => bind_ok (next_ok hc ha.1 24) fun b hb => ite_ok (fun _ => bind_ok (pick_ok hc hb.1 _ (by simp)) fun d hd => ⟨_, rfl, hd.1⟩) (fun _ => ite_ok (fun _ => bind_ok (pick_ok hc hb.1 _ (by simp)) fun d hd => ⟨_, rfl, hd.1⟩) (fun _ => ⟨_, rfl, hb.1⟩))
theorem l09DrawCut_ok {c : List Int} (hc : Code c) {q : Int × Int} (hq : SOk q) (k : Nat) (l : List S25) : ∃ p, spec_l09DrawCut.f (k + 1) c q.1 q.2 l = some p ∧ SOk p.2.2.2 := by
  unfold spec_l09DrawCut.f
  refine bind_ok (next_ok hc hq _) fun a ha => bind_ok (next_ok hc ha.1 2) fun b hb => ite_ok (fun _ => ⟨_, rfl, hb.1⟩) (fun hl => ?_)
  have h1 := ha.2.1
  have h2 := ha.2.2
  rw [if_pos h1, if_pos (by omega)]
  exact ite_ok (fun _ => l09DrawCut_j0 hc hb.1 k l _ _ _ _) (fun _ => l09DrawCut_j0 hc hb.1 k l _ _ _ _)

theorem spec_l09List_l0 (xs : List S25) (hl : xs.length ≤ 9223372036854775806) : ∀ (d k i : Nat), i + d = xs.length → d < k → spec_l09List.l0 k xs (i : Int) = some ((xs.drop i).all (fun x => isPiece x.f0 x.f1) && decide (xs.length ≤ 80)) := by
  intro d
  induction d with
  | zero =>
    intro k i h hk
    obtain ⟨k, rfl⟩ : ∃ m, k = m + 1 := ⟨k - 1, by omega⟩
    rw [spec_l09List.l0, if_neg (by omega), List.drop_of_length_le (by omega)]
    have e : decide ((xs.length : Int) ≤ 80) = decide (xs.length ≤ 80) := by rw [decide_eq_decide]; omega
    rw [e]
    rfl
  | succ d ih =>
    intro k i h hk
    obtain ⟨k, rfl⟩ : ∃ m, k = m + 1 := ⟨k - 1, by omega⟩
    have hlt : i < xs.length := by omega
    have e3 := ih k (i + 1) (by omega) (by omega)
    rw [spec_l09List.l0, if_pos (by omega), if_pos (by omega), rdIPiece xs i hlt, spec_IsPiece_eq, dropIPiece xs i hlt, w64 (by omega) (by omega)]
    simp only [Option.bind_some, List.all_cons]
    cases hx : isPiece xs[i].f0 xs[i].f1
    · simp
    · simp only [if_true, Bool.true_and]
      exact e3
theorem spec_l09List_eq (xs : List S25) (k : Nat) (hl : xs.length ≤ 9223372036854775806) (hk : xs.length < k) : spec_l09List.f k xs = some (arePieces xs) := by
  unfold spec_l09List.f arePieces
  have := spec_l09List_l0 xs hl xs.length k 0 (by omega) hk
  rw [List.drop_zero, Bool.and_comm] at this
  exact this

theorem spec_CanCut_eq (k : Nat) (l : List S25) (i : Int) (acr : Bool) (at_ : Int) (hl0 : l.length ≤ 9223372036854775806) (hk : l.length + 1 < k) : spec_CanCut.f k l i acr at_ = some (arePieces l && possible l i acr at_) := by
  obtain ⟨k, rfl⟩ : ∃ m, k = m + 1 := ⟨k - 1, by omega⟩
  unfold spec_CanCut.f possible
  simp only [spec_l09List_eq l (k + 1) hl0 (by omega), spec_l01In_eq, Option.bind_some]
  cases h : arePieces l
  · simp [spec_CanCut.j0]
  have hl := (arePieces_true h).1
  rw [w64 (x := (l.length : Int) - 1) (by omega) (by omega)]
  cases hi : inR i 0 ((l.length : Int) - 1)
  · simp [spec_CanCut.j0]
  have h1 := inR_true hi
  have hs := sideOf_bd (acr := acr) h hi
  unfold sideOf at hs ⊢
  by_cases hf : l.length < 80
  · have e : ((l.length : Int) == 80) = false := beq_eq_false_iff_ne.mpr (by omega)
    rw [decide_eq_true hf, e]
    simp only [if_true, spec_CanCut.j0, Bool.false_eq_true, if_false, Bool.true_and]
    rw [if_pos (by omega), if_pos (by omega), spec_l01In_eq, spec_l01In_eq]
    cases acr
    · simp only [Bool.false_eq_true, if_false, Option.bind_some] at hs ⊢
      rw [w64 (by omega) (by omega)]
    · simp only [if_true, Option.bind_some] at hs ⊢
      rw [w64 (by omega) (by omega)]
  · have e : ((l.length : Int) == 80) = true := beq_iff_eq.mpr (by omega)
    rw [decide_eq_false hf, e]
    simp [spec_CanCut.j0]

theorem spec_l09Cut_eq (l : List S25) (i : Int) (acr : Bool) (at_ : Int) (k : Nat) (hk : 1 ≤ k) (h : arePieces l = true) (hp : possible l i acr at_ = true) : spec_l09Cut.f k l i acr at_ = some (cutP l i acr at_) := by
  obtain ⟨k, rfl⟩ : ∃ m, k = m + 1 := ⟨k - 1, by omega⟩
  obtain ⟨⟨h0, h1⟩, h2, h3, h4⟩ := possible_true hp
  have hr := rdP_ok h h0 h1
  obtain ⟨n, rfl⟩ : ∃ n : Nat, i = n := ⟨i.toNat, by omega⟩
  have e1 : wrap64 ((n : Int) + 1) = ((n + 1 : Nat) : Int) := w64 (by omega) (by omega)
  unfold sideOf at h4
  unfold spec_l09Cut.f cutP
  rw [if_pos h0, if_pos h1]
  cases acr
  · simp only [Bool.false_eq_true, if_false] at h4 ⊢
    rw [spec_l09Cut.j0]
    simp only [Option.bind_some, e1, Int.toNat_natCast]
    rw [if_pos (by omega), if_pos (by omega), if_pos (by simp only [List.length_take, List.length_nil]; omega), if_pos (by simp only [List.length_append, List.length_take, List.length_nil, List.length_cons]; omega), if_pos (by omega), if_pos (by omega), if_pos (by simp only [List.length_append, List.length_take, List.length_drop, List.length_nil, List.length_cons]; omega), w64 (x := (rd_T25 l (n : Int)).f0 - at_) (by omega) (by omega)]
    simp
  · simp only [if_true] at h4 ⊢
    rw [spec_l09Cut.j0]
    simp only [Option.bind_some, e1, Int.toNat_natCast]
    rw [if_pos (by omega), if_pos (by omega), if_pos (by simp only [List.length_take, List.length_nil]; omega), if_pos (by simp only [List.length_append, List.length_take, List.length_nil, List.length_cons]; omega), if_pos (by omega), if_pos (by omega), if_pos (by simp only [List.length_append, List.length_take, List.length_drop, List.length_nil, List.length_cons]; omega), w64 (x := (rd_T25 l (n : Int)).f1 - at_) (by omega) (by omega)]
    simp

theorem DrawRunCuts_l1 : ∀ (n k : Nat) (xs : List S50), n < k → xs.length + n ≤ 1000 → ∃ p, spec_DrawRunCuts.l1 k xs (n : Int) = some p ∧ p.2.2.length = xs.length + n := by
  intro n
  induction n with
  | zero =>
    intro k xs hk hx
    obtain ⟨k, rfl⟩ : ∃ m, k = m + 1 := ⟨k - 1, by omega⟩
    rw [spec_DrawRunCuts.l1, if_neg (by omega)]
    exact ⟨_, rfl, by simp⟩
  | succ n ih =>
    intro k xs hk hx
    obtain ⟨k, rfl⟩ : ∃ m, k = m + 1 := ⟨k - 1, by omega⟩
    rw [spec_DrawRunCuts.l1, if_pos (by omega), if_pos (by omega), w64 (x := ((n + 1 : Nat) : Int) - 1) (by omega) (by omega), show ((n + 1 : Nat) : Int) - 1 = (n : Int) by omega]
    obtain ⟨p, e, hp⟩ := ih k (xs ++ [⟨0, false, ((n + 1 : Nat) : Int)⟩]) (by omega) (by rw [List.length_append, List.length_cons, List.length_nil]; omega)
    exact ⟨p, e, by rw [hp, List.length_append, List.length_cons, List.length_nil]; omega⟩
theorem DrawRunCuts_l0 {c : List Int} (hc : Code c) (a b : Int) : ∀ (n k : Nat) (xs : List S50) (l : List S25) (q : Int × Int), SOk q → 3 * n + 200 ≤ k → xs.length + n ≤ 20 → l.length ≤ 80 → ∃ p, spec_DrawRunCuts.l0 k xs l (n : Int) c q.1 q.2 a b = some p ∧ p.2.2.length ≤ 100 := by
  intro n
  induction n with
  | zero =>
    intro k xs l q hq hk hx hl
    obtain ⟨k, rfl⟩ : ∃ m, k = m + 1 := ⟨k - 1, by omega⟩
    rw [spec_DrawRunCuts.l0, if_neg (by omega)]
    refine bind_ok (next_ok hc hq 40) fun d hd => ite_ok (fun _ => bind_ok (next_ok hc hd.1 2) fun r hr => ?_) (fun _ => ⟨_, rfl, by simp only; omega⟩)
    have h1 := hr.2.1
    have h2 := hr.2.2
    obtain ⟨m, hm⟩ : ∃ m : Nat, wrap64 (79 + r.1) = m := ⟨(79 + r.1).toNat, by rw [w64 (by omega) (by omega)]; omega⟩
    have hm2 : wrap64 (79 + r.1) = 79 + r.1 := w64 (by omega) (by omega)
    rw [hm]
    obtain ⟨p, e, hp⟩ := DrawRunCuts_l1 m k [] (by omega) (by simp; omega)
    exact ⟨p, e, by rw [hp]; simp; omega⟩
  | succ n ih =>
    intro k xs l q hq hk hx hl
    obtain ⟨k, rfl⟩ : ∃ m, k = (m + 1) + 1 + 1 := ⟨k - 3, by omega⟩
    have hs : ∀ x : S50, (xs ++ [x]).length + n ≤ 20 := fun x => by rw [List.length_append, List.length_cons, List.length_nil]; omega
    have e1 : wrap64 (((n + 1 : Nat) : Int) - 1) = (n : Int) := by rw [w64 (by omega) (by omega)]; omega
    rw [spec_DrawRunCuts.l0, if_pos (by omega)]
    simp only [spec_DrawRunCuts.j1, spec_DrawRunCuts.j2, e1]
    refine bind_ok (l09DrawCut_ok hc hq _ l) fun d hd => ?_
    rw [spec_CanCut_eq (k + 1 + 1) l _ _ _ (by omega) (by omega)]
    simp only [Option.bind_some]
    refine ite_ok (fun h => ?_) (fun h => bind_ok (next_ok hc hd 5) fun r hr => ite_ok (fun _ => ih _ _ _ _ hr.1 (by omega) (by omega) hl) (fun _ => ?_))
    · simp only [Bool.and_eq_true] at h
      obtain ⟨⟨h0, h1⟩, h3, _⟩ := possible_true h.2
      rw [spec_l09Cut_eq l _ _ _ _ (by omega) h.1 h.2]
      simp only [Option.bind_some]
      rw [if_pos (by omega)]
      exact ih _ _ _ _ hd (by omega) (hs _) (by rw [cutP_len h0 h1]; omega)
    · rw [if_pos (by omega)]
      exact ih _ _ _ _ hr.1 (by omega) (hs _) hl
theorem DrawRunCuts_ok {c : List Int} (hc : Code c) {k : Nat} (hk : c.length + 300 < k) : ∃ p, spec_DrawRunCuts.f k c = some p ∧ p.2.2.length ≤ 100 := by
  unfold spec_DrawRunCuts.f
  refine bind_ok (from_ok hc (by omega)) fun p hp => ?_
  rw [hp.1]
  refine bind_ok (l09DrawPiece_ok hc hp.2) fun d hd => bind_ok (next_ok hc hd 9) fun r hr => ?_
  have h1 := hr.2.1
  have h2 := hr.2.2
  obtain ⟨n, hn⟩ : ∃ n : Nat, r.1 = n := ⟨r.1.toNat, by omega⟩
  rw [hn]
  exact DrawRunCuts_l0 hc _ _ n k [] _ _ hr.1 (by omega) (by simp; omega) (by simp)

theorem DrawProgramText_ok {c : List Int} (hc : Code c) {k : Nat} (hk : c.length + 300 < k) : ∃ p, spec_DrawProgramText.f k c = some p ∧ p.length ≤ 100 := by
  unfold spec_DrawProgramText.f
  exact bind_ok (DrawRunCuts_ok hc hk) fun p hp => ⟨_, rfl, hp⟩

theorem impl_cutMark_eq (b : Bool) : impl_cutMark.f b = some (bs (if b then [45] else [124])) := by
  cases b <;> rfl

theorem impl_ProgramText_l0 (cs : List S50) (hl : cs.length ≤ 79) : ∀ (d k i : Nat) (ys : List (List UInt8)), i + d = cs.length → 2 * d < k → ys.length = i → (∀ y ∈ ys, y.length ≤ 11) →
    impl_ProgramText.l0 k (ys.map bs) cs (cs.length : Int) (i : Int) = some (bs (if (cs.drop i).all okCut = true then Lib.join (ys ++ (cs.drop i).map cutText) [32] else [])) := by
  intro d
  induction d with
  | zero =>
    intro k i ys hi hk hy hyl
    obtain ⟨k, rfl⟩ : ∃ m, k = m + 1 := ⟨k - 1, by omega⟩
    have hj := join_len ys hyl
    rw [impl_ProgramText.l0, if_neg (by omega), List.drop_of_length_le (by omega)]
    have e : (ys.map bs).map (fun x => x.data.toList) = ys := by
      rw [List.map_map]
      exact (List.map_congr_left (fun y _ => bs_data y)).trans (List.map_id _)
    unfold strings_Join.f
    rw [if_pos (by rw [List.length_map]; omega), e, bs_32, bs_data, if_pos (by omega)]
    simp [bs]
  | succ d ih =>
    intro k i ys hi hk hy hyl
    obtain ⟨k, rfl⟩ : ∃ m, k = m + 2 := ⟨k - 2, by omega⟩
    have hlt : i < cs.length := by omega
    rw [impl_ProgramText.l0, if_pos (by omega), if_pos (by omega), if_pos (by omega), rdICut cs i hlt, dropICut cs i hlt, impl_inRange_eq, impl_inRange_eq]
    simp only [Option.bind_some]
    have bad : okCut cs[i] = false → (some (⟨#[]⟩ : ByteArray) = some (bs (if (cs[i] :: cs.drop (i + 1)).all okCut = true then Lib.join (ys ++ (cs[i] :: cs.drop (i + 1)).map cutText) [32] else []))) := fun h => by
      rw [List.all_cons, h, Bool.false_and, if_neg (by simp)]
      rfl
    by_cases h0 : inR cs[i].f0 0 20000 = true
    · rw [if_pos h0, impl_ProgramText.j1]
      by_cases h2 : inR cs[i].f2 0 20000 = true
      · have hok : okCut cs[i] = true := by unfold okCut; rw [h0, h2]; rfl
        obtain ⟨a, b, ea, eb, ha, hb⟩ := okCut_nat hok
        have l1 := dec_len 4 a (by omega)
        have l2 := dec_len 4 b (by omega)
        have l3 : (if cs[i].f1 = true then [(45 : UInt8)] else [124]).length = 1 := by split <;> rfl
        have ht : cutText cs[i] = Lib.decDigits a ++ (if cs[i].f1 then [45] else [124]) ++ Lib.decDigits b := by
          unfold cutText
          rw [ea, eb, Int.toNat_natCast, Int.toNat_natCast]
        rw [h2, if_neg (by simp), ea, eb, impl_decimal_eq a (by omega), impl_cutMark_eq, impl_decimal_eq b (by omega)]
        simp only [Option.bind_some]
        rw [bs_append, bs_append, bs_size, bs_size, bs_size, bs_size, if_pos (by omega), if_pos (by rw [List.length_append]; omega), if_pos (by rw [List.length_map]; omega), w64 (by omega) (by omega), ← ht]
        have := ih k (i + 1) (ys ++ [cutText cs[i]]) (by omega) (by omega) (by simp [hy]) (fun y hy' => by
          rcases List.mem_append.1 hy' with h | h
          · exact hyl y h
          · rw [List.mem_singleton.1 h]; exact cutText_len hok)
        rw [List.map_append] at this
        rw [List.all_cons, hok, Bool.true_and, List.map_cons]
        have e3 : ys ++ cutText cs[i] :: (cs.drop (i + 1)).map cutText = ys ++ [cutText cs[i]] ++ (cs.drop (i + 1)).map cutText := by rw [List.append_assoc]; rfl
        rw [e3]
        exact this
      · have h2' : inR cs[i].f2 0 20000 = false := by simpa using h2
        rw [h2', if_pos (by simp)]
        exact bad (by unfold okCut; rw [h0, h2']; rfl)
    · have h0' : inR cs[i].f0 0 20000 = false := by simpa using h0
      rw [if_neg h0, impl_ProgramText.j1, if_pos rfl]
      exact bad (by unfold okCut; rw [h0']; rfl)
theorem impl_ProgramText_eq (cs : List S50) (k : Nat) (hk : 200 ≤ k) : impl_ProgramText.f k cs = some (bs (progText cs)) := by
  unfold impl_ProgramText.f progText
  by_cases h : (cs.length : Int) > 79
  · rw [if_pos h, if_neg (by omega)]
    rfl
  · have := impl_ProgramText_l0 cs (by omega) cs.length k 0 [] (by omega) (by omega) rfl (by simp)
    rw [if_neg h]
    refine (show _ = _ from this).trans ?_
    by_cases ha : cs.all okCut = true
    · rw [if_pos (by simpa using ha), if_pos ⟨by omega, ha⟩]
      simp
    · rw [if_neg (by simpa using ha), if_neg (fun hh => ha hh.2)]

theorem spec_ProgramText_step (cs : List S50) (hl : cs.length ≤ 79) (k i : Nat) (out : List UInt8) (hlt : i < cs.length) (hk : 6 ≤ k) (ho : out.length ≤ 1000) :
    spec_ProgramText.l0 (k + 3) cs (bs out) (i : Int) = if okCut cs[i] = true then spec_ProgramText.l0 k cs (bs (out ++ (if 0 < i then [32] else []) ++ cutText cs[i])) ((i + 1 : Nat) : Int) else some (bs []) := by
  rw [spec_ProgramText.l0, if_pos (by omega), if_pos (by omega), rdICut cs i hlt, spec_l01In_eq, spec_l01In_eq]
  simp only [Option.bind_some]
  by_cases h0 : inR cs[i].f0 0 20000 = true
  · rw [if_pos h0, spec_ProgramText.j1]
    by_cases h2 : inR cs[i].f2 0 20000 = true
    · have hok : okCut cs[i] = true := by unfold okCut; rw [h0, h2]; rfl
      obtain ⟨a, b, ea, eb, ha, hb⟩ := okCut_nat hok
      have l1 := dec_len 4 a (by omega)
      have l2 := dec_len 4 b (by omega)
      have d1 := spec_l01Dec_eq 4 k a (by omega) (by omega) (by omega) (by omega)
      have d2 := spec_l01Dec_eq 4 k b (by omega) (by omega) (by omega) (by omega)
      have ht : cutText cs[i] = Lib.decDigits a ++ (if cs[i].f1 then [45] else [124]) ++ Lib.decDigits b := by
        unfold cutText
        rw [ea, eb, Int.toNat_natCast, Int.toNat_natCast]
      have fin : ∀ o2 : List UInt8, o2.length ≤ 1001 → spec_ProgramText.j2 (k + 1) cs (bs o2) (i : Int) cs[i].f0 cs[i].f1 cs[i].f2 = spec_ProgramText.l0 k cs (bs (o2 ++ cutText cs[i])) ((i + 1 : Nat) : Int) := fun o2 h2l => by
        rw [spec_ProgramText.j2, ea, eb, d1, d2, w64 (by omega) (by omega), ht]
        simp only [Option.bind_some]
        by_cases hc : cs[i].f1 = true
        · rw [if_pos hc, if_pos hc, bs_45]
          simp only [bs_append, bs_size]
          rw [if_pos (by omega), if_pos (by simp; omega), if_pos (by simp; omega)]
          simp
        · rw [if_neg hc, if_neg hc, bs_124]
          simp only [bs_append, bs_size]
          rw [if_pos (by omega), if_pos (by simp; omega), if_pos (by simp; omega)]
          simp
      rw [h2, if_neg (by simp), if_pos hok]
      by_cases hi : 0 < i
      · rw [if_pos (by omega), bs_size, if_pos (by omega), bs_32, bs_append, fin _ (by simp; omega), if_pos hi]
      · rw [if_neg (by omega), fin _ (by omega), if_neg hi, List.append_nil]
    · have h2' : inR cs[i].f2 0 20000 = false := by simpa using h2
      rw [h2', if_pos (by simp), if_neg (by unfold okCut; rw [h0, h2']; simp)]
      rfl
  · have h0' : inR cs[i].f0 0 20000 = false := by simpa using h0
    rw [if_neg h0, spec_ProgramText.j1, if_pos rfl, if_neg (by unfold okCut; rw [h0']; simp)]
    rfl
theorem spec_ProgramText_l0 (cs : List S50) (hl : cs.length ≤ 79) : ∀ (d k i : Nat) (out : List UInt8), 0 < i → i + d = cs.length → 3 * d + 10 ≤ k → out.length ≤ 12 * i →
    spec_ProgramText.l0 k cs (bs out) (i : Int) = some (bs (if (cs.drop i).all okCut = true then out ++ Lib.joinTail [32] ((cs.drop i).map cutText) else [])) := by
  intro d
  induction d with
  | zero =>
    intro k i out h0 hi hk ho
    obtain ⟨k, rfl⟩ : ∃ m, k = m + 1 := ⟨k - 1, by omega⟩
    rw [spec_ProgramText.l0, if_neg (by omega), List.drop_of_length_le (by omega)]
    simp [Lib.joinTail]
  | succ d ih =>
    intro k i out h0 hi hk ho
    obtain ⟨k, rfl⟩ : ∃ m, k = m + 3 := ⟨k - 3, by omega⟩
    have hlt : i < cs.length := by omega
    rw [spec_ProgramText_step cs hl k i out hlt (by omega) (by omega), dropICut cs i hlt, if_pos h0]
    by_cases hok : okCut cs[i] = true
    · have hc := cutText_len hok
      rw [if_pos hok, ih k (i + 1) _ (by omega) (by omega) (by omega) (by simp; omega), List.all_cons, hok, Bool.true_and, List.map_cons, joinTail_cons]
      simp only [List.append_assoc]
    · have hok' : okCut cs[i] = false := by simpa using hok
      rw [if_neg hok, List.all_cons, hok', Bool.false_and, if_neg (by simp)]
theorem spec_ProgramText_eq (cs : List S50) (k : Nat) (hk : 300 ≤ k) : spec_ProgramText.f k cs = some (bs (progText cs)) := by
  unfold spec_ProgramText.f progText
  by_cases h : (cs.length : Int) > 79
  · rw [if_pos h, if_neg (by omega)]
    rfl
  · rw [if_neg h]
    cases cs with
    | nil =>
      obtain ⟨k, rfl⟩ : ∃ m, k = m + 1 := ⟨k - 1, by omega⟩
      rw [spec_ProgramText.l0, if_neg (by simp)]
      simp [Lib.join_nil]
      rfl
    | cons c r =>
      obtain ⟨k, rfl⟩ : ∃ m, k = m + 3 := ⟨k - 3, by omega⟩
      have hl : (c :: r).length ≤ 79 := by omega
      have hr : r.length + 1 = (c :: r).length := rfl
      have h1 := spec_ProgramText_step (c :: r) hl k 0 [] (by simp) (by omega) (by simp)
      refine (show _ = _ from h1).trans ?_
      have e0 : (c :: r)[0] = c := rfl
      rw [e0]
      by_cases hok : okCut c = true
      · have hc := cutText_len hok
        rw [if_pos hok, if_neg (Nat.lt_irrefl 0), spec_ProgramText_l0 (c :: r) hl r.length k (0 + 1) _ (by omega) (by omega) (by omega) (by simp; omega)]
        have e1 : (c :: r).drop (0 + 1) = r := rfl
        rw [e1]
        by_cases ha : r.all okCut = true
        · rw [if_pos ha, if_pos ⟨hl, by rw [List.all_cons, hok, ha]; rfl⟩, List.map_cons, Lib.join_cons]
          simp only [List.append_nil, List.nil_append]
        · rw [if_neg ha, if_neg (fun hh => ha (by have := hh.2; rw [List.all_cons, Bool.and_eq_true] at this; exact this.2))]
      · have hok' : okCut c = false := by simpa using hok
        rw [if_neg hok, if_neg (fun hh => by have := hh.2; rw [List.all_cons, hok'] at this; simp at this)]

theorem rdOf_one {ys : List ByteArray} (h : ∀ y ∈ ys, y.size = 1) {i : Int} (h0 : 0 ≤ i) (h1 : i < ys.length) : (rdOf ByteArray.empty ys i).size = 1 := by
  obtain ⟨n, rfl⟩ : ∃ n : Nat, i = n := ⟨i.toNat, by omega⟩
  have hn : n < ys.length := by omega
  have e : rdOf ByteArray.empty ys (n : Int) = ys[n] := by simp [rdOf, hn]
  rw [e]
  exact h _ (List.getElem_mem hn)
theorem l01Damage_ok {c : List Int} (hc : Code c) {q : Int × Int} (hq : SOk q) (s : ByteArray) (hs : s.size ≤ 1000000) {k : Nat} (hk : 1 ≤ k) : ∃ p, spec_l01Damage.f k c q.1 q.2 s = some p ∧ p.1.size ≤ s.size + 1 := by
  obtain ⟨k, rfl⟩ : ∃ m, k = m + 1 := ⟨k - 1, by omega⟩
  unfold spec_l01Damage.f
  rw [w64 (x := (s.size : Int) + 1) (by omega) (by omega)]
  refine bind_ok (next_ok hc hq _) fun p hp => bind_ok (next_ok hc hp.1 8) fun r hr => ?_
  have h1 := hp.2.1
  have h2 := hp.2.2
  have h3 : p.1 ≤ (s.size : Int) := by omega
  refine ite_ok (fun _ => ?_) (fun _ => ite_ok (fun _ => ?_) (fun _ => ite_ok (fun _ => ite_ok (fun h4 => ?_) (fun _ => ?_)) (fun _ => ?_)))
  · rw [if_pos h1, if_pos h3]
    exact ⟨_, rfl, by simp only [ByteArray.size_extract]; omega⟩
  · rw [if_pos h1, if_pos h3]
    simp only [Option.bind_some]
    refine bind_ok (next_ok hc hr.1 8) fun d hd => ?_
    have h5 := hd.2.1
    have h6 := hd.2.2
    have h7 : d.1 < ((([(⟨#[48]⟩ : ByteArray), (⟨#[49]⟩ : ByteArray), (⟨#[32]⟩ : ByteArray), (⟨#[45]⟩ : ByteArray), (⟨#[46]⟩ : ByteArray), (⟨#[44]⟩ : ByteArray), (⟨#[10]⟩ : ByteArray), (⟨#[120]⟩ : ByteArray)] : List ByteArray).length : Nat) : Int) := by
      simp only [List.length_cons, List.length_nil]
      omega
    have h8 := rdOf_one (ys := [(⟨#[48]⟩ : ByteArray), (⟨#[49]⟩ : ByteArray), (⟨#[32]⟩ : ByteArray), (⟨#[45]⟩ : ByteArray), (⟨#[46]⟩ : ByteArray), (⟨#[44]⟩ : ByteArray), (⟨#[10]⟩ : ByteArray), (⟨#[120]⟩ : ByteArray)]) (by intro y hy; simp at hy; rcases hy with h | h | h | h | h | h | h | h <;> rw [h] <;> rfl) h5 h7
    rw [if_pos h5, if_pos h7, if_pos (by simp only [ByteArray.size_extract]; omega), if_pos (by simp only [ByteArray.size_append, ByteArray.size_extract]; omega)]
    exact ⟨_, rfl, by simp only [ByteArray.size_append, ByteArray.size_extract]; omega⟩
  · rw [w64 (x := p.1 + 1) (by omega) (by omega), if_pos h1, if_pos h3, if_pos (by omega), if_pos (by omega), if_pos (by simp only [ByteArray.size_extract]; omega)]
    exact ⟨_, rfl, by simp only [ByteArray.size_append, ByteArray.size_extract]; omega⟩
  · rw [spec_l01Damage.j0]
    exact ⟨_, rfl, by simp only; omega⟩
  · rw [spec_l01Damage.j0]
    exact ⟨_, rfl, by simp only; omega⟩

theorem progText_len (cs : List S50) : (progText cs).length ≤ 1000 := by
  unfold progText
  split
  · rename_i h
    have := join_len (cs.map cutText) (fun x hx => by
      obtain ⟨c, hc, rfl⟩ := List.mem_map.mp hx
      exact cutText_len (List.all_eq_true.mp h.2 c hc))
    rw [List.length_map] at this
    omega
  · simp
theorem DrawReadProgram_ok {c : List Int} (hc : Code c) {k : Nat} (hk : c.length + 300 < k) : ∃ p, spec_DrawReadProgram.f k c = some p ∧ p.size ≤ 1001 := by
  unfold spec_DrawReadProgram.f
  refine bind_ok (from_ok hc (by omega)) fun p hp => ?_
  rw [hp.1]
  refine bind_ok (DrawRunCuts_ok hc hk) fun d hd => ?_
  rw [spec_ProgramText_eq _ _ (by omega)]
  simp only [Option.bind_some]
  have hl := progText_len d.2.2
  refine bind_ok (next_ok hc hp.2 3) fun r hr => ite_ok (fun _ => bind_ok (l01Damage_ok hc hr.1 _ (by rw [bs_size]; omega) (by omega)) fun e he => ⟨_, rfl, by rw [bs_size] at he; omega⟩) (fun _ => ⟨_, rfl, by rw [bs_size]; omega⟩)

theorem impl_ReadProgram_j1 (l : List UInt8) (ws : List ByteArray) (hw : ws.length ≤ 1048577) (w : ByteArray) (hs : w.size ≤ 1048576) (k i m : Nat) (hm : m < w.size) (hi : i < ws.length) (acc : List S50) (ha : acc.length ≤ 79) :
    impl_ReadProgram.j1 (k + 1) (bs l) acc w (m : Int) ws (ws.length : Int) (i : Int) ((acc.length : Int) == 79) =
      if acc.length = 79 then some ([], false) else
      if (HandR.readDec (w.extract 0 m)).2 = true then
        if (HandR.readDec (w.extract (m + 1) w.size)).2 = true then
          impl_ReadProgram.l0 k (bs l) (acc ++ [⟨(HandR.readDec (w.extract 0 m)).1, bt w (m : Int) == 45, (HandR.readDec (w.extract (m + 1) w.size)).1⟩]) ws (ws.length : Int) ((i + 1 : Nat) : Int)
        else some ([], false)
      else some ([], false) := by
  have e0 : ∀ a b, (w.extract a b).size ≤ 1099511627776 := fun a b => by rw [ByteArray.size_extract]; omega
  have em : wrap64 ((m : Int) + 1) = ((m + 1 : Nat) : Int) := by rw [w64 (by omega) (by omega)]; omega
  have ei : wrap64 ((i : Int) + 1) = ((i + 1 : Nat) : Int) := by rw [w64 (by omega) (by omega)]; omega
  rw [impl_ReadProgram.j1]
  by_cases h0 : acc.length = 79
  · rw [if_pos (by rw [h0]; rfl), if_pos h0]
  · have h0' : ((acc.length : Int) == 79) = false := beq_eq_false_iff_ne.2 (by omega)
    rw [h0', if_neg (by simp), if_neg h0, if_pos (by omega), if_pos (by omega), Int.toNat_natCast]
    unfold impl_readDecimal.f
    rw [if_pos (e0 _ _), em, Int.toNat_natCast, if_pos (e0 _ _), ei]
    simp only [Option.bind_some]
    rw [if_pos (by omega), if_pos (by omega)]
    generalize HandR.readDec (w.extract 0 m) = q1
    generalize HandR.readDec (w.extract (m + 1) w.size) = q2
    by_cases h1 : q1.2 = true
    · rw [if_pos h1, if_pos h1]
      by_cases h2 : q2.2 = true
      · rw [if_pos h2, if_pos h2, if_pos (by omega), if_pos (by omega)]
      · rw [if_neg h2, if_neg h2]
    · rw [if_neg h1, if_neg h1]
theorem impl_ReadProgram_l0 (l : List UInt8) (ws : List ByteArray) (hw : ws.length ≤ 1048577) (hs : ∀ w ∈ ws, w.size ≤ 1048576) : ∀ (d k i : Nat) (acc : List S50), i + d = ws.length → 2 * d + 400 ≤ k → acc.length ≤ 79 →
    impl_ReadProgram.l0 k (bs l) acc ws (ws.length : Int) (i : Int) = some (ends l (goI (ws.drop i) acc)) := by
  intro d
  induction d with
  | zero =>
    intro k i acc hi hk ha
    obtain ⟨k, rfl⟩ : ∃ m, k = m + 1 := ⟨k - 1, by omega⟩
    rw [impl_ReadProgram.l0, if_neg (by omega), impl_ProgramText_eq acc k (by omega), List.drop_of_length_le (by omega), goI]
    simp only [Option.bind_some, bs_toList, ends]
    by_cases h : progText acc = l
    · rw [if_pos h, if_pos h]
    · rw [if_neg h, if_neg h]
  | succ d ih =>
    intro k i acc hi hk ha
    obtain ⟨k, rfl⟩ : ∃ m, k = m + 2 := ⟨k - 2, by omega⟩
    have hlt : i < ws.length := by omega
    have hwl := hs _ (List.getElem_mem hlt)
    have hr : rdOf ByteArray.empty ws (i : Int) = ws[i] := by
      unfold rdOf
      rw [Int.toNat_natCast, List.getD_eq_getElem?_getD, List.getElem?_eq_getElem hlt]
      rfl
    have ha45 : (⟨#[124, 45]⟩ : ByteArray).data.toList = [124, 45] := rfl
    rw [impl_ReadProgram.l0, if_pos (by omega), if_pos (by omega), if_pos (by omega), hr]
    unfold strings_IndexAny.f
    rw [if_pos (by omega), if_pos ha45, List.drop_eq_getElem_cons hlt, goI]
    simp only [Option.bind_some]
    rcases indexAny_lt [124, 45] ws[i].data.toList with h | ⟨m, h, hm⟩
    · rw [if_pos h, if_pos h, impl_ReadProgram.j1, if_pos rfl]
      rfl
    · rw [h, if_neg (by omega), if_neg (by omega), Int.toNat_natCast]
      rw [← Lib.size_eq] at hm
      rw [impl_ReadProgram_j1 l ws hw ws[i] hwl k i m hm hlt acc ha]
      by_cases h0 : acc.length = 79
      · rw [if_pos h0, if_pos h0]; rfl
      · rw [if_neg h0, if_neg h0]
        by_cases h1 : (HandR.readDec (ws[i].extract 0 m)).2 = true
        · rw [if_pos h1, if_pos h1]
          by_cases h2 : (HandR.readDec (ws[i].extract (m + 1) ws[i].size)).2 = true
          · rw [if_pos h2, if_pos h2]
            exact ih k (i + 1) _ (by omega) (by omega) (by simp; omega)
          · rw [if_neg h2, if_neg h2]; rfl
        · rw [if_neg h1, if_neg h1]; rfl
theorem impl_ReadProgram_eq (l : List UInt8) (k : Nat) (hl : l.length ≤ 1048576) (hk : 4000000 ≤ k) : impl_ReadProgram.f k (bs l) = some (readS l) := by
  rw [← read_same]
  unfold impl_ReadProgram.f readI
  rw [bs_toList]
  by_cases h : l = []
  · rw [if_pos h, if_pos h]
  · have hn := HandR.pieces_len (bs l) (bs [32]) (by rw [bs_size]; simp)
    have hc := Lib.countB_le (bs [32]) (by rw [bs_size]; simp) (bs l).size (bs l) (Nat.le_refl _)
    rw [bs_size] at hc
    rw [if_neg h, if_neg h]
    unfold strings_Split.f
    rw [bs_size, if_pos (by omega), bs_32, if_pos (by rw [bs_size]; simp)]
    simp only [Option.bind_some]
    exact impl_ReadProgram_l0 l _ (by omega) (fun w hw => by have := splitB_sizes _ _ _ _ w hw; rw [bs_size] at this; omega) (HandR.pieces (bs l) (bs [32])).length k 0 [] (by omega) (by omega) (by simp)

theorem bs_extract (l : List UInt8) (a b : Nat) : (bs l).extract a b = bs ((l.drop a).take (b - a)) := by
  rw [← bs_of ((bs l).extract a b), Lib.extract_data, bs_data]
theorem bs_bt (l : List UInt8) (i : Nat) (h : i < l.length) : bt (bs l) (i : Int) = (l[i].toNat : Int) := by
  unfold bt
  rw [Int.toNat_natCast, dif_pos (by rw [bs_size]; exact h)]
  have h5 := Lib.data_getElem? (bs l) i (by rw [bs_size]; exact h)
  rw [bs_data, List.getElem?_eq_getElem h] at h5
  rw [← Option.some.inj h5]
theorem spec_l01Split_l0 (l : List UInt8) (c : UInt8) (hl : l.length ≤ 2097152) : ∀ (d k i s : Nat) (out : List (List UInt8)), i + d = l.length → d + 2 ≤ k → s ≤ i → out.length ≤ i →
    spec_l01Split.l0 k (bs l) (c.toNat : Int) (out.map bs) (s : Int) (i : Int) = some ((out ++ splA c ((l.drop s).take (i - s)) (l.drop i)).map bs) := by
  intro d
  induction d with
  | zero =>
    intro k i s out hi hk hs ho
    obtain ⟨k, rfl⟩ : ∃ m, k = m + 2 := ⟨k - 2, by omega⟩
    rw [spec_l01Split.l0, bs_size, if_pos (by omega), if_pos (by omega), if_pos (by omega), if_pos (by omega), List.length_map, if_pos (by omega), w64 (by omega) (by omega), spec_l01Split.l0, bs_size, if_neg (by omega), Int.toNat_natCast, Int.toNat_natCast, bs_extract, List.drop_of_length_le (l := l) (i := i) (by omega), splA]
    simp
  | succ d ih =>
    intro k i s out hi hk hs ho
    obtain ⟨k, rfl⟩ : ∃ m, k = m + 1 := ⟨k - 1, by omega⟩
    have hlt : i < l.length := by omega
    have hc : l.drop i = l[i] :: l.drop (i + 1) := List.drop_eq_getElem_cons hlt
    have hw : wrap64 ((i : Int) + 1) = ((i + 1 : Nat) : Int) := by rw [w64 (by omega) (by omega)]; omega
    rw [spec_l01Split.l0, bs_size, if_pos (by omega), if_neg (by omega), if_pos (by omega), if_pos (by omega), bs_bt l i hlt, hw, hc, splA]
    by_cases h : l[i] = c
    · rw [if_pos (by rw [h]), if_pos (by omega), if_pos (by omega), List.length_map, if_pos (by omega), if_pos h, Int.toNat_natCast, Int.toNat_natCast, bs_extract]
      have := ih k (i + 1) (i + 1) (out ++ [(l.drop s).take (i - s)]) (by omega) (by omega) (by omega) (by simp; omega)
      rw [List.map_append, Nat.sub_self, List.take_zero] at this
      rw [List.map_cons, List.map_nil] at this
      rw [this]
      simp
    · rw [if_neg (fun e => h (UInt8.toNat_inj.1 (by omega))), if_neg h]
      have := ih k (i + 1) s out (by omega) (by omega) (by omega) (by omega)
      rw [this]
      congr 3
      congr 1
      have e1 : i + 1 - s = (i - s) + 1 := by omega
      rw [e1, List.take_add_one, List.getElem?_drop, show s + (i - s) = i by omega, List.getElem?_eq_getElem hlt]
      rfl
theorem spec_l01Split_eq (l : List UInt8) (c : UInt8) (k : Nat) (hl : l.length ≤ 2097152) (hk : l.length + 2 ≤ k) : spec_l01Split.f k (bs l) (c.toNat : Int) = some ((splA c [] l).map bs) := by
  have := spec_l01Split_l0 l c hl l.length k 0 0 [] (by omega) hk (by omega) (by simp)
  unfold spec_l01Split.f
  refine (show _ = _ from this).trans ?_
  simp

theorem spec_l01Digits_l0 (l : List UInt8) (hl : l.length ≤ 10) : ∀ (d k i : Nat) (n : Int), i + d = l.length → d + 12 ≤ k → 0 ≤ n → n < 10 ^ i →
    spec_l01Digits.l0 k (bs l) n (i : Int) = some (match dgs (l.drop i) n with | none => (0, false) | some n => (n, Lib.decDigits n.toNat == l)) := by
  intro d
  induction d with
  | zero =>
    intro k i n hi hk h0 h1
    obtain ⟨k, rfl⟩ : ∃ m, k = m + 1 := ⟨k - 1, by omega⟩
    have hp : (10 : Int) ^ i ≤ 10 ^ 10 := by
      have : (10 : Nat) ^ i ≤ 10 ^ 10 := Nat.pow_le_pow_right (by omega) (by omega)
      exact_mod_cast this
    have hn : n = ((n.toNat : Nat) : Int) := by omega
    have hd : spec_l01Dec.f k n = some (bs (Lib.decDigits n.toNat)) := by
      rw [hn, Int.toNat_natCast]
      exact spec_l01Dec_eq 9 k n.toNat (by omega) (by omega) (by omega) (by omega)
    rw [spec_l01Digits.l0, bs_size, if_neg (by omega), hd, List.drop_of_length_le (by omega)]
    simp only [Option.bind_some, dgs, bs_toList]
  | succ d ih =>
    intro k i n hi hk h0 h1
    obtain ⟨k, rfl⟩ : ∃ m, k = m + 1 := ⟨k - 1, by omega⟩
    have hlt : i < l.length := by omega
    have hc : l.drop i = l[i] :: l.drop (i + 1) := List.drop_eq_getElem_cons hlt
    have hp : (10 : Int) ^ i ≤ 10 ^ 10 := by
      have : (10 : Nat) ^ i ≤ 10 ^ 10 := Nat.pow_le_pow_right (by omega) (by omega)
      exact_mod_cast this
    have hb := l[i].toNat_lt
    rw [spec_l01Digits.l0, bs_size, if_pos (by omega), if_pos (by omega), bs_bt l i hlt, hc, dgs]
    by_cases a1 : (l[i].toNat : Int) < 48
    · rw [if_pos a1, if_pos a1]
    · rw [if_neg a1, if_neg a1]
      by_cases a2 : (l[i].toNat : Int) > 57
      · rw [if_pos a2, if_pos a2]
      · have e1 : ((l[i].toNat : Int) - 48) % 256 = (l[i].toNat : Int) - 48 := by omega
        have e2 : (10 : Int) ^ (i + 1) = 10 * 10 ^ i := by rw [Int.pow_succ]; omega
        rw [if_neg a2, if_neg a2, e1, w64 (x := 10 * n) (by omega) (by omega), w64 (x := 10 * n + ((l[i].toNat : Int) - 48)) (by omega) (by omega), w64 (x := (i : Int) + 1) (by omega) (by omega)]
        exact ih k (i + 1) _ (by omega) (by omega) (by omega) (by rw [e2]; omega)
theorem spec_l01Digits_eq (l : List UInt8) (k : Nat) (hk : 30 ≤ k) (hl : l.length ≤ 2097152) : spec_l01Digits.f k (bs l) = some (digitsM l) := by
  obtain ⟨k, rfl⟩ : ∃ m, k = m + 1 := ⟨k - 1, by omega⟩
  unfold spec_l01Digits.f digitsM
  rw [bs_size]
  by_cases h1 : (l.length : Int) < 1
  · rw [if_pos h1, spec_l01Digits.j0, if_pos rfl, if_pos (.inl (by omega))]
  · rw [if_neg h1, spec_l01Digits.j0]
    by_cases h2 : (l.length : Int) > 10
    · rw [if_pos (decide_eq_true h2), if_pos (.inr (by omega))]
    · rw [if_neg (by simpa using h2), if_neg (by omega)]
      have := spec_l01Digits_l0 l (by omega) l.length k 0 0 (by omega) (by omega) (by omega) (by simp)
      exact this
theorem dgs_bd : ∀ (l : List UInt8) (n m : Int) (i : Nat), 0 ≤ n → n < 10 ^ i → dgs l n = some m → 0 ≤ m ∧ m < 10 ^ (i + l.length)
  | [], n, m, i, h0, h1, h => by
    simp only [dgs, Option.some.injEq] at h
    subst h
    exact ⟨h0, h1⟩
  | b :: r, n, m, i, h0, h1, h => by
    rw [dgs] at h
    split at h
    · cases h
    · split at h
      · cases h
      · have e2 : (10 : Int) ^ (i + 1) = 10 * 10 ^ i := by rw [Int.pow_succ]; omega
        have := dgs_bd r _ m (i + 1) (by omega) (by rw [e2]; omega) h
        rw [List.length_cons, show i + (r.length + 1) = i + 1 + r.length by omega]
        exact this
theorem digitsM_bd (l : List UInt8) : 0 ≤ (digitsM l).1 ∧ (digitsM l).1 ≤ 10000000000 := by
  unfold digitsM
  split
  · simp
  · cases h : dgs l 0 with
    | none => simp
    | some n =>
      have := dgs_bd l 0 n 0 (by omega) (by simp) h
      have hp : (10 : Int) ^ (0 + l.length) ≤ 10 ^ 10 := by
        have : (10 : Nat) ^ (0 + l.length) ≤ 10 ^ 10 := Nat.pow_le_pow_right (by omega) (by omega)
        exact_mod_cast this
      simp only
      omega

theorem spec_l01Signed_eq (l : List UInt8) (k : Nat) (hk : 40 ≤ k) (hl : l.length ≤ 2097152) : spec_l01Signed.f k (bs l) = some (signedM l) := by
  obtain ⟨k, rfl⟩ : ∃ m, k = m + 1 := ⟨k - 1, by omega⟩
  unfold spec_l01Signed.f signedM
  rw [bs_size]
  cases l with
  | nil =>
    rw [if_neg (by simp), spec_l01Signed.j0, if_neg (by simp), spec_l01Digits_eq [] k (by omega) (by simp)]
    simp
  | cons b r =>
    have hb : bt (bs (b :: r)) 0 = (b.toNat : Int) := bs_bt (b :: r) 0 (by simp)
    have hd := spec_l01Digits_eq (b :: r) k (by omega) hl
    have hd2 := spec_l01Digits_eq r k (by omega) (by simp at hl; omega)
    have he : (bs (b :: r)).extract 1 (bs (b :: r)).size = bs r := by
      rw [bs_extract, bs_size]
      simp
    rw [if_pos (by simp <;> omega), if_pos (by simp <;> omega), hb, spec_l01Signed.j0, he, hd, hd2, bs_size]
    simp only [Option.bind_some, List.head?_cons, Option.some.injEq, List.tail_cons]
    by_cases h : b = 45
    · subst h
      rw [if_pos (by decide), if_pos (by simp; omega), if_pos rfl]
      by_cases h2 : (digitsM r).2 = true
      · rw [if_pos h2, h2, Bool.true_and]
        rfl
      · have h2' : (digitsM r).2 = false := by simpa using h2
        rw [if_neg h2, h2', Bool.false_and]
    · have h3 : ((b.toNat : Int) == 45) = false := beq_eq_false_iff_ne.2 (fun e => h (UInt8.toNat_inj.1 (by rw [show (45 : UInt8).toNat = 45 from rfl]; omega)))
      rw [h3, if_neg (by simp), if_neg h]

theorem rdOf_bs (ws : List (List UInt8)) (i : Nat) (h : i < ws.length) : rdOf ByteArray.empty (ws.map bs) (i : Int) = bs ws[i] := by
  unfold rdOf
  rw [Int.toNat_natCast, List.getD_eq_getElem?_getD, List.getElem?_map, List.getElem?_eq_getElem h]
  rfl
theorem spec_l01Numbers_l0 (ws : List (List UInt8)) (hw : ws.length ≤ 2097153) (hs : ∀ w ∈ ws, w.length ≤ 2097152) : ∀ (d k i : Nat) (acc : List Int), i + d = ws.length → d + 42 ≤ k → acc.length ≤ i →
    spec_l01Numbers.l0 k (ws.map bs) acc (i : Int) = some (numsM (ws.drop i) acc) := by
  intro d
  induction d with
  | zero =>
    intro k i acc hi hk ha
    obtain ⟨k, rfl⟩ : ∃ m, k = m + 1 := ⟨k - 1, by omega⟩
    rw [spec_l01Numbers.l0, List.length_map, if_neg (by omega), List.drop_of_length_le (by omega), numsM]
  | succ d ih =>
    intro k i acc hi hk ha
    obtain ⟨k, rfl⟩ : ∃ m, k = m + 1 := ⟨k - 1, by omega⟩
    have hlt : i < ws.length := by omega
    rw [spec_l01Numbers.l0, List.length_map, if_pos (by omega), if_pos (by omega), rdOf_bs ws i hlt, spec_l01Signed_eq _ k (by omega) (hs _ (List.getElem_mem hlt)), List.drop_eq_getElem_cons hlt, numsM]
    simp only [Option.bind_some]
    by_cases h : (signedM ws[i]).2 = true
    · rw [if_pos h, if_pos h, if_pos (by omega), w64 (by omega) (by omega)]
      exact ih k (i + 1) _ (by omega) (by omega) (by simp; omega)
    · rw [if_neg h, if_neg h]
theorem spec_l01Numbers_eq (ws : List (List UInt8)) (k : Nat) (hw : ws.length ≤ 2097153) (hs : ∀ w ∈ ws, w.length ≤ 2097152) (hk : ws.length + 42 ≤ k) : spec_l01Numbers.f k (ws.map bs) = some (numsM ws []) := by
  unfold spec_l01Numbers.f
  exact spec_l01Numbers_l0 ws hw hs ws.length k 0 [] (by omega) hk (by simp)

theorem byM_cases (w : List UInt8) : byM w = 45 ∨ byM w = 124 := by unfold byM; split <;> simp
theorem spec_ReadProgram_j1 (l : List UInt8) (ws : List (List UInt8)) (hw : ws.length ≤ 1048577) (hs : ∀ w ∈ ws, w.length ≤ 1048576) (k i : Nat) (hlt : i < ws.length) (hk : 1048676 ≤ k) (acc : List S50) (ha : acc.length ≤ i) :
    spec_ReadProgram.j1 (k + 1 + 1) (bs l) acc (ws.map bs) (i : Int) ((byM ws[i]).toNat : Int) =
      if (numsM (splA (byM ws[i]) [] ws[i]) []).2 = true then
        if (numsM (splA (byM ws[i]) [] ws[i]) []).1.length = 2 then
          if rd (numsM (splA (byM ws[i]) [] ws[i]) []).1 0 < 0 then some ([], false) else if rd (numsM (splA (byM ws[i]) [] ws[i]) []).1 1 < 0 then some ([], false) else
          spec_ReadProgram.l0 k (bs l) (acc ++ [⟨rd (numsM (splA (byM ws[i]) [] ws[i]) []).1 0, byM ws[i] == 45, rd (numsM (splA (byM ws[i]) [] ws[i]) []).1 1⟩]) (ws.map bs) ((i + 1 : Nat) : Int)
        else some ([], false)
      else some ([], false) := by
  have hwl := hs _ (List.getElem_mem hlt)
  have hsp := splA_len (byM ws[i]) ws[i] []
  have hk2 : (((byM ws[i]).toNat : Int) == 45) = (byM ws[i] == 45) := by
    rcases byM_cases ws[i] with e | e <;> rw [e] <;> rfl
  rw [spec_ReadProgram.j1, if_pos (by omega), List.length_map, if_pos (by omega), rdOf_bs ws i hlt, spec_l01Split_eq _ _ (k + 1) (by omega) (by omega)]
  simp only [Option.bind_some]
  rw [spec_l01Numbers_eq _ (k + 1) (by omega) (fun w hw' => by have := hsp.2.2 w hw'; simp at this; omega) (by omega)]
  simp only [Option.bind_some]
  generalize numsM (splA (byM ws[i]) [] ws[i]) [] = q
  have hT : spec_ReadProgram.j2 (k + 1) (bs l) acc (ws.map bs) (i : Int) ((byM ws[i]).toNat : Int) q.1 true = some ([], false) := by rw [spec_ReadProgram.j2, if_pos rfl]
  by_cases h1 : q.2 = true
  · rw [if_pos h1, if_pos h1]
    by_cases h2 : q.1.length = 2
    · rw [if_pos (by omega), if_pos h2, if_pos (by omega)]
      by_cases h3 : rd q.1 0 < 0
      · rw [if_pos h3, if_pos h3, hT]
      · rw [if_neg h3, if_neg h3, if_pos (by omega)]
        by_cases h4 : rd q.1 1 < 0
        · rw [if_pos h4, decide_eq_true h4, hT]
        · rw [if_neg h4, decide_eq_false h4, spec_ReadProgram.j2, if_neg (by decide), if_pos (by omega), if_pos (by omega), if_pos (by omega), hk2, w64 (by omega) (by omega)]
          rfl
    · rw [if_neg (by omega), if_neg h2, hT]
  · rw [if_neg h1, if_neg h1, hT]
theorem spec_ReadProgram_l0 (l : List UInt8) (ws : List (List UInt8)) (hw : ws.length ≤ 1048577) (hs : ∀ w ∈ ws, w.length ≤ 1048576) : ∀ (d k i : Nat) (acc : List S50), i + d = ws.length → 3 * d + 1048700 ≤ k → acc.length ≤ i →
    spec_ReadProgram.l0 k (bs l) acc (ws.map bs) (i : Int) = some (ends l (goS (ws.drop i) acc)) := by
  intro d
  induction d with
  | zero =>
    intro k i acc hi hk ha
    obtain ⟨k, rfl⟩ : ∃ m, k = m + 1 := ⟨k - 1, by omega⟩
    rw [spec_ReadProgram.l0, List.length_map, if_neg (by omega), spec_ProgramText_eq acc k (by omega), List.drop_of_length_le (by omega), goS]
    simp only [Option.bind_some, bs_toList, ends]
    by_cases h : progText acc = l
    · rw [if_pos h, if_pos h]
    · rw [if_neg h, if_neg h]
  | succ d ih =>
    intro k i acc hi hk ha
    obtain ⟨k, rfl⟩ : ∃ m, k = m + 1 + 1 + 1 := ⟨k - 3, by omega⟩
    have hlt : i < ws.length := by omega
    have hwl := hs _ (List.getElem_mem hlt)
    have h45 := spec_l01Split_eq ws[i] 45 (k + 1 + 1) (by omega) (by omega)
    have e45 : (((45 : UInt8).toNat : Nat) : Int) = 45 := rfl
    rw [e45] at h45
    rw [spec_ReadProgram.l0, List.length_map, if_pos (by omega), if_pos (by omega), rdOf_bs ws i hlt, h45]
    simp only [Option.bind_some]
    have hj := spec_ReadProgram_j1 l ws hw hs k i hlt (by omega) acc ha
    have hby : (if (((splA 45 [] ws[i]).map bs).length : Int) = 2 then spec_ReadProgram.j1 (k + 1 + 1) (bs l) acc (ws.map bs) (i : Int) 45 else spec_ReadProgram.j1 (k + 1 + 1) (bs l) acc (ws.map bs) (i : Int) 124) = spec_ReadProgram.j1 (k + 1 + 1) (bs l) acc (ws.map bs) (i : Int) ((byM ws[i]).toNat : Int) := by
      rw [List.length_map]
      unfold byM
      by_cases h : (splA 45 [] ws[i]).length = 2
      · rw [if_pos (by omega), if_pos h]; rfl
      · rw [if_neg (by omega), if_neg h]; rfl
    rw [hby, hj, List.drop_eq_getElem_cons hlt, goS]
    generalize numsM (splA (byM ws[i]) [] ws[i]) [] = q
    by_cases h1 : q.2 = true
    · rw [if_pos h1, if_pos h1]
      by_cases h2 : q.1.length = 2
      · rw [if_pos h2, if_pos h2]
        by_cases h3 : rd q.1 0 < 0
        · rw [if_pos h3, if_pos h3]; rfl
        · rw [if_neg h3, if_neg h3]
          by_cases h4 : rd q.1 1 < 0
          · rw [if_pos h4, if_pos h4]; rfl
          · rw [if_neg h4, if_neg h4]
            exact ih k (i + 1) _ (by omega) (by omega) (by simp; omega)
      · rw [if_neg h2, if_neg h2]; rfl
    · rw [if_neg h1, if_neg h1]; rfl
theorem spec_ReadProgram_eq (l : List UInt8) (k : Nat) (hl : l.length ≤ 1048576) (hk : 5000000 ≤ k) : spec_ReadProgram.f k (bs l) = some (readS l) := by
  unfold spec_ReadProgram.f readS
  simp only [Option.bind_some, bs_toList]
  by_cases h : l = []
  · rw [if_pos h, if_pos h]
  · have h32 := spec_l01Split_eq l 32 k (by omega) (by omega)
    have e32 : (((32 : UInt8).toNat : Nat) : Int) = 32 := rfl
    rw [e32] at h32
    have hsp := splA_len 32 l []
    rw [if_neg h, if_neg h, h32]
    simp only [Option.bind_some]
    exact spec_ReadProgram_l0 l _ (by omega) (fun w hw => by have := hsp.2.2 w hw; simp at this; omega) (splA 32 [] l).length k 0 [] (by omega) (by omega) (by simp)

theorem laws_likeCuts9_l0 (l : List S50) (hl : l.length ≤ 9223372036854775806) : ∀ (d k i : Nat), i + d = l.length → d < k → laws_likeCuts9.l0 k l l (i : Int) = some true := by
  intro d
  induction d with
  | zero =>
    intro k i h hk
    obtain ⟨k, rfl⟩ : ∃ m, k = m + 1 := ⟨k - 1, by omega⟩
    rw [laws_likeCuts9.l0, if_neg (by omega)]
  | succ d ih =>
    intro k i h hk
    obtain ⟨k, rfl⟩ : ∃ m, k = m + 1 := ⟨k - 1, by omega⟩
    rw [laws_likeCuts9.l0, if_pos (by omega), if_pos (by omega), if_pos (by omega), if_neg (by simp), w64 (x := (i : Int) + 1) (by omega) (by omega)]
    exact ih k (i + 1) (by omega) (by omega)
theorem laws_likeCuts9_eq (l : List S50) (k : Nat) (hl : l.length ≤ 9223372036854775806) (hk : l.length < k) : laws_likeCuts9.f k l l = some true := by
  unfold laws_likeCuts9.f
  rw [if_pos rfl]
  exact laws_likeCuts9_l0 l hl l.length k 0 (by omega) hk

theorem impl_Piece_54_eq (l : List S25) : impl_Piece_54.f l = some (l.length : Int) := rfl
theorem impl_lengthPiece (l : List S25) : impl_Piece_54.f l = some (l.length : Int) := rfl

theorem impl_possible_eq (k : Nat) (l : List S25) (i : Int) (acr : Bool) (at_ : Int) (h : arePieces l = true) : impl_possible.f (k + 1) l i acr at_ = some (possible l i acr at_) := by
  have hl := (arePieces_true h).1
  unfold impl_possible.f possible
  simp only [impl_lengthPiece, impl_inRange_eq, Option.bind_some]
  rw [w64 (x := (l.length : Int) - 1) (by omega) (by omega)]
  cases hi : inR i 0 ((l.length : Int) - 1)
  · simp [impl_possible.j0]
  have h1 := inR_true hi
  have hs := sideOf_bd (acr := acr) h hi
  unfold sideOf at hs ⊢
  by_cases hf : l.length < 80
  · rw [decide_eq_true hf, decide_eq_false (show ¬ (l.length : Int) ≥ 80 by omega)]
    simp only [if_true, impl_possible.j0, Bool.false_eq_true, if_false, Bool.true_and]
    rw [if_pos (by omega), if_pos (by omega)]
    cases acr
    · simp only [Bool.false_eq_true, if_false] at hs ⊢
      rw [w64 (by omega) (by omega), impl_inRange_eq]
      rfl
    · simp only [if_true] at hs ⊢
      rw [w64 (by omega) (by omega), impl_inRange_eq]
      rfl
  · rw [decide_eq_false hf, decide_eq_true (show (l.length : Int) ≥ 80 by omega)]
    simp [impl_possible.j0]

theorem slices_ConcatPiece_three (a b c : List S25) (k : Nat) (ha : a.length ≤ 1000) (hb : b.length ≤ 1000) (hc : c.length ≤ 1000) : slices_ConcatPiece.f (k + 8) [a, b, c] = some (a ++ (b ++ c)) := by
  have r0 : rd_L6 [a, b, c] 0 = a := rfl
  have r1 : rd_L6 [a, b, c] 1 = b := rfl
  have r2 : rd_L6 [a, b, c] 2 = c := rfl
  have e0 : wrap64 (0 + (a.length : Int)) = (a.length : Int) := by rw [w64 (by omega) (by omega)]; omega
  have e1 : wrap64 ((a.length : Int) + (b.length : Int)) = (a.length : Int) + (b.length : Int) := w64 (by omega) (by omega)
  have e2 : wrap64 ((a.length : Int) + (b.length : Int) + (c.length : Int)) = (a.length : Int) + (b.length : Int) + (c.length : Int) := w64 (by omega) (by omega)
  have u0 : wrap64 (0 + 1) = 1 := w64 (by omega) (by omega)
  have u1 : wrap64 (1 + 1) = 2 := w64 (by omega) (by omega)
  have u2 : wrap64 (2 + 1) = 3 := w64 (by omega) (by omega)
  unfold slices_ConcatPiece.f
  simp only [List.length_cons, List.length_nil]
  rw [slices_ConcatPiece.l0, if_pos (by omega), if_pos (by omega), if_pos (by simp only [List.length_cons, List.length_nil]; omega), r0, e0, if_neg (by omega), u0,
    slices_ConcatPiece.l0, if_pos (by omega), if_pos (by omega), if_pos (by simp only [List.length_cons, List.length_nil]; omega), r1, e1, if_neg (by omega), u1,
    slices_ConcatPiece.l0, if_pos (by omega), if_pos (by omega), if_pos (by simp only [List.length_cons, List.length_nil]; omega), r2, e2, if_neg (by omega), u2,
    slices_ConcatPiece.l0, if_neg (by omega), if_pos (by omega), if_pos (by omega)]
  simp only [List.length_cons, List.length_nil]
  rw [slices_ConcatPiece.l1, if_pos (by omega), if_pos (by omega), if_pos (by simp only [List.length_cons, List.length_nil]; omega), r0, if_pos (by simp only [List.length_nil]; omega), u0,
    slices_ConcatPiece.l1, if_pos (by omega), if_pos (by omega), if_pos (by simp only [List.length_cons, List.length_nil]; omega), r1, if_pos (by simp only [List.length_append, List.length_nil]; omega), u1,
    slices_ConcatPiece.l1, if_pos (by omega), if_pos (by omega), if_pos (by simp only [List.length_cons, List.length_nil]; omega), r2, if_pos (by simp only [List.length_append, List.length_nil]; omega), u2,
    slices_ConcatPiece.l1, if_neg (by omega)]
  simp

theorem impl_cut_eq (l : List S25) (i : Int) (acr : Bool) (at_ : Int) (k : Nat) (hk : 9 ≤ k) (h : arePieces l = true) (hp : possible l i acr at_ = true) : impl_cut.f k l i acr at_ = some (cutP l i acr at_) := by
  obtain ⟨k, rfl⟩ : ∃ m, k = m + 8 + 1 := ⟨k - 9, by omega⟩
  obtain ⟨⟨h0, h1⟩, h2, h3, h4⟩ := possible_true hp
  have hr := rdP_ok h h0 h1
  obtain ⟨n, rfl⟩ : ∃ n : Nat, i = n := ⟨i.toNat, by omega⟩
  have e1 : wrap64 ((n : Int) + 1) = ((n + 1 : Nat) : Int) := w64 (by omega) (by omega)
  unfold sideOf at h4
  unfold impl_cut.f cutP
  rw [if_pos h0, if_pos h1]
  cases acr
  · simp only [Bool.false_eq_true, if_false] at h4 ⊢
    rw [impl_cut.j0]
    simp only [e1, Int.toNat_natCast]
    rw [if_pos (by omega), if_pos (by omega), if_pos (by omega), if_pos (by omega), slices_ConcatPiece_three _ _ _ k (by rw [List.length_take]; omega) (by simp) (by rw [List.length_drop]; omega), w64 (x := (rd_T25 l (n : Int)).f0 - at_) (by omega) (by omega)]
    rfl
  · simp only [if_true] at h4 ⊢
    rw [impl_cut.j0]
    simp only [e1, Int.toNat_natCast]
    rw [if_pos (by omega), if_pos (by omega), if_pos (by omega), if_pos (by omega), slices_ConcatPiece_three _ _ _ k (by rw [List.length_take]; omega) (by simp) (by rw [List.length_drop]; omega), w64 (x := (rd_T25 l (n : Int)).f1 - at_) (by omega) (by omega)]
    rfl

theorem impl_RunCuts_l0 (cs : List S50) (hl : cs.length ≤ 1048576) : ∀ (d k i : Nat) (l : List S25), i + d = cs.length → d + 100 ≤ k → arePieces l = true → impl_RunCuts.l0 k l cs (cs.length : Int) (i : Int) = some (runL l (cs.drop i)) := by
  intro d
  induction d with
  | zero =>
    intro k i l hi hk h
    obtain ⟨k, rfl⟩ : ∃ m, k = m + 1 := ⟨k - 1, by omega⟩
    rw [impl_RunCuts.l0, if_neg (by omega), List.drop_of_length_le (by omega), runL]
  | succ d ih =>
    intro k i l hi hk h
    obtain ⟨k, rfl⟩ : ∃ m, k = (m + 1) + 1 := ⟨k - 2, by omega⟩
    have hlt : i < cs.length := by omega
    rw [impl_RunCuts.l0, if_pos (by omega), if_pos (by omega), if_pos (by omega), rdICut cs i hlt, dropICut cs i hlt, runL, impl_possible_eq k l _ _ _ h, w64 (x := (i : Int) + 1) (by omega) (by omega)]
    simp only [Option.bind_some]
    by_cases hp : possible l cs[i].f0 cs[i].f1 cs[i].f2 = true
    · rw [if_pos hp, if_pos hp, impl_cut_eq l _ _ _ (k + 1) (by omega) h hp]
      simp only [Option.bind_some]
      exact ih (k + 1) (i + 1) _ (by omega) (by omega) (cutP_ok h hp)
    · rw [if_neg hp, if_neg hp]
theorem impl_RunCuts_eq (a b : Int) (cs : List S50) (k : Nat) (hl : cs.length ≤ 1048576) (hk : cs.length + 100 ≤ k) : impl_RunCuts.f k a b cs = some (runCuts a b cs) := by
  unfold impl_RunCuts.f runCuts
  rw [impl_IsPiece_eq]
  simp only [Option.bind_some]
  by_cases h : isPiece a b = true
  · rw [if_pos h, if_pos h]
    by_cases c : (cs.length : Int) > 79
    · rw [if_pos c, if_pos c]
    · rw [if_neg c, if_neg c]
      exact impl_RunCuts_l0 cs hl cs.length k 0 _ (by omega) hk (are_one h)
  · rw [if_neg h, if_neg h]

theorem impl_arePieces_eq (l : List S25) : impl_arePieces.f l = some (arePieces l) := rfl

theorem impl_CountPieces_l0 (xs : List S25) (a b : Int) (hl : xs.length ≤ 80) : ∀ (d k i : Nat) (c : Int), i + d = xs.length → d < k → 0 ≤ c → c ≤ i → impl_CountPieces.l0 k c xs (xs.length : Int) (i : Int) a b = some (c + cntP a b (xs.drop i), 0) := by
  intro d
  induction d with
  | zero =>
    intro k i c h hk h0 hc
    obtain ⟨k, rfl⟩ : ∃ m, k = m + 1 := ⟨k - 1, by omega⟩
    rw [impl_CountPieces.l0, if_neg (by omega), List.drop_of_length_le (by omega), cntP, Int.add_zero]
  | succ d ih =>
    intro k i c h hk h0 hc
    obtain ⟨k, rfl⟩ : ∃ m, k = m + 1 := ⟨k - 1, by omega⟩
    have hlt : i < xs.length := by omega
    rw [impl_CountPieces.l0, if_pos (by omega), if_pos (by omega), if_pos (by omega), rdIPiece xs i hlt, dropIPiece xs i hlt, w64 (x := (i : Int) + 1) (by omega) (by omega), cntP, impl_toInt_eq]
    simp only [Option.bind_some]
    by_cases hx : (xs[i].f0 == a && (xs[i].f1 == b)) = true
    · rw [if_pos hx, w64 (by omega) (by omega)]
      have := ih k (i + 1) (c + 1) (by omega) (by omega) (by omega) (by omega)
      rw [show ((i + 1 : Nat) : Int) = (i : Int) + 1 by omega] at this
      rw [this, Int.add_assoc]
    · rw [if_neg hx, w64 (by omega) (by omega), Int.add_zero]
      have := ih k (i + 1) c (by omega) (by omega) (by omega) (by omega)
      rw [show ((i + 1 : Nat) : Int) = (i : Int) + 1 by omega] at this
      rw [this, Int.zero_add]
theorem impl_CountPieces_eq (xs : List S25) (a b : Int) (k : Nat) (hl : xs.length ≤ 9223372036854775806) (hk : xs.length + 1 < k) : impl_CountPieces.f k xs a b = some (countPieces xs a b) := by
  obtain ⟨k, rfl⟩ : ∃ m, k = m + 1 := ⟨k - 1, by omega⟩
  unfold impl_CountPieces.f countPieces
  simp only [impl_arePieces_eq, impl_IsPiece_eq, Option.bind_some]
  cases h : arePieces xs
  · simp [impl_CountPieces.j0]
  cases h2 : isPiece a b
  · simp [impl_CountPieces.j0]
  simp only [if_true, Bool.and_self, Bool.not_true, impl_CountPieces.j0, Bool.false_eq_true, if_false]
  have := impl_CountPieces_l0 xs a b (arePieces_true h).1 xs.length k 0 0 (by omega) (by omega) (by omega) (by omega)
  rw [List.drop_zero, Int.zero_add] at this
  exact this

theorem readS_back (l : List UInt8) (h : (readS l).2 = true) : progText (readS l).1 = l := by
  unfold readS at h ⊢
  by_cases h0 : l = []
  · rw [if_pos h0]
    rw [h0]
    rfl
  · rw [if_neg h0] at h ⊢
    rcases ends_ok (l := l) (o := goS (splA 32 [] l) []) with e | ⟨cs, e1, e2⟩
    · rw [e] at h
      exact absurd h (by decide)
    · rw [e2]
      exact e1
theorem FnGridCuts : laws_FnGridCuts.Pure := by
  intro l0 _ _ hw
  by_cases hbig : (l0.length : Int) > 4096
  · exact ⟨0, by unfold laws_FnGridCuts.f; rw [laws_big_eq, decide_eq_true hbig]; rfl⟩
  obtain ⟨m, hm⟩ : ∃ m : Nat, m = 6000000 := ⟨_, rfl⟩
  have hc : Code l0 := ⟨fun x hx => wfByte (hw x hx), by omega⟩
  obtain ⟨d, ed, _⟩ := DrawGridCuts_ok hc (k := m + 1) (by omega)
  obtain ⟨x, ex, hx⟩ := DrawProgramText_ok hc (k := m + 1) (by omega)
  obtain ⟨s, es, hs⟩ := DrawReadProgram_ok hc (k := m + 1) (by omega)
  obtain ⟨pw, ph, a, c, qw, qh⟩ := d
  refine ⟨m + 1, ?_⟩
  have hb : decide ((l0.length : Int) > 4096) = false := decide_eq_false hbig
  rw [← bs_of s] at es
  generalize hsl : s.data.toList = sl at es
  have hsl2 : sl.length ≤ 1001 := by rw [← hsl, Array.length_toList]; exact hs
  have hg := gridCuts_len pw ph a c qw qh
  have hr := readS_len sl
  have hx2 := progText_len x
  have hPi := impl_ProgramText_eq x (m + 1) (by omega)
  have hPs := spec_ProgramText_eq x (m + 1) (by omega)
  have hRi := impl_ReadProgram_eq sl (m + 1) (by omega) (by omega)
  have hRs := spec_ReadProgram_eq sl (m + 1) (by omega) (by omega)
  have hL1 := laws_likeCuts9_eq (gridCuts pw ph a c qw qh).1 (m + 1) (by omega) (by omega)
  have hL2 := laws_likeCuts9_eq (readS sl).1 (m + 1) (by omega) (by omega)
  have hj1 : ∀ k, 100000 ≤ k → laws_FnGridCuts.j1 (k + 1) a c (gridCuts pw ph a c qw qh).1 (gridCuts pw ph a c qw qh).2 pw ph qw qh = some true := by
    intro k hk
    rw [laws_FnGridCuts.j1]
    by_cases h0 : (gridCuts pw ph a c qw qh).2 = 0
    · rw [if_pos h0]
      obtain ⟨l, e1, e2, e3, e4, e5, e6, e7⟩ := grid_law pw ph a c qw qh h0
      have hm : 0 ≤ a * c ∧ a * c ≤ 6400 := by
        constructor
        · exact Int.mul_nonneg (by omega) (by omega)
        · have := Int.mul_le_mul (show a ≤ 80 by omega) (show c ≤ 80 by omega) (by omega) (by omega)
          omega
      rw [impl_RunCuts_eq _ _ _ k (by omega) (by omega), e1]
      simp only [Option.bind_some]
      rw [impl_CountPieces_eq _ _ _ k (by omega) (by omega)]
      simp only [Option.bind_some, countPieces, e2, e3, Bool.and_self, if_true]
      rw [w64 (by omega) (by omega), decide_eq_true e5]
    · rw [if_neg h0]
  have hj0 : ∀ k, 5000000 ≤ k → laws_FnGridCuts.j0 (k + 1) a c (gridCuts pw ph a c qw qh).1 (gridCuts pw ph a c qw qh).2 x (bs (progText x)) false pw ph qw qh = some true := by
    intro k hk
    rw [laws_FnGridCuts.j0, if_neg (by decide), bs_toList]
    obtain ⟨m, rfl⟩ : ∃ m, k = m + 1 := ⟨k - 1, by omega⟩
    by_cases h0 : progText x = []
    · rw [if_pos h0]
      exact hj1 m (by omega)
    · rw [if_neg h0, impl_ReadProgram_eq _ _ (by omega) (by omega), readS_of rfl h0]
      simp only [Option.bind_some, if_true]
      rw [laws_likeCuts9_eq _ _ (by omega) (by omega)]
      simp only [Option.bind_some, if_true]
      exact hj1 m (by omega)
  have hB : laws_big.f l0 = some false := by rw [laws_big_eq, hb]
  unfold laws_FnGridCuts.f
  simp only [hB, ed, ex, es, Option.bind_some, Bool.false_eq_true, if_false, impl_GridCuts_eq (m + 1) pw ph a c qw qh (by omega), spec_GridCuts_eq (m + 1) pw ph a c qw qh (by omega), hPi, hPs, hRi, hRs, hL1, hL2, if_true, bne_self_eq_false]
  by_cases h1 : (readS sl).2 = true
  · rw [if_pos h1, impl_ProgramText_eq _ (m + 1) (by omega), readS_back sl h1]
    simp only [Option.bind_some, bne_self_eq_false]
    exact hj0 m (by omega)
  · rw [if_neg h1]
    exact hj0 m (by omega)

end Go.Proofs.YtdafddgmeidclaaGreatDoor.Pure
