/- What slices.IndexFunc, slices.ContainsFunc and the program's allIn return over a slice of whole numbers, by a walk of their text: whatever predicate the function value computes. The predicate may make memory of its own; it changes nothing that was there. -/
import Derived.Test.YtaapnjhgkbjdkaaProg
import Derived.Test.YtaapnjhgkbjdkaaWMore
import Derived.Deep.LoopGhost
import Derived.Deep.QuietTactic
import Derived.BigQuiet
import Derived.WideLaws
import Derived.RowKit3
import Derived.Shelf.Abstract
namespace Go.Proofs.Ytaapnjhgkbjdkaa.Hand
open Go.RowKit Go.Shelf Go.Proofs.YtaapnjhgkbjdkaaW.PrintWords Go.Proofs.YtaapnjhgkbjdkaaW.PrintLast Go.Proofs.YtaapnjhgkbjdkaaW.PrintMore
set_option linter.unusedVariables false
set_option linter.unusedSimpArgs false

/-- The place of the first x with p, counted from i on, or -1. -/
def idxBy {α : Type} (p : α → Bool) : List α → Nat → Int
  | [], _ => -1
  | x :: xs, i => if p x = true then (i : Int) else idxBy p xs (i + 1)
theorem idxBy_any {α : Type} (p : α → Bool) : ∀ (xs : List α) (i : Nat), decide (0 ≤ idxBy p xs i) = xs.any p
  | [], _ => rfl
  | x :: xs, i => by
    unfold idxBy
    by_cases h : p x = true
    · rw [if_pos h]; simp [h]
    · rw [if_neg h, idxBy_any p xs (i + 1)]; simp [h]
/-- Behind the first k, none of which has p. -/
theorem idxBy_drop {α : Type} (p : α → Bool) (xs : List α) : ∀ (k i : Nat), k ≤ xs.length → (∀ j (h : j < xs.length), j < k → p xs[j] = false) → idxBy p xs i = idxBy p (xs.drop k) (i + k) := by
  induction xs with
  | nil => intro k i hk _; simp at hk; subst hk; rfl
  | cons x xs ih =>
    intro k i hk h
    cases k with
    | zero => rfl
    | succ k =>
      have h0 := h 0 (by simp) (by omega)
      simp at h0
      rw [idxBy, if_neg (by simp [h0]), ih k (i + 1) (by simpa using hk) (fun j hj hjk => by have := h (j + 1) (by simpa using hj) (by omega); simpa using this), List.drop_succ_cons]
      congr 1
      omega
def Pred {α : Type} (g : Nat) (lb : Array Value) (enc : α → Value) (p : α → Bool) (w : World) : Prop :=
  ∀ (W : World) (x : α), Below w.heap.size w W → Calls Try.prog g (#[enc x] ++ lb) W fun e w' => e = .returned (.bool (p x)) ∧ Below w.heap.size w w'

set_option maxHeartbeats 2000000 in
theorem indexFuncI (p : Int → Bool) (g : Nat) (lb : Array Value) (eg : ∀ args w, (callFunc g args).run Try.prog w = .ok (.enter g args) w) (A : Option Addr) (c : Nat) (xs : List Int) (w : World)
    (hr : Kd.C (Kd.int .i64) w A xs.length xs) (hp : Pred g lb (Value.int .i64) p w) :
    Calls Try.prog 96 #[.slice A xs.length c, .func (.func g) #[] lb] w fun e w' => e = .returned (.int .i64 (idxBy p xs 0)) ∧ Below w.heap.size w w' := by
  have hbig : xs.length ≤ 9223372036854775807 := hr.2.1
  have HR := Aside0.mk hr
  clear hr
  go_enter Try.func96, Try.ntmps96
  go_wp2
  go_loopg [5, 8] xs.length (fun gg _ s8 wr => ∃ kk : Nat, kk ≤ xs.length ∧ xs.length - kk ≤ gg ∧ s8 = .int .i64 kk ∧ Aside0 (Below w.heap.size w wr) ∧ Aside0 (∀ j (h : j < xs.length), j < kk → p xs[j] = false))
  case atStart => exact ⟨0, Nat.zero_le _, by omega, rfl, ⟨Below.refl _ w⟩, ⟨fun j _ hj => absurd hj (Nat.not_lt_zero _)⟩⟩
  case round =>
    obtain ⟨kk, hkk, hg, rfl, BW, B⟩ := hrel
    by_cases hlt : kk < xs.length
    · have hltz : (kk : Int) < (xs.length : Int) := by omega
      obtain ⟨ad, e, hx⟩ := Kd.at_int HR.out (kk : Int) (by omega) hltz
      cases e
      rw [Int.toNat_natCast, rd, Int.toNat_natCast] at hx
      have l2 := pw_cell_below BW.out hx
      have hcall := hp wr (xs.getD kk 0) BW.out
      have hD : Aside0 (xs.getD kk 0 = xs[kk]) := ⟨by simp [List.getD_eq_getElem?_getD, List.getElem?_eq_getElem hlt]⟩
      clear hp hx
      generalize xs.getD kk 0 = y at l2 hcall hD
      cases hq : p y with
      | true =>
        rw [hq] at hcall
        have HQ : Aside0 (p y = true) := ⟨hq⟩
        clear hq
        go_wp2_with (refine hcall.mono ?_; rintro e w' ⟨rfl, hb'⟩)
        go_ret
        refine ⟨?_, hb'⟩
        rw [idxBy_drop p xs kk 0 hkk B.out, List.drop_eq_getElem_cons hlt, idxBy, if_pos (by rw [← hD.out]; exact HQ.out), Nat.zero_add]
        rfl
      | false =>
        rw [hq] at hcall
        have HQ : Aside0 (p y = false) := ⟨hq⟩
        clear hq
        go_wp2_with (refine hcall.mono ?_; rintro e w' ⟨rfl, hb'⟩)
        go_roundg (xs.length - (kk + 1))
        case measure => omega
        case rel =>
          refine ⟨kk + 1, by omega, by omega, by go_num, ⟨hb'⟩, ⟨fun j h hj => ?_⟩⟩
          by_cases e : j = kk
          · subst e
            rw [← hD.out]; exact HQ.out
          · exact B.out j h (by omega)
    · have hltz : ¬ (kk : Int) < (xs.length : Int) := by omega
      have : kk = xs.length := by omega
      subst this
      go_wp2
      go_ret
      refine ⟨?_, BW.out⟩
      rw [idxBy_drop p xs xs.length 0 (Nat.le_refl _) B.out, List.drop_length, idxBy]
      rfl

set_option maxHeartbeats 2000000 in
theorem containsFuncI (p : Int → Bool) (g : Nat) (lb : Array Value) (eg : ∀ args w, (callFunc g args).run Try.prog w = .ok (.enter g args) w) (A : Option Addr) (c : Nat) (xs : List Int) (w : World)
    (hr : Kd.C (Kd.int .i64) w A xs.length xs) (hp : Pred g lb (Value.int .i64) p w) :
    Calls Try.prog 102 #[.slice A xs.length c, .func (.func g) #[] lb] w fun e w' => e = .returned (.bool (xs.any p)) ∧ Below w.heap.size w w' := by
  rw [← idxBy_any p xs 0]
  have hcon := indexFuncI p g lb eg A c xs w hr hp
  clear hr hp eg
  generalize idxBy p xs 0 = r at hcon ⊢
  go_enter Try.func102, Try.ntmps102
  go_wp2_with (go_at_call 96; refine hcon.mono ?_; rintro e w' ⟨rfl, hb'⟩)
  go_ret
  exact ⟨rfl, hb'⟩

/-- The program's test of a range. -/
def inRng (x lo hi : Int) : Bool := decide (lo ≤ x ∧ x ≤ hi)
theorem inRange_calls (a b c : Int) (w : World) : Calls Try.prog 73 #[.int .i64 a, .int .i64 b, .int .i64 c] w fun e w' => e = .returned (.bool (inRng a b c)) ∧ Drawn0 w w' := by
  unfold inRng
  by_cases h : b ≤ a
  · have h1 : decide (b ≤ a) = true := decide_eq_true h
    have e : decide (b ≤ a ∧ a ≤ c) = decide (a ≤ c) := by simp [h]
    rw [e]
    clear e h
    go_enter Try.func73, Try.ntmps73
    go_wp2
    go_ret
    exact ⟨rfl, by repeat (first | exact Drawn0.refl _ | apply Drawn0.step)⟩
  · have h1 : decide (b ≤ a) = false := decide_eq_false h
    have e : decide (b ≤ a ∧ a ≤ c) = false := by simp [h]
    rw [e]
    clear e h
    go_enter Try.func73, Try.ntmps73
    go_wp2
    go_ret
    exact ⟨rfl, by repeat (first | exact Drawn0.refl _ | apply Drawn0.step)⟩
/-- The literal of allIn: not in the range that its two variables hold. -/
theorem allIn_pred (lo hi : Int) (B : Nat) (w : World) (h1 : w.cell? ⟨B, 0, none⟩ = some (.int .i64 lo)) (h2 : w.cell? ⟨B + 1, 0, none⟩ = some (.int .i64 hi)) :
    Pred 103 #[.pointer (some ⟨B, 0, none⟩), .pointer (some ⟨B + 1, 0, none⟩)] (Value.int .i64) (fun x => !inRng x lo hi) w := fun W x hb => by
  have c1 : W.cell? ⟨B, 0, none⟩ = some (.int .i64 lo) := pw_cell_below hb h1
  have c2 : W.cell? ⟨B + 1, 0, none⟩ = some (.int .i64 hi) := pw_cell_below hb h2
  have HB := Aside0.mk hb
  clear h1 h2 hb
  show Calls Try.prog 103 #[.int .i64 x, .pointer (some ⟨B, 0, none⟩), .pointer (some ⟨B + 1, 0, none⟩)] W _
  go_enter Try.func103, Try.ntmps103
  go_wp2_with (go_at_call 73; refine (inRange_calls x lo hi _).mono ?_; rintro e w' ⟨rfl, ⟨n, rfl⟩⟩)
  go_ret
  exact ⟨rfl, pw_below_drewN HB.out _⟩
set_option maxHeartbeats 2000000 in
theorem allIn_calls (A : Option Addr) (c : Nat) (xs : List Int) (lo hi : Int) (w : World) (hr : Kd.C (Kd.int .i64) w A xs.length xs) :
    Calls Try.prog 74 #[.slice A xs.length c, .int .i64 lo, .int .i64 hi] w fun e w' => e = .returned (.bool (xs.all fun x => inRng x lo hi)) ∧ Below w.heap.size w w' := by
  have eg : ∀ args w, (callFunc 103 args).run Try.prog w = .ok (.enter 103 args) w := enters_of Try.func103 (by kernel_rfl) rfl
  have hmf : ∀ (fn : Fn) (first cap : Array Value) (w : World), (Instr.makeFunc fn first cap).run Try.prog w = .ok (.func fn first cap) w := fun _ _ _ _ => rfl
  have hb2 : Below w.heap.size w ((w.alloc (.cells #[.int .i64 lo] 2)).alloc (.cells #[.int .i64 hi] 2)) := ((Below.refl _ _).alloc (Nat.le_refl _) _).alloc (by simp) _
  have hcon := containsFuncI (fun x => !inRng x lo hi) 103 #[.pointer (some ⟨w.heap.size, 0, none⟩), .pointer (some ⟨w.heap.size + 1, 0, none⟩)] eg A c xs
    ((w.alloc (.cells #[.int .i64 lo] 2)).alloc (.cells #[.int .i64 hi] 2)) (Kd.C_below hr hb2) (allIn_pred lo hi w.heap.size _ (by simp) (by simp))
  have e : (xs.all fun x => inRng x lo hi) = !(xs.any fun x => !inRng x lo hi) := by simp [List.all_eq_not_any_not]
  rw [e]
  clear e hr
  generalize (xs.any fun x => !inRng x lo hi) = r at hcon ⊢
  have HB := Aside0.mk hb2
  clear hb2
  go_enter Try.func74, Try.ntmps74
  go_wp2_with (go_at_call 102; refine hcon.mono ?_; rintro e w' ⟨rfl, hb'⟩)
  go_ret
  exact ⟨rfl, HB.out.trans (hb'.mono (by simp; omega))⟩
end Go.Proofs.Ytaapnjhgkbjdkaa.Hand
