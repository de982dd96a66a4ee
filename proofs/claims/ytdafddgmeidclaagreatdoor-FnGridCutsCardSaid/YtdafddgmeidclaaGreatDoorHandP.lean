/- What slices.IndexFunc, slices.ContainsFunc and the program's arePieces return over a slice of pieces, by a walk of their text. -/
import Derived.Test.YtdafddgmeidclaaGreatDoorProg
import Derived.Test.YtdafddgmeidclaaGreatDoorWMore
import Derived.Deep.LoopGhost
import Derived.Deep.QuietTactic
import Derived.BigQuiet
import Derived.WideLaws
import Derived.RowKit3
import Derived.Shelf.Abstract
import Derived.Laws.Cells
import Derived.Lib.SliceRun
namespace Go.Proofs.YtdafddgmeidclaaGreatDoor.HandP
open Go.RowKit Go.Shelf Go.Proofs.YtdafddgmeidclaaGreatDoorW.PrintWords Go.Proofs.YtdafddgmeidclaaGreatDoorW.PrintLast Go.Proofs.YtdafddgmeidclaaGreatDoorW.PrintMore
set_option linter.unusedVariables false
set_option linter.unusedSimpArgs false
/-- The place of the first x with p, counted from i on, or -1. -/
def idxBy {α : Type} (p : α → Bool) : List α → Nat → Int
  | [], _ => -1
  | x :: xs, i => if p x = true then (i : Int) else idxBy p xs (i + 1)
theorem idxBy_any {α : Type} (p : α → Bool) : ∀ (xs : List α) (i : Nat), decide (0 ≤ idxBy p xs i) = xs.any p
  | [], _ => rfl
  | x :: xs, i => by
    unfold idxBy
    by_cases h : p x = true
    · rw [if_pos h]; simp [h]
    · rw [if_neg h, idxBy_any p xs (i + 1)]; simp [h]
/-- Behind the first k, none of which has p. -/
theorem idxBy_drop {α : Type} (p : α → Bool) (xs : List α) : ∀ (k i : Nat), k ≤ xs.length → (∀ j (h : j < xs.length), j < k → p xs[j] = false) → idxBy p xs i = idxBy p (xs.drop k) (i + k) := by
  induction xs with
  | nil => intro k i hk _; simp at hk; subst hk; rfl
  | cons x xs ih =>
    intro k i hk h
    cases k with
    | zero => rfl
    | succ k =>
      have h0 := h 0 (by simp) (by omega)
      simp at h0
      rw [idxBy, if_neg (by simp [h0]), ih k (i + 1) (by simpa using hk) (fun j hj hjk => by have := h (j + 1) (by simpa using hj) (by omega); simpa using this), List.drop_succ_cons]
      congr 1
      omega
def Pred {α : Type} (g : Nat) (lb : Array Value) (enc : α → Value) (p : α → Bool) (w : World) : Prop :=
  ∀ (W : World) (x : α), Below w.heap.size w W → Calls Tryz.prog g (#[enc x] ++ lb) W fun e w' => e = .returned (.bool (p x)) ∧ Below w.heap.size w w'


def enc (x : Int × Int) : Value := .agg #[.int .i64 x.1, .int .i64 x.2]
def Reads (w : World) (A : Option Addr) (xs : List (Int × Int)) : Prop := xs.length ≤ 9223372036854775807 ∧ ∀ j (h : j < xs.length), ∃ ad, A = some ad ∧ w.cell? (ad.add (j * 2)) = some (.int .i64 xs[j].1) ∧ w.cell? ⟨(ad.add (j * 2)).block, (ad.add (j * 2)).off + 1, none⟩ = some (.int .i64 xs[j].2)
set_option maxHeartbeats 2000000 in
theorem indexFunc (p : Int × Int → Bool) (g : Nat) (lb : Array Value) (eg : ∀ args w, (callFunc g args).run Tryz.prog w = .ok (.enter g args) w) (A : Option Addr) (c : Nat) (xs : List (Int × Int)) (w : World)
    (hr : Reads w A xs) (hp : Pred g lb enc p w) :
    Calls Tryz.prog 73 #[.slice A xs.length c, .func (.func g) #[] lb] w fun e w' => e = .returned (.int .i64 (idxBy p xs 0)) ∧ Below w.heap.size w w' := by
  have hbig : xs.length ≤ 9223372036854775807 := hr.1
  have HR := Aside0.mk hr.2
  clear hr
  go_enter Tryz.func73, Tryz.ntmps73
  go_wp2
  go_loopg [5, 8] xs.length (fun gg _ s8 wr => ∃ kk : Nat, kk ≤ xs.length ∧ xs.length - kk ≤ gg ∧ s8 = .int .i64 kk ∧ Aside0 (Below w.heap.size w wr) ∧ Aside0 (∀ j (h : j < xs.length), j < kk → p xs[j] = false))
  case atStart => exact ⟨0, Nat.zero_le _, by omega, rfl, ⟨Below.refl _ w⟩, ⟨fun j _ hj => absurd hj (Nat.not_lt_zero _)⟩⟩
  case round =>
    obtain ⟨kk, hkk, hg, rfl, BW, B⟩ := hrel
    by_cases hlt : kk < xs.length
    · have hltz : (kk : Int) < (xs.length : Int) := by omega
      obtain ⟨ad, e, h1, h2⟩ := HR.out kk hlt
      cases e
      have l1 := pw_cell_below BW.out h1
      have l2 := pw_cell_below BW.out h2
      have hcall := hp wr xs[kk] BW.out
      clear hp h1 h2
      have hD : Aside0 (∃ y, y = xs[kk]) := ⟨_, rfl⟩
      obtain ⟨y, hy⟩ := hD.out
      rw [← hy] at l1 l2 hcall
      have HY := Aside0.mk hy
      clear hy hD
      unfold enc at hcall
      cases hq : p y with
      | true =>
        rw [hq] at hcall
        have HQ : Aside0 (p y = true) := ⟨hq⟩
        clear hq
        go_wp2_with (refine hcall.mono ?_; rintro e w' ⟨rfl, hb'⟩)
        go_ret
        refine ⟨?_, hb'⟩
        rw [idxBy_drop p xs kk 0 hkk B.out, List.drop_eq_getElem_cons hlt, idxBy, if_pos (by rw [← HY.out]; exact HQ.out), Nat.zero_add]
        rfl
      | false =>
        rw [hq] at hcall
        have HQ : Aside0 (p y = false) := ⟨hq⟩
        clear hq
        go_wp2_with (refine hcall.mono ?_; rintro e w' ⟨rfl, hb'⟩)
        go_roundg (xs.length - (kk + 1))
        case measure => omega
        case rel =>
          refine ⟨kk + 1, by omega, by omega, by go_num, ⟨hb'⟩, ⟨fun j h hj => ?_⟩⟩
          by_cases e : j = kk
          · subst e
            rw [← HY.out]; exact HQ.out
          · exact B.out j h (by omega)
    · have hltz : ¬ (kk : Int) < (xs.length : Int) := by omega
      have : kk = xs.length := by omega
      subst this
      go_wp2
      go_ret
      refine ⟨?_, BW.out⟩
      rw [idxBy_drop p xs xs.length 0 (Nat.le_refl _) B.out, List.drop_length, idxBy]
      rfl

set_option maxHeartbeats 2000000 in
theorem containsFunc (p : Int × Int → Bool) (g : Nat) (lb : Array Value) (eg : ∀ args w, (callFunc g args).run Tryz.prog w = .ok (.enter g args) w) (A : Option Addr) (c : Nat) (xs : List (Int × Int)) (w : World)
    (hr : Reads w A xs) (hp : Pred g lb enc p w) :
    Calls Tryz.prog 56 #[.slice A xs.length c, .func (.func g) #[] lb] w fun e w' => e = .returned (.bool (xs.any p)) ∧ Below w.heap.size w w' := by
  rw [← idxBy_any p xs 0]
  have hcon := indexFunc p g lb eg A c xs w hr hp
  clear hr hp eg
  generalize idxBy p xs 0 = r at hcon ⊢
  go_enter Tryz.func56, Tryz.ntmps56
  go_wp2_with (go_at_call 73; refine hcon.mono ?_; rintro e w' ⟨rfl, hb'⟩)
  go_ret
  exact ⟨rfl, hb'⟩

def inRng (x lo hi : Int) : Bool := decide (lo ≤ x ∧ x ≤ hi)
theorem inRange_calls (a b c : Int) (w : World) : Calls Tryz.prog 21 #[.int .i64 a, .int .i64 b, .int .i64 c] w fun e w' => e = .returned (.bool (inRng a b c)) ∧ Drawn0 w w' := by
  unfold inRng
  by_cases h : b ≤ a
  · have h1 : decide (b ≤ a) = true := decide_eq_true h
    have e : decide (b ≤ a ∧ a ≤ c) = decide (a ≤ c) := by simp [h]
    rw [e]
    clear e h
    go_enter Tryz.func21, Tryz.ntmps21
    go_wp2
    go_ret
    exact ⟨rfl, by repeat (first | exact Drawn0.refl _ | apply Drawn0.step)⟩
  · have h1 : decide (b ≤ a) = false := decide_eq_false h
    have e : decide (b ≤ a ∧ a ≤ c) = false := by simp [h]
    rw [e]
    clear e h
    go_enter Tryz.func21, Tryz.ntmps21
    go_wp2
    go_ret
    exact ⟨rfl, by repeat (first | exact Drawn0.refl _ | apply Drawn0.step)⟩
def valid (x : Int × Int) : Bool := inRng x.1 1 20000 && inRng x.2 1 20000
theorem isPiece_calls (a b : Int) (w : World) : Calls Tryz.prog 20 #[.agg #[.int .i64 a, .int .i64 b]] w fun e w' => e = .returned (.bool (valid (a, b))) ∧ Below w.heap.size w w' := by
  unfold valid
  have hb := below_alloc (Below.refl w.heap.size w) (.cells #[.int .i64 a, .int .i64 b] 25)
  have HB := Aside0.mk hb
  clear hb
  cases h1 : inRng a 1 20000
  · have c1 := (inRange_calls a 1 20000 (w.alloc (.cells #[.int .i64 a, .int .i64 b] 25)))
    rw [h1] at c1
    show Calls Tryz.prog 20 _ w fun e w' => e = .returned (.bool false) ∧ _
    clear h1
    go_enter Tryz.func20, Tryz.ntmps20
    go_wp2_with (refine c1.mono ?_; rintro e w' ⟨rfl, ⟨n, rfl⟩⟩)
    go_ret
    exact ⟨rfl, pw_below_drewN HB.out _⟩
  · show Calls Tryz.prog 20 _ w fun e w' => e = .returned (.bool (inRng b 1 20000)) ∧ _
    have c1 : ∀ W, Calls Tryz.prog 21 #[.int .i64 a, .int .i64 1, .int .i64 20000] W fun e w' => e = .returned (.bool true) ∧ Drawn0 W w' := fun W => h1 ▸ inRange_calls a 1 20000 W
    have c2 : ∀ W, Calls Tryz.prog 21 #[.int .i64 b, .int .i64 1, .int .i64 20000] W fun e w' => e = .returned (.bool (inRng b 1 20000)) ∧ Drawn0 W w' := fun W => inRange_calls b 1 20000 W
    clear h1
    generalize inRng b 1 20000 = r at c2 ⊢
    go_enter Tryz.func20, Tryz.ntmps20
    go_wp2_with (first | ((with_reducible refine (c1 _).mono ?_); rintro e w' ⟨rfl, ⟨n, rfl⟩⟩) | ((with_reducible refine (c2 _).mono ?_); rintro e w' ⟨rfl, ⟨m, rfl⟩⟩))
    go_ret
    exact ⟨rfl, by repeat (first | exact HB.out | apply pw_below_drewN)⟩
theorem pred (w : World) : Pred 57 #[] enc (fun x => !valid x) w := fun W x hb => by
  have hb2 := below_then hb hb.size (below_alloc (Below.refl W.heap.size W) (.cells #[.int .i64 x.1, .int .i64 x.2] 25))
  have HB := Aside0.mk hb2
  have HS := Aside0.mk hb.size
  have c1 := isPiece_calls x.1 x.2 (W.alloc (.cells #[.int .i64 x.1, .int .i64 x.2] 25))
  clear hb hb2
  show Calls Tryz.prog 57 #[.agg #[.int .i64 x.1, .int .i64 x.2]] W _
  go_enter Tryz.func57, Tryz.ntmps57
  go_wp2_with (refine c1.mono ?_; rintro e w' ⟨rfl, hb'⟩)
  go_ret
  exact ⟨rfl, below_then HB.out (by have := HS.out; simp; omega) hb'⟩
set_option maxHeartbeats 2000000 in
theorem arePieces_calls (A : Option Addr) (c : Nat) (xs : List (Int × Int)) (w : World) (hr : Reads w A xs) :
    Calls Tryz.prog 38 #[.slice A xs.length c] w fun e w' => e = .returned (.bool (decide (xs.length ≤ 80) && xs.all valid)) ∧ Below w.heap.size w w' := by
  have eg : ∀ args w, (callFunc 57 args).run Tryz.prog w = .ok (.enter 57 args) w := enters_of Tryz.func57 (by kernel_rfl) rfl
  have hcon := containsFunc (fun x => !valid x) 57 #[] eg A c xs w hr (pred w)
  have e : (xs.all valid) = !(xs.any fun x => !valid x) := by simp [List.all_eq_not_any_not]
  have hl := hr.1
  rw [e]
  clear e hr eg
  generalize (xs.any fun x => !valid x) = r at hcon ⊢
  by_cases h : xs.length ≤ 80
  · have h1 : decide ((xs.length : Int) ≤ 80) = true := decide_eq_true (by omega)
    rw [decide_eq_true h, Bool.true_and]
    clear h
    go_enter Tryz.func38, Tryz.ntmps38
    go_wp2_with (refine hcon.mono ?_; rintro e w' ⟨rfl, hb'⟩)
    go_ret
    exact ⟨rfl, hb'⟩
  · have h1 : decide ((xs.length : Int) ≤ 80) = false := decide_eq_false (by omega)
    rw [decide_eq_false h, Bool.false_and]
    clear h hcon
    go_enter Tryz.func38, Tryz.ntmps38
    go_wp2
    go_ret
    exact ⟨rfl, Below.refl _ _⟩
end Go.Proofs.YtdafddgmeidclaaGreatDoor.HandP
