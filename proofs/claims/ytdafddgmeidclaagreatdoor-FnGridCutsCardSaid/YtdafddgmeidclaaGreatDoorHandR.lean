/- What strings.Split and impl.readDecimal return, by the guide's shelf: the pieces between the separators; a number with a decimal numeral of at most ten digits, and whether there is one. -/
import Derived.Test.YtdafddgmeidclaaGreatDoorHandD
import Derived.Test.YtdafddgmeidclaaGreatDoorShelfR
namespace Go.Proofs.YtdafddgmeidclaaGreatDoor.HandR
open Go.RowKit Go.Shelf Go.Lib Go.Proofs.YtdafddgmeidclaaGreatDoorW.PrintWords Go.Proofs.YtdafddgmeidclaaGreatDoorW.PrintLast Go.Proofs.YtdafddgmeidclaaGreatDoorW.PrintMore
set_option linter.unusedVariables false
set_option linter.unusedSimpArgs false
/-- What the library's variables hold that the reading of a program looks into. -/
structure Env (w : World) : Prop where
  pow : HandD.Env w
  max : ∃ m : Int, w.cell? ⟨Tryz.lays146_ren.g 1, 0, none⟩ = some (.int .i64 m)
  syn : ∃ tp p, w.cell? ⟨Tryz.laysC174_ren.g 15, 0, none⟩ = some (.iface tp p)
  rng : ∃ tp p, w.cell? ⟨Tryz.laysC174_ren.g 16, 0, none⟩ = some (.iface tp p)
theorem Env.below {w w' : World} (h : Env w) (b : Below w.heap.size w w') : Env w' := by
  obtain ⟨hp, ⟨m, hm⟩, ⟨t1, p1, h1⟩, ⟨t2, p2, h2⟩⟩ := h
  exact ⟨hp.below b, ⟨m, (b.cell (World.block_lt_of_cell? w _ hm)).trans hm⟩, ⟨t1, p1, (b.cell (World.block_lt_of_cell? w _ h1)).trans h1⟩, ⟨t2, p2, (b.cell (World.block_lt_of_cell? w _ h2)).trans h2⟩⟩
/-- The pieces of a string. -/
def pieces (s sep : ByteArray) : List ByteArray := Lib.splitB sep 0 (Lib.countB s sep) s
theorem pieces_len (s sep : ByteArray) (h1 : 1 ≤ sep.size) : (pieces s sep).length = Lib.countB s sep + 1 := Lib.splitB_all sep h1 0 _ s rfl
theorem split (s sep : ByteArray) (w : World) (hs : s.size < 4294967281) (h1 : 1 ≤ sep.size) (henv : Env w) :
    Calls Tryz.prog 30 #[.string s, .string sep] w fun e w' => ∃ v0_ : Value, e = .returned (v0_) ∧ Kd.R Kd.string 9 w' w.heap.size (fun _ => True) v0_ (pieces s sep) ∧ Below w.heap.size w w' := by
  obtain ⟨m, hm⟩ := henv.max
  have hle := Lib.countB_le sep h1 s.size s (Nat.le_refl _)
  have hl := pieces_len s sep h1
  refine (Any.strings_Split Tryz.lays146 (by kernel_rfl) s sep m w hs hm h1).mono ?_
  rintro e w' ⟨rfl, hw⟩
  subst hw
  refine ⟨_, rfl, Kd.R_of_own ?_ (fun _ _ => trivial), (Below.refl _ _).alloc (Nat.le_refl _) _⟩
  have h2 := World.ownsRow_lit (base := w.heap.size) (e := 9) (size := 1) w ((pieces s sep).map Value.string).toArray (pieces s sep).length (Nat.le_refl _) (by rw [hl]; unfold maxLen; omega) (by simp)
  rw [hl] at h2 ⊢
  have e9 : Tryz.lays146_ren.t 9 = 9 := by kernel_rfl
  rw [e9]
  simpa [encs, pieces] using h2
/-- The number with this decimal numeral of at most ten digits, and whether there is one. -/
def readDec (s : ByteArray) : Int × Bool :=
  match Lib.parseIntB 64 s.data.toList with
  | .ok v => if s.size ≤ 10 ∧ 0 ≤ v ∧ Lib.itoa v = s.data.toList then (v, true) else (0, false)
  | _ => (0, false)
set_option maxHeartbeats 4000000 in
set_option maxRecDepth 100000 in
theorem readDecimal (s : ByteArray) (w : World) (hs : s.size ≤ 1099511627776) (henv : Env w) :
    Calls Tryz.prog 32 #[.string s] w fun e w' => e = .returned (.tuple #[.int .i64 (readDec s).1, .bool (readDec s).2]) ∧ Below w.heap.size w w' := by
  cases hp : Lib.parseIntB 64 s.data.toList with
  | range =>
    have hr : readDec s = (0, false) := by unfold readDec; rw [hp]
    rw [hr]
    obtain ⟨tp, p, hv⟩ := henv.rng
    go_enter Tryz.func32, Tryz.ntmps32
    go_wp2_with (go_at_call 52; refine (Any.strconv_ParseInt_10_at64_range Tryz.laysC174 s (by omega) hp _ _ hv (Or.inr ⟨tp, p, rfl⟩)).mono ?_; rintro e w' ⟨N, rfl, _, _, hb⟩)
    go_ret2
    exact ⟨rfl, hb⟩
  | ok v =>
    have hbd := Lib.parseIntB_bounds hp
    have hpi : Calls Tryz.prog 52 #[.string s, .int .i64 10, .int .i64 64] w fun e w' => e = .returned (.tuple #[.int .i64 v, .nilIface]) ∧ Below w.heap.size w w' :=
      (Any.strconv_ParseInt_10_at64_ok Tryz.laysC174 s (by omega) v hp w).mono (fun e w' ⟨he, hw⟩ => ⟨he, by
        rcases hw with rfl | ⟨t, rfl⟩
        · exact Below.refl _ _
        · exact Lib.bytesWorld_below _ _ _⟩)
    have b0 : -9223372036854775808 ≤ v := by have := hbd.1; simp at this; omega
    have b1 : v ≤ 9223372036854775807 := by have := hbd.2; simp at this; omega
    by_cases c1 : s.size ≤ 10
    · have c1b : decide ((10 : Int) < (s.size : Int)) = false := decide_eq_false (by omega)
      have c1c : decide (10 < s.size) = false := decide_eq_false (by omega)
      by_cases c2 : 0 ≤ v
      · have c2b : decide (v < 0) = false := decide_eq_false (by omega)
        by_cases c3 : Lib.itoa v = s.data.toList
        · have hr : readDec s = (v, true) := by unfold readDec; rw [hp]; exact if_pos ⟨c1, c2, c3⟩
          rw [hr]
          have c3a : (⟨(Lib.itoa v).toArray⟩ : ByteArray) = s := by rw [c3]
          go_enter Tryz.func32, Tryz.ntmps32
          go_wp2_with (first | (go_at_call 52; refine hpi.mono ?_; rintro e w1 ⟨rfl, hb⟩) | (go_at_call 26; refine (HandD.decimal v b0 b1 _ (henv.pow.below hb)).mono ?_; rintro e w2 ⟨rfl, hb2⟩; rw [c3a]))
          go_ret2
          exact ⟨rfl, below_step hb hb2⟩
        · have hr : readDec s = (0, false) := by unfold readDec; rw [hp]; exact if_neg (fun h => c3 h.2.2)
          rw [hr]
          have c3a : (Lib.itoa v == s.toList) = false := beq_eq_false_iff_ne.2 (by rw [Lib.toList_data]; exact c3)
          go_enter Tryz.func32, Tryz.ntmps32
          go_wp2_with (first | (go_at_call 52; refine hpi.mono ?_; rintro e w1 ⟨rfl, hb⟩) | (go_at_call 26; refine (HandD.decimal v b0 b1 _ (henv.pow.below hb)).mono ?_; rintro e w2 ⟨rfl, hb2⟩))
          go_ret2
          exact ⟨rfl, below_step hb hb2⟩
      · have c2b : decide (v < 0) = true := decide_eq_true (by omega)
        have hr : readDec s = (0, false) := by unfold readDec; rw [hp]; exact if_neg (fun h => c2 h.2.1)
        rw [hr]
        go_enter Tryz.func32, Tryz.ntmps32
        go_wp2_with (go_at_call 52; refine hpi.mono ?_; rintro e w1 ⟨rfl, hb⟩)
        go_ret2
        exact ⟨rfl, hb⟩
    · have c1b : decide ((10 : Int) < (s.size : Int)) = true := decide_eq_true (by omega)
      have c1c : decide (10 < s.size) = true := decide_eq_true (by omega)
      have hr : readDec s = (0, false) := by unfold readDec; rw [hp]; exact if_neg (fun h => c1 h.1)
      rw [hr]
      go_enter Tryz.func32, Tryz.ntmps32
      go_wp2_with (go_at_call 52; refine hpi.mono ?_; rintro e w1 ⟨rfl, hb⟩)
      go_ret2
      exact ⟨rfl, hb⟩
  | _ =>
    have hr : readDec s = (0, false) := by unfold readDec; rw [hp]
    rw [hr]
    obtain ⟨tp, p, hv⟩ := henv.syn
    go_enter Tryz.func32, Tryz.ntmps32
    go_wp2_with (go_at_call 52; refine (Any.strconv_ParseInt_10_at64_syntax Tryz.laysC174 s (by omega) hp _ _ hv (Or.inr ⟨tp, p, rfl⟩)).mono ?_; rintro e w' ⟨N, rfl, _, _, hb⟩)
    go_ret2
    exact ⟨rfl, hb⟩
#print axioms split
#print axioms readDecimal
end Go.Proofs.YtdafddgmeidclaaGreatDoor.HandR
