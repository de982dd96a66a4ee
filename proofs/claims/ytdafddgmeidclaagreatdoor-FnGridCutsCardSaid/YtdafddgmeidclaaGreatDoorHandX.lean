/- What strings.IndexAny returns for the two marks of a cut, of whatever string: the place of the first byte that is one of the two, or -1; the library's text walked where a character is no ASCII one. -/
import Derived.Test.YtdafddgmeidclaaGreatDoorHandR
import Derived.Laws.RangeAny
import Derived.WalkMore
import Derived.Laws.Runes
import Derived.Shelf.Strings.Runes
import Derived.Shelf.Small.Utf8
import Derived.Shelf.Small.Strs
import Derived.Lib.OthersKept
namespace Go.Proofs.YtdafddgmeidclaaGreatDoor.HandX
open Go.RowKit Go.Shelf Go.Lib Go.Proofs.YtdafddgmeidclaaGreatDoorW.PrintWords Go.Proofs.YtdafddgmeidclaaGreatDoorW.PrintLast Go.Proofs.YtdafddgmeidclaaGreatDoorW.PrintMore
set_option linter.unusedVariables false
set_option linter.unusedSimpArgs false
/-- The two marks. -/
def marks : ByteArray := ⟨#[124, 45]⟩
theorem decode_conts (s : ByteArray) (pos : Nat) (h : pos < s.size) (ha : 128 ≤ (s[pos]'h).toNat) :
    ∀ j, pos ≤ j → j < pos + (Utf8.decode s pos).2 → ∃ hj : j < s.size, 128 ≤ (s[j]'hj).toNat := by
  have hn : ¬ (s[pos]'h).toNat < 128 := by omega
  have hc : ∀ k, (decide (pos + k < s.size) && (s.get! (pos + k)).toNat / 64 == 2) = true → ∃ hj : pos + k < s.size, 128 ≤ (s[pos + k]'hj).toNat := fun k hk => by
    rw [Bool.and_eq_true] at hk
    have h1 : pos + k < s.size := of_decide_eq_true hk.1
    have h2 : (s.get! (pos + k)).toNat / 64 = 2 := by simpa using hk.2
    have e : s.get! (pos + k) = s[pos + k]'h1 := get_at s (pos + k) h1
    rw [e] at h2
    exact ⟨h1, by omega⟩
  intro j hj
  by_cases e0 : j = pos
  · subst e0
    exact fun _ => ⟨h, ha⟩
  simp only [Utf8.decode, get_at s pos h, hn, if_false]
  split
  · rename_i h1
    rw [Bool.and_eq_true] at h1
    have k1 := hc 1 h1.2
    split
    · intro hl
      obtain rfl : j = pos + 1 := by omega
      exact k1
    · intro hl; omega
  · split
    · rename_i h1
      simp only [Bool.and_eq_true] at h1
      have k1 := hc 1 (by rw [Bool.and_eq_true]; exact h1.1.2)
      have k2 := hc 2 (by rw [Bool.and_eq_true]; exact h1.2)
      split
      · intro hl
        rcases (by omega : j = pos + 1 ∨ j = pos + 2) with rfl | rfl
        · exact k1
        · exact k2
      · intro hl; omega
    · split
      · rename_i h1
        simp only [Bool.and_eq_true] at h1
        have k1 := hc 1 (by rw [Bool.and_eq_true]; exact h1.1.1.2)
        have k2 := hc 2 (by rw [Bool.and_eq_true]; exact h1.1.2)
        have k3 := hc 3 (by rw [Bool.and_eq_true]; exact h1.2)
        split
        · intro hl
          rcases (by omega : j = pos + 1 ∨ j = pos + 2 ∨ j = pos + 3) with rfl | rfl | rfl
          · exact k1
          · exact k2
          · exact k3
        · intro hl; omega
      · intro hl; omega
set_option maxHeartbeats 4000000 in
set_option maxRecDepth 1000000 in
theorem runeError (w : World) : Calls Tryz.prog 48 #[.string marks, .int .i32 65533] w fun e w' => e = .returned (.int .i64 (-1)) ∧ Below w.heap.size w w' := by
  go_enter Tryz.func48, Tryz.ntmps48
  go_wp2
  go_loopg [5, 6] 2 (fun g _ _ wx => ∃ i : Nat, i + g = 2 ∧ wx = w.iter marks i)
  case atStart => exact ⟨0, by omega, rfl⟩
  case round =>
    obtain ⟨i, hig, rfl⟩ := hrel
    rcases (by omega : i = 0 ∨ i = 1 ∨ i = 2) with rfl | rfl | rfl
    · have hnx := fun ty => run_next_ascii (P := Tryz.prog) w marks 0 ty (by decide) (by decide)
      have e : ((marks[0]'(by decide)).toNat : Int) = 124 := by decide
      rw [e] at hnx
      go_wp2
      go_roundg 1
      case measure => omega
      case rel => exact ⟨1, by omega, rfl⟩
    · have hnx := fun ty => run_next_ascii (P := Tryz.prog) w marks 1 ty (by decide) (by decide)
      have e : ((marks[1]'(by decide)).toNat : Int) = 45 := by decide
      rw [e] at hnx
      go_wp2
      go_roundg 0
      case measure => omega
      case rel => exact ⟨2, by omega, rfl⟩
    · have hnx := fun ty => run_next_end (P := Tryz.prog) w marks 2 ty (by decide)
      go_wp2
      go_ret
      exact ⟨rfl, (Below.refl _ _).alloc (Nat.le_refl _) _⟩
set_option maxHeartbeats 4000000 in
set_option maxRecDepth 1000000 in
theorem runeInvalid (r : Int) (h0 : 128 ≤ r) (hn : r ≠ 65533) (hv : Lib.validRune r = false) (w : World) : Calls Tryz.prog 48 #[.string marks, .int .i32 r] w fun e w' => e = .returned (.int .i64 (-1)) ∧ Below w.heap.size w w' := by
  have c0 : decide (0 ≤ r) = true := decide_eq_true (by omega)
  have c1 : decide (r < 128) = false := decide_eq_false (by omega)
  have c2 : (r == 65533) = false := beq_eq_false_iff_ne.2 hn
  go_enter Tryz.func48, Tryz.ntmps48
  go_wp2_with (go_at_call 66; refine (Any.utf8_ValidRune Tryz.lays119 r _).mono ?_; rintro e w' ⟨rfl, hw⟩; rw [hw, hv])
  go_ret
  exact ⟨rfl, Below.refl _ _⟩
set_option maxHeartbeats 4000000 in
set_option maxRecDepth 1000000 in
theorem runeValid (r : Int) (h0 : 128 ≤ r) (h1 : r ≤ 2147483647) (hn : r ≠ 65533) (hv : Lib.validRune r = true) (w : World) : Calls Tryz.prog 48 #[.string marks, .int .i32 r] w fun e w' => e = .returned (.int .i64 (-1)) ∧ Below w.heap.size w w' := by
  have c0 : decide (0 ≤ r) = true := decide_eq_true (by omega)
  have c1 : decide (r < 128) = false := decide_eq_false (by omega)
  have c2 : (r == 65533) = false := beq_eq_false_iff_ne.2 hn
  have hv2 : Utf8.valid r = true := by rw [validRune_eq]; exact hv
  obtain ⟨f1, f2, f3⟩ := encode_facts r hv2 h0
  obtain ⟨t, ht⟩ : ∃ t, Utf8.encode r = t := ⟨_, rfl⟩
  rw [ht] at f1 f2 f3
  have F3 : Aside (∀ h : t.size - 1 < t.size, 128 ≤ (t[t.size - 1]'h).toNat) := f3
  clear f3
  have hms : marks.size = 2 := rfl
  by_cases h2 : t.size = 2
  · go_enter Tryz.func48, Tryz.ntmps48
    go_wp2_with (go_at_call 66; refine (Any.utf8_ValidRune Tryz.lays119 r _).mono ?_; rintro e w' ⟨rfl, hw⟩; rw [hw, hv])
    subst hw
    go_step3
    go_wp2
    go_loopg [9, 10] 0 (fun g v9 v10 wx => v9 = .int .i64 1 ∧ v10 = .int .i64 0 ∧ wx = w')
    case atStart => exact ⟨rfl, rfl, rfl⟩
    case round =>
      obtain ⟨rfl, rfl, rfl⟩ := hrel
      have hx1 : ∀ h : 1 < marks.size, ((marks[1]'h).toNat : Int) = 45 := fun _ => rfl
      obtain ⟨b, hb0, hb1, hx2⟩ : ∃ b : Int, 128 ≤ b ∧ b < 256 ∧ ∀ h : 1 < t.size, ((t[1]'h).toNat : Int) = b := by
        have k := F3.out (by omega)
        refine ⟨((t[1]'(by omega)).toNat : Int), ?_, ?_, fun h => rfl⟩
        · have e : t.size - 1 = 1 := by omega
          simp only [e] at k
          omega
        · have := (t[1]'(by omega)).toNat_lt
          omega
      have hn1 : (45 == b) = false := beq_eq_false_iff_ne.2 (by omega)
      have hn2 : (45 != b) = true := by rw [bne, hn1]; rfl
      have hn3 : ¬ (45 = b) := by omega
      go_wp2
      go_step3
      go_wp2
      go_quiet (fail)
      go_wp2
      have hw2 : IntKind.i64.wrap 2 = 2 := by decide
      have hib : ∀ W : World, Calls Tryz.prog 65 #[.string ByteArray.empty, .int .u8 b] W fun e w' => e = .returned (.int .i64 (-1)) ∧ w' = W := fun W => Any.strings_IndexByte Tryz.lays137 ByteArray.empty b W
      go_quiet ((go_at_call 65; refine (hib _).mono ?_; rintro e w' ⟨rfl, hw⟩; exact ⟨rfl, _, hw⟩))
      go_wp2
      simp only [Exit.noGoto_ret, Exit.inBlock, Exit.then]
      go_ret
      exact ⟨rfl, by repeat (first | exact Below.refl _ _ | apply pw_below_drewN)⟩
  · have c5 : decide ((t.size : Int) - 1 < 2) = false := decide_eq_false (by omega)
    go_enter Tryz.func48, Tryz.ntmps48
    go_wp2_with (go_at_call 66; refine (Any.utf8_ValidRune Tryz.lays119 r _).mono ?_; rintro e w' ⟨rfl, hw⟩; rw [hw, hv])
    subst hw
    go_step3
    go_wp2
    go_loopg [9, 10] 0 (fun g v9 v10 wx => v9 = .int .i64 ((t.size : Int) - 1) ∧ v10 = .int .i64 0 ∧ wx = w')
    case atStart => exact ⟨rfl, rfl, rfl⟩
    case round =>
      obtain ⟨rfl, rfl, rfl⟩ := hrel
      go_wp2
      rw [Exit.noGoto_ret]
      go_ret
      exact ⟨rfl, Below.refl _ _⟩
theorem runeFar (r : Int) (h0 : 128 ≤ r) (h1 : r ≤ 2147483647) (w : World) : Calls Tryz.prog 48 #[.string marks, .int .i32 r] w fun e w' => e = .returned (.int .i64 (-1)) ∧ Below w.heap.size w w' := by
  by_cases hn : r = 65533
  · subst hn
    exact runeError w
  · cases hv : Lib.validRune r with
    | true => exact runeValid r h0 h1 hn hv w
    | false => exact runeInvalid r h0 hn hv w
theorem noAny_conts {s : ByteArray} {i n : Nat} (h : NoAny s.data.toList marks.data.toList i) (hc : ∀ j, i ≤ j → j < i + n → ∃ hj : j < s.size, 128 ≤ (s[j]'hj).toNat) : NoAny s.data.toList marks.data.toList (i + n) := fun j b hj hb => by
  by_cases e : j < i
  · exact h j b e hb
  · obtain ⟨hs, hx⟩ := hc j (by omega) hj
    have hb2 : b = s[j]'hs := by
      have := Lib.data_getElem? s j hs
      rw [hb] at this
      exact Option.some.inj this
    subst hb2
    have h1 : (s[j]'hs) ≠ 124 := fun e => by rw [e] at hx; exact absurd hx (by decide)
    have h2 : (s[j]'hs) ≠ 45 := fun e => by rw [e] at hx; exact absurd hx (by decide)
    have e3 : marks.data.toList = [124, 45] := rfl
    rw [e3]
    simp [h1, h2]
set_option maxHeartbeats 8000000 in
set_option maxRecDepth 1000000 in
theorem indexAnyShort (s : ByteArray) (w : World) (h8 : s.size ≤ 8) :
    Calls Tryz.prog 31 #[.string s, .string marks] w fun e w' => e = .returned (.int .i64 (Lib.indexAny s.data.toList marks.data.toList)) ∧ Below w.heap.size w w' := by
  have hemp : marks.toList.isEmpty = false := by rw [Lib.toList_data]; rfl
  have hms : marks.size = 2 := rfl
  have hn1 : ((marks.size : Int) == 1) = false := rfl
  have h8z : decide ((8 : Int) < (s.size : Int)) = false := decide_eq_false (by omega)
  go_enter Tryz.func31, Tryz.ntmps31
  go_wp2_with (go_at_call 49; refine (Any.strings_shouldUseASCIISet Tryz.lays226 _ _).mono ?_; rintro e w' ⟨rfl, hw⟩; rw [hw, h8z])
  go_loopg [9, 10] s.size (fun g _ _ wx => ∃ i : Nat, i ≤ s.size ∧ s.size - i ≤ g ∧ Aside0 (wx.heap[w.heap.size]? = some (.stringIter s i)) ∧ Aside0 (Below w.heap.size w wx) ∧ Aside0 (Lib.NoAny s.data.toList marks.data.toList i))
  case atStart => exact ⟨0, by omega, by omega, ⟨World.iter_heap w s 0⟩, ⟨(Below.refl _ _).alloc (Nat.le_refl _) _⟩, ⟨Lib.NoAny.zero _ _⟩⟩
  case round =>
    obtain ⟨i, hi, hig, HK, HB, HN⟩ := hrel
    by_cases hlt : i < s.size
    · by_cases ha : (s[i]'hlt).toNat < 128
      · have hnx := fun ty => run_next_ascii_at (P := Tryz.prog) wr w.heap.size s i ty HK.out hlt ha
        have HK2 := Aside0.mk (Lib.iterAt_heap wr w.heap.size s i (i + 1) HK.out)
        have HB2 := Aside0.mk (Lib.below_iterAt HB.out (Nat.le_refl _) s (i + 1))
        obtain ⟨x, hx⟩ : ∃ x : UInt8, s[i]'hlt = x := ⟨_, rfl⟩
        have hxl : s.data.toList[i]? = some x := by rw [← hx]; exact Lib.data_getElem? s i hlt
        rw [hx] at hnx ha
        have Hx : Aside (s.data.toList[i]? = some x) := hxl
        clear hxl hx
        generalize wr.iterAt w.heap.size s (i + 1) = W2 at hnx HK2 HB2
        have hcon := Lib.contains_iff_indexByte marks.data.toList x
        have hback : ((x.toNat : Int)).toNat.toUInt8 = x := by simp
        cases hin : marks.data.toList.contains x
        · rw [hin] at hcon
          have hlt2 : ¬ ((0 : Int) ≤ Lib.indexByte marks.data.toList x) := of_decide_eq_false hcon.symm
          clear hcon
          have HI : Aside (marks.data.toList.contains x = false) := hin
          clear hin
          go_wp2_with (go_at_call 48; refine (Any.strings_IndexRune_ascii Tryz.lays152 _ _ _ (by omega) (by omega)).mono ?_; rintro e w' ⟨rfl, hw⟩; rw [hw, hback])
          go_roundg (s.size - (i + 1))
          case measure => omega
          case rel => exact ⟨i + 1, by omega, by omega, HK2, HB2, ⟨HN.out.succ Hx.out HI.out⟩⟩
        · rw [hin] at hcon
          have hge : (0 : Int) ≤ Lib.indexByte marks.data.toList x := of_decide_eq_true hcon.symm
          clear hcon
          have HI : Aside (marks.data.toList.contains x = true) := hin
          clear hin
          go_wp2_with (go_at_call 48; refine (Any.strings_IndexRune_ascii Tryz.lays152 _ _ _ (by omega) (by omega)).mono ?_; rintro e w' ⟨rfl, hw⟩; rw [hw, hback])
          go_ret
          exact ⟨by rw [Lib.indexAny_hit HN.out Hx.out HI.out]; rfl, HB2.out⟩
      · have hd := decode_high s i hlt (by omega)
        have hd2 := decode_le s i
        have hc := decode_conts s i hlt (by omega)
        have hnx := fun ty => run_next_any_at (P := Tryz.prog) wr w.heap.size s i ty HK.out hlt
        have HK2 := Aside0.mk (Lib.iterAt_heap wr w.heap.size s i (i + (Utf8.decode s i).2) HK.out)
        have HB2 := Aside0.mk (Lib.below_iterAt HB.out (Nat.le_refl _) s (i + (Utf8.decode s i).2))
        have HN2 := Aside0.mk (noAny_conts HN.out hc)
        have hle : i + (Utf8.decode s i).2 ≤ s.size := by
          obtain ⟨hj, _⟩ := hc (i + (Utf8.decode s i).2 - 1) (by omega) (by omega)
          omega
        clear hc
        generalize wr.iterAt w.heap.size s (i + (Utf8.decode s i).2) = W2 at hnx HK2 HB2
        generalize (Utf8.decode s i).1 = q at hnx hd hd2
        generalize (Utf8.decode s i).2 = n at HK2 HN2 hd hle
        have hk2 : w.heap.size < W2.heap.size := (Array.getElem?_eq_some_iff.1 HK2.out).1
        go_wp2_with (go_at_call 48; refine (runeFar (q : Int) (by omega) (by omega) _).mono ?_; rintro e w3 ⟨rfl, hb3⟩)
        go_roundg (s.size - (i + n))
        case measure => omega
        case rel => exact ⟨i + n, hle, by omega, ⟨(hb3.block _ hk2).trans HK2.out⟩, ⟨below_step HB2.out hb3⟩, HN2⟩
    · have hnx := fun ty => run_next_end_at (P := Tryz.prog) wr w.heap.size s i ty HK.out hlt
      obtain rfl : i = s.size := by omega
      go_wp2
      go_ret
      exact ⟨by rw [Lib.indexAny_none (by rw [← Lib.size_eq]; exact HN.out)]; rfl, HB.out⟩
theorem indexAny (s : ByteArray) (w : World) (hs : s.size < 4294967281) :
    Calls Tryz.prog 31 #[.string s, .string marks] w fun e w' => e = .returned (.int .i64 (Lib.indexAny s.data.toList marks.data.toList)) ∧ Below w.heap.size w w' := by
  by_cases h8 : s.size ≤ 8
  · exact indexAnyShort s w h8
  · refine (Any.strings_IndexAny_long Tryz.lays153 (fun w => by kernel_rfl) (by kernel_rfl) s marks w (by decide) (by omega) hs (by decide) ?_).mono fun e w' ⟨h1, h2⟩ => ⟨h1, ?_⟩
    · intro j b hb
      have e3 : marks.data.toList = [124, 45] := rfl
      rw [e3] at hb
      rcases j with _ | _ | j
      · cases hb; decide
      · cases hb; decide
      · simp at hb
    · rw [h2]
      exact ((Below.refl _ _).alloc (Nat.le_refl _) _).alloc (by simp) _
#print axioms indexAny
end Go.Proofs.YtdafddgmeidclaaGreatDoor.HandX
