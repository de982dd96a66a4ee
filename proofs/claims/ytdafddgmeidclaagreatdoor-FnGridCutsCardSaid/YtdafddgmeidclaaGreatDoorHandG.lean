/- What slices.Grow leaves of nil and a small number, over pieces, by a walk of its text: nil, or a new row of the call's own, of no elements. -/
import Derived.Test.YtdafddgmeidclaaGreatDoorProg
import Derived.Test.YtdafddgmeidclaaGreatDoorWMore
import Derived.Deep.LoopGhost
import Derived.Deep.QuietTactic
import Derived.BigQuiet
import Derived.WideLaws
import Derived.RowKit3
import Derived.WalkKit
import Derived.Lib.Walk
import Derived.Lib.SliceRun
import Derived.Lib.AppendZerosOnto
import Derived.Shelf.Abstract
namespace Go.Proofs.YtdafddgmeidclaaGreatDoor.HandG
open Go.RowKit Go.Shelf Go.Lib Go.Proofs.YtdafddgmeidclaaGreatDoorW.PrintWords Go.Proofs.YtdafddgmeidclaaGreatDoorW.PrintLast Go.Proofs.YtdafddgmeidclaaGreatDoorW.PrintMore
set_option linter.unusedVariables false
set_option linter.unusedSimpArgs false
set_option maxHeartbeats 4000000 in
set_option maxRecDepth 100000 in
theorem growNil (n : Int) (h0 : 0 ≤ n) (h1 : n ≤ 1000000) (w : World) :
    Calls Tryz.prog 72 #[.slice none 0 0, .int .i64 n] w fun e w' => ∃ v, e = .returned v ∧ w'.ownsRow w.heap.size 25 2 v 0 [] ∧ Below w.heap.size w w' := by
  obtain ⟨n, rfl⟩ : ∃ m : Nat, n = m := ⟨n.toNat, by omega⟩
  have q1 : ¬ ((n : Int) < 0) := by omega
  have q2 : wrap64 (0 - 0) = 0 := by unfold wrap64; omega
  have q3 : wrap64 ((n : Int) - 0) = n := by unfold wrap64; omega
  by_cases hn : n = 0
  · subst hn
    go_enter Tryz.func72, Tryz.ntmps72
    go_wp2
    go_ret
    exact ⟨_, rfl, ⟨rfl, .inl ⟨rfl, rfl⟩⟩, Below.refl _ _⟩
  · have q4 : (n : Int) > 0 := by omega
    have hinfo : (Tryz.prog.info? 25).map (fun i => (i.zero, i.size, i.bytes)) = some (some (.agg #[.int .i64 0, .int .i64 0]), 2, 16) := by kernel_rfl
    obtain ⟨i0, hi, hzz⟩ := Option.map_eq_some_iff.1 hinfo
    simp only [Prod.mk.injEq] at hzz
    obtain ⟨hz0, hs, hb⟩ := hzz
    have hrz : ∀ ty, (Builtin.append_ #[37, 3] ty #[.slice none 0 0, .int .i64 (n : Int)]).run Tryz.prog w = .ok (.slice (some ⟨w.heap.size, 0, none⟩) n (grownCap w n 0 25)) (w.drew.alloc (.cells (#[] ++ Builtin.zeroCells (Value.agg #[.int .i64 0, .int .i64 0]).cells n ++ Builtin.zeroCells (Value.agg #[.int .i64 0, .int .i64 0]).cells (grownCap w n 0 25 - n)) 25)) := fun ty => by
      have h := run_append_grow_zeros w 37 3 ty 25 i0 _ .i64 .i64 (by kernel_rfl) (by kernel_rfl) hi hz0 none 0 0 [] (run_firstCells_none w.drew _ 0 0 0) n (by omega) (by omega) (by omega) (by omega) (by rw [hb]; omega) (by rw [Nat.zero_add]; exact growslice_fits (by omega) (by rw [hb]; omega))
      rw [Nat.zero_add] at h
      exact h
    clear hinfo hi hz0 hs hb
    have hGn : n ≤ grownCap w n 0 25 := grownCap_ge w _ _ _
    have hG63 : grownCap w n 0 25 ≤ maxLen := grownCap_le_maxLen w n 0 25 (by unfold maxLen; omega)
    obtain ⟨G, hG⟩ : ∃ G, G = grownCap w n 0 25 := ⟨_, rfl⟩
    rw [← hG] at hrz hGn hG63
    clear hG
    go_enter Tryz.func72, Tryz.ntmps72
    go_wp2_with (at_builtin; refine Lib.wpList_append_run _ rfl _ _ _ _ rfl _ _ rfl rfl _ _ (hrz _) ?_)
    go_ret
    refine ⟨_, rfl, ⟨rfl, .inr ⟨_, _, _, rfl, Nat.le_refl _, (by show (w.heap.push _)[w.heap.size]? = some _; exact Array.getElem?_push_size), by omega, hG63, ?_, by simp⟩⟩, below_alloc (below_drew1 (Below.refl _ _)) _⟩
    simp only [Array.size_append, size_zeroCells, show (Value.agg #[.int .i64 0, .int .i64 0]).cells.size = 2 from rfl, List.size_toArray, List.length_nil, Nat.zero_add, ← Nat.add_mul]
    congr 1
    omega
/-- What is only read, and is not empty, does not lie in a block that its footprint has not. -/
theorem v_away {α : Type} {d : Kd α} {e base : Nat} {W : World} {ok : Nat → Prop} {v : Value} {xs : List α} (h : Kd.V d e W base ok v xs) (hs : 0 < d.sz) (hp : 0 < xs.length) {g : Nat} (hok : ∀ k, ok k → k ≠ g) : some g ≠ v.ownBlock := by
  obtain ⟨A, c, rfl, _, hF⟩ := h
  intro he
  have hC := hF { W with heap := W.heap.setIfInBounds g (.deferred none) } (fun k hk _ => by
    show (W.heap.setIfInBounds g (.deferred none))[k]? = W.heap[k]?
    rw [Array.getElem?_setIfInBounds_ne (Ne.symm (hok k hk))])
  obtain ⟨ad, rfl, hc⟩ := hC.2.2 (by omega)
  obtain ⟨cs, hl, _, hcell⟩ := hc 0 _ (List.getElem?_eq_getElem hp)
  have h0 := hcell 0 cs[0] (List.getElem?_eq_getElem (by omega))
  have hb : ad.block = g := by simpa [Value.ownBlock] using he.symm
  have h1 : World.cell? { W with heap := W.heap.setIfInBounds g (.deferred none) } (ad.add (0 * d.sz + 0)) = none := by
    unfold World.cell?
    have : (ad.add (0 * d.sz + 0)).block = g := by rw [add_block]; exact hb
    rw [this]
    show (match (W.heap.setIfInBounds g (.deferred none))[g]? with | _ => _) = _
    by_cases hg : g < W.heap.size
    · rw [Array.getElem?_setIfInBounds_self_of_lt hg]
    · rw [Array.getElem?_eq_none (by simp; omega)]
  rw [h1] at h0
  cases h0
theorem va {α : Type} {d : Kd α} {e base : Nat} {W : World} {ok : Nat → Prop} {v : Value} {xs : List α} (h : Kd.V d e W base ok v xs) {g : Nat} (hok : ∀ k, ok k → k ≠ g) (hs : 0 < d.sz := by exact Nat.zero_lt_succ _) (hp : Aside0 (0 < xs.length) := by assumption) : some g ≠ v.ownBlock := v_away h hs hp.out hok
end Go.Proofs.YtdafddgmeidclaaGreatDoor.HandG
