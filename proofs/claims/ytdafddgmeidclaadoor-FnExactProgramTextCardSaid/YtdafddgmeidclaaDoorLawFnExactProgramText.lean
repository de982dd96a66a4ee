/- The row of FnExactProgramText: called with any arguments of its parameters' types the law returns true and leaves the arguments as they were; what the listed variables of the library hold is tied to the program\'s text. Written by wip/row.py. -/
import Derived.Test.YtdafddgmeidclaaDoorRows
import Derived.Test.YtdafddgmeidclaaDoorTie
import Derived.Test.YtdafddgmeidclaaDoorCards
import Derived.SevenTiedAt
import Derived.LaidMore
import Derived.Stop.LaidErr
import Derived.Stop.Joined
import Derived.Lib.LaidTab
import Derived.Test.YtdafddgmeidclaaDoorPFnExactProgramTextx4
import Derived.Test.YtdafddgmeidclaaDoorPureFnExactProgramText
import Derived.WalkKit
import Derived.ProofKit
import Derived.OpenShut
import Derived.ShutString
import Derived.ChangeOld
import Derived.ChangeArms
import Derived.ChangeSame
import Derived.Carry
import Derived.Below
import Derived.SizedLaws
import Derived.Lib.SmallJoins
import Derived.Deep.Slices
import Derived.Deep.Fields

namespace Go.Proofs.YtdafddgmeidclaaDoor.fnExactProgramText
open Go.ChangeShapes Go.WideShapes Go.ChangeAt Go.RowKit Go.Deep Go.Proofs.YtdafddgmeidclaaDoor.PFnExactProgramText Go.Proofs.YtdafddgmeidclaaDoorW Go.Proofs.YtdafddgmeidclaaDoorW.PrintWords
set_option linter.unusedVariables false
set_option linter.unusedSimpArgs false
theorem own : ownKnob Tryd.prog.godebug = none := by kernel_rfl
theorem laidOut : laidOutB Tryd.prog = true := by kernel_rfl
theorem listOf {α : Type} {P : Nat → α → Prop} : ∀ (n : Nat), (∀ i, i < n → ∃ x, P i x) → ∃ xs : List α, n = xs.length ∧ ∀ i x, xs[i]? = some x → P i x
  | 0, _ => ⟨[], rfl, fun i x h => by simp at h⟩
  | n + 1, h => by
    obtain ⟨xs, hx, hp⟩ := listOf n (fun i hi => h i (by omega))
    obtain ⟨x, hn⟩ := h n (by omega)
    refine ⟨xs ++ [x], by simp [← hx], fun i y hy => ?_⟩
    by_cases hi : i < xs.length
    · rw [List.getElem?_append_left hi] at hy
      exact hp i y hy
    · have hlt : i < (xs ++ [x]).length := (List.getElem?_eq_some_iff.1 hy).1
      have e : i = xs.length := by simp at hlt; omega
      subst e
      simp at hy
      subst hy
      rw [← hx]
      exact hn
theorem sliceFields {H : Type} {enc : TypeId × Value → H} {P : Program} {w : World} {base : Nat} {held : Bool} {t e : TypeId} {fs : Array Field} {fuel : Nat} {cs : List Value} {x : DataW H × List MemPlace} (ht : P.underlying t = some (.slice e)) (he : P.underlying e = some (.struct fs))
    (hone : oneCellFields P fs = true) (hC : P.cellsOf e = fs.size) (h : DataW.trod enc P w base (fun _ => true) held fuel t cs = some x) :
    cs = [.slice none 0 0] ∨ ∃ (a : Addr) (len cap : Nat), cs = [.slice (some a) len cap] ∧ len ≤ cap ∧ cap ≤ maxLen ∧
      ∀ i, i < len → ∃ n : Nat, ∀ (j : Nat) (f : Field), fs[j]? = some f → ∃ (v : Value) (y : DataW H × List MemPlace), w.cell? (a.add (i * fs.size + j)) = some v ∧ True ∧ DataW.trod enc P w base (fun _ => true) held n f.type [v] = some y := by
  rcases Go.Deep.open_slice ht h with h0 | ⟨a, len, cap, m, n, D, Pl, hcs, _, hl, hm, hmm, _, hi⟩
  · exact .inl h0.1
  · refine .inr ⟨a, len, cap, hcs, hl, hm, fun i him => ?_⟩
    obtain ⟨cs', hc, ht'⟩ := hi i (by rw [hmm]; split <;> omega)
    rw [hC] at hc
    obtain ⟨ys, n', hn', _, hlen, hyl, hf⟩ := DataW.trod_struct he ht'
    obtain ⟨_, hcl, hat⟩ := World.cells?_some hc
    refine ⟨n', fun j f hj => ?_⟩
    obtain ⟨ho, hk⟩ := hone_of hone j f hj
    have hjl : j < fs.size := (Array.getElem?_eq_some_iff.1 hj).1
    have hcell := hat j hjl
    have h1 := hf j f hj
    rw [ho, hk] at h1
    have one : (cs'.drop j).take 1 = [cs'[j]'(by omega)] := by
      rw [List.drop_eq_getElem_cons (by omega)]
      rfl
    rw [one] at h1
    refine ⟨_, _, ?_, trivial, h1.trans (List.getElem?_eq_getElem (by omega))⟩
    rw [← Go.Deep.add_add, hcell, List.getElem?_eq_getElem (by omega)]

theorem rows38 {H : Type} {enc : TypeId × Value → H} {W : World} {a : Option Addr} {len cap : Nat} {d : DataW H} {p : List MemPlace} (h : DataW.Trod enc Tryd.prog W 0 (fun _ => true) true 22 (.slice a len cap) d p) :
    ∃ xs : List S38, len = xs.length ∧ xs.length ≤ cap ∧ xs.length ≤ maxLen ∧ PrintWords.Kd.C k38 W a xs.length xs ∧ ∀ x ∈ xs, (Lit.int .i64 x.f0).wf = true ∧ (Lit.int .i64 x.f2).wf = true := by
  obtain ⟨fuel, hf⟩ := h
  rcases sliceFields Tryd.underlying22 Tryd.underlying38 (by kernel_rfl) (by kernel_rfl) hf with hcs | ⟨ad, l, c, hcs, hl, hc, hi⟩
  · simp [Value.cells] at hcs
    obtain ⟨rfl, rfl, rfl⟩ := hcs
    exact ⟨[], rfl, Nat.le_refl _, Nat.zero_le _, ⟨rfl, by simp, fun h => absurd h (by simp)⟩, by simp⟩
  · simp [Value.cells] at hcs
    obtain ⟨rfl, rfl, rfl⟩ := hcs
    obtain ⟨xs, hx, hp⟩ := listOf (P := fun i (x : S38) => (W.cell? (ad.add (i * 3 + 0)) = some (.int .i64 x.f0) ∧ W.cell? (ad.add (i * 3 + 1)) = some (.bool x.f1) ∧ W.cell? (ad.add (i * 3 + 2)) = some (.int .i64 x.f2)) ∧ (Lit.int .i64 x.f0).wf = true ∧ (Lit.int .i64 x.f2).wf = true) len (fun i hil => by
      obtain ⟨n, hf⟩ := hi i hil
      obtain ⟨v0, y0, g0, _, u0⟩ := hf 0 _ rfl
      obtain ⟨b0, e0, _, wz0⟩ := DataW.trod_int Tryd.underlying2 u0
      simp only [List.cons.injEq, and_true] at e0
      subst e0
      obtain ⟨v1, y1, g1, _, u1⟩ := hf 1 _ rfl
      obtain ⟨b1, e1, _⟩ := DataW.trod_bool Tryd.underlying4 u1
      simp only [List.cons.injEq, and_true] at e1
      subst e1
      obtain ⟨v2, y2, g2, _, u2⟩ := hf 2 _ rfl
      obtain ⟨b2, e2, _, wz2⟩ := DataW.trod_int Tryd.underlying2 u2
      simp only [List.cons.injEq, and_true] at e2
      subst e2
      exact ⟨⟨b0, b1, b2⟩, ⟨g0, g1, g2⟩, wz0, wz2⟩)
    subst hx
    refine ⟨xs, rfl, hl, by omega, ⟨rfl, by have := hc; unfold maxLen at this; omega, fun _ => ⟨ad, rfl, fun j x hj => ?_⟩⟩, fun x hx => ?_⟩
    · obtain ⟨hcells, _⟩ := hp j x hj
      refine ⟨[.int .i64 x.f0, .bool x.f1, .int .i64 x.f2], rfl, k38_mk _ _, fun i u hu => ?_⟩
      rcases i with _ | _ | _ | i
      · simp only [List.getElem?_cons_succ, List.getElem?_cons_zero, Option.some.injEq] at hu
        subst hu
        exact hcells.1
      · simp only [List.getElem?_cons_succ, List.getElem?_cons_zero, Option.some.injEq] at hu
        subst hu
        exact hcells.2.1
      · simp only [List.getElem?_cons_succ, List.getElem?_cons_zero, Option.some.injEq] at hu
        subst hu
        exact hcells.2.2
      · simp at hu
    · obtain ⟨i, hi', hx'⟩ := List.getElem_of_mem hx
      exact (hp i x (by rw [List.getElem?_eq_getElem hi', hx'])).2
theorem powDatum : (Rows.laid_internal_strconv_uint64pow10 : DataW Unit) = Lib.tabData .u64 Lib.pow10Tab := by kernel_rfl
/-- What the condition gives the walks: the table of powers of ten. -/
theorem env_of_laid {W : World} (h0 : laidMetH Tryd.prog Rows.fnExactProgramTextRow.laid W) : HandD.Env W := by
  rw [MakeChecks.laidMetH_plain _ _ _ (by kernel_rfl)] at h0
  have h : laidMet Tryd.prog Rows.fnExactProgramTextRow.laid W := h0
  have h1 := laidMet.tail (laidMet.tail (h))
  rw [powDatum] at h1
  exact ⟨_, Tryd.laysM173.m17, Lib.tabIs_of_head Tryd.laysM173.m17 (by kernel_rfl) Tryd.underlying100 Tryd.underlying82 (by kernel_rfl) (by kernel_rfl) h1⟩
/-- The door's own run leaves a state that meets the condition. -/
theorem door_met (os : Os) (args : Array Value) : laidMetH Tryd.prog Rows.fnExactProgramTextRow.laid ((World.doorLaid Tryd.prog 72 os).forCall (fun _ _ => 0) ⟨#[], args, []⟩).memory :=
  laidMetH_of_parts3 (fuel := 8) (laidMet_of_run' 8 (by kernel_rfl) (by kernel_rfl)) (by kernel_rfl) (by kernel_rfl)
set_option maxRecDepth 100000 in
theorem lifted (os : Os) (started : os.Started) (H : Type) (enc : TypeId × Value → H) :
    ReturnsInHanded {} Tryd.checked os 3 .any (fun w args => (Rows.fnExactProgramTextSpec.pre enc Tryd.prog Tryd.f3 Rows.fnExactProgramTextRow.domain false w args ∧ laidMetH Tryd.prog Rows.fnExactProgramTextRow.laid w) ∧ sizedMet enc Tryd.prog Tryd.f3 (OpenSpec.ofChange Rows.fnExactProgramTextSpec) false w args) (Rows.fnExactProgramTextSpec.post enc Tryd.prog Tryd.f3 false true false false) := by
  refine returnsInHanded_of_change_and (C := Tryd.checked) (X := fun w _ => laidMetH Tryd.prog Rows.fnExactProgramTextRow.laid w) (fun _ _ _ hh h => h.of_heap hh) own started (by kernel_rfl) Tryd.func3
    (ChangeSpec.witness_shaped (enc := enc) (C := Tryd.checked) (os := os) (X := fun w _ => laidMetH Tryd.prog Rows.fnExactProgramTextRow.laid w) false (World.doorLaid Tryd.prog 72 os) #[.slice none 0 0] 8 rfl (World.shaped_of_RefB (by kernel_rfl) (by kernel_rfl)) (by kernel_rfl) (by kernel_rfl) (by kernel_rfl) (door_met os _)) ?_
  intro W base args ds gs before hval0 hW hcnd hsz0 hL _
  have hsz : (DataW.weightsEach Tryd.prog (Tryd.f3.params.toList ++ Rows.fnExactProgramTextSpec.plain.varTypes Tryd.prog) (ds ++ gs)).all (· ≤ reachBytes) = true := hsz0
  have hval : ∀ (j : Nat) t v, Tryd.f3.params[j]? = some t → args[j]? = some v → Value.okWide Tryd.prog W .any base t v := hval0
  have hW' := hW
  obtain ⟨p, q, hA0, hV, rfl, hfz, hnd⟩ := hW
  have hA : DataW.TrodAll enc Tryd.prog W 0 (fun _ => true) true Tryd.f3.params.toList args.toList ds p := hA0
  rw [Tryd.params3] at hA hval hsz
  obtain ⟨v0, vs0, d0, ds0, p0, q0, hargs, rfl, rfl, h0, r0⟩ := trodAll_cons hA
  obtain ⟨rfl, rfl, rfl⟩ := trodAll_nil r0
  obtain rfl : args = #[v0] := by cases args; simp_all
  obtain ⟨rfl, rfl⟩ := trodVars_none hV
  obtain ⟨a0, len0, cap0, rfl⟩ := okWide_slice Tryd.underlying22 (hval 0 22 v0 rfl rfl)
  have k0 := h0
  have lt0 : ∀ x ∈ p0, x.block < W.heap.size := by obtain ⟨m, hm⟩ := k0; exact DataW.trod_lt m _ _ _ hm
  obtain ⟨l0, rfl, hc0, hm0, hr0, hw0⟩ := rows38 h0
  clear hA0 hval0 hsz0 hsz
  obtain ⟨k, h⟩ := Pure.FnExactProgramText l0 hm0 hw0
  refine (laws_FnExactProgramText.calls k _ _ l0 true W hr0 hc0 h (env_of_laid hL)).mono fun e W' ⟨he, bel0⟩ => ?_
  have bel : Below W.heap.size W W' := bel0
  subst he
  exact ⟨_, rfl, _, _, _, [], _, [], hW', trodAll_mk1 (shut_bool Tryd.underlying4 _), (trodAll_cons_mk (Below.trod laidOut (by kernel_rfl) (of_decide_eq_true (by kernel_rfl)) k0 bel lt0) trodAll_mk0), rfl, bel.frame _, fun h => by cases h⟩
theorem over : Rows.fnExactProgramTextRow.holds Tryd.pinned (OpenSpec.ofChange Rows.fnExactProgramTextSpec) :=
  OpenClaim.holds_of_wide 3 Tryd.f3 rfl rfl rfl rfl rfl rfl rfl ⟨rfl, rfl, rfl, rfl, rfl⟩ rfl rfl rfl rfl rfl (by kernel_rfl) Tryd.func3 (by kernel_rfl)
    (of_decide_eq_true (by kernel_rfl)) (by unfold Func.isWrapper; first | (rw [if_pos (by decide +kernel)]; kernel_rfl) | (rw [if_neg (by decide +kernel)]; exact ⟨rfl, rfl⟩))
    (fun os started H enc _ => lifted os started H enc)
theorem card : Rows.FnExactProgramTextCardSaid :=
  Claim7.holds_tied_plain_at .later [] [.data, .data, .data] true Rows.fnExactProgramTextCard.stood.harness true
    over (fun _ h => by cases h) (by kernel_rfl) (fun _ h => by cases h) fnExactProgramText_row_tie rfl ⟨rfl, rfl⟩ (by kernel_rfl) rfl
    (fun f fn hf hfn => by
      obtain rfl : f = 3 := Option.some.inj ((show Tryd.prog.funcNamed Rows.fnExactProgramTextRow.func = some 3 by kernel_rfl).symm.trans hf) |>.symm
      obtain rfl : fn = Tryd.f3 := (Option.some.inj (Tryd.func3.symm.trans hfn)).symm
      exact ⟨by kernel_rfl, fun j t ht => by
        rw [Tryd.params3] at ht
        have hm : t ∈ [22] := by simpa using Array.mem_of_getElem? ht
        have hall : ([22].all fun u => !Tryd.prog.wantsStandIn u) = true := by kernel_rfl
        exact (show Tryd.prog.wantsStandIn t = false by simpa using List.all_eq_true.1 hall t hm)⟩)
    (by kernel_rfl)
#print axioms card
end Go.Proofs.YtdafddgmeidclaaDoor.fnExactProgramText
namespace Go.Proofs.YtdafddgmeidclaaDoor
/-- The card, under a short name, for the claim. -/
theorem fnExactProgramText_holds : Rows.FnExactProgramTextCardSaid := fnExactProgramText.card
end Go.Proofs.YtdafddgmeidclaaDoor
