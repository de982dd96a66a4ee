/- What the program's BestUnits does behind its checks: zeros, and a range over slices.Backward that fills them. -/
import Derived.Test.YthapadejldlmfaaProg
import Derived.Test.YthapadejldlmfaaWMore
import Derived.Deep.LoopGhost
import Derived.Deep.QuietTactic
import Derived.BigQuiet
import Derived.WideLaws
import Derived.RowKit3
import Derived.Shelf.Abstract
import Derived.RangeFuncBox
import Derived.RangeFuncLeaves
import Derived.OwnWalkIn
import Derived.TacticsInMore
import Derived.LoopNIn
import Derived.LoopIn
import Derived.WalkKit
import Derived.Shelf.RegionOpen
namespace Go.Proofs.Ythapadejldlmfaa.HandU
open Go.RowKit Go.Shelf Go.Proofs.YthapadejldlmfaaW.PrintWords Go.Proofs.YthapadejldlmfaaW.PrintLast Go.Proofs.YthapadejldlmfaaW.PrintMore
set_option linter.unusedVariables false
set_option linter.unusedSimpArgs false
attribute [local go_sem] Oper.semAt_some
/-- How many of each unit, the greatest first, and what is left. -/
def bu : List Int → Int → List Int × Int
  | [], left => ([], left)
  | u :: us, left => (wrap64 (Int.tdiv (bu us left).2 u) :: (bu us left).1, Int.tmod (bu us left).2 u)
/-- A place in a row. -/
abbrev Ixs (us : List Int) := { i : Nat // i < us.length }
def encU (us : List Int) (x : Ixs us) : Array Value := #[.int .i64 ((x.1 : Nat) : Int), .int .i64 (rd us ((x.1 : Nat) : Int))]
/-- The first d places from the end on. -/
def dnk (us : List Int) : (d : Nat) → d ≤ us.length → List (Ixs us)
  | 0, _ => []
  | d + 1, h => dnk us d (by omega) ++ [⟨us.length - 1 - d, by omega⟩]
theorem dnk_len (us : List Int) : ∀ d h, (dnk us d h).length = d
  | 0, _ => rfl
  | d + 1, h => by rw [dnk, List.length_append, dnk_len us d]; rfl
/-- What must stay: all below n₀, and one block. -/
def Same (n₀ Bs : Nat) (W W' : World) : Prop := ∀ k, k < n₀ ∨ k = Bs → W'.heap[k]? = W.heap[k]?
theorem Same.trans {n₀ Bs : Nat} {A B C : World} (h : Same n₀ Bs A B) (k : Same n₀ Bs B C) : Same n₀ Bs A C := fun i hi => (k i hi).trans (h i hi)
theorem Same.cell {n₀ Bs : Nat} {A B : World} (h : Same n₀ Bs A B) {p : Addr} (hp : p.block < n₀ ∨ p.block = Bs) : B.cell? p = A.cell? p := by
  unfold World.cell?
  rw [h _ hp]
set_option maxRecDepth 100000 in
set_option maxHeartbeats 2000000 in
theorem backward1_in (F : Fence) (n : Nat) (h104 : F.fn 182) (hro : F.round = none) (hn : 1 ≤ n) (l Bs n₀ : Nat) (ad : Addr) (c : Nat) (us : List Int) (hb : ad.block < n₀) (h63 : us.length ≤ 9223372036854775806) (J Jx : List (Ixs us) → World → Prop)
    (hY : ∀ pre x W, J pre W → pre.length < us.length → YieldAt F (n - 1) Try.prog l (encU us x) W fun e W' =>
      (e = .returned (.bool true) ∧ J (pre ++ [x]) W' ∧ Same n₀ Bs W W') ∨ (e = .returned (.bool false) ∧ Jx (pre ++ [x]) W'))
    (W : World) (hBs : W.cell? ⟨Bs, 0, none⟩ = some (.slice (some ad) us.length c)) (hc : ∀ j : Nat, j < us.length → W.cell? (ad.add j) = some (.int .i64 (rd us (j : Int)))) (h0 : J [] W) :
    CallsIn F n Try.prog 182 #[.func (.yield l) #[] #[], .pointer (some ⟨Bs, 0, none⟩)] W fun e W' => (∃ v, e = .returned v) ∧
      ((∃ ys, ys = dnk us us.length (Nat.le_refl _) ∧ J ys W') ∨ (∃ pre, (∃ k h, pre = dnk us k h) ∧ Jx pre W')) := by
  have hw1 : wrap64 ((us.length : Int) - 1) = (us.length : Int) - 1 := by unfold wrap64; omega
  refine callsIn_of_wp Try.func182 rfl h104 ?_ hro
  simp only [Try.ntmps182, List.size_toArray, List.length_cons, List.length_nil, Nat.reduceAdd, Nat.reduceSub, Array.replicate_succ, Array.replicate_zero, List.push_toArray, List.append_toArray, List.nil_append, List.cons_append]
  gi_wp2
  gi_loopw [3] (fun i wr => ∃ (d m : Nat) (h : d + m = us.length), i = .int .i64 ((m : Int) - 1) ∧ J (dnk us d (by omega)) wr ∧ Same n₀ Bs W wr)
    (fun i _ => (intOf i + 1).toNat)
  case atStart => exact ⟨0, us.length, by omega, by first | rfl | (simp [hw1]; done) | (rw [hw1]), h0, fun _ _ => rfl⟩
  case round =>
    obtain ⟨d, m, hdm, rfl, hJs, hS⟩ := hrel
    have hbx : wr.cell? ⟨Bs, 0, none⟩ = some (.slice (some ad) us.length c) := (hS.cell (.inr rfl)).trans hBs
    cases m with
    | zero =>
      have e : ((0 : Nat) : Int) - 1 = -1 := by omega
      rw [e]
      gi_wp2
      go_end0
      exact ⟨⟨_, rfl⟩, .inl ⟨_, rfl, by obtain rfl : d = us.length := by omega
                                        exact hJs⟩⟩
    | succ m =>
      have e : ((m + 1 : Nat) : Int) - 1 = (m : Int) := by omega
      rw [e]
      have hcx : wr.cell? (ad.add m) = some (.int .i64 (rd us (m : Int))) := (hS.cell (.inl (by rw [add_block]; exact hb))).trans (hc m (by omega))
      obtain ⟨fn, tmps, assign, body, hy, hR⟩ := hY _ ⟨m, by omega⟩ wr hJs (by rw [dnk_len]; omega)
      dsimp only [encU] at hy
      have p1 : decide (0 ≤ (m : Int)) = true := decide_eq_true (by omega)
      have p2 : ((m : Int) ≥ 0) = True := eq_true (by omega)
      have q1 : decide ((m : Int) < (us.length : Int)) = true := decide_eq_true (by omega)
      have q2 : ((m : Int) < (us.length : Int)) = True := eq_true (by omega)
      have hw2 : wrap64 ((m : Int) - 1) = (m : Int) - 1 := by unfold wrap64; omega
      gi_wp2
      refine hR.mono ?_
      rintro e W3 (⟨rfl, hJ3, hk3⟩ | ⟨rfl, hJx3⟩)
      · gi_wp2
        go_roundw
        case rel => exact ⟨d + 1, m, by omega, by first | rfl | (simp [hw2]; done) | (rw [hw2]), by
          rw [dnk]
          have : (⟨us.length - 1 - d, by omega⟩ : Ixs us) = ⟨m, by omega⟩ := Subtype.ext (by simp only; omega)
          rw [this]
          exact hJ3, hS.trans hk3⟩
        case measure => simp [intOf, hw2]; try omega
      · gi_wp2
        refine bodyPost_ret (results_none rfl _ _ _) rfl ?_
        exact ⟨⟨_, rfl⟩, .inr ⟨_, ⟨d + 1, by omega, by
          rw [dnk]
          have : (⟨us.length - 1 - d, by omega⟩ : Ixs us) = ⟨m, by omega⟩ := Subtype.ext (by simp only; omega)
          rw [this]⟩, hJx3⟩⟩
theorem backward_stops (F : Fence) (n : Nat) (h104 : F.fn 182) (hro : F.round = none) (hn : 1 ≤ n) (Bs n₀ : Nat) (ad : Addr) (c : Nat) (us : List Int) (hb : ad.block < n₀) (h63 : us.length ≤ 9223372036854775806) (w : World) (hBsw : Bs < w.heap.size) (hn₀ : n₀ ≤ w.heap.size)
    (hBs : w.cell? ⟨Bs, 0, none⟩ = some (.slice (some ad) us.length c)) (hc : ∀ j : Nat, j < us.length → w.cell? (ad.add j) = some (.int .i64 (rd us (j : Int)))) :
    SeqStopsK F n Try.prog 182 #[.pointer (some ⟨Bs, 0, none⟩)] (encU us) (Same n₀ Bs) (fun ys => ys = dnk us us.length (Nat.le_refl _)) (fun pre => ∃ k h, pre = dnk us k h) us.length w := fun l J Jx W hW _ _ hY h0 =>
  backward1_in F n h104 hro hn l Bs n₀ ad c us hb h63 J Jx hY W ((hW.cell (p := ⟨Bs, 0, none⟩) hBsw).trans hBs) (fun j hj => (hW.cell (p := ad.add j) (by rw [add_block]; omega)).trans (hc j hj)) h0
set_option maxHeartbeats 1000000 in
theorem backward_in (F : Fence) (n : Nat) (h81 : F.fn 133) (hro : F.round = none) (a : Option Addr) (len cap : Nat) (w : World) :
    CallsIn F n Try.prog 133 #[.slice a len cap] w fun e w' => e = .returned (.func (.func 182) #[] #[.pointer (some ⟨w.heap.size, 0, none⟩)]) ∧ w' = w.alloc (.cells #[.slice a len cap] 26) := by
  refine callsIn_of_wp Try.func133 rfl h81 ?_ hro
  simp only [Try.ntmps133, List.size_toArray, List.length_cons, List.length_nil, Nat.reduceAdd, Nat.reduceSub, Array.replicate_succ, Array.replicate_zero, List.push_toArray, List.append_toArray, List.nil_append, List.cons_append]
  gi_wp2
  go_ret
  exact ⟨rfl, rfl⟩
theorem retM {F : Fence} {n : Nat} {P : Program} {fn : Func} {R : Ending → World → Prop} {a : Act} {w : World} {v : Value} (hr : (results fn a.tmps).run P w = .ok v w) (hd : a.defers = []) (hR : R (.returned v) w) : bodyPostM F n P fn R .ret a w := by
  show LeavesInM F n P fn a.tmps R a.defers .returning w
  rw [hd]
  exact ⟨v, hr, hR⟩
theorem bx {W W1 : World} {g : Nat} {t : TypeId} {v : Value} (h : Boxed W g t v) (hb : Below W.heap.size W W1) : Boxed W1 g t v := (hb.block g h.lt).trans h
theorem bxput {W : World} {g : Nat} {t : TypeId} {v : Value} (h : Boxed W g t v) (u : Value) : Boxed (W.setCell ⟨g, 0, none⟩ u) g t u := blk_put (cs := #[v]) h 0 u rfl
theorem bxne {W : World} {g g' : Nat} {t t' : TypeId} {v v' : Value} (h : Boxed W g t v) (h' : Boxed W g' t' v') (ht : t ≠ t') : g ≠ g' := fun e => by
  subst e
  have := (show W.heap[g]? = _ from h).symm.trans h'
  simp at this
  exact ht this.2
theorem bxother {W : World} {g g' : Nat} {t : TypeId} {v : Value} (h : Boxed W g t v) (hne : g ≠ g') (i : Nat) (u : Value) : Boxed (W.setCell ⟨g', i, none⟩ u) g t v := (Below.heap_setCell W ⟨g', i, none⟩ u g hne).trans h
/-- Zeros, filled at the places that have come. -/
def st (us : List Int) (left : Int) (pre : List (Ixs us)) : List Int × Int :=
  pre.foldl (fun s x => (s.1.set x.1 (wrap64 (Int.tdiv s.2 (rd us ((x.1 : Nat) : Int)))), Int.tmod s.2 (rd us ((x.1 : Nat) : Int)))) (List.replicate us.length 0, left)
theorem st_snoc (us : List Int) (left : Int) (pre : List (Ixs us)) (x : Ixs us) : st us left (pre ++ [x]) = ((st us left pre).1.set x.1 (wrap64 (Int.tdiv (st us left pre).2 (rd us ((x.1 : Nat) : Int)))), Int.tmod (st us left pre).2 (rd us ((x.1 : Nat) : Int))) := by
  unfold st
  rw [List.foldl_append]
  rfl
theorem st_len (us : List Int) (left : Int) : ∀ pre, (st us left pre).1.length = us.length := by
  suffices h : ∀ n pre, pre.length = n → (st us left pre).1.length = us.length from fun pre => h _ pre rfl
  intro n
  induction n with
  | zero => intro pre hp; have : pre = [] := List.length_eq_zero_iff.1 hp; subst this; simp [st]
  | succ n ih =>
    intro pre hp
    have hne : pre ≠ [] := fun e => by subst e; simp at hp
    rw [← List.dropLast_concat_getLast hne, st_snoc, List.length_set]
    exact ih _ (by rw [List.length_dropLast]; omega)
theorem bu_len : ∀ (us : List Int) (left : Int), (bu us left).1.length = us.length
  | [], _ => rfl
  | u :: us, left => by rw [bu, List.length_cons, List.length_cons, bu_len us left]
theorem set_rep (n : Nat) (v : Int) (ys : List Int) : (List.replicate (n + 1) 0 ++ ys).set n v = List.replicate n 0 ++ v :: ys := by
  rw [show List.replicate (n + 1) (0 : Int) = List.replicate n 0 ++ [0] from List.replicate_succ', List.append_assoc, List.set_append, if_neg (by simp)]
  simp
theorem st_dnk (us : List Int) (left : Int) : ∀ (d : Nat) (h : d ≤ us.length), st us left (dnk us d h) = (List.replicate (us.length - d) 0 ++ (bu (us.drop (us.length - d)) left).1, (bu (us.drop (us.length - d)) left).2)
  | 0, _ => by
    rw [dnk, Nat.sub_zero, List.drop_length, bu, List.append_nil]
    rfl
  | d + 1, h => by
    have hlt : us.length - 1 - d < us.length := by omega
    have e1 : us.length - d = (us.length - 1 - d) + 1 := by omega
    have e2 : us.length - (d + 1) = us.length - 1 - d := by omega
    have hr : rd us ((us.length - 1 - d : Nat) : Int) = us[us.length - 1 - d] := by
      simp [rd, List.getD_eq_getElem?_getD, List.getElem?_eq_getElem hlt]
    rw [dnk, st_snoc, st_dnk us left d (by omega), e2, List.drop_eq_getElem_cons hlt, bu, e1]
    simp only
    rw [hr, set_rep]
theorem st_all (us : List Int) (left : Int) : st us left (dnk us us.length (Nat.le_refl _)) = bu us left := by
  rw [st_dnk, Nat.sub_self, List.drop_zero]
  rfl
theorem R_own {β α : Type} (d : Kd α) (e base : Nat) (v : Value) (f : β → List α) : Own (fun s W => Kd.R d e W base (fun _ => True) v (f s)) := fun s X Y row h hg hrow =>
  Kd.R_mono (Kd.R_move (Kd.R_bound h) (fun k hk => hg.block k hk.2.2.1 (fun e' => by
    obtain ⟨o, ho, hc⟩ := hrow k e'.symm
    obtain ⟨_, _, _, q, _, cells, hcells⟩ := hk
    rw [hcells] at ho
    cases ho
    cases hc))) (fun _ hk => trivial)
theorem R_apart {α : Type} {d : Kd α} {e base : Nat} {w : World} {v : Value} {xs : List α} {g : Nat} (hd : ∀ {ok1 ok2 : Nat → Prop} {x : α} {cs : List Value}, d.M w base ok1 x cs → d.M w base ok2 x cs) (h : Kd.R d e w base (fun _ => True) v xs) (hne : v.ownBlock ≠ some g) : Kd.R d e w base (fun k => k ≠ g) v xs :=
  ⟨fun k hk e => hne (by rw [hk, e]), h.2.imp_ (fun _ _ hp => hd hp)⟩
theorem body_end (us : List Int) (left : Int) (pre : List (Ixs us)) (i : Nat) (hi : i < us.length) {w W : World} {B n3 g8 g9 g46 cap : Nat} (b8 : Boxed W g8 26 (.slice (some ⟨g46, 0, none⟩) us.length cap)) (b9 : Boxed W g9 2 (.int .i64 (st us left pre).2))
    (r : Kd.R (Kd.int .i64) 2 W w.heap.size (fun _ => True) (.slice (some ⟨g46, 0, none⟩) us.length cap) (st us left pre).1) (bb : Below w.heap.size w W) (h1 : g8 ≠ g46) (h2 : g8 ≠ g9) (h3 : g46 ≠ g9) (e1 : w.heap.size ≤ g46) (e2 : w.heap.size ≤ g9) (e3 : g46 < n3) (e4 : g9 < n3) :
    KeepsFrom B W ((W.setCell ⟨g46, i, none⟩ (.int .i64 (wrap64 (Int.tdiv (st us left pre).2 (rd us (i : Int)))))).setCell ⟨g9, 0, none⟩ (.int .i64 (Int.tmod (st us left pre).2 (rd us (i : Int))))).drew ∧
    Same w.heap.size n3 W ((W.setCell ⟨g46, i, none⟩ (.int .i64 (wrap64 (Int.tdiv (st us left pre).2 (rd us (i : Int)))))).setCell ⟨g9, 0, none⟩ (.int .i64 (Int.tmod (st us left pre).2 (rd us (i : Int))))).drew ∧
    (Boxed ((W.setCell ⟨g46, i, none⟩ (.int .i64 (wrap64 (Int.tdiv (st us left pre).2 (rd us (i : Int)))))).setCell ⟨g9, 0, none⟩ (.int .i64 (Int.tmod (st us left pre).2 (rd us (i : Int))))).drew g8 26 (.slice (some ⟨g46, 0, none⟩) us.length cap) ∧
      Boxed ((W.setCell ⟨g46, i, none⟩ (.int .i64 (wrap64 (Int.tdiv (st us left pre).2 (rd us (i : Int)))))).setCell ⟨g9, 0, none⟩ (.int .i64 (Int.tmod (st us left pre).2 (rd us (i : Int))))).drew g9 2 (.int .i64 (st us left (pre ++ [⟨i, hi⟩])).2) ∧
      Kd.R (Kd.int .i64) 2 ((W.setCell ⟨g46, i, none⟩ (.int .i64 (wrap64 (Int.tdiv (st us left pre).2 (rd us (i : Int)))))).setCell ⟨g9, 0, none⟩ (.int .i64 (Int.tmod (st us left pre).2 (rd us (i : Int))))).drew w.heap.size (fun _ => True) (.slice (some ⟨g46, 0, none⟩) us.length cap) (st us left (pre ++ [⟨i, hi⟩])).1 ∧
      Below w.heap.size w ((W.setCell ⟨g46, i, none⟩ (.int .i64 (wrap64 (Int.tdiv (st us left pre).2 (rd us (i : Int)))))).setCell ⟨g9, 0, none⟩ (.int .i64 (Int.tmod (st us left pre).2 (rd us (i : Int))))).drew) := by
  have HP := (Kd.R_putg r (i : Int) (wrap64 (Int.tdiv (st us left pre).2 (rd us (i : Int))))).1
  rw [Int.toNat_natCast] at HP
  rw [st_snoc]
  have a1 := bxother b8 h1 i (.int .i64 (wrap64 (Int.tdiv (st us left pre).2 (rd us (i : Int)))))
  have a2 := bxother b9 (Ne.symm h3) i (.int .i64 (wrap64 (Int.tdiv (st us left pre).2 (rd us (i : Int)))))
  have a3 := below_set (j := i) (v := .int .i64 (wrap64 (Int.tdiv (st us left pre).2 (rd us (i : Int))))) bb e1
  have hk := (KeepsOthers.setCell W ⟨g46, i, none⟩ (.int .i64 (wrap64 (Int.tdiv (st us left pre).2 (rd us (i : Int))))))
  have hsm : ∀ k, k < w.heap.size ∨ k = n3 → (W.setCell ⟨g46, i, none⟩ (.int .i64 (wrap64 (Int.tdiv (st us left pre).2 (rd us (i : Int)))))).heap[k]? = W.heap[k]? := fun k hk => Below.heap_setCell W ⟨g46, i, none⟩ _ k (by simp only; omega)
  have HP' : Kd.R (Kd.int .i64) 2 (W.setCell ⟨g46, i, none⟩ (.int .i64 (wrap64 (Int.tdiv (st us left pre).2 (rd us (i : Int)))))) w.heap.size (fun k => k ≠ g9) (.slice (some ⟨g46, 0, none⟩) us.length cap) ((st us left pre).1.set i (wrap64 (Int.tdiv (st us left pre).2 (rd us (i : Int))))) :=
    R_apart (fun h => h) HP (fun e => h3 (by simpa [Value.ownBlock] using e))
  generalize W.setCell ⟨g46, i, none⟩ (.int .i64 (wrap64 (Int.tdiv (st us left pre).2 (rd us (i : Int))))) = W1 at *
  have hk2 := hk.trans (KeepsOthers.setCell W1 ⟨g9, 0, none⟩ (.int .i64 (Int.tmod (st us left pre).2 (rd us (i : Int)))))
  refine ⟨⟨hk2.size, fun k o _ h ho => hk2.same k o h ho⟩, fun k hk => (Below.heap_setCell W1 ⟨g9, 0, none⟩ _ k (by simp only; omega)).trans (hsm k hk), bxother a1 h2 0 _, bxput a2 _, Kd.R_drew (Kd.R_mono (Kd.R_far (p := ⟨g9, 0, none⟩) HP' (fun _ h => h) _) (fun _ _ => trivial)), below_drew1 (below_set a3 e2)⟩
theorem wp_then {P : Program} {c : Code} {K : Act → World → Prop} {Q : Exit → Act → World → Prop} {a : Act} {w : World} (h : c.wp P (Exit.then K (fun _ _ _ => False)) a w) : c.wp P (Exit.then K Q) a w :=
  Code.wp_mono (fun e a w h => by cases e <;> first | exact h | exact h.elim) h
theorem box_own {β : Type} (B : Nat) (t : TypeId) (f : β → Value) : Own (fun s W => Boxed W B t (f s)) := fun s X Y row hs hg hrow =>
  hs.kept hg (fun e' => by
    obtain ⟨o, ho, hc⟩ := hrow B e'.symm
    rw [show X.heap[B]? = _ from hs] at ho
    cases ho
    cases hc)
theorem rangeFunc2 {P : Program} {F : Fence} {n : Nat} {α : Type} {g : Operand} {p1 p2 : Tmp} (q1 q2 : Tmp) (v1 v2 : α → Value) {assign body : Code} {Q : Exit → Act → World → Prop} {a : Act} {w : World}
    (hro : F.round = none) (h1 : 1 ≤ n) {gf : Nat} {lb : Array Value} (hg : a.eval g = .func (.func gf) #[] lb) (hFg : F.fn gf) (eg : ∀ args w, (callFunc gf args).run P w = .ok (.enter gf args) w)
    {Kp : World → World → Prop} {S Sp : List α → Prop} {N : Nat} {w0 : World} (hseq : SeqStopsK F (n - 1) P gf lb (fun x => #[v1 x, v2 x]) Kp S Sp N w0)
    (hKt : ∀ {A B C : World}, Kp A B → Kp B C → Kp A C) (hKb : ∀ (W : World) (l : Nat) (o o' : Obj), w.heap.size ≤ l → W.heap[l]? = some o → o.isCells = false → o.isWalk = false → Kp W (W.putObj l o')) (hb0 : Below w0.heap.size w0 w)
    (I : List α → World → Prop) (hI : OwnFrom w.heap.size I) (h0 : I [] w)
    (hassign : ∀ (l : Nat) (x : α) (W : World) (K : Act → World → Prop), K { tmps := (((a.tmps.setIfInBounds p1 (v1 x)).setIfInBounds p2 (v2 x)).setIfInBounds q1 (v1 x)).setIfInBounds q2 (v2 x), defers := [] } W →
      assign.wpIn (F.inRound l) (n - 1 - 1) P (Exit.then K (fun _ _ _ => False)) { tmps := ((#[p1, p2] : Array Tmp).zip #[v1 x, v2 x]).foldl (fun t (p, v) => t.setIfInBounds p v) a.tmps, defers := [] } W)
    (hbody : ∀ (l : Nat) (pre : List α) (x : α) (W : World), I pre W → pre.length < N → body.wpIn (F.inRound l) (n - 1 - 1) P (ownPostG w.heap.size Kp I (fun _ _ _ => False) (pre ++ [x]) W) { tmps := (((a.tmps.setIfInBounds p1 (v1 x)).setIfInBounds p2 (v2 x)).setIfInBounds q1 (v1 x)).setIfInBounds q2 (v2 x), defers := [] } W)
    (hdone : ∀ (D : Nat) (xs : List α) (W : World), w.heap.size ≤ D → S xs → I xs W → W.heap[D]? = some (.deferred (some [])) → Q .normal { a with defers := { target := .collected D, args := #[] } :: a.defers } W) :
    (Code.rangeFunc g #[p1, p2] assign body).wpIn F n P Q a w :=
  wpIn_rangeFunc_ownG hro h1 hg hFg eg hseq hKt hKb hb0 (fun _ => rfl) I (fun _ _ _ => False) hI (fun _ => fun _ _ _ _ h _ _ => h) h0 _ hassign hbody hdone (fun _ _ _ _ _ _ h _ => h.elim)
end Go.Proofs.Ythapadejldlmfaa.HandU
