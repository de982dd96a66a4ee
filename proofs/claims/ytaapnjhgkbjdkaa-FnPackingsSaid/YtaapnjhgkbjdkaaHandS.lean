/- What slices.SortStableFunc leaves of a short row of whole numbers, sorted by the program's literal over the strips: the library's insertion sort, by the kit's contract, below twenty elements. -/
import Derived.Test.YtaapnjhgkbjdkaaHandI
import Derived.Shelf.SlSortCmp.Insertion
namespace Go.Proofs.Ytaapnjhgkbjdkaa.Hand
open Go.RowKit Go.Shelf Go.Lib Go.Sort Go.Proofs.YtaapnjhgkbjdkaaW.PrintWords Go.Proofs.YtaapnjhgkbjdkaaW.PrintLast Go.Proofs.YtaapnjhgkbjdkaaW.PrintMore
set_option linter.unusedVariables false
set_option linter.unusedSimpArgs false
def renS : Ren := { f := fun n => if n = 20 then 111 else n, t := fun n => if n = 22 then 69 else if n = 24 then 3 else if n = 25 then 73 else n, g := fun n => n }
set_option maxHeartbeats 4000000 in
set_option maxRecDepth 100000 in
theorem laysS : SlLaysF.n20 Try.prog renS :=
  { mixed := by kernel_rfl
    f20 := ⟨Try.f111.name, by decide +kernel, by kernel_rfl⟩
    t0 := by kernel_rfl
    a0 := fun _ => by kernel_rfl
    z0 := fun _ => by kernel_rfl
    v0 := fun _ => by kernel_rfl
    t3 := by kernel_rfl
    a3 := fun _ => by kernel_rfl
    z3 := fun _ => by kernel_rfl
    v3 := fun _ => by kernel_rfl
    t4 := by kernel_rfl
    a4 := fun _ => by kernel_rfl
    z4 := fun _ => by kernel_rfl
    v4 := fun _ => by kernel_rfl
    t22 := by kernel_rfl
    a22 := fun _ => by kernel_rfl
    z22 := fun _ => by kernel_rfl
    v22 := fun _ => by kernel_rfl
    a24 := fun _ => by kernel_rfl
    z24 := fun _ => by kernel_rfl
    t25 := by kernel_rfl
    a25 := fun _ => by kernel_rfl
    z25 := fun _ => by kernel_rfl
    v25 := fun _ => by kernel_rfl }
/-- A number of a strip. -/
abbrev Ix (n : Nat) := { x : Int // 0 ≤ x ∧ x < (n : Int) }
def encX {n : Nat} (x : Ix n) : Value := .int .i64 x.1
/-- How the literal compares two numbers of strips. -/
def cmpS (l : List Int) (x y : Ix l.length) : Int := wrap64 (rd l y.1 - rd l x.1)
set_option maxHeartbeats 4000000 in
theorem literalS (A : Option Addr) (c : Nat) (l : List Int) (W : World) (B3 : Nat) (h3 : W.cell? ⟨B3, 0, none⟩ = some (.slice A l.length c)) (hr : Kd.C (Kd.int .i64) W A l.length l) (x y : Ix l.length) :
    Calls Try.prog 60 (#[encX x, encX y] ++ #[.pointer (some ⟨B3, 0, none⟩)]) W fun e w' => e = .returned (.int .i64 (cmpS l x y)) ∧ ∃ q, w' = W.drewN q := by
  obtain ⟨x, px, qx⟩ := x
  obtain ⟨y, py, qy⟩ := y
  obtain ⟨ad, e, hx⟩ := Kd.at_int hr x px qx
  cases e
  obtain ⟨ad2, e2, hy⟩ := Kd.at_int hr y py qy
  cases e2
  have p1 : decide (0 ≤ x) = true := decide_eq_true px
  have q1 : decide (x < (l.length : Int)) = true := decide_eq_true qx
  have p2 : decide (0 ≤ y) = true := decide_eq_true py
  have q2 : decide (y < (l.length : Int)) = true := decide_eq_true qy
  have HR := Aside0.mk hr
  clear hr
  simp only [cmpS, encX]
  replace px := eq_true px
  replace qx := eq_true qx
  replace py := eq_true py
  replace qy := eq_true qy
  show Calls Try.prog 60 #[.int .i64 x, .int .i64 y, .pointer (some ⟨B3, 0, none⟩)] W _
  go_enter Try.func60, Try.ntmps60
  go_wp2
  go_quiet (fail)
  go_wp2
  go_ret
  exact ⟨rfl, _, rfl⟩
/-- x into what stands ahead of it, told from its end. -/
def insRev {α : Type} (lt : α → α → Bool) (x : α) : List α → List α
  | [] => [x]
  | h :: t => if lt x h = true then h :: insRev lt x t else x :: h :: t
def sortRev {α : Type} (lt : α → α → Bool) : List α → List α → List α
  | [], acc => acc
  | x :: xs, acc => sortRev lt xs (insRev lt x acc)
theorem insRev_len {α : Type} (lt : α → α → Bool) (x : α) : ∀ R : List α, (insRev lt x R).length = R.length + 1
  | [] => rfl
  | h :: t => by
    rw [insRev]
    split
    · simp [insRev_len lt x t]
    · rfl
theorem sortRev_len {α : Type} (lt : α → α → Bool) : ∀ xs acc : List α, (sortRev lt xs acc).length = xs.length + acc.length
  | [], acc => by simp [sortRev]
  | x :: xs, acc => by rw [sortRev, sortRev_len lt xs, insRev_len]; simp; omega
theorem insRev_mem {α : Type} (lt : α → α → Bool) (x : α) : ∀ (R : List α) (y : α), y ∈ insRev lt x R → y = x ∨ y ∈ R
  | [], y, h => by simpa [insRev] using h
  | h :: t, y, hy => by
    rw [insRev] at hy
    split at hy
    · rcases List.mem_cons.1 hy with e | e
      · exact .inr (by simp [e])
      · rcases insRev_mem lt x t y e with e | e
        · exact .inl e
        · exact .inr (by simp [e])
    · rcases List.mem_cons.1 hy with e | e
      · exact .inl e
      · exact .inr e
theorem sortRev_mem {α : Type} (lt : α → α → Bool) : ∀ (xs acc : List α) (y : α), y ∈ sortRev lt xs acc → y ∈ xs ∨ y ∈ acc
  | [], acc, y, h => .inr h
  | x :: xs, acc, y, h => by
    rw [sortRev] at h
    rcases sortRev_mem lt xs _ y h with e | e
    · exact .inl (by simp [e])
    · rcases insRev_mem lt x acc y e with e | e
      · exact .inl (by simp [e])
      · exact .inr e
theorem insRev_map {α β : Type} (f : α → β) (lt : α → α → Bool) (lt' : β → β → Bool) (h : ∀ x y, lt x y = lt' (f x) (f y)) (x : α) : ∀ R : List α, (insRev lt x R).map f = insRev lt' (f x) (R.map f)
  | [] => rfl
  | y :: t => by
    rw [insRev, List.map_cons, insRev, h]
    split
    · rw [List.map_cons, insRev_map f lt lt' h x t]
    · rfl
theorem sortRev_map {α β : Type} (f : α → β) (lt : α → α → Bool) (lt' : β → β → Bool) (h : ∀ x y, lt x y = lt' (f x) (f y)) : ∀ xs acc : List α, (sortRev lt xs acc).map f = sortRev lt' (xs.map f) (acc.map f)
  | [], acc => rfl
  | x :: xs, acc => by rw [sortRev, sortRev_map f lt lt' h xs, insRev_map f lt lt' h, List.map_cons, sortRev]
theorem at_ {α : Type} [Inhabited α] (d : Array α) (a b : List α) (x : α) (h : d.toList = a ++ x :: b) : d[a.length]! = x := by
  have hs : a.length < d.size := by rw [← Array.length_toList, h]; simp
  rw [getElem!_pos d _ hs, ← Array.getElem_toList]
  simp [h]
theorem swp_list {α : Type} [Inhabited α] (d : Array α) (a b : List α) (x y : α) (h : d.toList = a ++ x :: y :: b) : (swp d (a.length + 1) a.length).toList = a ++ y :: x :: b := by
  have h1 : d[a.length]! = x := at_ d a (y :: b) x h
  have h2 : d[a.length + 1]! = y := by
    have := at_ d (a ++ [x]) b y (by rw [h]; simp)
    simpa using this
  unfold swp
  rw [h1, h2, Array.toList_setIfInBounds, Array.toList_setIfInBounds, h]
  apply List.ext_getElem?
  intro i
  simp only [List.getElem?_set, List.length_set, List.length_append, List.length_cons]
  by_cases e1 : a.length = i
  · subst e1
    rw [if_pos rfl, if_pos (by omega)]
    simp
  · rw [if_neg e1]
    by_cases e2 : a.length + 1 = i
    · subst e2
      rw [if_pos rfl, if_pos (by omega)]
      rw [List.getElem?_append_right (by omega)]
      simp
    · rw [if_neg e2]
      by_cases e3 : i < a.length
      · rw [List.getElem?_append_left e3, List.getElem?_append_left e3]
      · rw [List.getElem?_append_right (by omega), List.getElem?_append_right (by omega)]
        obtain ⟨m, hm⟩ : ∃ m, i - a.length = m + 2 := ⟨i - a.length - 2, by omega⟩
        rw [hm]
        rfl
theorem insInner_list {α : Type} [Inhabited α] (lt : α → α → Bool) (x : α) : ∀ (R S : List α) (d : Array α), d.toList = R.reverse ++ x :: S → (insInner lt 0 R.length d).toList = (insRev lt x R).reverse ++ S
  | [], S, d, h => by
    rw [List.length_nil, insInner, h]
    simp [insRev]
  | y :: R, S, d, h => by
    have h1 : d.toList = R.reverse ++ y :: x :: S := by rw [h]; simp
    have e1 : d[R.length]! = y := by
      have := at_ d R.reverse (x :: S) y h1
      simpa using this
    have e2 : d[R.length + 1]! = x := by
      have := at_ d (R.reverse ++ [y]) S x (by rw [h1]; simp)
      simpa using this
    rw [List.length_cons, insInner, e1, e2, insRev]
    by_cases c : lt x y = true
    · rw [if_pos (by simp [c]), if_pos c, insInner_list lt x R (y :: S) _ (by
        have := swp_list d R.reverse S y x h1
        simpa using this)]
      simp
    · rw [if_neg (by simp [c]), if_neg c, h]
      simp
theorem insOuter_list {α : Type} [Inhabited α] (lt : α → α → Bool) : ∀ (xs R : List α) (d : Array α), d.toList = R.reverse ++ xs → (insOuter lt 0 d.size R.length d).toList = (sortRev lt xs R).reverse
  | [], R, d, h => by
    have hs : d.size = R.length := by rw [← Array.length_toList, h]; simp
    rw [insOuter, if_neg (by omega), sortRev, h]
    simp
  | x :: xs, R, d, h => by
    have hs : d.size = R.length + xs.length + 1 := by rw [← Array.length_toList, h]; simp; omega
    have hi := insInner_list lt x R xs d h
    have hs2 : (insInner lt 0 R.length d).size = d.size := by rw [← Array.length_toList, hi, hs]; simp [insRev_len]; omega
    have := insOuter_list lt xs (insRev lt x R) (insInner lt 0 R.length d) hi
    rw [hs2, insRev_len] at this
    rw [insOuter, if_pos (by omega), sortRev]
    exact this
theorem insertionSort_list {α : Type} [Inhabited α] (lt : α → α → Bool) (d : Array α) (h : 0 < d.size) : (Sort.insertionSort lt d 0 d.size).toList = (sortRev lt d.toList []).reverse := by
  cases hd : d.toList with
  | nil => rw [← Array.length_toList, hd] at h; simp at h
  | cons x xs =>
    have := insOuter_list lt xs [x] d (by rw [hd]; rfl)
    rw [sortRev]
    exact this
/-- The row of numbers, sorted as the program's literal tells it. -/
def ltS (l : List Int) (x y : Int) : Bool := decide (wrap64 (rd l y - rd l x) < 0)
def sortM (l xs : List Int) : List Int := (sortRev (ltS l) xs []).reverse
theorem sortM_len (l xs : List Int) : (sortM l xs).length = xs.length := by simp [sortM, sortRev_len]
theorem sortM_mem (l xs : List Int) : ∀ y ∈ sortM l xs, y ∈ xs := fun y h => by
  rcases sortRev_mem _ xs [] y (by simpa [sortM] using h) with e | e
  · exact e
  · simp at e
theorem putRow_block {α : Type} [Inhabited α] (enc : α → Value) (w : World) (g off m : Nat) (d : Array α) (k : Nat) (h : k ≠ g) : ((putRow enc w g off d).drewN m).heap[k]? = w.heap[k]? := by
  show (w.heap.modify g _)[k]? = _
  rw [Array.getElem?_modify, if_neg (fun e => h e.symm)]
theorem below_putRow {α : Type} [Inhabited α] (enc : α → Value) {w0 w : World} (g off m : Nat) (d : Array α) (h : Below w0.heap.size w0 w) (hg : w0.heap.size ≤ g) : Below w0.heap.size w0 ((putRow enc w g off d).drewN m) :=
  ⟨h.os, h.tape, h.output, by show _ ≤ (w.heap.modify g _).size; rw [Array.size_modify]; exact h.size, fun k hk => (putRow_block enc w g off m d k (by omega)).trans (h.block k hk)⟩
theorem below_sortWorld {α : Type} [Inhabited α] (enc : α → Value) {w0 w : World} (g off m : Nat) (d : Array α) (os : Array Obj) (h : Below w0.heap.size w0 w) (hg : w0.heap.size ≤ g) : Below w0.heap.size w0 (sortWorld enc w g off m d os) := by
  have h1 := below_putRow enc g off m d h hg
  have h2 := h1.size
  have e : (sortWorld enc w g off m d os).heap = ((putRow enc w g off d).drewN m).heap ++ os := rfl
  refine ⟨h.os, h.tape, h.output, by rw [e, Array.size_append]; omega, fun k hk => ?_⟩
  rw [e, Array.getElem?_append_left (by omega)]
  exact h1.block k hk
theorem grown_putRow {α : Type} [Inhabited α] (enc : α → Value) (w : World) (g off m : Nat) (d : Array α) : w.grownBy ((putRow enc w g off d).drewN m) (some g) :=
  ⟨rfl, rfl, rfl, by show _ ≤ (w.heap.modify g _).size; rw [Array.size_modify]; exact Nat.le_refl _, fun k _ hk => putRow_block enc w g off m d k (fun e => hk (by rw [e]))⟩
theorem R_putRow {N base g cap m : Nat} [Inhabited (Ix N)] {ok : Nat → Prop} {w : World} {xs : List Int} (d : Array (Ix N)) (h : Kd.R (Kd.int .i64) 3 w base ok (.slice (some ⟨g, 0, none⟩) xs.length cap) xs) (hd : d.size = xs.length) :
    Kd.R (Kd.int .i64) 3 ((putRow encX w g 0 d).drewN m) base ok (.slice (some ⟨g, 0, none⟩) xs.length cap) (d.toList.map (·.1)) := by
  have ho := Kd.own_of_R h
  refine Kd.R_of_own ?_ h.1
  have hl : (d.toList.map (·.1)).length = xs.length := by simp [hd]
  rw [hl]
  obtain ⟨h0, ⟨e, _⟩ | ⟨g', cap', cur, e, hb, hc, h1, h2, h3, h4⟩⟩ := ho
  · cases e
  · cases e
    refine ⟨by simp [encs, hd], .inr ⟨g, cap, putCells encX 0 d cur, rfl, hb, ?_, h1, h2, by simp [putCells, h3], ?_⟩⟩
    · show (w.heap.modify g _)[g]? = _
      rw [Array.getElem?_modify, if_pos rfl, hc]
      rfl
    · apply List.ext_getElem?
      intro j
      by_cases hj : j < xs.length
      · have hj2 : j < cur.size := by omega
        have hj3 : j < d.size := by omega
        rw [List.getElem?_take_of_lt (by omega), Array.getElem?_toList]
        simp only [putCells, encs, Array.getElem?_mapIdx, Array.getElem?_eq_getElem hj2, Option.map_some, Nat.zero_le, true_and, Nat.zero_add, Nat.sub_zero, hj3, if_true, List.getElem?_map, Array.getElem?_toList, Array.getElem?_eq_getElem hj3]
        rw [getElem!_pos d j hj3]
        rfl
      · rw [List.getElem?_eq_none (by rw [List.length_take]; omega), List.getElem?_eq_none (by simp [encs, hd]; omega)]
set_option maxHeartbeats 4000000 in
set_option maxRecDepth 100000 in
theorem insertionS (A : Option Addr) (c : Nat) (l : List Int) (B3 : Nat) (w0 w : World) (HR : Kd.C (Kd.int .i64) w0 A l.length l) (HL : w0.cell? ⟨B3, 0, none⟩ = some (.slice A l.length c)) (HB : Below w0.heap.size w0 w) (xs : List Int) (Ao : Option Addr) (co : Nat) (ok : Nat → Prop)
    (HO : Kd.R (Kd.int .i64) 3 w w0.heap.size ok (.slice Ao xs.length co) xs) (hx : ∀ x ∈ xs, 0 ≤ x ∧ x < (l.length : Int)) (h20 : xs.length < 20) :
    Calls Try.prog 111 #[.slice Ao xs.length co, .int .i64 0, .int .i64 xs.length, .func (.func 60) #[] #[.pointer (some ⟨B3, 0, none⟩)]] w fun e w' =>
      e = .returned (.tuple #[]) ∧ Kd.R (Kd.int .i64) 3 w' w0.heap.size ok (.slice Ao xs.length co) (sortM l xs) ∧ Below w0.heap.size w0 w' ∧ w.grownBy w' (Value.slice Ao xs.length co).ownBlock := by
  by_cases hne : 0 < xs.length
  · obtain ⟨g, cap, e, hb, hlt, _⟩ := Kd.R_form HO hne
    cases e
    obtain ⟨x0, hx0⟩ : ∃ x0, x0 ∈ xs := ⟨xs[0], List.getElem_mem hne⟩
    letI : Inhabited (Ix l.length) := ⟨⟨x0, hx x0 hx0⟩⟩
    obtain ⟨d, hd⟩ : ∃ d : Array (Ix l.length), d = (xs.pmap (fun x h => (⟨x, h⟩ : Ix l.length)) hx).toArray := ⟨_, rfl⟩
    have hds : d.size = xs.length := by rw [hd]; simp
    have hdm : d.toList.map (·.1) = xs := by rw [hd]; simp [List.map_pmap]
    have hH : Holds encX w g 0 d := fun j hj => by
      have hj2 : j < xs.length := by omega
      obtain ⟨c1, c2⟩ := Kd.R_celln 0 HO (j : Int) (by omega) (by omega)
      rw [Int.toNat_natCast] at c1 c2
      refine ⟨?_, by rw [Nat.zero_add]; exact c2⟩
      rw [Nat.zero_add, c1, getElem!_pos d j hj]
      have : d[j].1 = xs[j] := by simp [hd]
      simp only [encX, this]
      simp [rdOf, List.getD_eq_getElem?_getD, List.getElem?_eq_getElem hj2]
    have hcon := Any.insertionSortCmpFunc_one laysS encX (fun _ => rfl) (cmpS l) 60 #[.pointer (some ⟨B3, 0, none⟩)] g 0 co 0 d.size d w (enters_of Try.func60 (by kernel_rfl) rfl)
      (fun m os dk _ x y => literalS A c l _ B3 (pw_cell_below (below_sortWorld encX g 0 m dk os HB hb) HL) (Kd.C_below HR (below_sortWorld encX g 0 m dk os HB hb)) x y) hH (Nat.zero_le _) (Nat.le_refl _) (by omega)
    change Calls Try.prog 111 _ _ _ at hcon
    rw [hds] at hcon
    refine hcon.mono ?_
    rintro e w' ⟨rfl, m, rfl⟩
    have hs : (Sort.insertionSort (ltOf (cmpS l)) d 0 xs.length).toList = (sortRev (ltOf (cmpS l)) d.toList []).reverse := by rw [← hds]; exact insertionSort_list _ d (by omega)
    have hsz : (Sort.insertionSort (ltOf (cmpS l)) d 0 xs.length).size = xs.length := by rw [← Array.length_toList, hs]; simp [sortRev_len, hds]
    have hm : (Sort.insertionSort (ltOf (cmpS l)) d 0 xs.length).toList.map (·.1) = sortM l xs := by
      rw [hs, List.map_reverse, sortRev_map (·.1) (ltOf (cmpS l)) (ltS l) (fun x y => rfl), hdm]
      rfl
    have hR := R_putRow (m := m) (Sort.insertionSort (ltOf (cmpS l)) d 0 xs.length) HO hsz
    rw [hm] at hR
    exact ⟨rfl, hR, below_putRow encX g 0 m _ HB hb, grown_putRow encX w g 0 m _⟩
  · have e : xs = [] := List.length_eq_zero_iff.1 (by omega)
    subst e
    have HO' := Aside0.mk HO
    have HB' := Aside0.mk HB
    clear HO HB HR HL hx hne
    simp only [List.length_nil] at HO' ⊢
    go_enter Try.func111, Try.ntmps111
    go_wp2
    go_loopg [8] 0 (fun _ v8 wr => v8 = .int .i64 1 ∧ wr = w)
    case atStart => exact ⟨by go_num, rfl⟩
    case round =>
      obtain ⟨rfl, rfl⟩ := hrel
      go_wp2
      go_end0
      exact ⟨rfl, HO'.out, HB'.out, ⟨rfl, rfl, rfl, Nat.le_refl _, fun _ _ _ => rfl⟩⟩
set_option maxHeartbeats 4000000 in
set_option maxRecDepth 100000 in
/-- slices.SortStableFunc below twenty elements. -/
theorem sortStableS (A : Option Addr) (c : Nat) (l : List Int) (B3 : Nat) (w0 w : World) (HR : Kd.C (Kd.int .i64) w0 A l.length l) (HL : w0.cell? ⟨B3, 0, none⟩ = some (.slice A l.length c)) (HB : Below w0.heap.size w0 w) (xs : List Int) (Ao : Option Addr) (co : Nat) (ok : Nat → Prop)
    (HO : Kd.R (Kd.int .i64) 3 w w0.heap.size ok (.slice Ao xs.length co) xs) (hx : ∀ x ∈ xs, 0 ≤ x ∧ x < (l.length : Int)) (h20 : xs.length < 20) :
    Calls Try.prog 59 #[.slice Ao xs.length co, .func (.func 60) #[] #[.pointer (some ⟨B3, 0, none⟩)]] w fun e w' =>
      e = .returned (.tuple #[]) ∧ Kd.R (Kd.int .i64) 3 w' w0.heap.size ok (.slice Ao xs.length co) (sortM l xs) ∧ Below w0.heap.size w0 w' ∧ w.grownBy w' (Value.slice Ao xs.length co).ownBlock := by
  have hins := insertionS A c l B3 w0 w HR HL HB xs Ao co ok HO hx h20
  have hst : Calls Try.prog 99 #[.slice Ao xs.length co, .int .i64 xs.length, .func (.func 60) #[] #[.pointer (some ⟨B3, 0, none⟩)]] w fun e w' =>
      e = .returned (.tuple #[]) ∧ Kd.R (Kd.int .i64) 3 w' w0.heap.size ok (.slice Ao xs.length co) (sortM l xs) ∧ Below w0.heap.size w0 w' ∧ w.grownBy w' (Value.slice Ao xs.length co).ownBlock := by
    clear HR HL HB HO hx
    have n1 : ¬ (20 : Int) ≤ (xs.length : Int) := by omega
    have n2 : ¬ (20 : Int) < (xs.length : Int) := by omega
    generalize hR : (fun w' => Kd.R (Kd.int .i64) 3 w' w0.heap.size ok (.slice Ao xs.length co) (sortM l xs) ∧ Below w0.heap.size w0 w' ∧ w.grownBy w' (Value.slice Ao xs.length co).ownBlock) = Rw
    have hins2 : Calls Try.prog 111 #[.slice Ao xs.length co, .int .i64 0, .int .i64 xs.length, .func (.func 60) #[] #[.pointer (some ⟨B3, 0, none⟩)]] w fun e w' => e = .returned (.tuple #[]) ∧ Rw w' := by rw [← hR]; exact hins
    have goal2 : Calls Try.prog 99 #[.slice Ao xs.length co, .int .i64 xs.length, .func (.func 60) #[] #[.pointer (some ⟨B3, 0, none⟩)]] w fun e w' => e = .returned (.tuple #[]) ∧ Rw w' := by
      clear hins hR
      have H2 := Aside0.mk hins2
      clear hins2
      go_enter Try.func99, Try.ntmps99
      go_wp2
      go_loopg [7, 8] 0 (fun _ v7 v8 wr => v7 = .int .i64 0 ∧ v8 = .int .i64 20 ∧ wr = w)
      case atStart => exact ⟨rfl, rfl, rfl⟩
      case round =>
        obtain ⟨rfl, rfl, rfl⟩ := hrel
        go_wp2_with (go_at_call 111; refine H2.out.mono ?_; rintro e w1 ⟨rfl, hw1⟩)
        go_loopg [6, 7, 8] 0 (fun _ v6 v7 v8 wr => v6 = .int .i64 20 ∧ v7 = .int .i64 0 ∧ v8 = .int .i64 20 ∧ Rw wr)
        case atStart => exact ⟨rfl, rfl, rfl, hw1⟩
        case round =>
          obtain ⟨rfl, rfl, rfl, hw2⟩ := hrel
          go_wp2
          go_end0
          exact ⟨rfl, hw2⟩
    refine goal2.mono ?_
    intro e w' h
    rw [← hR] at h
    exact h
  clear hins HR HL HB HO hx
  have H2 := Aside0.mk hst
  clear hst
  go_enter Try.func59, Try.ntmps59
  go_wp2_with (go_at_call 99; refine H2.out.mono ?_; rintro e w1 ⟨rfl, hw1⟩)
  go_end0
  exact ⟨rfl, hw1⟩
end Go.Proofs.Ytaapnjhgkbjdkaa.Hand
