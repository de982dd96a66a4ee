-- Written by wip/inject.py: a contract of each function that the law reaches; those of the stand-ins are proved in this seat's Hand texts
import Derived.Test.YtaapnjhgkbjdkaaPFnExactMakeCutx0
namespace Go.Proofs.Ytaapnjhgkbjdkaa.PFnExactMakeCut
open Go.RowKit Go.Proofs.YtaapnjhgkbjdkaaW.PrintWords Go.Proofs.YtaapnjhgkbjdkaaW.PrintLast Go.Proofs.YtaapnjhgkbjdkaaW.PrintMore
attribute [local go_sem] max2_int min2_int max_two min_two max_three min_three max_four min_four   -- for this text's walks alone
set_option linter.unusedVariables false
set_option linter.unusedSimpArgs false

/-! ### spec_l09Cut: function 86 -/
def spec_l09Cut.f (l0 : List (S58)) (a1_0 : Int) (a1_1 : Bool) (a1_2 : Int) : Option ((List (S58))) := if 0 ≤ a1_0 then (if a1_0 < (l0.length : Int) then (if a1_1 = true then ((some (([] : List (S58)) : List (S58))).bind fun y118 => (if a1_0 ≤ (l0.length : Int) then ((some (l0.take (a1_0 : Int).toNat : List (S58))).bind fun y121 => (if y118.length + y121.length < 8796093022208 then ((some (y118 ++ y121 : List (S58))).bind fun y125 => ((some (([(⟨(rd_T58 l0 a1_0).f0, a1_2⟩ : S58), (⟨(rd_T58 l0 a1_0).f0, wrap64 (((rd_T58 l0 a1_0).f1) - a1_2)⟩ : S58)] : List (S58)) : List (S58))).bind fun y128 => (if y125.length + y128.length < 8796093022208 then ((some (y125 ++ y128 : List (S58))).bind fun y131 => (if 0 ≤ (wrap64 (a1_0 + 1)) then (if (wrap64 (a1_0 + 1)) ≤ (l0.length : Int) then ((some (l0.drop ((wrap64 (a1_0 + 1)) : Int).toNat : List (S58))).bind fun y134 => (if y131.length + y134.length < 8796093022208 then (some (y131 ++ y134)) else (none))) else (none)) else (none))) else (none)))) else (none))) else (none))) else ((some (([] : List (S58)) : List (S58))).bind fun y141 => (if a1_0 ≤ (l0.length : Int) then ((some (l0.take (a1_0 : Int).toNat : List (S58))).bind fun y144 => (if y141.length + y144.length < 8796093022208 then ((some (y141 ++ y144 : List (S58))).bind fun y148 => ((some (([(⟨a1_2, (rd_T58 l0 a1_0).f1⟩ : S58), (⟨wrap64 (((rd_T58 l0 a1_0).f0) - a1_2), (rd_T58 l0 a1_0).f1⟩ : S58)] : List (S58)) : List (S58))).bind fun y151 => (if y148.length + y151.length < 8796093022208 then ((some (y148 ++ y151 : List (S58))).bind fun y154 => (if 0 ≤ (wrap64 (a1_0 + 1)) then (if (wrap64 (a1_0 + 1)) ≤ (l0.length : Int) then ((some (l0.drop ((wrap64 (a1_0 + 1)) : Int).toNat : List (S58))).bind fun y157 => (if y154.length + y157.length < 8796093022208 then (some (y154 ++ y157)) else (none))) else (none)) else (none))) else (none)))) else (none))) else (none)))) else (none)) else (none)
def spec_l09Cut.T2 : Bool × List (List Nat × List Nat) := (true, [([], []), ([0], [0]), ([], []), ([2], [2]), ([1, 3], [1, 3]), ([], []), ([5], [5]), ([], []), ([7], [7]), ([6, 8], [6, 8]), ([], []), ([10], [10]), ([9, 11], [9, 11]), ([], []), ([], []), ([13, 4, 0, 1, 2, 3, 4, 13, 14], [4, 13]), ([14, 12, 15, 0, 1, 2, 3, 4, 5, 6, 7, 8, 9, 10, 11, 12, 13, 14, 15], [12, 14])])
def spec_l09Cut.B2 : List Nat := [0, 1, 0, 4, 15, 0, 32, 0, 128, 480, 0, 1024, 4064, 0, 0, 24607, 65535]
theorem spec_l09Cut.tab2 : rtab .any (opsOf Try.f86 2) = spec_l09Cut.T2 := by kernel_rfl
theorem spec_l09Cut.bits2 : waitsOk spec_l09Cut.T2.2 spec_l09Cut.B2 = true := by kernel_rfl
def spec_l09Cut.T4 : Bool × List (List Nat × List Nat) := (true, [([], []), ([0], [0]), ([], []), ([2], [2]), ([1, 3], [1, 3]), ([], []), ([5], [5]), ([], []), ([7], [7]), ([], []), ([9], [9]), ([8, 10], [8, 10]), ([6, 11], [6, 11]), ([4, 0, 1, 2, 3, 4], [4]), ([12, 13, 0, 1, 2, 3, 4, 5, 6, 7, 8, 9, 10, 11, 12, 13], [12])])
def spec_l09Cut.B4 : List Nat := [0, 1, 0, 4, 15, 0, 32, 0, 128, 0, 512, 1920, 4064, 31, 16383]
theorem spec_l09Cut.tab4 : rtab .any (opsOf Try.f86 4) = spec_l09Cut.T4 := by kernel_rfl
theorem spec_l09Cut.bits4 : waitsOk spec_l09Cut.T4.2 spec_l09Cut.B4 = true := by kernel_rfl
def spec_l09Cut.T5 : Bool × List (List Nat × List Nat) := (true, [([], []), ([], []), ([], []), ([2], [2]), ([1, 3], [1, 3]), ([0, 4], [0, 4]), ([], []), ([], []), ([6, 7], [6, 7]), ([5, 8, 5], [5, 8]), ([], []), ([], []), ([11], [11]), ([12], [12]), ([10, 13], [10, 13]), ([9, 14, 9], [9, 14]), ([15, 15, 0, 1, 2, 3, 4, 5, 6, 7, 8, 9, 10, 11, 12, 13, 14, 15], [15])])
def spec_l09Cut.B5 : List Nat := [0, 0, 0, 4, 14, 31, 0, 0, 192, 511, 0, 0, 2048, 6144, 15360, 32767, 65535]
theorem spec_l09Cut.tab5 : rtab .any (opsOf Try.f86 5) = spec_l09Cut.T5 := by kernel_rfl
theorem spec_l09Cut.bits5 : waitsOk spec_l09Cut.T5.2 spec_l09Cut.B5 = true := by kernel_rfl
set_option maxHeartbeats 8000000 in
set_option maxRecDepth 100000 in
theorem spec_l09Cut.calls (A0 : Option Addr) (c0 : Nat) (l0 : List (S58)) (a1_0 : Int) (a1_1 : Bool) (a1_2 : Int) (r : List (S58)) (w : World) (hr0 : Kd.C k58 w A0 l0.length l0) (hc0 : l0.length ≤ c0) (h : spec_l09Cut.f l0 a1_0 a1_1 a1_2 = some r) :
    Calls Try.prog 86 #[.slice A0 l0.length c0, .agg #[.int .i64 a1_0, .bool a1_1, .int .i64 a1_2]] w fun e w' => ∃ v0_ : Value, e = .returned (v0_) ∧ Kd.R k58 58 w' w.heap.size (fun _ => True) v0_ r ∧ Below w.heap.size w w' := by
  have hu48 := Try.underlying48
  have hu58 := Try.underlying58
  have HR0 := Aside0.mk hr0
  have HC0 := Aside0.mk hc0
  clear hr0 hc0
  have HB := Aside0.mk (Below.refl w.heap.size w)
  have H : (if 0 ≤ a1_0 then (if a1_0 < (l0.length : Int) then (if a1_1 = true then ((some (([] : List (S58)) : List (S58))).bind fun y118 => (if a1_0 ≤ (l0.length : Int) then ((some (l0.take (a1_0 : Int).toNat : List (S58))).bind fun y121 => (if y118.length + y121.length < 8796093022208 then ((some (y118 ++ y121 : List (S58))).bind fun y125 => ((some (([(⟨(rd_T58 l0 a1_0).f0, a1_2⟩ : S58), (⟨(rd_T58 l0 a1_0).f0, wrap64 (((rd_T58 l0 a1_0).f1) - a1_2)⟩ : S58)] : List (S58)) : List (S58))).bind fun y128 => (if y125.length + y128.length < 8796093022208 then ((some (y125 ++ y128 : List (S58))).bind fun y131 => (if 0 ≤ (wrap64 (a1_0 + 1)) then (if (wrap64 (a1_0 + 1)) ≤ (l0.length : Int) then ((some (l0.drop ((wrap64 (a1_0 + 1)) : Int).toNat : List (S58))).bind fun y134 => (if y131.length + y134.length < 8796093022208 then (some (y131 ++ y134)) else (none))) else (none)) else (none))) else (none)))) else (none))) else (none))) else ((some (([] : List (S58)) : List (S58))).bind fun y141 => (if a1_0 ≤ (l0.length : Int) then ((some (l0.take (a1_0 : Int).toNat : List (S58))).bind fun y144 => (if y141.length + y144.length < 8796093022208 then ((some (y141 ++ y144 : List (S58))).bind fun y148 => ((some (([(⟨a1_2, (rd_T58 l0 a1_0).f1⟩ : S58), (⟨wrap64 (((rd_T58 l0 a1_0).f0) - a1_2), (rd_T58 l0 a1_0).f1⟩ : S58)] : List (S58)) : List (S58))).bind fun y151 => (if y148.length + y151.length < 8796093022208 then ((some (y148 ++ y151 : List (S58))).bind fun y154 => (if 0 ≤ (wrap64 (a1_0 + 1)) then (if (wrap64 (a1_0 + 1)) ≤ (l0.length : Int) then ((some (l0.drop ((wrap64 (a1_0 + 1)) : Int).toNat : List (S58))).bind fun y157 => (if y154.length + y157.length < 8796093022208 then (some (y154 ++ y157)) else (none))) else (none)) else (none))) else (none)))) else (none))) else (none)))) else (none)) else (none)) = some r := h
  clear h
  by_cases c3 : 0 ≤ a1_0
  · rw [if_pos c3] at H
    have c3b0 : decide (0 ≤ a1_0) = true := decide_eq_true c3
    clear c3
    by_cases c4 : a1_0 < (l0.length : Int)
    · rw [if_pos c4] at H
      have c4b0 : decide (a1_0 < (l0.length : Int)) = true := decide_eq_true c4
      clear c4
      by_cases c5 : a1_1 = true
      · subst c5
        have H1 : ((some (([] : List (S58)) : List (S58))).bind fun y118 => (if a1_0 ≤ (l0.length : Int) then ((some (l0.take (a1_0 : Int).toNat : List (S58))).bind fun y121 => (if y118.length + y121.length < 8796093022208 then ((some (y118 ++ y121 : List (S58))).bind fun y125 => ((some (([(⟨(rd_T58 l0 a1_0).f0, a1_2⟩ : S58), (⟨(rd_T58 l0 a1_0).f0, wrap64 (((rd_T58 l0 a1_0).f1) - a1_2)⟩ : S58)] : List (S58)) : List (S58))).bind fun y128 => (if y125.length + y128.length < 8796093022208 then ((some (y125 ++ y128 : List (S58))).bind fun y131 => (if 0 ≤ (wrap64 (a1_0 + 1)) then (if (wrap64 (a1_0 + 1)) ≤ (l0.length : Int) then ((some (l0.drop ((wrap64 (a1_0 + 1)) : Int).toNat : List (S58))).bind fun y134 => (if y131.length + y134.length < 8796093022208 then (some (y131 ++ y134)) else (none))) else (none)) else (none))) else (none)))) else (none))) else (none))) = some r := by rw [if_pos rfl] at H; exact H
        clear H
        have H := H1
        clear H1
        obtain ⟨y118, hy118⟩ : ∃ y_ : List (S58), y_ = (([] : List (S58))) := ⟨_, rfl⟩
        replace H : (if a1_0 ≤ (l0.length : Int) then ((some (l0.take (a1_0 : Int).toNat : List (S58))).bind fun y121 => (if y118.length + y121.length < 8796093022208 then ((some (y118 ++ y121 : List (S58))).bind fun y125 => ((some (([(⟨(rd_T58 l0 a1_0).f0, a1_2⟩ : S58), (⟨(rd_T58 l0 a1_0).f0, wrap64 (((rd_T58 l0 a1_0).f1) - a1_2)⟩ : S58)] : List (S58)) : List (S58))).bind fun y128 => (if y125.length + y128.length < 8796093022208 then ((some (y125 ++ y128 : List (S58))).bind fun y131 => (if 0 ≤ (wrap64 (a1_0 + 1)) then (if (wrap64 (a1_0 + 1)) ≤ (l0.length : Int) then ((some (l0.drop ((wrap64 (a1_0 + 1)) : Int).toNat : List (S58))).bind fun y134 => (if y131.length + y134.length < 8796093022208 then (some (y131 ++ y134)) else (none))) else (none)) else (none))) else (none)))) else (none))) else (none)) = some r := by first | (rw [hy118]; with_reducible exact H) | (have H2_ := (Option.bind_some _ _).symm.trans H; rw [hy118]; with_reducible exact H2_) | (have H2_ := (Option.bind_some _ _).symm.trans H; with_reducible exact H2_) | with_reducible exact H | (rw [hy118]; exact H) | exact H
        have Ny118 := Aside0.mk hy118
        clear hy118
        have c6b0 := eq_true (of_decide_eq_true (by first | (with_reducible assumption) | assumption) : 0 ≤ a1_0)
        by_cases c7 : a1_0 ≤ (l0.length : Int)
        · rw [if_pos c7] at H
          have c7b0 := eq_true c7
          have c7b1 : decide (a1_0 ≤ (l0.length : Int)) = true := decide_eq_true c7
          clear c7
          obtain ⟨y121, hy121⟩ : ∃ y_ : List (S58), y_ = (l0.take (a1_0 : Int).toNat) := ⟨_, rfl⟩
          replace H : (if y118.length + y121.length < 8796093022208 then ((some (y118 ++ y121 : List (S58))).bind fun y125 => ((some (([(⟨(rd_T58 l0 a1_0).f0, a1_2⟩ : S58), (⟨(rd_T58 l0 a1_0).f0, wrap64 (((rd_T58 l0 a1_0).f1) - a1_2)⟩ : S58)] : List (S58)) : List (S58))).bind fun y128 => (if y125.length + y128.length < 8796093022208 then ((some (y125 ++ y128 : List (S58))).bind fun y131 => (if 0 ≤ (wrap64 (a1_0 + 1)) then (if (wrap64 (a1_0 + 1)) ≤ (l0.length : Int) then ((some (l0.drop ((wrap64 (a1_0 + 1)) : Int).toNat : List (S58))).bind fun y134 => (if y131.length + y134.length < 8796093022208 then (some (y131 ++ y134)) else (none))) else (none)) else (none))) else (none)))) else (none)) = some r := by first | (rw [hy121]; with_reducible exact H) | (have H2_ := (Option.bind_some _ _).symm.trans H; rw [hy121]; with_reducible exact H2_) | (have H2_ := (Option.bind_some _ _).symm.trans H; with_reducible exact H2_) | with_reducible exact H | (rw [hy121]; exact H) | exact H
          have Ny121 := Aside0.mk hy121
          clear hy121
          by_cases c8 : y118.length + y121.length < 8796093022208
          · rw [if_pos c8] at H
            have LMc8 := Aside0.mk c8
            clear c8
            obtain ⟨y125, hy125⟩ : ∃ y_ : List (S58), y_ = (y118 ++ y121) := ⟨_, rfl⟩
            replace H : ((some (([(⟨(rd_T58 l0 a1_0).f0, a1_2⟩ : S58), (⟨(rd_T58 l0 a1_0).f0, wrap64 (((rd_T58 l0 a1_0).f1) - a1_2)⟩ : S58)] : List (S58)) : List (S58))).bind fun y128 => (if y125.length + y128.length < 8796093022208 then ((some (y125 ++ y128 : List (S58))).bind fun y131 => (if 0 ≤ (wrap64 (a1_0 + 1)) then (if (wrap64 (a1_0 + 1)) ≤ (l0.length : Int) then ((some (l0.drop ((wrap64 (a1_0 + 1)) : Int).toNat : List (S58))).bind fun y134 => (if y131.length + y134.length < 8796093022208 then (some (y131 ++ y134)) else (none))) else (none)) else (none))) else (none))) = some r := by first | (rw [hy125]; with_reducible exact H) | (have H2_ := (Option.bind_some _ _).symm.trans H; rw [hy125]; with_reducible exact H2_) | (have H2_ := (Option.bind_some _ _).symm.trans H; with_reducible exact H2_) | with_reducible exact H | (rw [hy125]; exact H) | exact H
            have Ny125 := Aside0.mk hy125
            clear hy125
            obtain ⟨y128, hy128⟩ : ∃ y_ : List (S58), y_ = (([(⟨(rd_T58 l0 a1_0).f0, a1_2⟩ : S58), (⟨(rd_T58 l0 a1_0).f0, wrap64 (((rd_T58 l0 a1_0).f1) - a1_2)⟩ : S58)] : List (S58))) := ⟨_, rfl⟩
            replace H : (if y125.length + y128.length < 8796093022208 then ((some (y125 ++ y128 : List (S58))).bind fun y131 => (if 0 ≤ (wrap64 (a1_0 + 1)) then (if (wrap64 (a1_0 + 1)) ≤ (l0.length : Int) then ((some (l0.drop ((wrap64 (a1_0 + 1)) : Int).toNat : List (S58))).bind fun y134 => (if y131.length + y134.length < 8796093022208 then (some (y131 ++ y134)) else (none))) else (none)) else (none))) else (none)) = some r := by first | (rw [hy128]; with_reducible exact H) | (have H2_ := (Option.bind_some _ _).symm.trans H; rw [hy128]; with_reducible exact H2_) | (have H2_ := (Option.bind_some _ _).symm.trans H; with_reducible exact H2_) | with_reducible exact H | (rw [hy128]; exact H) | exact H
            have Ny128 := Aside0.mk hy128
            clear hy128
            by_cases c9 : y125.length + y128.length < 8796093022208
            · rw [if_pos c9] at H
              have LMc9 := Aside0.mk c9
              clear c9
              obtain ⟨y131, hy131⟩ : ∃ y_ : List (S58), y_ = (y125 ++ y128) := ⟨_, rfl⟩
              replace H : (if 0 ≤ (wrap64 (a1_0 + 1)) then (if (wrap64 (a1_0 + 1)) ≤ (l0.length : Int) then ((some (l0.drop ((wrap64 (a1_0 + 1)) : Int).toNat : List (S58))).bind fun y134 => (if y131.length + y134.length < 8796093022208 then (some (y131 ++ y134)) else (none))) else (none)) else (none)) = some r := by first | (rw [hy131]; with_reducible exact H) | (have H2_ := (Option.bind_some _ _).symm.trans H; rw [hy131]; with_reducible exact H2_) | (have H2_ := (Option.bind_some _ _).symm.trans H; with_reducible exact H2_) | with_reducible exact H | (rw [hy131]; exact H) | exact H
              have Ny131 := Aside0.mk hy131
              clear hy131
              obtain ⟨ji10, hji10⟩ : ∃ j_ : Int, (wrap64 (a1_0 + 1)) = j_ := ⟨_, rfl⟩
              replace H : (if 0 ≤ (ji10) then (if (ji10) ≤ (l0.length : Int) then ((some (l0.drop ((ji10) : Int).toNat : List (S58))).bind fun y134 => (if y131.length + y134.length < 8796093022208 then (some (y131 ++ y134)) else (none))) else (none)) else (none)) = some r := by first | (rw [hji10] at H; exact H) | (simp only [hji10] at H ⊢; exact H)
              have hji10w : (IntKind.i64.wrap (a1_0 + 1)) = ji10 := (i64_w _).trans hji10
              by_cases c11 : 0 ≤ (ji10)
              · rw [if_pos c11] at H
                have c11b0 := eq_true c11
                have c11b1 : decide (0 ≤ (ji10)) = true := decide_eq_true c11
                clear c11
                by_cases c12 : (ji10) ≤ (l0.length : Int)
                · rw [if_pos c12] at H
                  have c12b0 := eq_true c12
                  have c12b1 : decide ((ji10) ≤ (l0.length : Int)) = true := decide_eq_true c12
                  clear c12
                  obtain ⟨y134, hy134⟩ : ∃ y_ : List (S58), y_ = (l0.drop ((ji10) : Int).toNat) := ⟨_, rfl⟩
                  replace H : (if y131.length + y134.length < 8796093022208 then (some (y131 ++ y134)) else (none)) = some r := by first | (rw [hy134]; with_reducible exact H) | (have H2_ := (Option.bind_some _ _).symm.trans H; rw [hy134]; with_reducible exact H2_) | (have H2_ := (Option.bind_some _ _).symm.trans H; with_reducible exact H2_) | with_reducible exact H | (rw [hy134]; exact H) | exact H
                  have Ny134 := Aside0.mk hy134
                  clear hy134
                  by_cases c13 : y131.length + y134.length < 8796093022208
                  · rw [if_pos c13] at H
                    have LMc13 := Aside0.mk c13
                    clear c13
                    obtain ⟨y138, hy138⟩ : ∃ y_ : List (S58), y_ = (y131 ++ y134) := ⟨_, rfl⟩
                    replace H : (some y138) = some r := by first | (rw [hy138]; with_reducible exact H) | (have H2_ := (Option.bind_some _ _).symm.trans H; rw [hy138]; with_reducible exact H2_) | (have H2_ := (Option.bind_some _ _).symm.trans H; with_reducible exact H2_) | with_reducible exact H | (rw [hy138]; exact H) | exact H
                    have Ny138 := Aside0.mk hy138
                    clear hy138
                    obtain rfl := Option.some.inj H
                    go_enter Try.func86, Try.ntmps86
                    try go_wp2_with (first | ((with_reducible refine gate_dst (N := 3) rfl ?_); refine box_event ?hg (N := 3) ?hd (cs := #[.int .i64 a1_0, .bool true, .int .i64 a1_2]) (t := 48) ?hr ?_; (case hd => rfl); (case hg => rfl); (case hr => first | (go_simp; done) | (go_simp; rfl)); intro gb113 hg w14 hbox hb; have n0_ := Aside0.mk (below_step (hx_ HB.out) hb); have n1_ := Aside0.mk (hbox); have n2_ := Aside0.mk ((by rw [hg]; exact (below_size (hx_ HB.out)) : w.heap.size ≤ gb113)); have n3_ := Aside0.mk ((by rw [hg]; exact (below_size (hx_ HB.out)) : w.heap.size ≤ gb113)); clear HB; have HB := n0_; have BK113 := n1_; have GW113 := n2_; have GE113 := n3_; clear n0_ n1_ n2_ n3_; clear hb hbox hg; have hcz15_0 : w14.cell? ⟨gb113, 0, none⟩ = some (.int .i64 a1_0) := (blk_cell BK113.out 0).trans rfl; have hcz15_1 : w14.cell? ⟨gb113, 1, none⟩ = some (.bool true) := (blk_cell BK113.out 1).trans rfl; have hcz15_2 : w14.cell? ⟨gb113, 2, none⟩ = some (.int .i64 a1_2) := (blk_cell BK113.out 2).trans rfl; have hfz15_0 := blk_frozen BK113.out 0; have hfz15_1 := blk_frozen BK113.out 1; have hfz15_2 := blk_frozen BK113.out 2; have p114 : 0 ≤ (a1_0 : Int) := of_decide_eq_true (by first | (with_reducible assumption) | assumption); have q114 : a1_0 < (l0.length : Int) := of_decide_eq_true (by first | (with_reducible assumption) | assumption); obtain ⟨ad114, e114, hx114_0, hx114_1⟩ := at_T58 HR0.out a1_0 p114 q114; cases e114; replace hx114_0 := (HB.out.cell (World.block_lt_of_cell? w _ hx114_0)).trans hx114_0; replace hx114_1 := (HB.out.cell (World.block_lt_of_cell? w _ hx114_1)).trans hx114_1; replace p114 := eq_true p114; replace q114 := eq_true q114) | ((with_reducible refine gate_dst (N := 5) rfl ?_); refine box_event ?hg (N := 5) ?hd (cs := #[.int .i64 0, .int .i64 0]) (t := 58) ?hr ?_; (case hd => rfl); (case hg => rfl); (case hr => first | (go_simp; done) | (go_simp; rfl)); intro gb115 hg w16 hbox hb; have n0_ := Aside0.mk (blk_below (g := gb113) (o := .cells #[.int .i64 a1_0, .bool true, .int .i64 a1_2] 48 (0, 0)) (bx_ BK113.out) hb); have n1_ := Aside0.mk (below_step (hx_ HB.out) hb); have n2_ := Aside0.mk (hbox); have n3_ := Aside0.mk ((by rw [hg]; exact (below_size (hx_ HB.out)) : w.heap.size ≤ gb115)); have n4_ := Aside0.mk ((by rw [hg]; exact (below_size (hx_ HB.out)) : w.heap.size ≤ gb115)); have n5_ := Aside0.mk ((by rw [hg]; exact Nat.ne_of_lt (blk_lt (g := gb113) (o := .cells #[.int .i64 a1_0, .bool true, .int .i64 a1_2] 48 (0, 0)) (bx_ BK113.out)) : gb113 ≠ gb115)); have n6_ := Aside0.mk ((by rw [hg]; exact Nat.ne_of_gt (blk_lt (g := gb113) (o := .cells #[.int .i64 a1_0, .bool true, .int .i64 a1_2] 48 (0, 0)) (bx_ BK113.out)) : gb115 ≠ gb113)); clear BK113; clear HB; have BK113 := n0_; have HB := n1_; have BK115 := n2_; have GW115 := n3_; have GE115 := n4_; have NB113_115 := n5_; have NB115_113 := n6_; clear n0_ n1_ n2_ n3_ n4_ n5_ n6_; clear hb hbox hg; have hnb17 := NB115_113.out; have hnc17 := NB113_115.out; have hcz18_0 : w16.cell? ⟨gb115, 0, none⟩ = some (.int .i64 0) := (blk_cell BK115.out 0).trans rfl; have hcz18_1 : w16.cell? ⟨gb115, 1, none⟩ = some (.int .i64 0) := (blk_cell BK115.out 1).trans rfl; have hfz18_0 := blk_frozen BK115.out 0; have hfz18_1 := blk_frozen BK115.out 1))
                    have n0_ : Aside0 (((w16.setCell ⟨gb115, 0, none⟩ (.int .i64 ((rd_T58 l0 a1_0).f0))).setCell ⟨gb115, 1, none⟩ (.int .i64 ((rd_T58 l0 a1_0).f1))).heap[gb113]? = some (.cells #[.int .i64 a1_0, .bool true, .int .i64 a1_2] 48 (0, 0))) := ⟨bx_ BK113.out⟩
                    have n1_ : Aside0 (((w16.setCell ⟨gb115, 0, none⟩ (.int .i64 ((rd_T58 l0 a1_0).f0))).setCell ⟨gb115, 1, none⟩ (.int .i64 ((rd_T58 l0 a1_0).f1))).heap[gb115]? = some (.cells #[.int .i64 ((rd_T58 l0 a1_0).f0), .int .i64 ((rd_T58 l0 a1_0).f1)] 58 (0, 0))) := ⟨by (with_reducible repeat (first | refine blk_drewN ?_ _ | refine blk_drew ?_ | refine blk_alloc ?_ _)); refine blk_put (cs := #[.int .i64 ((rd_T58 l0 a1_0).f0), .int .i64 0]) ?_ 1 _ rfl; (with_reducible repeat (first | refine blk_drewN ?_ _ | refine blk_drew ?_ | refine blk_alloc ?_ _)); refine blk_put (cs := #[.int .i64 0, .int .i64 0]) ?_ 0 _ rfl; (with_reducible repeat (first | refine blk_drewN ?_ _ | refine blk_drew ?_ | refine blk_alloc ?_ _)); exact BK115.out⟩
                    have n2_ : Aside0 (Below w.heap.size w ((w16.setCell ⟨gb115, 0, none⟩ (.int .i64 ((rd_T58 l0 a1_0).f0))).setCell ⟨gb115, 1, none⟩ (.int .i64 ((rd_T58 l0 a1_0).f1)))) := ⟨hx_ HB.out⟩
                    (try clear BK113)
                    (try clear BK115)
                    (try clear HB)
                    generalize ((w16.setCell ⟨gb115, 0, none⟩ (.int .i64 ((rd_T58 l0 a1_0).f0))).setCell ⟨gb115, 1, none⟩ (.int .i64 ((rd_T58 l0 a1_0).f1))) = w19 at n0_ n1_ n2_ ⊢
                    have BK113 := n0_
                    have BK115 := n1_
                    have HB := n2_
                    clear n0_ n1_ n2_
                    have n0_ := Aside0.mk (blk_drew BK113.out)
                    have n1_ := Aside0.mk (blk_drew BK115.out)
                    have n2_ := Aside0.mk (below_drew1 HB.out)
                    clear BK113
                    clear BK115
                    clear HB
                    have BK113 := n0_
                    have BK115 := n1_
                    have HB := n2_
                    clear n0_ n1_ n2_
                    refine start_ (n := 17) (S := fun w' => w'.cell? ⟨gb113, 0, none⟩ = some (.int .i64 a1_0) ∧ w'.cell? ⟨gb113, 1, none⟩ = some (.bool true) ∧ w'.cell? ⟨gb113, 2, none⟩ = some (.int .i64 a1_2) ∧ w'.cell? ⟨gb115, 0, none⟩ = some (.int .i64 ((rd_T58 l0 a1_0).f0)) ∧ w'.cell? ⟨gb115, 1, none⟩ = some (.int .i64 ((rd_T58 l0 a1_0).f1))) (ds := []) #[false, false, false, false, false, false, false, false, false, false, false, false, false, false, false, false, false] (by kernel_rfl) rfl rfl ⟨(blk_cell BK113.out 0).trans rfl, (blk_cell BK113.out 1).trans rfl, (blk_cell BK113.out 2).trans rfl, (blk_cell BK115.out 0).trans rfl, (blk_cell BK115.out 1).trans rfl⟩ (fun hHeld => ?_); refine with_tabW spec_l09Cut.tab2 spec_l09Cut.bits2 (fun HT_ HW_ => ?_)
                    generalize w19.drew = w20 at BK113 BK115 HB hHeld ⊢
                    refine pure_ (i := 0) (N := some 13) (v := ?_) (a' := ?_) #[true, false, false, false, false, false, false, false, false, false, false, false, false, false, false, false, false] rfl rfl (any_of HT_.out (by kernel_rfl)) (fun _ _ _ h => h) (Or.inl ⟨by rfl, ?_⟩) ?_ ?_
                    rotate_left
                    · intro w'
                      go_simp
                      with_reducible rfl
                    rotate_left
                    · simp only [Act.put, List.setIfInBounds_toArray, List.set_cons_zero, List.set_cons_succ, i64_w, i32_w]
                      rfl
                    refine pure_ (i := 2) (N := some 15) (v := ?_) (a' := ?_) #[true, false, true, false, false, false, false, false, false, false, false, false, false, false, false, false, false] rfl rfl (any_of HT_.out (by kernel_rfl)) (fun _ _ _ h => h) (Or.inl ⟨by rfl, ?_⟩) ?_ ?_
                    rotate_left
                    · intro w'
                      go_simp
                      with_reducible rfl
                    rotate_left
                    · simp only [Act.put, List.setIfInBounds_toArray, List.set_cons_zero, List.set_cons_succ, i64_w, i32_w]
                      rfl
                    refine pure_ (i := 5) (N := some 18) (v := ?_) (a' := ?_) #[true, false, true, false, false, true, false, false, false, false, false, false, false, false, false, false, false] rfl rfl (any_of HT_.out (by kernel_rfl)) (fun _ _ _ h => h) (Or.inl ⟨by rfl, ?_⟩) ?_ ?_
                    rotate_left
                    · intro w'
                      go_simp
                      with_reducible rfl
                    rotate_left
                    · simp only [Act.put, List.setIfInBounds_toArray, List.set_cons_zero, List.set_cons_succ, i64_w, i32_w]
                      rfl
                    refine pure_ (i := 7) (N := some 20) (v := ?_) (a' := ?_) #[true, false, true, false, false, true, false, true, false, false, false, false, false, false, false, false, false] rfl rfl (any_of HT_.out (by kernel_rfl)) (fun _ _ _ h => h) (Or.inl ⟨by rfl, ?_⟩) ?_ ?_
                    rotate_left
                    · intro w'
                      go_simp
                      with_reducible rfl
                    rotate_left
                    · simp only [Act.put, List.setIfInBounds_toArray, List.set_cons_zero, List.set_cons_succ, i64_w, i32_w]
                      rfl
                    refine pure_ (i := 10) (N := some 23) (v := ?_) (a' := ?_) #[true, false, true, false, false, true, false, true, false, false, true, false, false, false, false, false, false] rfl rfl (any_of HT_.out (by kernel_rfl)) (fun _ _ _ h => h) (Or.inl ⟨by rfl, ?_⟩) ?_ ?_
                    rotate_left
                    · intro w'
                      go_simp
                      with_reducible rfl
                    rotate_left
                    · simp only [Act.put, List.setIfInBounds_toArray, List.set_cons_zero, List.set_cons_succ, i64_w, i32_w]
                      rfl
                    refine take_ (i := 1) (N := some 14) (v := ?_) (a' := ?_) #[true, true, true, false, false, true, false, true, false, false, true, false, false, false, false, false, false] rfl rfl (take_ofW HT_.out HW_.out (by kernel_rfl)) (fun _ _ _ h => h) (Or.inl ⟨by rfl, ?_⟩) hHeld ?_ ?_
                    rotate_left
                    · rintro w' ⟨s0, s1, s2, s3, s4⟩
                      go_simp
                      with_reducible rfl
                    rotate_left
                    · simp only [Act.put, List.setIfInBounds_toArray, List.set_cons_zero, List.set_cons_succ, i64_w, i32_w]
                      rfl
                    refine take_ (i := 3) (N := some 16) (v := ?_) (a' := ?_) #[true, true, true, true, false, true, false, true, false, false, true, false, false, false, false, false, false] rfl rfl (take_ofW HT_.out HW_.out (by kernel_rfl)) (fun _ _ _ h => h) (Or.inl ⟨by rfl, ?_⟩) hHeld ?_ ?_
                    rotate_left
                    · rintro w' ⟨s0, s1, s2, s3, s4⟩
                      go_simp
                      with_reducible rfl
                    rotate_left
                    · simp only [Act.put, List.setIfInBounds_toArray, List.set_cons_zero, List.set_cons_succ, i64_w, i32_w]
                      rfl
                    refine pure_ (i := 4) (N := some 17) (v := ?_) (a' := ?_) #[true, true, true, true, true, true, false, true, false, false, true, false, false, false, false, false, false] rfl rfl (any_of HT_.out (by kernel_rfl)) (fun _ _ _ h => h) (Or.inl ⟨by rfl, ?_⟩) ?_ ?_
                    rotate_left
                    · intro w'
                      go_simp
                      with_reducible rfl
                    rotate_left
                    · simp only [Act.put, List.setIfInBounds_toArray, List.set_cons_zero, List.set_cons_succ, i64_w, i32_w]
                      rfl
                    refine take_ (i := 6) (N := some 19) (v := ?_) (a' := ?_) #[true, true, true, true, true, true, true, true, false, false, true, false, false, false, false, false, false] rfl rfl (take_ofW HT_.out HW_.out (by kernel_rfl)) (fun _ _ _ h => h) (Or.inl ⟨by rfl, ?_⟩) hHeld ?_ ?_
                    rotate_left
                    · rintro w' ⟨s0, s1, s2, s3, s4⟩
                      go_simp
                      with_reducible rfl
                    rotate_left
                    · simp only [Act.put, List.setIfInBounds_toArray, List.set_cons_zero, List.set_cons_succ, i64_w, i32_w]
                      rfl
                    refine take_ (i := 8) (N := some 21) (v := ?_) (a' := ?_) #[true, true, true, true, true, true, true, true, true, false, true, false, false, false, false, false, false] rfl rfl (take_ofW HT_.out HW_.out (by kernel_rfl)) (fun _ _ _ h => h) (Or.inl ⟨by rfl, ?_⟩) hHeld ?_ ?_
                    rotate_left
                    · rintro w' ⟨s0, s1, s2, s3, s4⟩
                      go_simp
                      with_reducible rfl
                    rotate_left
                    · simp only [Act.put, List.setIfInBounds_toArray, List.set_cons_zero, List.set_cons_succ, i64_w, i32_w]
                      rfl
                    refine pure_ (i := 9) (N := some 22) (v := ?_) (a' := ?_) #[true, true, true, true, true, true, true, true, true, true, true, false, false, false, false, false, false] rfl rfl (any_of HT_.out (by kernel_rfl)) (fun _ _ _ h => h) (Or.inl ⟨by rfl, ?_⟩) ?_ ?_
                    rotate_left
                    · intro w'
                      go_simp
                      with_reducible rfl
                    rotate_left
                    · simp only [Act.put, List.setIfInBounds_toArray, List.set_cons_zero, List.set_cons_succ, i64_w, i32_w]
                      rfl
                    refine take_ (i := 11) (N := some 24) (v := ?_) (a' := ?_) #[true, true, true, true, true, true, true, true, true, true, true, true, false, false, false, false, false] rfl rfl (take_ofW HT_.out HW_.out (by kernel_rfl)) (fun _ _ _ h => h) (Or.inl ⟨by rfl, ?_⟩) hHeld ?_ ?_
                    rotate_left
                    · rintro w' ⟨s0, s1, s2, s3, s4⟩
                      go_simp
                      with_reducible rfl
                    rotate_left
                    · simp only [Act.put, List.setIfInBounds_toArray, List.set_cons_zero, List.set_cons_succ, i64_w, i32_w]
                      rfl
                    refine pure_ (i := 12) (N := some 25) (v := ?_) (a' := ?_) #[true, true, true, true, true, true, true, true, true, true, true, true, true, false, false, false, false] rfl rfl (any_of HT_.out (by kernel_rfl)) (fun _ _ _ h => h) (Or.inl ⟨by rfl, ?_⟩) ?_ ?_
                    rotate_left
                    · intro w'
                      go_simp
                      with_reducible rfl
                    rotate_left
                    · simp only [Act.put, List.setIfInBounds_toArray, List.set_cons_zero, List.set_cons_succ, i64_w, i32_w]
                      rfl
                    refine join_ (σ := Nat × Nat) 2 #[true, true, true, true, true, true, true, true, true, true, true, true, true, true, true, false, false] (fun s_ => [(6, .pointer (some ⟨s_.1, 0, none⟩)), (7, .pointer (some ⟨s_.2, 0, none⟩))]) (fun s_ w' => (w'.cell? ⟨gb113, 0, none⟩ = some (.int .i64 a1_0) ∧ w'.cell? ⟨gb113, 1, none⟩ = some (.bool true) ∧ w'.cell? ⟨gb113, 2, none⟩ = some (.int .i64 a1_2) ∧ w'.cell? ⟨gb115, 0, none⟩ = some (.int .i64 ((rd_T58 l0 a1_0).f0)) ∧ w'.cell? ⟨gb115, 1, none⟩ = some (.int .i64 ((rd_T58 l0 a1_0).f1))) ∧ (w'.heap[gb113]? = some (.cells #[.int .i64 a1_0, .bool true, .int .i64 a1_2] 48 (0, 0))) ∧ (w'.heap[gb115]? = some (.cells #[.int .i64 ((rd_T58 l0 a1_0).f0), .int .i64 ((rd_T58 l0 a1_0).f1)] 58 (0, 0))) ∧ (w'.heap[s_.1]? = some (.cells #[.int .i64 0, .int .i64 0] 58 (0, 0))) ∧ (w'.heap[s_.2]? = some (.cells #[.int .i64 0, .int .i64 0] 58 (0, 0))) ∧ (w.heap.size ≤ s_.1) ∧ (w.heap.size ≤ s_.1) ∧ (gb113 ≠ s_.1) ∧ (s_.1 ≠ gb113) ∧ (gb115 ≠ s_.1) ∧ (s_.1 ≠ gb115) ∧ (s_.2 ≠ s_.1) ∧ (s_.1 ≠ s_.2) ∧ (w.heap.size ≤ s_.2) ∧ (w.heap.size ≤ s_.2) ∧ (gb113 ≠ s_.2) ∧ (s_.2 ≠ gb113) ∧ (gb115 ≠ s_.2) ∧ (s_.2 ≠ gb115) ∧ (Below w.heap.size w w')) ?_ ?_
                    rotate_left
                    · intro hCont
                      refine two_ (i := 13) (j := 14) (Ni := some 6) (Nj := some 7) #[true, true, true, true, true, true, true, true, true, true, true, true, true, true, false, false, false] #[true, true, true, true, true, true, true, true, true, true, true, true, true, false, true, false, false] rfl rfl rfl rfl (two_of HT_.out (by kernel_rfl)) (by decide) (by decide) (fun K hK => ?_) (fun K hK => ?_)
                      · skip
                        refine box_step ?hg (N := 6) ?hd (cs := #[.int .i64 0, .int .i64 0]) (t := 58) ?hr ?_; (case hd => rfl); (case hg => rfl); (case hr => first | (go_simp; done) | (go_simp; rfl))
                        intro gb116 hg w21 hbox hb
                        have n0_ := Aside0.mk (blk_below (g := gb113) (o := .cells #[.int .i64 a1_0, .bool true, .int .i64 a1_2] 48 (0, 0)) (bx_ BK113.out) hb)
                        have n1_ := Aside0.mk (blk_below (g := gb115) (o := .cells #[.int .i64 ((rd_T58 l0 a1_0).f0), .int .i64 ((rd_T58 l0 a1_0).f1)] 58 (0, 0)) (bx_ BK115.out) hb)
                        have n2_ := Aside0.mk (below_step (hx_ HB.out) hb)
                        have n3_ := Aside0.mk (hbox)
                        have n4_ := Aside0.mk ((by rw [hg]; exact (below_size (hx_ HB.out)) : w.heap.size ≤ gb116))
                        have n5_ := Aside0.mk ((by rw [hg]; exact (below_size (hx_ HB.out)) : w.heap.size ≤ gb116))
                        have n6_ := Aside0.mk ((by rw [hg]; exact Nat.ne_of_lt (blk_lt (g := gb113) (o := .cells #[.int .i64 a1_0, .bool true, .int .i64 a1_2] 48 (0, 0)) (bx_ BK113.out)) : gb113 ≠ gb116))
                        have n7_ := Aside0.mk ((by rw [hg]; exact Nat.ne_of_gt (blk_lt (g := gb113) (o := .cells #[.int .i64 a1_0, .bool true, .int .i64 a1_2] 48 (0, 0)) (bx_ BK113.out)) : gb116 ≠ gb113))
                        have n8_ := Aside0.mk ((by rw [hg]; exact Nat.ne_of_lt (blk_lt (g := gb115) (o := .cells #[.int .i64 ((rd_T58 l0 a1_0).f0), .int .i64 ((rd_T58 l0 a1_0).f1)] 58 (0, 0)) (bx_ BK115.out)) : gb115 ≠ gb116))
                        have n9_ := Aside0.mk ((by rw [hg]; exact Nat.ne_of_gt (blk_lt (g := gb115) (o := .cells #[.int .i64 ((rd_T58 l0 a1_0).f0), .int .i64 ((rd_T58 l0 a1_0).f1)] 58 (0, 0)) (bx_ BK115.out)) : gb116 ≠ gb115))
                        clear BK113
                        clear BK115
                        clear HB
                        have BK113 := n0_
                        have BK115 := n1_
                        have HB := n2_
                        have BK116 := n3_
                        have GW116 := n4_
                        have GE116 := n5_
                        have NB113_116 := n6_
                        have NB116_113 := n7_
                        have NB115_116 := n8_
                        have NB116_115 := n9_
                        clear n0_ n1_ n2_ n3_ n4_ n5_ n6_ n7_ n8_ n9_
                        clear hb hbox hg
                        refine hK.out _ _ ⟨(blk_cell BK113.out 0).trans rfl, (blk_cell BK113.out 1).trans rfl, (blk_cell BK113.out 2).trans rfl, (blk_cell BK115.out 0).trans rfl, (blk_cell BK115.out 1).trans rfl⟩ (fun hHeld => ?_)
                        clear hK K
                        refine norm_ (a' := ?_) ?_ ?_
                        rotate_left
                        · show Act.put _ (some 6) _ = _
                          simp only [Act.put, List.setIfInBounds_toArray, List.set_cons_zero, List.set_cons_succ, i64_w, i32_w]
                          rfl
                        refine one_ (i := 14) (N := some 7) #[true, true, true, true, true, true, true, true, true, true, true, true, true, true, true, false, false] rfl rfl (one_of HT_.out (by kernel_rfl)) (by decide) (fun K hK => ?_)
                        refine box_step ?hg (N := 7) ?hd (cs := #[.int .i64 0, .int .i64 0]) (t := 58) ?hr ?_; (case hd => rfl); (case hg => rfl); (case hr => first | (go_simp; done) | (go_simp; rfl))
                        intro gb117 hg w22 hbox hb
                        have n0_ := Aside0.mk (blk_below (g := gb113) (o := .cells #[.int .i64 a1_0, .bool true, .int .i64 a1_2] 48 (0, 0)) (bx_ BK113.out) hb)
                        have n1_ := Aside0.mk (blk_below (g := gb115) (o := .cells #[.int .i64 ((rd_T58 l0 a1_0).f0), .int .i64 ((rd_T58 l0 a1_0).f1)] 58 (0, 0)) (bx_ BK115.out) hb)
                        have n2_ := Aside0.mk (blk_below (g := gb116) (o := .cells #[.int .i64 0, .int .i64 0] 58 (0, 0)) (bx_ BK116.out) hb)
                        have n3_ := Aside0.mk (below_step (hx_ HB.out) hb)
                        have n4_ := Aside0.mk (hbox)
                        have n5_ := Aside0.mk ((by rw [hg]; exact (below_size (hx_ HB.out)) : w.heap.size ≤ gb117))
                        have n6_ := Aside0.mk ((by rw [hg]; exact (below_size (hx_ HB.out)) : w.heap.size ≤ gb117))
                        have n7_ := Aside0.mk ((by rw [hg]; exact Nat.ne_of_lt (blk_lt (g := gb113) (o := .cells #[.int .i64 a1_0, .bool true, .int .i64 a1_2] 48 (0, 0)) (bx_ BK113.out)) : gb113 ≠ gb117))
                        have n8_ := Aside0.mk ((by rw [hg]; exact Nat.ne_of_gt (blk_lt (g := gb113) (o := .cells #[.int .i64 a1_0, .bool true, .int .i64 a1_2] 48 (0, 0)) (bx_ BK113.out)) : gb117 ≠ gb113))
                        have n9_ := Aside0.mk ((by rw [hg]; exact Nat.ne_of_lt (blk_lt (g := gb115) (o := .cells #[.int .i64 ((rd_T58 l0 a1_0).f0), .int .i64 ((rd_T58 l0 a1_0).f1)] 58 (0, 0)) (bx_ BK115.out)) : gb115 ≠ gb117))
                        have n10_ := Aside0.mk ((by rw [hg]; exact Nat.ne_of_gt (blk_lt (g := gb115) (o := .cells #[.int .i64 ((rd_T58 l0 a1_0).f0), .int .i64 ((rd_T58 l0 a1_0).f1)] 58 (0, 0)) (bx_ BK115.out)) : gb117 ≠ gb115))
                        have n11_ := Aside0.mk ((by rw [hg]; exact Nat.ne_of_lt (blk_lt (g := gb116) (o := .cells #[.int .i64 0, .int .i64 0] 58 (0, 0)) (bx_ BK116.out)) : gb116 ≠ gb117))
                        have n12_ := Aside0.mk ((by rw [hg]; exact Nat.ne_of_gt (blk_lt (g := gb116) (o := .cells #[.int .i64 0, .int .i64 0] 58 (0, 0)) (bx_ BK116.out)) : gb117 ≠ gb116))
                        clear BK113
                        clear BK115
                        clear BK116
                        clear HB
                        have BK113 := n0_
                        have BK115 := n1_
                        have BK116 := n2_
                        have HB := n3_
                        have BK117 := n4_
                        have GW117 := n5_
                        have GE117 := n6_
                        have NB113_117 := n7_
                        have NB117_113 := n8_
                        have NB115_117 := n9_
                        have NB117_115 := n10_
                        have NB116_117 := n11_
                        have NB117_116 := n12_
                        clear n0_ n1_ n2_ n3_ n4_ n5_ n6_ n7_ n8_ n9_ n10_ n11_ n12_
                        clear hb hbox hg
                        refine hK.out _ _ ⟨(blk_cell BK113.out 0).trans rfl, (blk_cell BK113.out 1).trans rfl, (blk_cell BK113.out 2).trans rfl, (blk_cell BK115.out 0).trans rfl, (blk_cell BK115.out 1).trans rfl⟩ (fun hHeld => ?_)
                        clear hK K
                        refine norm_ (a' := ?_) ?_ ?_
                        rotate_left
                        · show Act.put _ (some 7) _ = _
                          simp only [Act.put, List.setIfInBounds_toArray, List.set_cons_zero, List.set_cons_succ, i64_w, i32_w]
                          rfl
                        exact norm_ (by simp only [putAll, Act.put, List.setIfInBounds_toArray, List.set_cons_zero, List.set_cons_succ]) (hCont (gb116, gb117) _ ⟨hHeld, (bx_ BK113.out), (bx_ BK115.out), (bx_ BK116.out), (bx_ BK117.out), GW116.out, GE116.out, NB113_116.out, NB116_113.out, NB115_116.out, NB116_115.out, NB117_116.out, NB116_117.out, GW117.out, GE117.out, NB113_117.out, NB117_113.out, NB115_117.out, NB117_115.out, (hx_ HB.out)⟩)
                      · skip
                        refine box_step ?hg (N := 7) ?hd (cs := #[.int .i64 0, .int .i64 0]) (t := 58) ?hr ?_; (case hd => rfl); (case hg => rfl); (case hr => first | (go_simp; done) | (go_simp; rfl))
                        intro gb117 hg w21 hbox hb
                        have n0_ := Aside0.mk (blk_below (g := gb113) (o := .cells #[.int .i64 a1_0, .bool true, .int .i64 a1_2] 48 (0, 0)) (bx_ BK113.out) hb)
                        have n1_ := Aside0.mk (blk_below (g := gb115) (o := .cells #[.int .i64 ((rd_T58 l0 a1_0).f0), .int .i64 ((rd_T58 l0 a1_0).f1)] 58 (0, 0)) (bx_ BK115.out) hb)
                        have n2_ := Aside0.mk (below_step (hx_ HB.out) hb)
                        have n3_ := Aside0.mk (hbox)
                        have n4_ := Aside0.mk ((by rw [hg]; exact (below_size (hx_ HB.out)) : w.heap.size ≤ gb117))
                        have n5_ := Aside0.mk ((by rw [hg]; exact (below_size (hx_ HB.out)) : w.heap.size ≤ gb117))
                        have n6_ := Aside0.mk ((by rw [hg]; exact Nat.ne_of_lt (blk_lt (g := gb113) (o := .cells #[.int .i64 a1_0, .bool true, .int .i64 a1_2] 48 (0, 0)) (bx_ BK113.out)) : gb113 ≠ gb117))
                        have n7_ := Aside0.mk ((by rw [hg]; exact Nat.ne_of_gt (blk_lt (g := gb113) (o := .cells #[.int .i64 a1_0, .bool true, .int .i64 a1_2] 48 (0, 0)) (bx_ BK113.out)) : gb117 ≠ gb113))
                        have n8_ := Aside0.mk ((by rw [hg]; exact Nat.ne_of_lt (blk_lt (g := gb115) (o := .cells #[.int .i64 ((rd_T58 l0 a1_0).f0), .int .i64 ((rd_T58 l0 a1_0).f1)] 58 (0, 0)) (bx_ BK115.out)) : gb115 ≠ gb117))
                        have n9_ := Aside0.mk ((by rw [hg]; exact Nat.ne_of_gt (blk_lt (g := gb115) (o := .cells #[.int .i64 ((rd_T58 l0 a1_0).f0), .int .i64 ((rd_T58 l0 a1_0).f1)] 58 (0, 0)) (bx_ BK115.out)) : gb117 ≠ gb115))
                        clear BK113
                        clear BK115
                        clear HB
                        have BK113 := n0_
                        have BK115 := n1_
                        have HB := n2_
                        have BK117 := n3_
                        have GW117 := n4_
                        have GE117 := n5_
                        have NB113_117 := n6_
                        have NB117_113 := n7_
                        have NB115_117 := n8_
                        have NB117_115 := n9_
                        clear n0_ n1_ n2_ n3_ n4_ n5_ n6_ n7_ n8_ n9_
                        clear hb hbox hg
                        refine hK.out _ _ ⟨(blk_cell BK113.out 0).trans rfl, (blk_cell BK113.out 1).trans rfl, (blk_cell BK113.out 2).trans rfl, (blk_cell BK115.out 0).trans rfl, (blk_cell BK115.out 1).trans rfl⟩ (fun hHeld => ?_)
                        clear hK K
                        refine norm_ (a' := ?_) ?_ ?_
                        rotate_left
                        · show Act.put _ (some 7) _ = _
                          simp only [Act.put, List.setIfInBounds_toArray, List.set_cons_zero, List.set_cons_succ, i64_w, i32_w]
                          rfl
                        refine one_ (i := 13) (N := some 6) #[true, true, true, true, true, true, true, true, true, true, true, true, true, true, true, false, false] rfl rfl (one_of HT_.out (by kernel_rfl)) (by decide) (fun K hK => ?_)
                        refine box_step ?hg (N := 6) ?hd (cs := #[.int .i64 0, .int .i64 0]) (t := 58) ?hr ?_; (case hd => rfl); (case hg => rfl); (case hr => first | (go_simp; done) | (go_simp; rfl))
                        intro gb116 hg w22 hbox hb
                        have n0_ := Aside0.mk (blk_below (g := gb113) (o := .cells #[.int .i64 a1_0, .bool true, .int .i64 a1_2] 48 (0, 0)) (bx_ BK113.out) hb)
                        have n1_ := Aside0.mk (blk_below (g := gb115) (o := .cells #[.int .i64 ((rd_T58 l0 a1_0).f0), .int .i64 ((rd_T58 l0 a1_0).f1)] 58 (0, 0)) (bx_ BK115.out) hb)
                        have n2_ := Aside0.mk (blk_below (g := gb117) (o := .cells #[.int .i64 0, .int .i64 0] 58 (0, 0)) (bx_ BK117.out) hb)
                        have n3_ := Aside0.mk (below_step (hx_ HB.out) hb)
                        have n4_ := Aside0.mk (hbox)
                        have n5_ := Aside0.mk ((by rw [hg]; exact (below_size (hx_ HB.out)) : w.heap.size ≤ gb116))
                        have n6_ := Aside0.mk ((by rw [hg]; exact (below_size (hx_ HB.out)) : w.heap.size ≤ gb116))
                        have n7_ := Aside0.mk ((by rw [hg]; exact Nat.ne_of_lt (blk_lt (g := gb113) (o := .cells #[.int .i64 a1_0, .bool true, .int .i64 a1_2] 48 (0, 0)) (bx_ BK113.out)) : gb113 ≠ gb116))
                        have n8_ := Aside0.mk ((by rw [hg]; exact Nat.ne_of_gt (blk_lt (g := gb113) (o := .cells #[.int .i64 a1_0, .bool true, .int .i64 a1_2] 48 (0, 0)) (bx_ BK113.out)) : gb116 ≠ gb113))
                        have n9_ := Aside0.mk ((by rw [hg]; exact Nat.ne_of_lt (blk_lt (g := gb115) (o := .cells #[.int .i64 ((rd_T58 l0 a1_0).f0), .int .i64 ((rd_T58 l0 a1_0).f1)] 58 (0, 0)) (bx_ BK115.out)) : gb115 ≠ gb116))
                        have n10_ := Aside0.mk ((by rw [hg]; exact Nat.ne_of_gt (blk_lt (g := gb115) (o := .cells #[.int .i64 ((rd_T58 l0 a1_0).f0), .int .i64 ((rd_T58 l0 a1_0).f1)] 58 (0, 0)) (bx_ BK115.out)) : gb116 ≠ gb115))
                        have n11_ := Aside0.mk ((by rw [hg]; exact Nat.ne_of_lt (blk_lt (g := gb117) (o := .cells #[.int .i64 0, .int .i64 0] 58 (0, 0)) (bx_ BK117.out)) : gb117 ≠ gb116))
                        have n12_ := Aside0.mk ((by rw [hg]; exact Nat.ne_of_gt (blk_lt (g := gb117) (o := .cells #[.int .i64 0, .int .i64 0] 58 (0, 0)) (bx_ BK117.out)) : gb116 ≠ gb117))
                        clear BK113
                        clear BK115
                        clear BK117
                        clear HB
                        have BK113 := n0_
                        have BK115 := n1_
                        have BK117 := n2_
                        have HB := n3_
                        have BK116 := n4_
                        have GW116 := n5_
                        have GE116 := n6_
                        have NB113_116 := n7_
                        have NB116_113 := n8_
                        have NB115_116 := n9_
                        have NB116_115 := n10_
                        have NB117_116 := n11_
                        have NB116_117 := n12_
                        clear n0_ n1_ n2_ n3_ n4_ n5_ n6_ n7_ n8_ n9_ n10_ n11_ n12_
                        clear hb hbox hg
                        refine hK.out _ _ ⟨(blk_cell BK113.out 0).trans rfl, (blk_cell BK113.out 1).trans rfl, (blk_cell BK113.out 2).trans rfl, (blk_cell BK115.out 0).trans rfl, (blk_cell BK115.out 1).trans rfl⟩ (fun hHeld => ?_)
                        clear hK K
                        refine norm_ (a' := ?_) ?_ ?_
                        rotate_left
                        · show Act.put _ (some 6) _ = _
                          simp only [Act.put, List.setIfInBounds_toArray, List.set_cons_zero, List.set_cons_succ, i64_w, i32_w]
                          rfl
                        exact norm_ (by simp only [putAll, Act.put, List.setIfInBounds_toArray, List.set_cons_zero, List.set_cons_succ]) (hCont (gb116, gb117) _ ⟨hHeld, (bx_ BK113.out), (bx_ BK115.out), (bx_ BK116.out), (bx_ BK117.out), GW116.out, GE116.out, NB113_116.out, NB116_113.out, NB115_116.out, NB116_115.out, NB117_116.out, NB116_117.out, GW117.out, GE117.out, NB113_117.out, NB117_113.out, NB115_117.out, NB117_115.out, (hx_ HB.out)⟩)
                    rintro ⟨gb116, gb117⟩ w23 ⟨hS_, h0_, h1_, h2_, h3_, h4_, h5_, h6_, h7_, h8_, h9_, h10_, h11_, h12_, h13_, h14_, h15_, h16_, h17_, h18_⟩
                    have n0_ : Aside0 (w23.heap[gb113]? = some (.cells #[.int .i64 a1_0, .bool true, .int .i64 a1_2] 48 (0, 0))) := ⟨h0_⟩
                    have n1_ : Aside0 (w23.heap[gb115]? = some (.cells #[.int .i64 ((rd_T58 l0 a1_0).f0), .int .i64 ((rd_T58 l0 a1_0).f1)] 58 (0, 0))) := ⟨h1_⟩
                    have n2_ : Aside0 (w23.heap[gb116]? = some (.cells #[.int .i64 0, .int .i64 0] 58 (0, 0))) := ⟨h2_⟩
                    have n3_ : Aside0 (w23.heap[gb117]? = some (.cells #[.int .i64 0, .int .i64 0] 58 (0, 0))) := ⟨h3_⟩
                    have n4_ : Aside0 (w.heap.size ≤ gb116) := ⟨h4_⟩
                    have n5_ : Aside0 (w.heap.size ≤ gb116) := ⟨h5_⟩
                    have n6_ : Aside0 (gb113 ≠ gb116) := ⟨h6_⟩
                    have n7_ : Aside0 (gb116 ≠ gb113) := ⟨h7_⟩
                    have n8_ : Aside0 (gb115 ≠ gb116) := ⟨h8_⟩
                    have n9_ : Aside0 (gb116 ≠ gb115) := ⟨h9_⟩
                    have n10_ : Aside0 (gb117 ≠ gb116) := ⟨h10_⟩
                    have n11_ : Aside0 (gb116 ≠ gb117) := ⟨h11_⟩
                    have n12_ : Aside0 (w.heap.size ≤ gb117) := ⟨h12_⟩
                    have n13_ : Aside0 (w.heap.size ≤ gb117) := ⟨h13_⟩
                    have n14_ : Aside0 (gb113 ≠ gb117) := ⟨h14_⟩
                    have n15_ : Aside0 (gb117 ≠ gb113) := ⟨h15_⟩
                    have n16_ : Aside0 (gb115 ≠ gb117) := ⟨h16_⟩
                    have n17_ : Aside0 (gb117 ≠ gb115) := ⟨h17_⟩
                    have n18_ : Aside0 (Below w.heap.size w w23) := ⟨h18_⟩
                    clear BK113
                    clear BK115
                    clear HB
                    clear h0_ h1_ h2_ h3_ h4_ h5_ h6_ h7_ h8_ h9_ h10_ h11_ h12_ h13_ h14_ h15_ h16_ h17_ h18_
                    have BK113 := n0_
                    have BK115 := n1_
                    have BK116 := n2_
                    have BK117 := n3_
                    have GW116 := n4_
                    have GE116 := n5_
                    have NB113_116 := n6_
                    have NB116_113 := n7_
                    have NB115_116 := n8_
                    have NB116_115 := n9_
                    have NB117_116 := n10_
                    have NB116_117 := n11_
                    have GW117 := n12_
                    have GE117 := n13_
                    have NB113_117 := n14_
                    have NB117_113 := n15_
                    have NB115_117 := n16_
                    have NB117_115 := n17_
                    have HB := n18_
                    clear n0_ n1_ n2_ n3_ n4_ n5_ n6_ n7_ n8_ n9_ n10_ n11_ n12_ n13_ n14_ n15_ n16_ n17_ n18_
                    have hHeld : w23.cell? ⟨gb113, 0, none⟩ = some (.int .i64 a1_0) ∧ w23.cell? ⟨gb113, 1, none⟩ = some (.bool true) ∧ w23.cell? ⟨gb113, 2, none⟩ = some (.int .i64 a1_2) ∧ w23.cell? ⟨gb115, 0, none⟩ = some (.int .i64 ((rd_T58 l0 a1_0).f0)) ∧ w23.cell? ⟨gb115, 1, none⟩ = some (.int .i64 ((rd_T58 l0 a1_0).f1)) := hS_
                    refine norm_ (a' := ?_) ?_ ?_
                    rotate_left
                    · simp only [putAll, Act.put, List.setIfInBounds_toArray, List.set_cons_zero, List.set_cons_succ]
                      rfl
                    refine one_ (i := 15) (N := none) #[true, true, true, true, true, true, true, true, true, true, true, true, true, true, true, true, false] rfl rfl (one_of HT_.out (by kernel_rfl)) (by decide) (fun K hK => ?_)
                    have hs24 : w23.cell? ⟨gb116, 0, none⟩ = some (.int .i64 0) := (blk_cell BK116.out 0).trans rfl
                    have hfs24 := blk_frozen BK116.out 0
                    have hns24_0 := NB113_116.out
                    have hns24_1 := NB115_116.out
                    have hns24_3 := NB117_116.out
                    have hms24_0 := NB116_113.out
                    have hms24_1 := NB116_115.out
                    have hms24_3 := NB116_117.out
                    have hs25 : w23.cell? ⟨gb116, 1, none⟩ = some (.int .i64 0) := (blk_cell BK116.out 1).trans rfl
                    have hfs25 := blk_frozen BK116.out 1
                    have hns25_0 := NB113_116.out
                    have hns25_1 := NB115_116.out
                    have hns25_3 := NB117_116.out
                    have hms25_0 := NB116_113.out
                    have hms25_1 := NB116_115.out
                    have hms25_3 := NB116_117.out
                    refine skip_ (w1 := ?_) (by rfl) rfl ?_ ?_
                    rotate_left
                    · go_simp
                      rfl
                    refine hK.out _ _ ⟨((cell_far (p := ⟨gb116, _, none⟩) NB113_116.out _).trans (((cell_far (p := ⟨gb116, _, none⟩) NB113_116.out _).trans (hHeld.1)))), ((cell_far (p := ⟨gb116, _, none⟩) NB113_116.out _).trans (((cell_far (p := ⟨gb116, _, none⟩) NB113_116.out _).trans (hHeld.2.1)))), ((cell_far (p := ⟨gb116, _, none⟩) NB113_116.out _).trans (((cell_far (p := ⟨gb116, _, none⟩) NB113_116.out _).trans (hHeld.2.2.1)))), ((cell_far (p := ⟨gb116, _, none⟩) NB115_116.out _).trans (((cell_far (p := ⟨gb116, _, none⟩) NB115_116.out _).trans (hHeld.2.2.2.1)))), ((cell_far (p := ⟨gb116, _, none⟩) NB115_116.out _).trans (((cell_far (p := ⟨gb116, _, none⟩) NB115_116.out _).trans (hHeld.2.2.2.2))))⟩ (fun hHeld => ?_)
                    clear hK K
                    refine one_ (i := 16) (N := none) #[true, true, true, true, true, true, true, true, true, true, true, true, true, true, true, true, true] rfl rfl (one_of HT_.out (by kernel_rfl)) (by decide) (fun K hK => ?_)
                    have hs26 : w23.cell? ⟨gb117, 0, none⟩ = some (.int .i64 0) := (blk_cell BK117.out 0).trans rfl
                    have hfs26 := blk_frozen BK117.out 0
                    have hns26_0 := NB113_117.out
                    have hns26_1 := NB115_117.out
                    have hns26_2 := NB116_117.out
                    have hms26_0 := NB117_113.out
                    have hms26_1 := NB117_115.out
                    have hms26_2 := NB117_116.out
                    have hs27 : w23.cell? ⟨gb117, 1, none⟩ = some (.int .i64 0) := (blk_cell BK117.out 1).trans rfl
                    have hfs27 := blk_frozen BK117.out 1
                    have hns27_0 := NB113_117.out
                    have hns27_1 := NB115_117.out
                    have hns27_2 := NB116_117.out
                    have hms27_0 := NB117_113.out
                    have hms27_1 := NB117_115.out
                    have hms27_2 := NB117_116.out
                    refine skip_ (w1 := ?_) (by rfl) rfl ?_ ?_
                    rotate_left
                    · go_simp
                      rfl
                    refine hK.out _ _ ⟨((cell_far (p := ⟨gb117, _, none⟩) NB113_117.out _).trans (((cell_far (p := ⟨gb117, _, none⟩) NB113_117.out _).trans (hHeld.1)))), ((cell_far (p := ⟨gb117, _, none⟩) NB113_117.out _).trans (((cell_far (p := ⟨gb117, _, none⟩) NB113_117.out _).trans (hHeld.2.1)))), ((cell_far (p := ⟨gb117, _, none⟩) NB113_117.out _).trans (((cell_far (p := ⟨gb117, _, none⟩) NB113_117.out _).trans (hHeld.2.2.1)))), ((cell_far (p := ⟨gb117, _, none⟩) NB115_117.out _).trans (((cell_far (p := ⟨gb117, _, none⟩) NB115_117.out _).trans (hHeld.2.2.2.1)))), ((cell_far (p := ⟨gb117, _, none⟩) NB115_117.out _).trans (((cell_far (p := ⟨gb117, _, none⟩) NB115_117.out _).trans (hHeld.2.2.2.2))))⟩ (fun hHeld => ?_)
                    clear hK K
                    refine done_ (done_of HT_.out (by kernel_rfl)) ?_
                    have hnb28 := NB113_116.out
                    have hnc28 := NB116_113.out
                    have hnb29 := NB113_117.out
                    have hnc29 := NB117_113.out
                    have hcz30_0 : w23.cell? ⟨gb113, 0, none⟩ = some (.int .i64 a1_0) := (blk_cell BK113.out 0).trans rfl
                    have hcz30_1 : w23.cell? ⟨gb113, 1, none⟩ = some (.bool true) := (blk_cell BK113.out 1).trans rfl
                    have hcz30_2 : w23.cell? ⟨gb113, 2, none⟩ = some (.int .i64 a1_2) := (blk_cell BK113.out 2).trans rfl
                    have hfz30_0 := blk_frozen BK113.out 0
                    have hfz30_1 := blk_frozen BK113.out 1
                    have hfz30_2 := blk_frozen BK113.out 2
                    try go_wp2
                    have n0_ : Aside0 (((((w23.setCell ⟨gb116, 0, none⟩ (.int .i64 a1_2)).setCell ⟨gb116, 1, none⟩ (.int .i64 ((rd_T58 l0 a1_0).f1))).setCell ⟨gb117, 0, none⟩ (.int .i64 (wrap64 (((rd_T58 l0 a1_0).f0) - a1_2)))).setCell ⟨gb117, 1, none⟩ (.int .i64 ((rd_T58 l0 a1_0).f1))).heap[gb113]? = some (.cells #[.int .i64 a1_0, .bool true, .int .i64 a1_2] 48 (0, 0))) := ⟨bx_ BK113.out⟩
                    have n1_ : Aside0 (((((w23.setCell ⟨gb116, 0, none⟩ (.int .i64 a1_2)).setCell ⟨gb116, 1, none⟩ (.int .i64 ((rd_T58 l0 a1_0).f1))).setCell ⟨gb117, 0, none⟩ (.int .i64 (wrap64 (((rd_T58 l0 a1_0).f0) - a1_2)))).setCell ⟨gb117, 1, none⟩ (.int .i64 ((rd_T58 l0 a1_0).f1))).heap[gb115]? = some (.cells #[.int .i64 ((rd_T58 l0 a1_0).f0), .int .i64 ((rd_T58 l0 a1_0).f1)] 58 (0, 0))) := ⟨bx_ BK115.out⟩
                    have n2_ : Aside0 (((((w23.setCell ⟨gb116, 0, none⟩ (.int .i64 a1_2)).setCell ⟨gb116, 1, none⟩ (.int .i64 ((rd_T58 l0 a1_0).f1))).setCell ⟨gb117, 0, none⟩ (.int .i64 (wrap64 (((rd_T58 l0 a1_0).f0) - a1_2)))).setCell ⟨gb117, 1, none⟩ (.int .i64 ((rd_T58 l0 a1_0).f1))).heap[gb116]? = some (.cells #[.int .i64 a1_2, .int .i64 ((rd_T58 l0 a1_0).f1)] 58 (0, 0))) := ⟨by (with_reducible repeat (first | refine blk_drewN ?_ _ | refine blk_drew ?_ | refine blk_alloc ?_ _)); refine blk_far ?_ NB116_117.out _; (with_reducible repeat (first | refine blk_drewN ?_ _ | refine blk_drew ?_ | refine blk_alloc ?_ _)); refine blk_far ?_ NB116_117.out _; (with_reducible repeat (first | refine blk_drewN ?_ _ | refine blk_drew ?_ | refine blk_alloc ?_ _)); refine blk_put (cs := #[.int .i64 a1_2, .int .i64 0]) ?_ 1 _ rfl; (with_reducible repeat (first | refine blk_drewN ?_ _ | refine blk_drew ?_ | refine blk_alloc ?_ _)); refine blk_put (cs := #[.int .i64 0, .int .i64 0]) ?_ 0 _ rfl; (with_reducible repeat (first | refine blk_drewN ?_ _ | refine blk_drew ?_ | refine blk_alloc ?_ _)); exact BK116.out⟩
                    have n3_ : Aside0 (((((w23.setCell ⟨gb116, 0, none⟩ (.int .i64 a1_2)).setCell ⟨gb116, 1, none⟩ (.int .i64 ((rd_T58 l0 a1_0).f1))).setCell ⟨gb117, 0, none⟩ (.int .i64 (wrap64 (((rd_T58 l0 a1_0).f0) - a1_2)))).setCell ⟨gb117, 1, none⟩ (.int .i64 ((rd_T58 l0 a1_0).f1))).heap[gb117]? = some (.cells #[.int .i64 (wrap64 (((rd_T58 l0 a1_0).f0) - a1_2)), .int .i64 ((rd_T58 l0 a1_0).f1)] 58 (0, 0))) := ⟨by (with_reducible repeat (first | refine blk_drewN ?_ _ | refine blk_drew ?_ | refine blk_alloc ?_ _)); refine blk_put (cs := #[.int .i64 (wrap64 (((rd_T58 l0 a1_0).f0) - a1_2)), .int .i64 0]) ?_ 1 _ rfl; (with_reducible repeat (first | refine blk_drewN ?_ _ | refine blk_drew ?_ | refine blk_alloc ?_ _)); refine blk_put (cs := #[.int .i64 0, .int .i64 0]) ?_ 0 _ rfl; (with_reducible repeat (first | refine blk_drewN ?_ _ | refine blk_drew ?_ | refine blk_alloc ?_ _)); refine blk_far ?_ NB117_116.out _; (with_reducible repeat (first | refine blk_drewN ?_ _ | refine blk_drew ?_ | refine blk_alloc ?_ _)); refine blk_far ?_ NB117_116.out _; (with_reducible repeat (first | refine blk_drewN ?_ _ | refine blk_drew ?_ | refine blk_alloc ?_ _)); exact BK117.out⟩
                    have n4_ : Aside0 (Below w.heap.size w ((((w23.setCell ⟨gb116, 0, none⟩ (.int .i64 a1_2)).setCell ⟨gb116, 1, none⟩ (.int .i64 ((rd_T58 l0 a1_0).f1))).setCell ⟨gb117, 0, none⟩ (.int .i64 (wrap64 (((rd_T58 l0 a1_0).f0) - a1_2)))).setCell ⟨gb117, 1, none⟩ (.int .i64 ((rd_T58 l0 a1_0).f1)))) := ⟨hx_ HB.out⟩
                    (try clear BK113)
                    (try clear BK115)
                    (try clear BK116)
                    (try clear BK117)
                    (try clear HB)
                    generalize ((((w23.setCell ⟨gb116, 0, none⟩ (.int .i64 a1_2)).setCell ⟨gb116, 1, none⟩ (.int .i64 ((rd_T58 l0 a1_0).f1))).setCell ⟨gb117, 0, none⟩ (.int .i64 (wrap64 (((rd_T58 l0 a1_0).f0) - a1_2)))).setCell ⟨gb117, 1, none⟩ (.int .i64 ((rd_T58 l0 a1_0).f1))) = w31 at n0_ n1_ n2_ n3_ n4_ ⊢
                    have BK113 := n0_
                    have BK115 := n1_
                    have BK116 := n2_
                    have BK117 := n3_
                    have HB := n4_
                    clear n0_ n1_ n2_ n3_ n4_
                    have n0_ := Aside0.mk (blk_drew BK113.out)
                    have n1_ := Aside0.mk (blk_drew BK115.out)
                    have n2_ := Aside0.mk (blk_drew BK116.out)
                    have n3_ := Aside0.mk (blk_drew BK117.out)
                    have n4_ := Aside0.mk (below_drew1 HB.out)
                    clear BK113
                    clear BK115
                    clear BK116
                    clear BK117
                    clear HB
                    have BK113 := n0_
                    have BK115 := n1_
                    have BK116 := n2_
                    have BK117 := n3_
                    have HB := n4_
                    clear n0_ n1_ n2_ n3_ n4_
                    refine start_ (n := 15) (S := fun w' => w'.cell? ⟨gb115, 0, none⟩ = some (.int .i64 ((rd_T58 l0 a1_0).f0)) ∧ w'.cell? ⟨gb115, 1, none⟩ = some (.int .i64 ((rd_T58 l0 a1_0).f1)) ∧ w'.cell? ⟨gb113, 0, none⟩ = some (.int .i64 a1_0) ∧ w'.cell? ⟨gb113, 1, none⟩ = some (.bool true) ∧ w'.cell? ⟨gb113, 2, none⟩ = some (.int .i64 a1_2)) (ds := []) #[false, false, false, false, false, false, false, false, false, false, false, false, false, false, false] (by kernel_rfl) rfl rfl ⟨(blk_cell BK115.out 0).trans rfl, (blk_cell BK115.out 1).trans rfl, (blk_cell BK113.out 0).trans rfl, (blk_cell BK113.out 1).trans rfl, (blk_cell BK113.out 2).trans rfl⟩ (fun hHeld => ?_); refine with_tabW spec_l09Cut.tab4 spec_l09Cut.bits4 (fun HT_ HW_ => ?_)
                    generalize w31.drew = w32 at BK113 BK115 BK116 BK117 HB hHeld ⊢
                    refine pure_ (i := 0) (N := some 28) (v := ?_) (a' := ?_) #[true, false, false, false, false, false, false, false, false, false, false, false, false, false, false] rfl rfl (any_of HT_.out (by kernel_rfl)) (fun _ _ _ h => h) (Or.inl ⟨by rfl, ?_⟩) ?_ ?_
                    rotate_left
                    · intro w'
                      go_simp
                      with_reducible rfl
                    rotate_left
                    · simp only [Act.put, List.setIfInBounds_toArray, List.set_cons_zero, List.set_cons_succ, i64_w, i32_w]
                      rfl
                    refine pure_ (i := 2) (N := some 30) (v := ?_) (a' := ?_) #[true, false, true, false, false, false, false, false, false, false, false, false, false, false, false] rfl rfl (any_of HT_.out (by kernel_rfl)) (fun _ _ _ h => h) (Or.inl ⟨by rfl, ?_⟩) ?_ ?_
                    rotate_left
                    · intro w'
                      go_simp
                      with_reducible rfl
                    rotate_left
                    · simp only [Act.put, List.setIfInBounds_toArray, List.set_cons_zero, List.set_cons_succ, i64_w, i32_w]
                      rfl
                    refine pure_ (i := 5) (N := some 33) (v := ?_) (a' := ?_) #[true, false, true, false, false, true, false, false, false, false, false, false, false, false, false] rfl rfl (any_of HT_.out (by kernel_rfl)) (fun _ _ _ h => h) (Or.inl ⟨by rfl, ?_⟩) ?_ ?_
                    rotate_left
                    · intro w'
                      go_simp
                      with_reducible rfl
                    rotate_left
                    · simp only [Act.put, List.setIfInBounds_toArray, List.set_cons_zero, List.set_cons_succ, i64_w, i32_w]
                      rfl
                    refine pure_ (i := 7) (N := some 35) (v := ?_) (a' := ?_) #[true, false, true, false, false, true, false, true, false, false, false, false, false, false, false] rfl rfl (any_of HT_.out (by kernel_rfl)) (fun _ _ _ h => h) (Or.inl ⟨by rfl, ?_⟩) ?_ ?_
                    rotate_left
                    · intro w'
                      go_simp
                      with_reducible rfl
                    rotate_left
                    · simp only [Act.put, List.setIfInBounds_toArray, List.set_cons_zero, List.set_cons_succ, i64_w, i32_w]
                      rfl
                    refine pure_ (i := 9) (N := some 37) (v := ?_) (a' := ?_) #[true, false, true, false, false, true, false, true, false, true, false, false, false, false, false] rfl rfl (any_of HT_.out (by kernel_rfl)) (fun _ _ _ h => h) (Or.inl ⟨by rfl, ?_⟩) ?_ ?_
                    rotate_left
                    · intro w'
                      go_simp
                      with_reducible rfl
                    rotate_left
                    · simp only [Act.put, List.setIfInBounds_toArray, List.set_cons_zero, List.set_cons_succ, i64_w, i32_w]
                      rfl
                    refine take_ (i := 1) (N := some 29) (v := ?_) (a' := ?_) #[true, true, true, false, false, true, false, true, false, true, false, false, false, false, false] rfl rfl (take_ofW HT_.out HW_.out (by kernel_rfl)) (fun _ _ _ h => h) (Or.inl ⟨by rfl, ?_⟩) hHeld ?_ ?_
                    rotate_left
                    · rintro w' ⟨s0, s1, s2, s3, s4⟩
                      go_simp
                      with_reducible rfl
                    rotate_left
                    · simp only [Act.put, List.setIfInBounds_toArray, List.set_cons_zero, List.set_cons_succ, i64_w, i32_w]
                      rfl
                    refine take_ (i := 3) (N := some 31) (v := ?_) (a' := ?_) #[true, true, true, true, false, true, false, true, false, true, false, false, false, false, false] rfl rfl (take_ofW HT_.out HW_.out (by kernel_rfl)) (fun _ _ _ h => h) (Or.inl ⟨by rfl, ?_⟩) hHeld ?_ ?_
                    rotate_left
                    · rintro w' ⟨s0, s1, s2, s3, s4⟩
                      go_simp
                      with_reducible rfl
                    rotate_left
                    · simp only [Act.put, List.setIfInBounds_toArray, List.set_cons_zero, List.set_cons_succ, i64_w, i32_w]
                      rfl
                    refine pure_ (i := 4) (N := some 32) (v := ?_) (a' := ?_) #[true, true, true, true, true, true, false, true, false, true, false, false, false, false, false] rfl rfl (any_of HT_.out (by kernel_rfl)) (fun _ _ _ h => h) (Or.inl ⟨by rfl, ?_⟩) ?_ ?_
                    rotate_left
                    · intro w'
                      go_simp
                      with_reducible rfl
                    rotate_left
                    · simp only [Act.put, List.setIfInBounds_toArray, List.set_cons_zero, List.set_cons_succ, i64_w, i32_w]
                      rfl
                    refine take_ (i := 6) (N := some 34) (v := ?_) (a' := ?_) #[true, true, true, true, true, true, true, true, false, true, false, false, false, false, false] rfl rfl (take_ofW HT_.out HW_.out (by kernel_rfl)) (fun _ _ _ h => h) (Or.inl ⟨by rfl, ?_⟩) hHeld ?_ ?_
                    rotate_left
                    · rintro w' ⟨s0, s1, s2, s3, s4⟩
                      go_simp
                      with_reducible rfl
                    rotate_left
                    · simp only [Act.put, List.setIfInBounds_toArray, List.set_cons_zero, List.set_cons_succ, i64_w, i32_w]
                      rfl
                    refine take_ (i := 8) (N := some 36) (v := ?_) (a' := ?_) #[true, true, true, true, true, true, true, true, true, true, false, false, false, false, false] rfl rfl (take_ofW HT_.out HW_.out (by kernel_rfl)) (fun _ _ _ h => h) (Or.inl ⟨by rfl, ?_⟩) hHeld ?_ ?_
                    rotate_left
                    · rintro w' ⟨s0, s1, s2, s3, s4⟩
                      go_simp
                      with_reducible rfl
                    rotate_left
                    · simp only [Act.put, List.setIfInBounds_toArray, List.set_cons_zero, List.set_cons_succ, i64_w, i32_w]
                      rfl
                    refine take_ (i := 10) (N := some 38) (v := ?_) (a' := ?_) #[true, true, true, true, true, true, true, true, true, true, true, false, false, false, false] rfl rfl (take_ofW HT_.out HW_.out (by kernel_rfl)) (fun _ _ _ h => h) (Or.inl ⟨by rfl, ?_⟩) hHeld ?_ ?_
                    rotate_left
                    · rintro w' ⟨s0, s1, s2, s3, s4⟩
                      go_simp
                      with_reducible rfl
                    rotate_left
                    · simp only [Act.put, List.setIfInBounds_toArray, List.set_cons_zero, List.set_cons_succ, i64_w, i32_w]
                      rfl
                    refine pure_ (i := 11) (N := some 39) (v := ?_) (a' := ?_) #[true, true, true, true, true, true, true, true, true, true, true, true, false, false, false] rfl rfl (any_of HT_.out (by kernel_rfl)) (fun _ _ _ h => h) (Or.inl ⟨by rfl, ?_⟩) ?_ ?_
                    rotate_left
                    · intro w'
                      go_simp
                      with_reducible rfl
                    rotate_left
                    · simp only [Act.put, List.setIfInBounds_toArray, List.set_cons_zero, List.set_cons_succ, i64_w, i32_w]
                      rfl
                    refine pure_ (i := 12) (N := some 40) (v := ?_) (a' := ?_) #[true, true, true, true, true, true, true, true, true, true, true, true, true, false, false] rfl rfl (any_of HT_.out (by kernel_rfl)) (fun _ _ _ h => h) (Or.inl ⟨by rfl, ?_⟩) ?_ ?_
                    rotate_left
                    · intro w'
                      go_simp
                      with_reducible rfl
                    rotate_left
                    · simp only [Act.put, List.setIfInBounds_toArray, List.set_cons_zero, List.set_cons_succ, i64_w, i32_w]
                      rfl
                    refine one_ (i := 13) (N := none) #[true, true, true, true, true, true, true, true, true, true, true, true, true, true, false] rfl rfl (one_of HT_.out (by kernel_rfl)) (by decide) (fun K hK => ?_)
                    have hs33 : w32.cell? ⟨gb116, 0, none⟩ = some (.int .i64 a1_2) := (blk_cell BK116.out 0).trans rfl
                    have hfs33 := blk_frozen BK116.out 0
                    have hns33_0 := NB113_116.out
                    have hns33_1 := NB115_116.out
                    have hns33_3 := NB117_116.out
                    have hms33_0 := NB116_113.out
                    have hms33_1 := NB116_115.out
                    have hms33_3 := NB116_117.out
                    have hs34 : w32.cell? ⟨gb116, 1, none⟩ = some (.int .i64 ((rd_T58 l0 a1_0).f1)) := (blk_cell BK116.out 1).trans rfl
                    have hfs34 := blk_frozen BK116.out 1
                    have hns34_0 := NB113_116.out
                    have hns34_1 := NB115_116.out
                    have hns34_3 := NB117_116.out
                    have hms34_0 := NB116_113.out
                    have hms34_1 := NB116_115.out
                    have hms34_3 := NB116_117.out
                    refine skip_ (w1 := ?_) (by rfl) rfl ?_ ?_
                    rotate_left
                    · go_simp
                      rfl
                    refine hK.out _ _ ⟨((cell_far (p := ⟨gb116, _, none⟩) NB115_116.out _).trans (((cell_far (p := ⟨gb116, _, none⟩) NB115_116.out _).trans (hHeld.1)))), ((cell_far (p := ⟨gb116, _, none⟩) NB115_116.out _).trans (((cell_far (p := ⟨gb116, _, none⟩) NB115_116.out _).trans (hHeld.2.1)))), ((cell_far (p := ⟨gb116, _, none⟩) NB113_116.out _).trans (((cell_far (p := ⟨gb116, _, none⟩) NB113_116.out _).trans (hHeld.2.2.1)))), ((cell_far (p := ⟨gb116, _, none⟩) NB113_116.out _).trans (((cell_far (p := ⟨gb116, _, none⟩) NB113_116.out _).trans (hHeld.2.2.2.1)))), ((cell_far (p := ⟨gb116, _, none⟩) NB113_116.out _).trans (((cell_far (p := ⟨gb116, _, none⟩) NB113_116.out _).trans (hHeld.2.2.2.2))))⟩ (fun hHeld => ?_)
                    clear hK K
                    refine one_ (i := 14) (N := none) #[true, true, true, true, true, true, true, true, true, true, true, true, true, true, true] rfl rfl (one_of HT_.out (by kernel_rfl)) (by decide) (fun K hK => ?_)
                    have hs35 : w32.cell? ⟨gb117, 0, none⟩ = some (.int .i64 (wrap64 (((rd_T58 l0 a1_0).f0) - a1_2))) := (blk_cell BK117.out 0).trans rfl
                    have hfs35 := blk_frozen BK117.out 0
                    have hns35_0 := NB113_117.out
                    have hns35_1 := NB115_117.out
                    have hns35_2 := NB116_117.out
                    have hms35_0 := NB117_113.out
                    have hms35_1 := NB117_115.out
                    have hms35_2 := NB117_116.out
                    have hs36 : w32.cell? ⟨gb117, 1, none⟩ = some (.int .i64 ((rd_T58 l0 a1_0).f1)) := (blk_cell BK117.out 1).trans rfl
                    have hfs36 := blk_frozen BK117.out 1
                    have hns36_0 := NB113_117.out
                    have hns36_1 := NB115_117.out
                    have hns36_2 := NB116_117.out
                    have hms36_0 := NB117_113.out
                    have hms36_1 := NB117_115.out
                    have hms36_2 := NB117_116.out
                    refine skip_ (w1 := ?_) (by rfl) rfl ?_ ?_
                    rotate_left
                    · go_simp
                      rfl
                    refine hK.out _ _ ⟨((cell_far (p := ⟨gb117, _, none⟩) NB115_117.out _).trans (((cell_far (p := ⟨gb117, _, none⟩) NB115_117.out _).trans (hHeld.1)))), ((cell_far (p := ⟨gb117, _, none⟩) NB115_117.out _).trans (((cell_far (p := ⟨gb117, _, none⟩) NB115_117.out _).trans (hHeld.2.1)))), ((cell_far (p := ⟨gb117, _, none⟩) NB113_117.out _).trans (((cell_far (p := ⟨gb117, _, none⟩) NB113_117.out _).trans (hHeld.2.2.1)))), ((cell_far (p := ⟨gb117, _, none⟩) NB113_117.out _).trans (((cell_far (p := ⟨gb117, _, none⟩) NB113_117.out _).trans (hHeld.2.2.2.1)))), ((cell_far (p := ⟨gb117, _, none⟩) NB113_117.out _).trans (((cell_far (p := ⟨gb117, _, none⟩) NB113_117.out _).trans (hHeld.2.2.2.2))))⟩ (fun hHeld => ?_)
                    clear hK K
                    refine done_ (done_of HT_.out (by kernel_rfl)) ?_
                    try go_wp2
                    have n0_ : Aside0 (((((w32.setCell ⟨gb116, 0, none⟩ (.int .i64 ((rd_T58 l0 a1_0).f0))).setCell ⟨gb116, 1, none⟩ (.int .i64 a1_2)).setCell ⟨gb117, 0, none⟩ (.int .i64 ((rd_T58 l0 a1_0).f0))).setCell ⟨gb117, 1, none⟩ (.int .i64 (wrap64 (((rd_T58 l0 a1_0).f1) - a1_2)))).heap[gb113]? = some (.cells #[.int .i64 a1_0, .bool true, .int .i64 a1_2] 48 (0, 0))) := ⟨bx_ BK113.out⟩
                    have n1_ : Aside0 (((((w32.setCell ⟨gb116, 0, none⟩ (.int .i64 ((rd_T58 l0 a1_0).f0))).setCell ⟨gb116, 1, none⟩ (.int .i64 a1_2)).setCell ⟨gb117, 0, none⟩ (.int .i64 ((rd_T58 l0 a1_0).f0))).setCell ⟨gb117, 1, none⟩ (.int .i64 (wrap64 (((rd_T58 l0 a1_0).f1) - a1_2)))).heap[gb115]? = some (.cells #[.int .i64 ((rd_T58 l0 a1_0).f0), .int .i64 ((rd_T58 l0 a1_0).f1)] 58 (0, 0))) := ⟨bx_ BK115.out⟩
                    have n2_ : Aside0 (((((w32.setCell ⟨gb116, 0, none⟩ (.int .i64 ((rd_T58 l0 a1_0).f0))).setCell ⟨gb116, 1, none⟩ (.int .i64 a1_2)).setCell ⟨gb117, 0, none⟩ (.int .i64 ((rd_T58 l0 a1_0).f0))).setCell ⟨gb117, 1, none⟩ (.int .i64 (wrap64 (((rd_T58 l0 a1_0).f1) - a1_2)))).heap[gb116]? = some (.cells #[.int .i64 ((rd_T58 l0 a1_0).f0), .int .i64 a1_2] 58 (0, 0))) := ⟨by (with_reducible repeat (first | refine blk_drewN ?_ _ | refine blk_drew ?_ | refine blk_alloc ?_ _)); refine blk_far ?_ NB116_117.out _; (with_reducible repeat (first | refine blk_drewN ?_ _ | refine blk_drew ?_ | refine blk_alloc ?_ _)); refine blk_far ?_ NB116_117.out _; (with_reducible repeat (first | refine blk_drewN ?_ _ | refine blk_drew ?_ | refine blk_alloc ?_ _)); refine blk_put (cs := #[.int .i64 ((rd_T58 l0 a1_0).f0), .int .i64 ((rd_T58 l0 a1_0).f1)]) ?_ 1 _ rfl; (with_reducible repeat (first | refine blk_drewN ?_ _ | refine blk_drew ?_ | refine blk_alloc ?_ _)); refine blk_put (cs := #[.int .i64 a1_2, .int .i64 ((rd_T58 l0 a1_0).f1)]) ?_ 0 _ rfl; (with_reducible repeat (first | refine blk_drewN ?_ _ | refine blk_drew ?_ | refine blk_alloc ?_ _)); exact BK116.out⟩
                    have n3_ : Aside0 (((((w32.setCell ⟨gb116, 0, none⟩ (.int .i64 ((rd_T58 l0 a1_0).f0))).setCell ⟨gb116, 1, none⟩ (.int .i64 a1_2)).setCell ⟨gb117, 0, none⟩ (.int .i64 ((rd_T58 l0 a1_0).f0))).setCell ⟨gb117, 1, none⟩ (.int .i64 (wrap64 (((rd_T58 l0 a1_0).f1) - a1_2)))).heap[gb117]? = some (.cells #[.int .i64 ((rd_T58 l0 a1_0).f0), .int .i64 (wrap64 (((rd_T58 l0 a1_0).f1) - a1_2))] 58 (0, 0))) := ⟨by (with_reducible repeat (first | refine blk_drewN ?_ _ | refine blk_drew ?_ | refine blk_alloc ?_ _)); refine blk_put (cs := #[.int .i64 ((rd_T58 l0 a1_0).f0), .int .i64 ((rd_T58 l0 a1_0).f1)]) ?_ 1 _ rfl; (with_reducible repeat (first | refine blk_drewN ?_ _ | refine blk_drew ?_ | refine blk_alloc ?_ _)); refine blk_put (cs := #[.int .i64 (wrap64 (((rd_T58 l0 a1_0).f0) - a1_2)), .int .i64 ((rd_T58 l0 a1_0).f1)]) ?_ 0 _ rfl; (with_reducible repeat (first | refine blk_drewN ?_ _ | refine blk_drew ?_ | refine blk_alloc ?_ _)); refine blk_far ?_ NB117_116.out _; (with_reducible repeat (first | refine blk_drewN ?_ _ | refine blk_drew ?_ | refine blk_alloc ?_ _)); refine blk_far ?_ NB117_116.out _; (with_reducible repeat (first | refine blk_drewN ?_ _ | refine blk_drew ?_ | refine blk_alloc ?_ _)); exact BK117.out⟩
                    have n4_ : Aside0 (Below w.heap.size w ((((w32.setCell ⟨gb116, 0, none⟩ (.int .i64 ((rd_T58 l0 a1_0).f0))).setCell ⟨gb116, 1, none⟩ (.int .i64 a1_2)).setCell ⟨gb117, 0, none⟩ (.int .i64 ((rd_T58 l0 a1_0).f0))).setCell ⟨gb117, 1, none⟩ (.int .i64 (wrap64 (((rd_T58 l0 a1_0).f1) - a1_2))))) := ⟨hx_ HB.out⟩
                    (try clear BK113)
                    (try clear BK115)
                    (try clear BK116)
                    (try clear BK117)
                    (try clear HB)
                    generalize ((((w32.setCell ⟨gb116, 0, none⟩ (.int .i64 ((rd_T58 l0 a1_0).f0))).setCell ⟨gb116, 1, none⟩ (.int .i64 a1_2)).setCell ⟨gb117, 0, none⟩ (.int .i64 ((rd_T58 l0 a1_0).f0))).setCell ⟨gb117, 1, none⟩ (.int .i64 (wrap64 (((rd_T58 l0 a1_0).f1) - a1_2)))) = w37 at n0_ n1_ n2_ n3_ n4_ ⊢
                    have BK113 := n0_
                    have BK115 := n1_
                    have BK116 := n2_
                    have BK117 := n3_
                    have HB := n4_
                    clear n0_ n1_ n2_ n3_ n4_
                    have n0_ := Aside0.mk (blk_drew BK113.out)
                    have n1_ := Aside0.mk (blk_drew BK115.out)
                    have n2_ := Aside0.mk (blk_drew BK116.out)
                    have n3_ := Aside0.mk (blk_drew BK117.out)
                    have n4_ := Aside0.mk (below_drew1 HB.out)
                    clear BK113
                    clear BK115
                    clear BK116
                    clear BK117
                    clear HB
                    have BK113 := n0_
                    have BK115 := n1_
                    have BK116 := n2_
                    have BK117 := n3_
                    have HB := n4_
                    clear n0_ n1_ n2_ n3_ n4_
                    have q39 : (a1_0 : Int) ≤ ((l0.length : Int) : Int) := of_decide_eq_true (by first | (with_reducible assumption) | assumption)
                    obtain ⟨i039, hi039, _, hsz39, _⟩ := info_parts info58
                    have hroom39 : l0.length ≤ c0 := HC0.out
                    have hC39 : Kd.C k58 _ (some ad114) l0.length l0 := HR0.out
                    have hcut39 := cut_to (P := Try.prog) 44 58 .i64 Try.underlying44 hi039 (some ad114) l0.length c0 a1_0 (of_decide_eq_true (by first | (with_reducible assumption) | assumption)) q39 hroom39
                    have hr39 := Kd.C_take (m := (a1_0 : Int).toNat) hC39 (by omega)
                    have hy39 : y121.length = (a1_0 : Int).toNat := (by rw [Ny121.out, List.length_take]; omega)
                    rw [← Ny121.out] at hr39
                    rw [← hy39] at hcut39
                    have HR124 := Aside0.mk hr39
                    have HC124 := Aside0.mk (show y121.length ≤ c0 from by omega)
                    clear hr39 hC39 hroom39 hi039 hsz39
                    have KY39 := Aside0.mk hy39
                    clear hy39
                    replace q39 := eq_true q39
                    have q40 : ((ji10) : Int) ≤ ((l0.length : Int) : Int) := of_decide_eq_true (by first | (with_reducible assumption) | assumption)
                    obtain ⟨i040, hi040, _, hsz40, _⟩ := info_parts info58
                    have hroom40 : l0.length ≤ c0 := HC0.out
                    have hC40 : Kd.C k58 _ (some ad114) l0.length l0 := HR0.out
                    have q040 : (0 : Int) ≤ ((ji10) : Int) := of_decide_eq_true (by first | (with_reducible assumption) | assumption)
                    have hcut40 := cut_from (P := Try.prog) 44 58 .i64 Try.underlying44 hi040 2 hsz40 (some ad114) l0.length c0 (ji10) q040 q40
                    have hr40 := Kd.C_drop (m := ((ji10) : Int).toNat) (c := c0) hC40 (by omega) hroom40
                    obtain ⟨A40, hA40⟩ : ∃ A1, A1 = (if c0 = ((ji10) : Int).toNat then (some ad114) else ((some ad114) : Option Addr).map (·.add (((ji10) : Int).toNat * 2))) := ⟨_, rfl⟩
                    obtain ⟨c40, hc40⟩ : ∃ c1, c1 = c0 - ((ji10) : Int).toNat := ⟨_, rfl⟩
                    have hy40 : y134.length = l0.length - ((ji10) : Int).toNat := (by rw [Ny134.out, List.length_drop] <;> omega)
                    rw [show (l0).drop ((ji10) : Int).toNat = y134 from Ny134.out.symm] at hr40
                    replace hr40 : Kd.C k58 _ A40 y134.length y134 := (by rw [hA40]; exact hr40)
                    rw [← hy40, ← hA40, ← hc40] at hcut40
                    have HR137 := Aside0.mk hr40
                    have HC137 := Aside0.mk (show y134.length ≤ c40 from by rw [hy40, hc40]; exact Nat.sub_le_sub_right hroom40 _)
                    clear hr40 hC40 hroom40 hi040 hsz40 hc40
                    have KY40 := Aside0.mk hy40
                    have KA40 := Aside0.mk hA40
                    clear hy40 hA40
                    replace q40 := eq_true q40
                    refine start_ (n := 17) (S := fun w' => w'.cell? ⟨gb113, 0, none⟩ = some (.int .i64 a1_0) ∧ w'.cell? ⟨gb113, 1, none⟩ = some (.bool true) ∧ w'.cell? ⟨gb113, 2, none⟩ = some (.int .i64 a1_2) ∧ w'.cell? ⟨gb116, 0, none⟩ = some (.int .i64 ((rd_T58 l0 a1_0).f0)) ∧ w'.cell? ⟨gb116, 1, none⟩ = some (.int .i64 a1_2) ∧ w'.cell? ⟨gb117, 0, none⟩ = some (.int .i64 ((rd_T58 l0 a1_0).f0)) ∧ w'.cell? ⟨gb117, 1, none⟩ = some (.int .i64 (wrap64 (((rd_T58 l0 a1_0).f1) - a1_2)))) (ds := []) #[false, false, false, false, false, false, false, false, false, false, false, false, false, false, false, false, false] (by kernel_rfl) rfl rfl ⟨(blk_cell BK113.out 0).trans rfl, (blk_cell BK113.out 1).trans rfl, (blk_cell BK113.out 2).trans rfl, (blk_cell BK116.out 0).trans rfl, (blk_cell BK116.out 1).trans rfl, (blk_cell BK117.out 0).trans rfl, (blk_cell BK117.out 1).trans rfl⟩ (fun hHeld => ?_); refine with_tabW spec_l09Cut.tab5 spec_l09Cut.bits5 (fun HT_ HW_ => ?_)
                    generalize w37.drew = w38 at BK113 BK115 BK116 BK117 HB HR124 HR137 hHeld ⊢
                    refine pure_ (i := 1) (N := some 42) (v := ?_) (a' := ?_) #[false, true, false, false, false, false, false, false, false, false, false, false, false, false, false, false, false] rfl rfl (any_of HT_.out (by kernel_rfl)) (fun _ _ _ h => h) (Or.inl ⟨by rfl, ?_⟩) ?_ ?_
                    rotate_left
                    · intro w'
                      go_simp
                      with_reducible rfl
                    rotate_left
                    · simp only [Act.put, List.setIfInBounds_toArray, List.set_cons_zero, List.set_cons_succ, i64_w, i32_w]
                      rfl
                    refine pure_ (i := 2) (N := some 43) (v := ?_) (a' := ?_) #[false, true, true, false, false, false, false, false, false, false, false, false, false, false, false, false, false] rfl rfl (any_of HT_.out (by kernel_rfl)) (fun _ _ _ h => h) (Or.inl ⟨by rfl, ?_⟩) ?_ ?_
                    rotate_left
                    · intro w'
                      go_simp
                      with_reducible rfl
                    rotate_left
                    · simp only [Act.put, List.setIfInBounds_toArray, List.set_cons_zero, List.set_cons_succ, i64_w, i32_w]
                      rfl
                    refine pure_ (i := 10) (N := some 51) (v := ?_) (a' := ?_) #[false, true, true, false, false, false, false, false, false, false, true, false, false, false, false, false, false] rfl rfl (any_of HT_.out (by kernel_rfl)) (fun _ _ _ h => h) (Or.inl ⟨by rfl, ?_⟩) ?_ ?_
                    rotate_left
                    · intro w'
                      go_simp
                      with_reducible rfl
                    rotate_left
                    · simp only [Act.put, List.setIfInBounds_toArray, List.set_cons_zero, List.set_cons_succ, i64_w, i32_w]
                      rfl
                    refine pure_ (i := 11) (N := some 52) (v := ?_) (a' := ?_) #[false, true, true, false, false, false, false, false, false, false, true, true, false, false, false, false, false] rfl rfl (any_of HT_.out (by kernel_rfl)) (fun _ _ _ h => h) (Or.inl ⟨by rfl, ?_⟩) ?_ ?_
                    rotate_left
                    · intro w'
                      go_simp
                      with_reducible rfl
                    rotate_left
                    · simp only [Act.put, List.setIfInBounds_toArray, List.set_cons_zero, List.set_cons_succ, i64_w, i32_w]
                      rfl
                    refine take_ (i := 3) (N := some 44) (v := ?_) (a' := ?_) #[false, true, true, true, false, false, false, false, false, false, true, true, false, false, false, false, false] rfl rfl (take_ofW HT_.out HW_.out (by kernel_rfl)) (fun _ _ _ h => h) (Or.inl ⟨by rfl, ?_⟩) hHeld ?_ ?_
                    rotate_left
                    · rintro w' ⟨s0, s1, s2, s3, s4, s5, s6⟩
                      go_simp
                      with_reducible rfl
                    rotate_left
                    · simp only [Act.put, List.setIfInBounds_toArray, List.set_cons_zero, List.set_cons_succ, i64_w, i32_w]
                      rfl
                    refine pure_ (i := 4) (N := some 45) (v := ?_) (a' := ?_) #[false, true, true, true, true, false, false, false, false, false, true, true, false, false, false, false, false] rfl rfl (any_of HT_.out (by kernel_rfl)) (fun _ _ _ h => h) (Or.inl ⟨by rfl, ?_⟩) ?_ ?_
                    rotate_left
                    · intro w'
                      go_simp
                      with_reducible rfl
                    rotate_left
                    · simp only [Act.put, List.setIfInBounds_toArray, List.set_cons_zero, List.set_cons_succ, i64_w, i32_w]
                      rfl
                    refine take_ (i := 6) (N := some 47) (v := ?_) (a' := ?_) #[false, true, true, true, true, false, true, false, false, false, true, true, false, false, false, false, false] rfl rfl (take_ofW HT_.out HW_.out (by kernel_rfl)) (fun _ _ _ h => h) (Or.inl ⟨by rfl, ?_⟩) hHeld ?_ ?_
                    rotate_left
                    · rintro w' ⟨s0, s1, s2, s3, s4, s5, s6⟩
                      go_simp
                      with_reducible rfl
                    rotate_left
                    · simp only [Act.put, List.setIfInBounds_toArray, List.set_cons_zero, List.set_cons_succ, i64_w, i32_w]
                      rfl
                    refine take_ (i := 7) (N := some 48) (v := ?_) (a' := ?_) #[false, true, true, true, true, false, true, true, false, false, true, true, false, false, false, false, false] rfl rfl (take_ofW HT_.out HW_.out (by kernel_rfl)) (fun _ _ _ h => h) (Or.inl ⟨by rfl, ?_⟩) hHeld ?_ ?_
                    rotate_left
                    · rintro w' ⟨s0, s1, s2, s3, s4, s5, s6⟩
                      go_simp
                      with_reducible rfl
                    rotate_left
                    · simp only [Act.put, List.setIfInBounds_toArray, List.set_cons_zero, List.set_cons_succ, i64_w, i32_w]
                      rfl
                    refine take_ (i := 12) (N := some 53) (v := ?_) (a' := ?_) #[false, true, true, true, true, false, true, true, false, false, true, true, true, false, false, false, false] rfl rfl (take_ofW HT_.out HW_.out (by kernel_rfl)) (fun _ _ _ h => h) (Or.inl ⟨by rfl, ?_⟩) hHeld ?_ ?_
                    rotate_left
                    · rintro w' ⟨s0, s1, s2, s3, s4, s5, s6⟩
                      go_simp
                      with_reducible rfl
                    rotate_left
                    · simp only [Act.put, List.setIfInBounds_toArray, List.set_cons_zero, List.set_cons_succ, i64_w, i32_w]
                      rfl
                    refine pure_ (i := 13) (N := some 54) (v := ?_) (a' := ?_) #[false, true, true, true, true, false, true, true, false, false, true, true, true, true, false, false, false] rfl rfl (any_of HT_.out (by kernel_rfl)) (fun _ _ _ h => h) (Or.inl ⟨by rfl, ?_⟩) ?_ ?_
                    rotate_left
                    · intro w'
                      go_simp
                      with_reducible rfl
                    rotate_left
                    · simp only [Act.put, List.setIfInBounds_toArray, List.set_cons_zero, List.set_cons_succ, i64_w, i32_w]
                      rfl
                    refine pure_ (i := 14) (N := some 55) (v := ?_) (a' := ?_) #[false, true, true, true, true, false, true, true, false, false, true, true, true, true, true, false, false] rfl rfl (any_of HT_.out (by kernel_rfl)) (fun _ _ _ h => h) (Or.inl ⟨by rfl, ?_⟩) ?_ ?_
                    rotate_left
                    · intro w'
                      go_simp
                      with_reducible rfl
                    rotate_left
                    · simp only [Act.put, List.setIfInBounds_toArray, List.set_cons_zero, List.set_cons_succ, i64_w, i32_w]
                      rfl
                    refine join_ (σ := Value × Value × Value) 3 #[true, true, true, true, true, true, true, true, true, false, true, true, true, true, true, false, false] (fun s_ => [(41, s_.1), (46, s_.2.1), (49, s_.2.2)]) (fun s_ w' => (w'.cell? ⟨gb113, 0, none⟩ = some (.int .i64 a1_0) ∧ w'.cell? ⟨gb113, 1, none⟩ = some (.bool true) ∧ w'.cell? ⟨gb113, 2, none⟩ = some (.int .i64 a1_2) ∧ w'.cell? ⟨gb116, 0, none⟩ = some (.int .i64 ((rd_T58 l0 a1_0).f0)) ∧ w'.cell? ⟨gb116, 1, none⟩ = some (.int .i64 a1_2) ∧ w'.cell? ⟨gb117, 0, none⟩ = some (.int .i64 ((rd_T58 l0 a1_0).f0)) ∧ w'.cell? ⟨gb117, 1, none⟩ = some (.int .i64 (wrap64 (((rd_T58 l0 a1_0).f1) - a1_2)))) ∧ (Kd.R k58 58 w' w.heap.size (fun k_ => some k_ ≠ (s_.2.2 : Value).ownBlock ∧ k_ ≠ gb115 ∧ k_ ≠ gb116 ∧ k_ ≠ gb117) s_.2.1 y125) ∧ (Kd.R k58 58 w' w.heap.size (fun k_ => some k_ ≠ (s_.2.1 : Value).ownBlock ∧ k_ ≠ gb115 ∧ k_ ≠ gb116 ∧ k_ ≠ gb117) s_.2.2 y128) ∧ (w'.heap[gb113]? = some (.cells #[.int .i64 a1_0, .bool true, .int .i64 a1_2] 48 (0, 0))) ∧ (w'.heap[gb115]? = some (.cells #[.int .i64 ((rd_T58 l0 a1_0).f0), .int .i64 ((rd_T58 l0 a1_0).f1)] 58 (0, 0))) ∧ (w'.heap[gb116]? = some (.cells #[.int .i64 ((rd_T58 l0 a1_0).f0), .int .i64 a1_2] 58 (0, 0))) ∧ (w'.heap[gb117]? = some (.cells #[.int .i64 ((rd_T58 l0 a1_0).f0), .int .i64 (wrap64 (((rd_T58 l0 a1_0).f1) - a1_2))] 58 (0, 0))) ∧ (Below w.heap.size w w')) ?_ ?_
                    rotate_left
                    · intro hCont
                      refine two_ (i := 0) (j := 8) (Ni := some 41) (Nj := some 49) #[true, true, true, true, true, false, true, true, false, false, true, true, true, true, true, false, false] #[false, true, true, true, true, false, true, true, true, false, true, true, true, true, true, false, false] rfl rfl rfl rfl (two_of HT_.out (by kernel_rfl)) (by decide) (by decide) (fun K hK => ?_) (fun K hK => ?_)
                      · skip
                        refine Kd.R_lit_step k58 _ 58 ?hg (N := 41) ?hd (xs := ([] : List (S58))) (inner := []) (ok := fun _ => True) (okp := fun _ => True) ?hr ?hp (fun _ hk => hk) trivial (Below.refl _ _) (Nat.le_refl _) (by simp) ?_; (case hd => rfl); (case hg => rfl); (case hr => first | (go_simp; done) | (go_simp; rfl)); (case hp => exact (Reps.none _ _))
                        intro v119 w41 ho42 hb hg_ hnew_
                        clear hg_ hnew_
                        (first | rw [← Ny118.out] at ho42 | (simp only [Int.reduceToNat] at ho42; rw [← Ny118.out] at ho42))
                        have n0_ := Aside0.mk (Kd.R_lower (Kd.R_newB (Kd.R_newB (Kd.R_newB ho42 (g := gb115) (o := .cells #[.int .i64 ((rd_T58 l0 a1_0).f0), .int .i64 ((rd_T58 l0 a1_0).f1)] 58 (0, 0)) (bx_ BK115.out)) (g := gb116) (o := .cells #[.int .i64 ((rd_T58 l0 a1_0).f0), .int .i64 a1_2] 58 (0, 0)) (bx_ BK116.out)) (g := gb117) (o := .cells #[.int .i64 ((rd_T58 l0 a1_0).f0), .int .i64 (wrap64 (((rd_T58 l0 a1_0).f1) - a1_2))] 58 (0, 0)) (bx_ BK117.out)) (below_size (hx_ HB.out)))
                        have n1_ := Aside0.mk (blk_below (g := gb113) (o := .cells #[.int .i64 a1_0, .bool true, .int .i64 a1_2] 48 (0, 0)) (bx_ BK113.out) hb)
                        have n2_ := Aside0.mk (blk_below (g := gb115) (o := .cells #[.int .i64 ((rd_T58 l0 a1_0).f0), .int .i64 ((rd_T58 l0 a1_0).f1)] 58 (0, 0)) (bx_ BK115.out) hb)
                        have n3_ := Aside0.mk (blk_below (g := gb116) (o := .cells #[.int .i64 ((rd_T58 l0 a1_0).f0), .int .i64 a1_2] 58 (0, 0)) (bx_ BK116.out) hb)
                        have n4_ := Aside0.mk (blk_below (g := gb117) (o := .cells #[.int .i64 ((rd_T58 l0 a1_0).f0), .int .i64 (wrap64 (((rd_T58 l0 a1_0).f1) - a1_2))] 58 (0, 0)) (bx_ BK117.out) hb)
                        have n5_ := Aside0.mk (below_step (hx_ HB.out) hb)
                        clear BK113
                        clear BK115
                        clear BK116
                        clear BK117
                        clear HB
                        have HO120 := n0_
                        have BK113 := n1_
                        have BK115 := n2_
                        have BK116 := n3_
                        have BK117 := n4_
                        have HB := n5_
                        clear n0_ n1_ n2_ n3_ n4_ n5_
                        clear hb ho42
                        refine hK.out _ _ ⟨(blk_cell BK113.out 0).trans rfl, (blk_cell BK113.out 1).trans rfl, (blk_cell BK113.out 2).trans rfl, (blk_cell BK116.out 0).trans rfl, (blk_cell BK116.out 1).trans rfl, (blk_cell BK117.out 0).trans rfl, (blk_cell BK117.out 1).trans rfl⟩ (fun hHeld => ?_)
                        clear hK K
                        refine norm_ (a' := ?_) ?_ ?_
                        rotate_left
                        · show Act.put _ (some 41) _ = _
                          simp only [Act.put, List.setIfInBounds_toArray, List.set_cons_zero, List.set_cons_succ, i64_w, i32_w]
                          rfl
                        refine two_ (i := 5) (j := 8) (Ni := some 46) (Nj := some 49) #[true, true, true, true, true, true, true, true, false, false, true, true, true, true, true, false, false] #[true, true, true, true, true, false, true, true, true, false, true, true, true, true, true, false, false] rfl rfl rfl rfl (two_of HT_.out (by kernel_rfl)) (by decide) (by decide) (fun K hK => ?_) (fun K hK => ?_)
                        · skip
                          refine Kd.R_append_rows_step k58 (w0 := w) w.heap.size (by rfl) (.tmp 41) (.tmp 45) 44 58 (.agg #[(.int .i64 0), (.int .i64 0)]) 16 rfl Try.underlying44 info58 rfl (by decide) (by omega) v119 y118 y121 _ _ _ (fun k_ => k_ ≠ gb115 ∧ k_ ≠ gb116 ∧ k_ ≠ gb117) (fun _ => False) rfl rfl ?aO ?aR (fun _ _ h => h) (fun _ h => h.elim) ?aF ?aB ?aS ?aL ?_
                          (case aR => repeat (first | exact (Kd.C_below HR124.out HB.out) | (with_reducible refine Kd.C_alloc ?_ _) | (with_reducible refine Kd.C_drewN ?_ _) | (with_reducible refine Kd.C_drew ?_)))
                          (case aB => exact (hx_ HB.out))
                          (case aF => exact (fun k_ hk => ⟨Kd.freshB (g := gb115) (o := .cells #[.int .i64 ((rd_T58 l0 a1_0).f0), .int .i64 ((rd_T58 l0 a1_0).f1)] 58 (0, 0)) (bx_ BK115.out) k_ hk, Kd.freshB (g := gb116) (o := .cells #[.int .i64 ((rd_T58 l0 a1_0).f0), .int .i64 a1_2] 58 (0, 0)) (bx_ BK116.out) k_ hk, Kd.freshB (g := gb117) (o := .cells #[.int .i64 ((rd_T58 l0 a1_0).f0), .int .i64 (wrap64 (((rd_T58 l0 a1_0).f1) - a1_2))] 58 (0, 0)) (bx_ BK117.out) k_ hk⟩))
                          (case aO => exact (by (with_reducible repeat (first | apply Kd.R_alloc | apply Kd.R_drewN | apply Kd.R_drew)); exact Kd.R_mono HO120.out (fun _ hk => ⟨hk.1.1.2, ⟨hk.1.2, hk.2⟩⟩)))
                          (case aS => exact (below_size (hx_ HB.out)))
                          (case aL => have := LMc8.out; omega)
                          intro v126 w43 ho hb hg hat
                          rw [← Ny125.out] at ho
                          have n0_ := Aside0.mk (blk_grown (g := gb113) (o := .cells #[.int .i64 a1_0, .bool true, .int .i64 a1_2] 48 (0, 0)) (bx_ BK113.out) hg (Kd.R_ne HO120.out BK113.out (by decide)))
                          have n1_ := Aside0.mk (blk_grown (g := gb115) (o := .cells #[.int .i64 ((rd_T58 l0 a1_0).f0), .int .i64 ((rd_T58 l0 a1_0).f1)] 58 (0, 0)) (bx_ BK115.out) hg (Kd.R_away HO120.out (fun _ hk => hk.1.1.2)))
                          have n2_ := Aside0.mk (blk_grown (g := gb116) (o := .cells #[.int .i64 ((rd_T58 l0 a1_0).f0), .int .i64 a1_2] 58 (0, 0)) (bx_ BK116.out) hg (Kd.R_away HO120.out (fun _ hk => hk.1.2)))
                          have n3_ := Aside0.mk (blk_grown (g := gb117) (o := .cells #[.int .i64 ((rd_T58 l0 a1_0).f0), .int .i64 (wrap64 (((rd_T58 l0 a1_0).f1) - a1_2))] 58 (0, 0)) (bx_ BK117.out) hg (Kd.R_away HO120.out (fun _ hk => hk.2)))
                          have n4_ := Aside0.mk (hb)
                          have n5_ := Aside0.mk (ho)
                          clear BK113
                          clear BK115
                          clear BK116
                          clear BK117
                          clear HB
                          clear HO120
                          have BK113 := n0_
                          have BK115 := n1_
                          have BK116 := n2_
                          have BK117 := n3_
                          have HB := n4_
                          have HO127 := n5_
                          clear n0_ n1_ n2_ n3_ n4_ n5_
                          clear ho hb hg hat
                          refine hK.out _ _ ⟨(blk_cell BK113.out 0).trans rfl, (blk_cell BK113.out 1).trans rfl, (blk_cell BK113.out 2).trans rfl, (blk_cell BK116.out 0).trans rfl, (blk_cell BK116.out 1).trans rfl, (blk_cell BK117.out 0).trans rfl, (blk_cell BK117.out 1).trans rfl⟩ (fun hHeld => ?_)
                          clear hK K
                          refine norm_ (a' := ?_) ?_ ?_
                          rotate_left
                          · show Act.put _ (some 46) _ = _
                            simp only [Act.put, List.setIfInBounds_toArray, List.set_cons_zero, List.set_cons_succ, i64_w, i32_w]
                            rfl
                          refine one_ (i := 8) (N := some 49) #[true, true, true, true, true, true, true, true, true, false, true, true, true, true, true, false, false] rfl rfl (one_of HT_.out (by kernel_rfl)) (by decide) (fun K hK => ?_)
                          refine Kd.R_lit_step k58 _ 58 ?hg (N := 49) ?hd (xs := ([(⟨(rd_T58 l0 a1_0).f0, a1_2⟩ : S58), (⟨(rd_T58 l0 a1_0).f0, wrap64 (((rd_T58 l0 a1_0).f1) - a1_2)⟩ : S58)] : List (S58))) (inner := [.int .i64 ((rd_T58 l0 a1_0).f0), .int .i64 a1_2, .int .i64 ((rd_T58 l0 a1_0).f0), .int .i64 (wrap64 (((rd_T58 l0 a1_0).f1) - a1_2))]) (ok := fun _ => True) (okp := fun _ => True) ?hr ?hp (fun _ hk => hk) trivial (Below.refl _ _) (Nat.le_refl _) (by simp) ?_; (case hd => rfl); (case hg => rfl); (case hr => first | (go_simp; done) | (go_simp; rfl)); (case hp => exact (Reps.c2 (show Kd.M k58 _ _ _ (⟨(rd_T58 l0 a1_0).f0, a1_2⟩ : S58) [.int .i64 ((rd_T58 l0 a1_0).f0), .int .i64 a1_2] from (k58_mkM _ _ _ (⟨(rd_T58 l0 a1_0).f0, a1_2⟩ : S58) )) (Reps.c2 (show Kd.M k58 _ _ _ (⟨(rd_T58 l0 a1_0).f0, wrap64 (((rd_T58 l0 a1_0).f1) - a1_2)⟩ : S58) [.int .i64 ((rd_T58 l0 a1_0).f0), .int .i64 (wrap64 (((rd_T58 l0 a1_0).f1) - a1_2))] from (k58_mkM _ _ _ (⟨(rd_T58 l0 a1_0).f0, wrap64 (((rd_T58 l0 a1_0).f1) - a1_2)⟩ : S58) )) (Reps.none _ _))))
                          intro v129 w44 ho45 hb hg_ hnew_
                          clear hg_ hnew_
                          (first | rw [← Ny128.out] at ho45 | (simp only [Int.reduceToNat] at ho45; rw [← Ny128.out] at ho45))
                          have n0_ := Aside0.mk (Kd.R_elder' (rx_ HO127.out) (Kd.R_base ho45) hb)
                          have n1_ := Aside0.mk (Kd.R_lower (Kd.R_newB (Kd.R_newB (Kd.R_newB (Kd.R_new' ho45 (Kd.R_lt (rx_ HO127.out))) (g := gb115) (o := .cells #[.int .i64 ((rd_T58 l0 a1_0).f0), .int .i64 ((rd_T58 l0 a1_0).f1)] 58 (0, 0)) (bx_ BK115.out)) (g := gb116) (o := .cells #[.int .i64 ((rd_T58 l0 a1_0).f0), .int .i64 a1_2] 58 (0, 0)) (bx_ BK116.out)) (g := gb117) (o := .cells #[.int .i64 ((rd_T58 l0 a1_0).f0), .int .i64 (wrap64 (((rd_T58 l0 a1_0).f1) - a1_2))] 58 (0, 0)) (bx_ BK117.out)) (below_size (hx_ HB.out)))
                          have n2_ := Aside0.mk (blk_below (g := gb113) (o := .cells #[.int .i64 a1_0, .bool true, .int .i64 a1_2] 48 (0, 0)) (bx_ BK113.out) hb)
                          have n3_ := Aside0.mk (blk_below (g := gb115) (o := .cells #[.int .i64 ((rd_T58 l0 a1_0).f0), .int .i64 ((rd_T58 l0 a1_0).f1)] 58 (0, 0)) (bx_ BK115.out) hb)
                          have n4_ := Aside0.mk (blk_below (g := gb116) (o := .cells #[.int .i64 ((rd_T58 l0 a1_0).f0), .int .i64 a1_2] 58 (0, 0)) (bx_ BK116.out) hb)
                          have n5_ := Aside0.mk (blk_below (g := gb117) (o := .cells #[.int .i64 ((rd_T58 l0 a1_0).f0), .int .i64 (wrap64 (((rd_T58 l0 a1_0).f1) - a1_2))] 58 (0, 0)) (bx_ BK117.out) hb)
                          have n6_ := Aside0.mk (below_step (hx_ HB.out) hb)
                          clear HO127
                          clear BK113
                          clear BK115
                          clear BK116
                          clear BK117
                          clear HB
                          have HO127 := n0_
                          have HO130 := n1_
                          have BK113 := n2_
                          have BK115 := n3_
                          have BK116 := n4_
                          have BK117 := n5_
                          have HB := n6_
                          clear n0_ n1_ n2_ n3_ n4_ n5_ n6_
                          clear hb ho45
                          refine hK.out _ _ ⟨(blk_cell BK113.out 0).trans rfl, (blk_cell BK113.out 1).trans rfl, (blk_cell BK113.out 2).trans rfl, (blk_cell BK116.out 0).trans rfl, (blk_cell BK116.out 1).trans rfl, (blk_cell BK117.out 0).trans rfl, (blk_cell BK117.out 1).trans rfl⟩ (fun hHeld => ?_)
                          clear hK K
                          refine norm_ (a' := ?_) ?_ ?_
                          rotate_left
                          · show Act.put _ (some 49) _ = _
                            simp only [Act.put, List.setIfInBounds_toArray, List.set_cons_zero, List.set_cons_succ, i64_w, i32_w]
                            rfl
                          exact norm_ (by simp only [putAll, Act.put, List.setIfInBounds_toArray, List.set_cons_zero, List.set_cons_succ]) (hCont (v119, v126, v129) _ ⟨hHeld, (by (with_reducible repeat (first | apply Kd.R_alloc | apply Kd.R_drewN | apply Kd.R_drew)); exact Kd.R_mono HO127.out (fun _ hk => ⟨hk.2, ⟨hk.1.1, ⟨hk.1.2.1, hk.1.2.2⟩⟩⟩)), (by (with_reducible repeat (first | apply Kd.R_alloc | apply Kd.R_drewN | apply Kd.R_drew)); exact Kd.R_mono HO130.out (fun _ hk => ⟨hk.1.1.1.2, ⟨hk.1.1.2, ⟨hk.1.2, hk.2⟩⟩⟩)), (bx_ BK113.out), (bx_ BK115.out), (bx_ BK116.out), (bx_ BK117.out), (hx_ HB.out)⟩)
                        · skip
                          refine Kd.R_lit_step k58 _ 58 ?hg (N := 49) ?hd (xs := ([(⟨(rd_T58 l0 a1_0).f0, a1_2⟩ : S58), (⟨(rd_T58 l0 a1_0).f0, wrap64 (((rd_T58 l0 a1_0).f1) - a1_2)⟩ : S58)] : List (S58))) (inner := [.int .i64 ((rd_T58 l0 a1_0).f0), .int .i64 a1_2, .int .i64 ((rd_T58 l0 a1_0).f0), .int .i64 (wrap64 (((rd_T58 l0 a1_0).f1) - a1_2))]) (ok := fun _ => True) (okp := fun _ => True) ?hr ?hp (fun _ hk => hk) trivial (Below.refl _ _) (Nat.le_refl _) (by simp) ?_; (case hd => rfl); (case hg => rfl); (case hr => first | (go_simp; done) | (go_simp; rfl)); (case hp => exact (Reps.c2 (show Kd.M k58 _ _ _ (⟨(rd_T58 l0 a1_0).f0, a1_2⟩ : S58) [.int .i64 ((rd_T58 l0 a1_0).f0), .int .i64 a1_2] from (k58_mkM _ _ _ (⟨(rd_T58 l0 a1_0).f0, a1_2⟩ : S58) )) (Reps.c2 (show Kd.M k58 _ _ _ (⟨(rd_T58 l0 a1_0).f0, wrap64 (((rd_T58 l0 a1_0).f1) - a1_2)⟩ : S58) [.int .i64 ((rd_T58 l0 a1_0).f0), .int .i64 (wrap64 (((rd_T58 l0 a1_0).f1) - a1_2))] from (k58_mkM _ _ _ (⟨(rd_T58 l0 a1_0).f0, wrap64 (((rd_T58 l0 a1_0).f1) - a1_2)⟩ : S58) )) (Reps.none _ _))))
                          intro v129 w43 ho44 hb hg_ hnew_
                          clear hg_ hnew_
                          (first | rw [← Ny128.out] at ho44 | (simp only [Int.reduceToNat] at ho44; rw [← Ny128.out] at ho44))
                          have n0_ := Aside0.mk (Kd.R_elder' (rx_ HO120.out) (Kd.R_base ho44) hb)
                          have n1_ := Aside0.mk (Kd.R_lower (Kd.R_newB (Kd.R_newB (Kd.R_newB (Kd.R_new' ho44 (Kd.R_lt (rx_ HO120.out))) (g := gb115) (o := .cells #[.int .i64 ((rd_T58 l0 a1_0).f0), .int .i64 ((rd_T58 l0 a1_0).f1)] 58 (0, 0)) (bx_ BK115.out)) (g := gb116) (o := .cells #[.int .i64 ((rd_T58 l0 a1_0).f0), .int .i64 a1_2] 58 (0, 0)) (bx_ BK116.out)) (g := gb117) (o := .cells #[.int .i64 ((rd_T58 l0 a1_0).f0), .int .i64 (wrap64 (((rd_T58 l0 a1_0).f1) - a1_2))] 58 (0, 0)) (bx_ BK117.out)) (below_size (hx_ HB.out)))
                          have n2_ := Aside0.mk (blk_below (g := gb113) (o := .cells #[.int .i64 a1_0, .bool true, .int .i64 a1_2] 48 (0, 0)) (bx_ BK113.out) hb)
                          have n3_ := Aside0.mk (blk_below (g := gb115) (o := .cells #[.int .i64 ((rd_T58 l0 a1_0).f0), .int .i64 ((rd_T58 l0 a1_0).f1)] 58 (0, 0)) (bx_ BK115.out) hb)
                          have n4_ := Aside0.mk (blk_below (g := gb116) (o := .cells #[.int .i64 ((rd_T58 l0 a1_0).f0), .int .i64 a1_2] 58 (0, 0)) (bx_ BK116.out) hb)
                          have n5_ := Aside0.mk (blk_below (g := gb117) (o := .cells #[.int .i64 ((rd_T58 l0 a1_0).f0), .int .i64 (wrap64 (((rd_T58 l0 a1_0).f1) - a1_2))] 58 (0, 0)) (bx_ BK117.out) hb)
                          have n6_ := Aside0.mk (below_step (hx_ HB.out) hb)
                          clear HO120
                          clear BK113
                          clear BK115
                          clear BK116
                          clear BK117
                          clear HB
                          have HO120 := n0_
                          have HO130 := n1_
                          have BK113 := n2_
                          have BK115 := n3_
                          have BK116 := n4_
                          have BK117 := n5_
                          have HB := n6_
                          clear n0_ n1_ n2_ n3_ n4_ n5_ n6_
                          clear hb ho44
                          refine hK.out _ _ ⟨(blk_cell BK113.out 0).trans rfl, (blk_cell BK113.out 1).trans rfl, (blk_cell BK113.out 2).trans rfl, (blk_cell BK116.out 0).trans rfl, (blk_cell BK116.out 1).trans rfl, (blk_cell BK117.out 0).trans rfl, (blk_cell BK117.out 1).trans rfl⟩ (fun hHeld => ?_)
                          clear hK K
                          refine norm_ (a' := ?_) ?_ ?_
                          rotate_left
                          · show Act.put _ (some 49) _ = _
                            simp only [Act.put, List.setIfInBounds_toArray, List.set_cons_zero, List.set_cons_succ, i64_w, i32_w]
                            rfl
                          refine one_ (i := 5) (N := some 46) #[true, true, true, true, true, true, true, true, true, false, true, true, true, true, true, false, false] rfl rfl (one_of HT_.out (by kernel_rfl)) (by decide) (fun K hK => ?_)
                          refine Kd.R_append_rows_step k58 (w0 := w) w.heap.size (by rfl) (.tmp 41) (.tmp 45) 44 58 (.agg #[(.int .i64 0), (.int .i64 0)]) 16 rfl Try.underlying44 info58 rfl (by decide) (by omega) v119 y118 y121 _ _ _ (fun k_ => some k_ ≠ (v129 : Value).ownBlock ∧ k_ ≠ gb115 ∧ k_ ≠ gb116 ∧ k_ ≠ gb117) (fun _ => False) rfl rfl ?aO ?aR (fun _ _ h => h) (fun _ h => h.elim) ?aF ?aB ?aS ?aL ?_
                          (case aR => repeat (first | exact (Kd.C_below HR124.out HB.out) | (with_reducible refine Kd.C_alloc ?_ _) | (with_reducible refine Kd.C_drewN ?_ _) | (with_reducible refine Kd.C_drew ?_)))
                          (case aB => exact (hx_ HB.out))
                          (case aF => exact (fun k_ hk => ⟨Kd.fresh' (Kd.R_lt (rx_ HO130.out)) k_ hk, Kd.freshB (g := gb115) (o := .cells #[.int .i64 ((rd_T58 l0 a1_0).f0), .int .i64 ((rd_T58 l0 a1_0).f1)] 58 (0, 0)) (bx_ BK115.out) k_ hk, Kd.freshB (g := gb116) (o := .cells #[.int .i64 ((rd_T58 l0 a1_0).f0), .int .i64 a1_2] 58 (0, 0)) (bx_ BK116.out) k_ hk, Kd.freshB (g := gb117) (o := .cells #[.int .i64 ((rd_T58 l0 a1_0).f0), .int .i64 (wrap64 (((rd_T58 l0 a1_0).f1) - a1_2))] 58 (0, 0)) (bx_ BK117.out) k_ hk⟩))
                          (case aO => exact (by (with_reducible repeat (first | apply Kd.R_alloc | apply Kd.R_drewN | apply Kd.R_drew)); exact Kd.R_mono HO120.out (fun _ hk => ⟨hk.2, ⟨hk.1.1.1.2, ⟨hk.1.1.2, hk.1.2⟩⟩⟩)))
                          (case aS => exact (below_size (hx_ HB.out)))
                          (case aL => have := LMc8.out; omega)
                          intro v126 w45 ho hb hg hat
                          rw [← Ny125.out] at ho
                          have n0_ := Aside0.mk (blk_grown (g := gb113) (o := .cells #[.int .i64 a1_0, .bool true, .int .i64 a1_2] 48 (0, 0)) (bx_ BK113.out) hg (Kd.R_ne HO120.out BK113.out (by decide)))
                          have n1_ := Aside0.mk (blk_grown (g := gb115) (o := .cells #[.int .i64 ((rd_T58 l0 a1_0).f0), .int .i64 ((rd_T58 l0 a1_0).f1)] 58 (0, 0)) (bx_ BK115.out) hg (Kd.R_away HO120.out (fun _ hk => hk.1.1.1.2)))
                          have n2_ := Aside0.mk (blk_grown (g := gb116) (o := .cells #[.int .i64 ((rd_T58 l0 a1_0).f0), .int .i64 a1_2] 58 (0, 0)) (bx_ BK116.out) hg (Kd.R_away HO120.out (fun _ hk => hk.1.1.2)))
                          have n3_ := Aside0.mk (blk_grown (g := gb117) (o := .cells #[.int .i64 ((rd_T58 l0 a1_0).f0), .int .i64 (wrap64 (((rd_T58 l0 a1_0).f1) - a1_2))] 58 (0, 0)) (bx_ BK117.out) hg (Kd.R_away HO120.out (fun _ hk => hk.1.2)))
                          have n4_ := Aside0.mk (Kd.R_after (ok := (fun k_ => k_ ≠ gb115 ∧ k_ ≠ gb116 ∧ k_ ≠ gb117)) (by (with_reducible repeat (first | apply Kd.R_alloc | apply Kd.R_drewN | apply Kd.R_drew)); exact Kd.R_mono HO130.out (fun _ hk => ⟨⟨hk.1.1.2, ⟨hk.1.2, hk.2⟩⟩, hk.1.1.1.2⟩)) hg hat)
                          have n5_ := Aside0.mk (hb)
                          have n6_ := Aside0.mk (ho)
                          clear BK113
                          clear BK115
                          clear BK116
                          clear BK117
                          clear HO130
                          clear HB
                          clear HO120
                          have BK113 := n0_
                          have BK115 := n1_
                          have BK116 := n2_
                          have BK117 := n3_
                          have HO130 := n4_
                          have HB := n5_
                          have HO127 := n6_
                          clear n0_ n1_ n2_ n3_ n4_ n5_ n6_
                          clear ho hb hg hat
                          refine hK.out _ _ ⟨(blk_cell BK113.out 0).trans rfl, (blk_cell BK113.out 1).trans rfl, (blk_cell BK113.out 2).trans rfl, (blk_cell BK116.out 0).trans rfl, (blk_cell BK116.out 1).trans rfl, (blk_cell BK117.out 0).trans rfl, (blk_cell BK117.out 1).trans rfl⟩ (fun hHeld => ?_)
                          clear hK K
                          refine norm_ (a' := ?_) ?_ ?_
                          rotate_left
                          · show Act.put _ (some 46) _ = _
                            simp only [Act.put, List.setIfInBounds_toArray, List.set_cons_zero, List.set_cons_succ, i64_w, i32_w]
                            rfl
                          exact norm_ (by simp only [putAll, Act.put, List.setIfInBounds_toArray, List.set_cons_zero, List.set_cons_succ]) (hCont (v119, v126, v129) _ ⟨hHeld, (rx_ HO127.out), (by (with_reducible repeat (first | apply Kd.R_alloc | apply Kd.R_drewN | apply Kd.R_drew)); exact Kd.R_mono HO130.out (fun _ hk => ⟨hk.2, ⟨hk.1.1, ⟨hk.1.2.1, hk.1.2.2⟩⟩⟩)), (bx_ BK113.out), (bx_ BK115.out), (bx_ BK116.out), (bx_ BK117.out), (hx_ HB.out)⟩)
                      · skip
                        refine Kd.R_lit_step k58 _ 58 ?hg (N := 49) ?hd (xs := ([(⟨(rd_T58 l0 a1_0).f0, a1_2⟩ : S58), (⟨(rd_T58 l0 a1_0).f0, wrap64 (((rd_T58 l0 a1_0).f1) - a1_2)⟩ : S58)] : List (S58))) (inner := [.int .i64 ((rd_T58 l0 a1_0).f0), .int .i64 a1_2, .int .i64 ((rd_T58 l0 a1_0).f0), .int .i64 (wrap64 (((rd_T58 l0 a1_0).f1) - a1_2))]) (ok := fun _ => True) (okp := fun _ => True) ?hr ?hp (fun _ hk => hk) trivial (Below.refl _ _) (Nat.le_refl _) (by simp) ?_; (case hd => rfl); (case hg => rfl); (case hr => first | (go_simp; done) | (go_simp; rfl)); (case hp => exact (Reps.c2 (show Kd.M k58 _ _ _ (⟨(rd_T58 l0 a1_0).f0, a1_2⟩ : S58) [.int .i64 ((rd_T58 l0 a1_0).f0), .int .i64 a1_2] from (k58_mkM _ _ _ (⟨(rd_T58 l0 a1_0).f0, a1_2⟩ : S58) )) (Reps.c2 (show Kd.M k58 _ _ _ (⟨(rd_T58 l0 a1_0).f0, wrap64 (((rd_T58 l0 a1_0).f1) - a1_2)⟩ : S58) [.int .i64 ((rd_T58 l0 a1_0).f0), .int .i64 (wrap64 (((rd_T58 l0 a1_0).f1) - a1_2))] from (k58_mkM _ _ _ (⟨(rd_T58 l0 a1_0).f0, wrap64 (((rd_T58 l0 a1_0).f1) - a1_2)⟩ : S58) )) (Reps.none _ _))))
                        intro v129 w41 ho42 hb hg_ hnew_
                        clear hg_ hnew_
                        (first | rw [← Ny128.out] at ho42 | (simp only [Int.reduceToNat] at ho42; rw [← Ny128.out] at ho42))
                        have n0_ := Aside0.mk (Kd.R_lower (Kd.R_newB (Kd.R_newB (Kd.R_newB ho42 (g := gb115) (o := .cells #[.int .i64 ((rd_T58 l0 a1_0).f0), .int .i64 ((rd_T58 l0 a1_0).f1)] 58 (0, 0)) (bx_ BK115.out)) (g := gb116) (o := .cells #[.int .i64 ((rd_T58 l0 a1_0).f0), .int .i64 a1_2] 58 (0, 0)) (bx_ BK116.out)) (g := gb117) (o := .cells #[.int .i64 ((rd_T58 l0 a1_0).f0), .int .i64 (wrap64 (((rd_T58 l0 a1_0).f1) - a1_2))] 58 (0, 0)) (bx_ BK117.out)) (below_size (hx_ HB.out)))
                        have n1_ := Aside0.mk (blk_below (g := gb113) (o := .cells #[.int .i64 a1_0, .bool true, .int .i64 a1_2] 48 (0, 0)) (bx_ BK113.out) hb)
                        have n2_ := Aside0.mk (blk_below (g := gb115) (o := .cells #[.int .i64 ((rd_T58 l0 a1_0).f0), .int .i64 ((rd_T58 l0 a1_0).f1)] 58 (0, 0)) (bx_ BK115.out) hb)
                        have n3_ := Aside0.mk (blk_below (g := gb116) (o := .cells #[.int .i64 ((rd_T58 l0 a1_0).f0), .int .i64 a1_2] 58 (0, 0)) (bx_ BK116.out) hb)
                        have n4_ := Aside0.mk (blk_below (g := gb117) (o := .cells #[.int .i64 ((rd_T58 l0 a1_0).f0), .int .i64 (wrap64 (((rd_T58 l0 a1_0).f1) - a1_2))] 58 (0, 0)) (bx_ BK117.out) hb)
                        have n5_ := Aside0.mk (below_step (hx_ HB.out) hb)
                        clear BK113
                        clear BK115
                        clear BK116
                        clear BK117
                        clear HB
                        have HO130 := n0_
                        have BK113 := n1_
                        have BK115 := n2_
                        have BK116 := n3_
                        have BK117 := n4_
                        have HB := n5_
                        clear n0_ n1_ n2_ n3_ n4_ n5_
                        clear hb ho42
                        refine hK.out _ _ ⟨(blk_cell BK113.out 0).trans rfl, (blk_cell BK113.out 1).trans rfl, (blk_cell BK113.out 2).trans rfl, (blk_cell BK116.out 0).trans rfl, (blk_cell BK116.out 1).trans rfl, (blk_cell BK117.out 0).trans rfl, (blk_cell BK117.out 1).trans rfl⟩ (fun hHeld => ?_)
                        clear hK K
                        refine norm_ (a' := ?_) ?_ ?_
                        rotate_left
                        · show Act.put _ (some 49) _ = _
                          simp only [Act.put, List.setIfInBounds_toArray, List.set_cons_zero, List.set_cons_succ, i64_w, i32_w]
                          rfl
                        refine one_ (i := 0) (N := some 41) #[true, true, true, true, true, false, true, true, true, false, true, true, true, true, true, false, false] rfl rfl (one_of HT_.out (by kernel_rfl)) (by decide) (fun K hK => ?_)
                        refine Kd.R_lit_step k58 _ 58 ?hg (N := 41) ?hd (xs := ([] : List (S58))) (inner := []) (ok := fun _ => True) (okp := fun _ => True) ?hr ?hp (fun _ hk => hk) trivial (Below.refl _ _) (Nat.le_refl _) (by simp) ?_; (case hd => rfl); (case hg => rfl); (case hr => first | (go_simp; done) | (go_simp; rfl)); (case hp => exact (Reps.none _ _))
                        intro v119 w43 ho44 hb hg_ hnew_
                        clear hg_ hnew_
                        (first | rw [← Ny118.out] at ho44 | (simp only [Int.reduceToNat] at ho44; rw [← Ny118.out] at ho44))
                        have n0_ := Aside0.mk (Kd.R_elder' (rx_ HO130.out) (Kd.R_base ho44) hb)
                        have n1_ := Aside0.mk (Kd.R_lower (Kd.R_newB (Kd.R_newB (Kd.R_newB (Kd.R_new' ho44 (Kd.R_lt (rx_ HO130.out))) (g := gb115) (o := .cells #[.int .i64 ((rd_T58 l0 a1_0).f0), .int .i64 ((rd_T58 l0 a1_0).f1)] 58 (0, 0)) (bx_ BK115.out)) (g := gb116) (o := .cells #[.int .i64 ((rd_T58 l0 a1_0).f0), .int .i64 a1_2] 58 (0, 0)) (bx_ BK116.out)) (g := gb117) (o := .cells #[.int .i64 ((rd_T58 l0 a1_0).f0), .int .i64 (wrap64 (((rd_T58 l0 a1_0).f1) - a1_2))] 58 (0, 0)) (bx_ BK117.out)) (below_size (hx_ HB.out)))
                        have n2_ := Aside0.mk (blk_below (g := gb113) (o := .cells #[.int .i64 a1_0, .bool true, .int .i64 a1_2] 48 (0, 0)) (bx_ BK113.out) hb)
                        have n3_ := Aside0.mk (blk_below (g := gb115) (o := .cells #[.int .i64 ((rd_T58 l0 a1_0).f0), .int .i64 ((rd_T58 l0 a1_0).f1)] 58 (0, 0)) (bx_ BK115.out) hb)
                        have n4_ := Aside0.mk (blk_below (g := gb116) (o := .cells #[.int .i64 ((rd_T58 l0 a1_0).f0), .int .i64 a1_2] 58 (0, 0)) (bx_ BK116.out) hb)
                        have n5_ := Aside0.mk (blk_below (g := gb117) (o := .cells #[.int .i64 ((rd_T58 l0 a1_0).f0), .int .i64 (wrap64 (((rd_T58 l0 a1_0).f1) - a1_2))] 58 (0, 0)) (bx_ BK117.out) hb)
                        have n6_ := Aside0.mk (below_step (hx_ HB.out) hb)
                        clear HO130
                        clear BK113
                        clear BK115
                        clear BK116
                        clear BK117
                        clear HB
                        have HO130 := n0_
                        have HO120 := n1_
                        have BK113 := n2_
                        have BK115 := n3_
                        have BK116 := n4_
                        have BK117 := n5_
                        have HB := n6_
                        clear n0_ n1_ n2_ n3_ n4_ n5_ n6_
                        clear hb ho44
                        refine hK.out _ _ ⟨(blk_cell BK113.out 0).trans rfl, (blk_cell BK113.out 1).trans rfl, (blk_cell BK113.out 2).trans rfl, (blk_cell BK116.out 0).trans rfl, (blk_cell BK116.out 1).trans rfl, (blk_cell BK117.out 0).trans rfl, (blk_cell BK117.out 1).trans rfl⟩ (fun hHeld => ?_)
                        clear hK K
                        refine norm_ (a' := ?_) ?_ ?_
                        rotate_left
                        · show Act.put _ (some 41) _ = _
                          simp only [Act.put, List.setIfInBounds_toArray, List.set_cons_zero, List.set_cons_succ, i64_w, i32_w]
                          rfl
                        refine one_ (i := 5) (N := some 46) #[true, true, true, true, true, true, true, true, true, false, true, true, true, true, true, false, false] rfl rfl (one_of HT_.out (by kernel_rfl)) (by decide) (fun K hK => ?_)
                        refine Kd.R_append_rows_step k58 (w0 := w) w.heap.size (by rfl) (.tmp 41) (.tmp 45) 44 58 (.agg #[(.int .i64 0), (.int .i64 0)]) 16 rfl Try.underlying44 info58 rfl (by decide) (by omega) v119 y118 y121 _ _ _ (fun k_ => some k_ ≠ (v129 : Value).ownBlock ∧ k_ ≠ gb115 ∧ k_ ≠ gb116 ∧ k_ ≠ gb117) (fun _ => False) rfl rfl ?aO ?aR (fun _ _ h => h) (fun _ h => h.elim) ?aF ?aB ?aS ?aL ?_
                        (case aR => repeat (first | exact (Kd.C_below HR124.out HB.out) | (with_reducible refine Kd.C_alloc ?_ _) | (with_reducible refine Kd.C_drewN ?_ _) | (with_reducible refine Kd.C_drew ?_)))
                        (case aB => exact (hx_ HB.out))
                        (case aF => exact (fun k_ hk => ⟨Kd.fresh' (Kd.R_lt (rx_ HO130.out)) k_ hk, Kd.freshB (g := gb115) (o := .cells #[.int .i64 ((rd_T58 l0 a1_0).f0), .int .i64 ((rd_T58 l0 a1_0).f1)] 58 (0, 0)) (bx_ BK115.out) k_ hk, Kd.freshB (g := gb116) (o := .cells #[.int .i64 ((rd_T58 l0 a1_0).f0), .int .i64 a1_2] 58 (0, 0)) (bx_ BK116.out) k_ hk, Kd.freshB (g := gb117) (o := .cells #[.int .i64 ((rd_T58 l0 a1_0).f0), .int .i64 (wrap64 (((rd_T58 l0 a1_0).f1) - a1_2))] 58 (0, 0)) (bx_ BK117.out) k_ hk⟩))
                        (case aO => exact (by (with_reducible repeat (first | apply Kd.R_alloc | apply Kd.R_drewN | apply Kd.R_drew)); exact Kd.R_mono HO120.out (fun _ hk => ⟨hk.1.1.1.2, ⟨hk.1.1.2, ⟨hk.1.2, hk.2⟩⟩⟩)))
                        (case aS => exact (below_size (hx_ HB.out)))
                        (case aL => have := LMc8.out; omega)
                        intro v126 w45 ho hb hg hat
                        rw [← Ny125.out] at ho
                        have n0_ := Aside0.mk (blk_grown (g := gb113) (o := .cells #[.int .i64 a1_0, .bool true, .int .i64 a1_2] 48 (0, 0)) (bx_ BK113.out) hg (Kd.R_ne HO120.out BK113.out (by decide)))
                        have n1_ := Aside0.mk (blk_grown (g := gb115) (o := .cells #[.int .i64 ((rd_T58 l0 a1_0).f0), .int .i64 ((rd_T58 l0 a1_0).f1)] 58 (0, 0)) (bx_ BK115.out) hg (Kd.R_away HO120.out (fun _ hk => hk.1.1.2)))
                        have n2_ := Aside0.mk (blk_grown (g := gb116) (o := .cells #[.int .i64 ((rd_T58 l0 a1_0).f0), .int .i64 a1_2] 58 (0, 0)) (bx_ BK116.out) hg (Kd.R_away HO120.out (fun _ hk => hk.1.2)))
                        have n3_ := Aside0.mk (blk_grown (g := gb117) (o := .cells #[.int .i64 ((rd_T58 l0 a1_0).f0), .int .i64 (wrap64 (((rd_T58 l0 a1_0).f1) - a1_2))] 58 (0, 0)) (bx_ BK117.out) hg (Kd.R_away HO120.out (fun _ hk => hk.2)))
                        have n4_ := Aside0.mk (Kd.R_after (ok := (fun k_ => k_ ≠ gb115 ∧ k_ ≠ gb116 ∧ k_ ≠ gb117)) (by (with_reducible repeat (first | apply Kd.R_alloc | apply Kd.R_drewN | apply Kd.R_drew)); exact Kd.R_mono HO130.out (fun _ hk => ⟨⟨hk.1.1.1.2, ⟨hk.1.1.2, hk.1.2⟩⟩, hk.2⟩)) hg hat)
                        have n5_ := Aside0.mk (hb)
                        have n6_ := Aside0.mk (ho)
                        clear BK113
                        clear BK115
                        clear BK116
                        clear BK117
                        clear HO130
                        clear HB
                        clear HO120
                        have BK113 := n0_
                        have BK115 := n1_
                        have BK116 := n2_
                        have BK117 := n3_
                        have HO130 := n4_
                        have HB := n5_
                        have HO127 := n6_
                        clear n0_ n1_ n2_ n3_ n4_ n5_ n6_
                        clear ho hb hg hat
                        refine hK.out _ _ ⟨(blk_cell BK113.out 0).trans rfl, (blk_cell BK113.out 1).trans rfl, (blk_cell BK113.out 2).trans rfl, (blk_cell BK116.out 0).trans rfl, (blk_cell BK116.out 1).trans rfl, (blk_cell BK117.out 0).trans rfl, (blk_cell BK117.out 1).trans rfl⟩ (fun hHeld => ?_)
                        clear hK K
                        refine norm_ (a' := ?_) ?_ ?_
                        rotate_left
                        · show Act.put _ (some 46) _ = _
                          simp only [Act.put, List.setIfInBounds_toArray, List.set_cons_zero, List.set_cons_succ, i64_w, i32_w]
                          rfl
                        exact norm_ (by simp only [putAll, Act.put, List.setIfInBounds_toArray, List.set_cons_zero, List.set_cons_succ]) (hCont (v119, v126, v129) _ ⟨hHeld, (rx_ HO127.out), (by (with_reducible repeat (first | apply Kd.R_alloc | apply Kd.R_drewN | apply Kd.R_drew)); exact Kd.R_mono HO130.out (fun _ hk => ⟨hk.2, ⟨hk.1.1, ⟨hk.1.2.1, hk.1.2.2⟩⟩⟩)), (bx_ BK113.out), (bx_ BK115.out), (bx_ BK116.out), (bx_ BK117.out), (hx_ HB.out)⟩)
                    rintro ⟨v119, v126, v129⟩ w46 ⟨hS_, h0_, h1_, h2_, h3_, h4_, h5_, h6_⟩
                    have n0_ : Aside0 (Kd.R k58 58 w46 w.heap.size (fun k_ => some k_ ≠ (v129 : Value).ownBlock ∧ k_ ≠ gb115 ∧ k_ ≠ gb116 ∧ k_ ≠ gb117) v126 y125) := ⟨h0_⟩
                    have n1_ : Aside0 (Kd.R k58 58 w46 w.heap.size (fun k_ => some k_ ≠ (v126 : Value).ownBlock ∧ k_ ≠ gb115 ∧ k_ ≠ gb116 ∧ k_ ≠ gb117) v129 y128) := ⟨h1_⟩
                    have n2_ : Aside0 (w46.heap[gb113]? = some (.cells #[.int .i64 a1_0, .bool true, .int .i64 a1_2] 48 (0, 0))) := ⟨h2_⟩
                    have n3_ : Aside0 (w46.heap[gb115]? = some (.cells #[.int .i64 ((rd_T58 l0 a1_0).f0), .int .i64 ((rd_T58 l0 a1_0).f1)] 58 (0, 0))) := ⟨h3_⟩
                    have n4_ : Aside0 (w46.heap[gb116]? = some (.cells #[.int .i64 ((rd_T58 l0 a1_0).f0), .int .i64 a1_2] 58 (0, 0))) := ⟨h4_⟩
                    have n5_ : Aside0 (w46.heap[gb117]? = some (.cells #[.int .i64 ((rd_T58 l0 a1_0).f0), .int .i64 (wrap64 (((rd_T58 l0 a1_0).f1) - a1_2))] 58 (0, 0))) := ⟨h5_⟩
                    have n6_ : Aside0 (Below w.heap.size w w46) := ⟨h6_⟩
                    clear BK113
                    clear BK115
                    clear BK116
                    clear BK117
                    clear HB
                    clear h0_ h1_ h2_ h3_ h4_ h5_ h6_
                    have HO127 := n0_
                    have HO130 := n1_
                    have BK113 := n2_
                    have BK115 := n3_
                    have BK116 := n4_
                    have BK117 := n5_
                    have HB := n6_
                    clear n0_ n1_ n2_ n3_ n4_ n5_ n6_
                    have hHeld : w46.cell? ⟨gb113, 0, none⟩ = some (.int .i64 a1_0) ∧ w46.cell? ⟨gb113, 1, none⟩ = some (.bool true) ∧ w46.cell? ⟨gb113, 2, none⟩ = some (.int .i64 a1_2) ∧ w46.cell? ⟨gb116, 0, none⟩ = some (.int .i64 ((rd_T58 l0 a1_0).f0)) ∧ w46.cell? ⟨gb116, 1, none⟩ = some (.int .i64 a1_2) ∧ w46.cell? ⟨gb117, 0, none⟩ = some (.int .i64 ((rd_T58 l0 a1_0).f0)) ∧ w46.cell? ⟨gb117, 1, none⟩ = some (.int .i64 (wrap64 (((rd_T58 l0 a1_0).f1) - a1_2))) := hS_
                    obtain ⟨Ao48, co48, eo48⟩ := Kd.R_slice HO130.out
                    (first | subst eo48 | (injection eo48 with f1_ f2_ f3_; have f4_ := f1_.symm; have f5_ := f3_.symm; clear f1_ f2_ f3_; subst f4_; subst f5_))
                    refine norm_ (a' := ?_) ?_ ?_
                    rotate_left
                    · simp only [putAll, Act.put, List.setIfInBounds_toArray, List.set_cons_zero, List.set_cons_succ]
                      rfl
                    refine one_ (i := 9) (N := some 50) #[true, true, true, true, true, true, true, true, true, true, true, true, true, true, true, false, false] rfl rfl (one_of HT_.out (by kernel_rfl)) (by decide) (fun K hK => ?_)
                    refine Kd.R_append_rows_step k58 (w0 := w) w.heap.size (by rfl) (.tmp 46) (.tmp 49) 44 58 (.agg #[(.int .i64 0), (.int .i64 0)]) 16 rfl Try.underlying44 info58 rfl (by decide) (by omega) v126 y125 y128 _ _ _ (fun k_ => some k_ ≠ (.slice Ao48 y128.length co48 : Value).ownBlock ∧ k_ ≠ gb115 ∧ k_ ≠ gb116 ∧ k_ ≠ gb117) (fun _ => False) rfl rfl ?aO ?aR (fun _ _ h => h) (fun _ h => h.elim) ?aF ?aB ?aS ?aL ?_
                    (case aR => repeat (first | exact (Kd.R_reads' HO130.out).2.2 | (with_reducible refine Kd.C_alloc ?_ _) | (with_reducible refine Kd.C_drewN ?_ _) | (with_reducible refine Kd.C_drew ?_)))
                    (case aB => exact (hx_ HB.out))
                    (case aF => exact (fun k_ hk => ⟨Kd.fresh' (Kd.R_lt (rx_ HO130.out)) k_ hk, Kd.freshB (g := gb115) (o := .cells #[.int .i64 ((rd_T58 l0 a1_0).f0), .int .i64 ((rd_T58 l0 a1_0).f1)] 58 (0, 0)) (bx_ BK115.out) k_ hk, Kd.freshB (g := gb116) (o := .cells #[.int .i64 ((rd_T58 l0 a1_0).f0), .int .i64 a1_2] 58 (0, 0)) (bx_ BK116.out) k_ hk, Kd.freshB (g := gb117) (o := .cells #[.int .i64 ((rd_T58 l0 a1_0).f0), .int .i64 (wrap64 (((rd_T58 l0 a1_0).f1) - a1_2))] 58 (0, 0)) (bx_ BK117.out) k_ hk⟩))
                    (case aO => exact (rx_ HO127.out))
                    (case aS => exact (below_size (hx_ HB.out)))
                    (case aL => have := LMc9.out; omega)
                    intro v132 w47 ho hb hg hat
                    rw [← Ny131.out] at ho
                    have n0_ := Aside0.mk (blk_grown (g := gb113) (o := .cells #[.int .i64 a1_0, .bool true, .int .i64 a1_2] 48 (0, 0)) (bx_ BK113.out) hg (Kd.R_ne HO127.out BK113.out (by decide)))
                    have n1_ := Aside0.mk (blk_grown (g := gb115) (o := .cells #[.int .i64 ((rd_T58 l0 a1_0).f0), .int .i64 ((rd_T58 l0 a1_0).f1)] 58 (0, 0)) (bx_ BK115.out) hg (Kd.R_away HO127.out (fun _ hk => hk.2.1)))
                    have n2_ := Aside0.mk (blk_grown (g := gb116) (o := .cells #[.int .i64 ((rd_T58 l0 a1_0).f0), .int .i64 a1_2] 58 (0, 0)) (bx_ BK116.out) hg (Kd.R_away HO127.out (fun _ hk => hk.2.2.1)))
                    have n3_ := Aside0.mk (blk_grown (g := gb117) (o := .cells #[.int .i64 ((rd_T58 l0 a1_0).f0), .int .i64 (wrap64 (((rd_T58 l0 a1_0).f1) - a1_2))] 58 (0, 0)) (bx_ BK117.out) hg (Kd.R_away HO127.out (fun _ hk => hk.2.2.2)))
                    have n4_ := Aside0.mk (Kd.R_after (ok := (fun k_ => k_ ≠ gb115 ∧ k_ ≠ gb116 ∧ k_ ≠ gb117)) (by (with_reducible repeat (first | apply Kd.R_alloc | apply Kd.R_drewN | apply Kd.R_drew)); exact Kd.R_mono HO130.out (fun _ hk => ⟨⟨hk.2.1, ⟨hk.2.2.1, hk.2.2.2⟩⟩, hk.1⟩)) hg hat)
                    have n5_ := Aside0.mk (hb)
                    have n6_ := Aside0.mk (ho)
                    clear BK113
                    clear BK115
                    clear BK116
                    clear BK117
                    clear HO130
                    clear HB
                    clear HO127
                    have BK113 := n0_
                    have BK115 := n1_
                    have BK116 := n2_
                    have BK117 := n3_
                    have HO130 := n4_
                    have HB := n5_
                    have HO133 := n6_
                    clear n0_ n1_ n2_ n3_ n4_ n5_ n6_
                    clear ho hb hg hat
                    refine hK.out _ _ ⟨(blk_cell BK113.out 0).trans rfl, (blk_cell BK113.out 1).trans rfl, (blk_cell BK113.out 2).trans rfl, (blk_cell BK116.out 0).trans rfl, (blk_cell BK116.out 1).trans rfl, (blk_cell BK117.out 0).trans rfl, (blk_cell BK117.out 1).trans rfl⟩ (fun hHeld => ?_)
                    clear hK K
                    refine norm_ (a' := ?_) ?_ ?_
                    rotate_left
                    · show Act.put _ (some 50) _ = _
                      simp only [Act.put, List.setIfInBounds_toArray, List.set_cons_zero, List.set_cons_succ, i64_w, i32_w]
                      rfl
                    refine one_ (i := 15) (N := some 56) #[true, true, true, true, true, true, true, true, true, true, true, true, true, true, true, true, false] rfl rfl (one_of HT_.out (by kernel_rfl)) (by decide) (fun K hK => ?_)
                    refine Kd.R_append_rows_step k58 (w0 := w) w.heap.size (by rfl) (.tmp 50) (.tmp 55) 44 58 (.agg #[(.int .i64 0), (.int .i64 0)]) 16 rfl Try.underlying44 info58 rfl (by decide) (by omega) v132 y131 y134 _ _ _ (fun k_ => some k_ ≠ (.slice Ao48 y128.length co48 : Value).ownBlock ∧ k_ ≠ gb115 ∧ k_ ≠ gb116 ∧ k_ ≠ gb117) (fun _ => False) rfl rfl ?aO ?aR (fun _ _ h => h) (fun _ h => h.elim) ?aF ?aB ?aS ?aL ?_
                    (case aR => repeat (first | exact (Kd.C_below HR137.out HB.out) | (with_reducible refine Kd.C_alloc ?_ _) | (with_reducible refine Kd.C_drewN ?_ _) | (with_reducible refine Kd.C_drew ?_)))
                    (case aB => exact (hx_ HB.out))
                    (case aF => exact (fun k_ hk => ⟨Kd.fresh' (Kd.R_lt (rx_ HO130.out)) k_ hk, Kd.freshB (g := gb115) (o := .cells #[.int .i64 ((rd_T58 l0 a1_0).f0), .int .i64 ((rd_T58 l0 a1_0).f1)] 58 (0, 0)) (bx_ BK115.out) k_ hk, Kd.freshB (g := gb116) (o := .cells #[.int .i64 ((rd_T58 l0 a1_0).f0), .int .i64 a1_2] 58 (0, 0)) (bx_ BK116.out) k_ hk, Kd.freshB (g := gb117) (o := .cells #[.int .i64 ((rd_T58 l0 a1_0).f0), .int .i64 (wrap64 (((rd_T58 l0 a1_0).f1) - a1_2))] 58 (0, 0)) (bx_ BK117.out) k_ hk⟩))
                    (case aO => exact (rx_ HO133.out))
                    (case aS => exact (below_size (hx_ HB.out)))
                    (case aL => have := LMc13.out; omega)
                    intro v139 w49 ho hb hg hat
                    rw [← Ny138.out] at ho
                    have n0_ := Aside0.mk (blk_grown (g := gb113) (o := .cells #[.int .i64 a1_0, .bool true, .int .i64 a1_2] 48 (0, 0)) (bx_ BK113.out) hg (Kd.R_ne HO133.out BK113.out (by decide)))
                    have n1_ := Aside0.mk (blk_grown (g := gb115) (o := .cells #[.int .i64 ((rd_T58 l0 a1_0).f0), .int .i64 ((rd_T58 l0 a1_0).f1)] 58 (0, 0)) (bx_ BK115.out) hg (Kd.R_away HO133.out (fun _ hk => hk.2.1)))
                    have n2_ := Aside0.mk (blk_grown (g := gb116) (o := .cells #[.int .i64 ((rd_T58 l0 a1_0).f0), .int .i64 a1_2] 58 (0, 0)) (bx_ BK116.out) hg (Kd.R_away HO133.out (fun _ hk => hk.2.2.1)))
                    have n3_ := Aside0.mk (blk_grown (g := gb117) (o := .cells #[.int .i64 ((rd_T58 l0 a1_0).f0), .int .i64 (wrap64 (((rd_T58 l0 a1_0).f1) - a1_2))] 58 (0, 0)) (bx_ BK117.out) hg (Kd.R_away HO133.out (fun _ hk => hk.2.2.2)))
                    have n4_ := Aside0.mk (Kd.R_after (ok := (fun k_ => k_ ≠ gb115 ∧ k_ ≠ gb116 ∧ k_ ≠ gb117)) (rx_ HO130.out) hg hat)
                    have n5_ := Aside0.mk (hb)
                    have n6_ := Aside0.mk (ho)
                    clear BK113
                    clear BK115
                    clear BK116
                    clear BK117
                    clear HO130
                    clear HB
                    clear HO133
                    have BK113 := n0_
                    have BK115 := n1_
                    have BK116 := n2_
                    have BK117 := n3_
                    have HO130 := n4_
                    have HB := n5_
                    have HO140 := n6_
                    clear n0_ n1_ n2_ n3_ n4_ n5_ n6_
                    clear ho hb hg hat
                    refine hK.out _ _ ⟨(blk_cell BK113.out 0).trans rfl, (blk_cell BK113.out 1).trans rfl, (blk_cell BK113.out 2).trans rfl, (blk_cell BK116.out 0).trans rfl, (blk_cell BK116.out 1).trans rfl, (blk_cell BK117.out 0).trans rfl, (blk_cell BK117.out 1).trans rfl⟩ (fun hHeld => ?_)
                    clear hK K
                    refine norm_ (a' := ?_) ?_ ?_
                    rotate_left
                    · show Act.put _ (some 56) _ = _
                      simp only [Act.put, List.setIfInBounds_toArray, List.set_cons_zero, List.set_cons_succ, i64_w, i32_w]
                      rfl
                    refine pure_ (i := 16) (N := some 4) (v := ?_) (a' := ?_) #[true, true, true, true, true, true, true, true, true, true, true, true, true, true, true, true, true] rfl rfl (any_of HT_.out (by kernel_rfl)) (fun _ _ _ h => h) (Or.inl ⟨by rfl, ?_⟩) ?_ ?_
                    rotate_left
                    · intro w'
                      go_simp
                      with_reducible rfl
                    rotate_left
                    · simp only [Act.put, List.setIfInBounds_toArray, List.set_cons_zero, List.set_cons_succ, i64_w, i32_w]
                      rfl
                    refine done_ (done_of HT_.out (by kernel_rfl)) ?_
                    try go_wp2
                    go_ret
                    exact ⟨_, by first | rfl | (simp [errW_none, errW_some] <;> rfl) | (simp only [← hji10]; first | rfl | (simp [errW_none, errW_some] <;> rfl)) | (simp [*, errW_none, errW_some] <;> rfl), by (with_reducible repeat (first | apply Kd.R_alloc | apply Kd.R_drewN | apply Kd.R_drew)); exact Kd.R_mono HO140.out (fun _ hk => trivial), hx_ HB.out⟩
                  · rw [if_neg c13] at H
                    exact absurd H (by simp)
                · rw [if_neg c12] at H
                  exact absurd H (by simp)
              · rw [if_neg c11] at H
                exact absurd H (by simp)
            · rw [if_neg c9] at H
              exact absurd H (by simp)
          · rw [if_neg c8] at H
            exact absurd H (by simp)
        · rw [if_neg c7] at H
          exact absurd H (by simp)
      · replace c5 := Bool.eq_false_iff.mpr c5
        subst c5
        have H1 : ((some (([] : List (S58)) : List (S58))).bind fun y141 => (if a1_0 ≤ (l0.length : Int) then ((some (l0.take (a1_0 : Int).toNat : List (S58))).bind fun y144 => (if y141.length + y144.length < 8796093022208 then ((some (y141 ++ y144 : List (S58))).bind fun y148 => ((some (([(⟨a1_2, (rd_T58 l0 a1_0).f1⟩ : S58), (⟨wrap64 (((rd_T58 l0 a1_0).f0) - a1_2), (rd_T58 l0 a1_0).f1⟩ : S58)] : List (S58)) : List (S58))).bind fun y151 => (if y148.length + y151.length < 8796093022208 then ((some (y148 ++ y151 : List (S58))).bind fun y154 => (if 0 ≤ (wrap64 (a1_0 + 1)) then (if (wrap64 (a1_0 + 1)) ≤ (l0.length : Int) then ((some (l0.drop ((wrap64 (a1_0 + 1)) : Int).toNat : List (S58))).bind fun y157 => (if y154.length + y157.length < 8796093022208 then (some (y154 ++ y157)) else (none))) else (none)) else (none))) else (none)))) else (none))) else (none))) = some r := by rw [if_neg (show ¬ (false = true) by decide)] at H; exact H
        clear H
        have H := H1
        clear H1
        obtain ⟨y141, hy141⟩ : ∃ y_ : List (S58), y_ = (([] : List (S58))) := ⟨_, rfl⟩
        replace H : (if a1_0 ≤ (l0.length : Int) then ((some (l0.take (a1_0 : Int).toNat : List (S58))).bind fun y144 => (if y141.length + y144.length < 8796093022208 then ((some (y141 ++ y144 : List (S58))).bind fun y148 => ((some (([(⟨a1_2, (rd_T58 l0 a1_0).f1⟩ : S58), (⟨wrap64 (((rd_T58 l0 a1_0).f0) - a1_2), (rd_T58 l0 a1_0).f1⟩ : S58)] : List (S58)) : List (S58))).bind fun y151 => (if y148.length + y151.length < 8796093022208 then ((some (y148 ++ y151 : List (S58))).bind fun y154 => (if 0 ≤ (wrap64 (a1_0 + 1)) then (if (wrap64 (a1_0 + 1)) ≤ (l0.length : Int) then ((some (l0.drop ((wrap64 (a1_0 + 1)) : Int).toNat : List (S58))).bind fun y157 => (if y154.length + y157.length < 8796093022208 then (some (y154 ++ y157)) else (none))) else (none)) else (none))) else (none)))) else (none))) else (none)) = some r := by first | (rw [hy141]; with_reducible exact H) | (have H2_ := (Option.bind_some _ _).symm.trans H; rw [hy141]; with_reducible exact H2_) | (have H2_ := (Option.bind_some _ _).symm.trans H; with_reducible exact H2_) | with_reducible exact H | (rw [hy141]; exact H) | exact H
        have Ny141 := Aside0.mk hy141
        clear hy141
        have c50b0 := eq_true (of_decide_eq_true (by first | (with_reducible assumption) | assumption) : 0 ≤ a1_0)
        by_cases c51 : a1_0 ≤ (l0.length : Int)
        · rw [if_pos c51] at H
          have c51b0 := eq_true c51
          have c51b1 : decide (a1_0 ≤ (l0.length : Int)) = true := decide_eq_true c51
          clear c51
          obtain ⟨y144, hy144⟩ : ∃ y_ : List (S58), y_ = (l0.take (a1_0 : Int).toNat) := ⟨_, rfl⟩
          replace H : (if y141.length + y144.length < 8796093022208 then ((some (y141 ++ y144 : List (S58))).bind fun y148 => ((some (([(⟨a1_2, (rd_T58 l0 a1_0).f1⟩ : S58), (⟨wrap64 (((rd_T58 l0 a1_0).f0) - a1_2), (rd_T58 l0 a1_0).f1⟩ : S58)] : List (S58)) : List (S58))).bind fun y151 => (if y148.length + y151.length < 8796093022208 then ((some (y148 ++ y151 : List (S58))).bind fun y154 => (if 0 ≤ (wrap64 (a1_0 + 1)) then (if (wrap64 (a1_0 + 1)) ≤ (l0.length : Int) then ((some (l0.drop ((wrap64 (a1_0 + 1)) : Int).toNat : List (S58))).bind fun y157 => (if y154.length + y157.length < 8796093022208 then (some (y154 ++ y157)) else (none))) else (none)) else (none))) else (none)))) else (none)) = some r := by first | (rw [hy144]; with_reducible exact H) | (have H2_ := (Option.bind_some _ _).symm.trans H; rw [hy144]; with_reducible exact H2_) | (have H2_ := (Option.bind_some _ _).symm.trans H; with_reducible exact H2_) | with_reducible exact H | (rw [hy144]; exact H) | exact H
          have Ny144 := Aside0.mk hy144
          clear hy144
          by_cases c52 : y141.length + y144.length < 8796093022208
          · rw [if_pos c52] at H
            have LMc52 := Aside0.mk c52
            clear c52
            obtain ⟨y148, hy148⟩ : ∃ y_ : List (S58), y_ = (y141 ++ y144) := ⟨_, rfl⟩
            replace H : ((some (([(⟨a1_2, (rd_T58 l0 a1_0).f1⟩ : S58), (⟨wrap64 (((rd_T58 l0 a1_0).f0) - a1_2), (rd_T58 l0 a1_0).f1⟩ : S58)] : List (S58)) : List (S58))).bind fun y151 => (if y148.length + y151.length < 8796093022208 then ((some (y148 ++ y151 : List (S58))).bind fun y154 => (if 0 ≤ (wrap64 (a1_0 + 1)) then (if (wrap64 (a1_0 + 1)) ≤ (l0.length : Int) then ((some (l0.drop ((wrap64 (a1_0 + 1)) : Int).toNat : List (S58))).bind fun y157 => (if y154.length + y157.length < 8796093022208 then (some (y154 ++ y157)) else (none))) else (none)) else (none))) else (none))) = some r := by first | (rw [hy148]; with_reducible exact H) | (have H2_ := (Option.bind_some _ _).symm.trans H; rw [hy148]; with_reducible exact H2_) | (have H2_ := (Option.bind_some _ _).symm.trans H; with_reducible exact H2_) | with_reducible exact H | (rw [hy148]; exact H) | exact H
            have Ny148 := Aside0.mk hy148
            clear hy148
            obtain ⟨y151, hy151⟩ : ∃ y_ : List (S58), y_ = (([(⟨a1_2, (rd_T58 l0 a1_0).f1⟩ : S58), (⟨wrap64 (((rd_T58 l0 a1_0).f0) - a1_2), (rd_T58 l0 a1_0).f1⟩ : S58)] : List (S58))) := ⟨_, rfl⟩
            replace H : (if y148.length + y151.length < 8796093022208 then ((some (y148 ++ y151 : List (S58))).bind fun y154 => (if 0 ≤ (wrap64 (a1_0 + 1)) then (if (wrap64 (a1_0 + 1)) ≤ (l0.length : Int) then ((some (l0.drop ((wrap64 (a1_0 + 1)) : Int).toNat : List (S58))).bind fun y157 => (if y154.length + y157.length < 8796093022208 then (some (y154 ++ y157)) else (none))) else (none)) else (none))) else (none)) = some r := by first | (rw [hy151]; with_reducible exact H) | (have H2_ := (Option.bind_some _ _).symm.trans H; rw [hy151]; with_reducible exact H2_) | (have H2_ := (Option.bind_some _ _).symm.trans H; with_reducible exact H2_) | with_reducible exact H | (rw [hy151]; exact H) | exact H
            have Ny151 := Aside0.mk hy151
            clear hy151
            by_cases c53 : y148.length + y151.length < 8796093022208
            · rw [if_pos c53] at H
              have LMc53 := Aside0.mk c53
              clear c53
              obtain ⟨y154, hy154⟩ : ∃ y_ : List (S58), y_ = (y148 ++ y151) := ⟨_, rfl⟩
              replace H : (if 0 ≤ (wrap64 (a1_0 + 1)) then (if (wrap64 (a1_0 + 1)) ≤ (l0.length : Int) then ((some (l0.drop ((wrap64 (a1_0 + 1)) : Int).toNat : List (S58))).bind fun y157 => (if y154.length + y157.length < 8796093022208 then (some (y154 ++ y157)) else (none))) else (none)) else (none)) = some r := by first | (rw [hy154]; with_reducible exact H) | (have H2_ := (Option.bind_some _ _).symm.trans H; rw [hy154]; with_reducible exact H2_) | (have H2_ := (Option.bind_some _ _).symm.trans H; with_reducible exact H2_) | with_reducible exact H | (rw [hy154]; exact H) | exact H
              have Ny154 := Aside0.mk hy154
              clear hy154
              obtain ⟨ji54, hji54⟩ : ∃ j_ : Int, (wrap64 (a1_0 + 1)) = j_ := ⟨_, rfl⟩
              replace H : (if 0 ≤ (ji54) then (if (ji54) ≤ (l0.length : Int) then ((some (l0.drop ((ji54) : Int).toNat : List (S58))).bind fun y157 => (if y154.length + y157.length < 8796093022208 then (some (y154 ++ y157)) else (none))) else (none)) else (none)) = some r := by first | (rw [hji54] at H; exact H) | (simp only [hji54] at H ⊢; exact H)
              have hji54w : (IntKind.i64.wrap (a1_0 + 1)) = ji54 := (i64_w _).trans hji54
              by_cases c55 : 0 ≤ (ji54)
              · rw [if_pos c55] at H
                have c55b0 := eq_true c55
                have c55b1 : decide (0 ≤ (ji54)) = true := decide_eq_true c55
                clear c55
                by_cases c56 : (ji54) ≤ (l0.length : Int)
                · rw [if_pos c56] at H
                  have c56b0 := eq_true c56
                  have c56b1 : decide ((ji54) ≤ (l0.length : Int)) = true := decide_eq_true c56
                  clear c56
                  obtain ⟨y157, hy157⟩ : ∃ y_ : List (S58), y_ = (l0.drop ((ji54) : Int).toNat) := ⟨_, rfl⟩
                  replace H : (if y154.length + y157.length < 8796093022208 then (some (y154 ++ y157)) else (none)) = some r := by first | (rw [hy157]; with_reducible exact H) | (have H2_ := (Option.bind_some _ _).symm.trans H; rw [hy157]; with_reducible exact H2_) | (have H2_ := (Option.bind_some _ _).symm.trans H; with_reducible exact H2_) | with_reducible exact H | (rw [hy157]; exact H) | exact H
                  have Ny157 := Aside0.mk hy157
                  clear hy157
                  by_cases c57 : y154.length + y157.length < 8796093022208
                  · rw [if_pos c57] at H
                    have LMc57 := Aside0.mk c57
                    clear c57
                    obtain ⟨y161, hy161⟩ : ∃ y_ : List (S58), y_ = (y154 ++ y157) := ⟨_, rfl⟩
                    replace H : (some y161) = some r := by first | (rw [hy161]; with_reducible exact H) | (have H2_ := (Option.bind_some _ _).symm.trans H; rw [hy161]; with_reducible exact H2_) | (have H2_ := (Option.bind_some _ _).symm.trans H; with_reducible exact H2_) | with_reducible exact H | (rw [hy161]; exact H) | exact H
                    have Ny161 := Aside0.mk hy161
                    clear hy161
                    obtain rfl := Option.some.inj H
                    go_enter Try.func86, Try.ntmps86
                    try go_wp2_with (first | ((with_reducible refine gate_dst (N := 3) rfl ?_); refine box_event ?hg (N := 3) ?hd (cs := #[.int .i64 a1_0, .bool false, .int .i64 a1_2]) (t := 48) ?hr ?_; (case hd => rfl); (case hg => rfl); (case hr => first | (go_simp; done) | (go_simp; rfl)); intro gb113 hg w58 hbox hb; have n0_ := Aside0.mk (below_step (hx_ HB.out) hb); have n1_ := Aside0.mk (hbox); have n2_ := Aside0.mk ((by rw [hg]; exact (below_size (hx_ HB.out)) : w.heap.size ≤ gb113)); have n3_ := Aside0.mk ((by rw [hg]; exact (below_size (hx_ HB.out)) : w.heap.size ≤ gb113)); clear HB; have HB := n0_; have BK113 := n1_; have GW113 := n2_; have GE113 := n3_; clear n0_ n1_ n2_ n3_; clear hb hbox hg; have hcz59_0 : w58.cell? ⟨gb113, 0, none⟩ = some (.int .i64 a1_0) := (blk_cell BK113.out 0).trans rfl; have hcz59_1 : w58.cell? ⟨gb113, 1, none⟩ = some (.bool false) := (blk_cell BK113.out 1).trans rfl; have hcz59_2 : w58.cell? ⟨gb113, 2, none⟩ = some (.int .i64 a1_2) := (blk_cell BK113.out 2).trans rfl; have hfz59_0 := blk_frozen BK113.out 0; have hfz59_1 := blk_frozen BK113.out 1; have hfz59_2 := blk_frozen BK113.out 2; have p114 : 0 ≤ (a1_0 : Int) := of_decide_eq_true (by first | (with_reducible assumption) | assumption); have q114 : a1_0 < (l0.length : Int) := of_decide_eq_true (by first | (with_reducible assumption) | assumption); obtain ⟨ad114, e114, hx114_0, hx114_1⟩ := at_T58 HR0.out a1_0 p114 q114; cases e114; replace hx114_0 := (HB.out.cell (World.block_lt_of_cell? w _ hx114_0)).trans hx114_0; replace hx114_1 := (HB.out.cell (World.block_lt_of_cell? w _ hx114_1)).trans hx114_1; replace p114 := eq_true p114; replace q114 := eq_true q114) | ((with_reducible refine gate_dst (N := 5) rfl ?_); refine box_event ?hg (N := 5) ?hd (cs := #[.int .i64 0, .int .i64 0]) (t := 58) ?hr ?_; (case hd => rfl); (case hg => rfl); (case hr => first | (go_simp; done) | (go_simp; rfl)); intro gb115 hg w60 hbox hb; have n0_ := Aside0.mk (blk_below (g := gb113) (o := .cells #[.int .i64 a1_0, .bool false, .int .i64 a1_2] 48 (0, 0)) (bx_ BK113.out) hb); have n1_ := Aside0.mk (below_step (hx_ HB.out) hb); have n2_ := Aside0.mk (hbox); have n3_ := Aside0.mk ((by rw [hg]; exact (below_size (hx_ HB.out)) : w.heap.size ≤ gb115)); have n4_ := Aside0.mk ((by rw [hg]; exact (below_size (hx_ HB.out)) : w.heap.size ≤ gb115)); have n5_ := Aside0.mk ((by rw [hg]; exact Nat.ne_of_lt (blk_lt (g := gb113) (o := .cells #[.int .i64 a1_0, .bool false, .int .i64 a1_2] 48 (0, 0)) (bx_ BK113.out)) : gb113 ≠ gb115)); have n6_ := Aside0.mk ((by rw [hg]; exact Nat.ne_of_gt (blk_lt (g := gb113) (o := .cells #[.int .i64 a1_0, .bool false, .int .i64 a1_2] 48 (0, 0)) (bx_ BK113.out)) : gb115 ≠ gb113)); clear BK113; clear HB; have BK113 := n0_; have HB := n1_; have BK115 := n2_; have GW115 := n3_; have GE115 := n4_; have NB113_115 := n5_; have NB115_113 := n6_; clear n0_ n1_ n2_ n3_ n4_ n5_ n6_; clear hb hbox hg; have hnb61 := NB115_113.out; have hnc61 := NB113_115.out; have hcz62_0 : w60.cell? ⟨gb115, 0, none⟩ = some (.int .i64 0) := (blk_cell BK115.out 0).trans rfl; have hcz62_1 : w60.cell? ⟨gb115, 1, none⟩ = some (.int .i64 0) := (blk_cell BK115.out 1).trans rfl; have hfz62_0 := blk_frozen BK115.out 0; have hfz62_1 := blk_frozen BK115.out 1))
                    have n0_ : Aside0 (((w60.setCell ⟨gb115, 0, none⟩ (.int .i64 ((rd_T58 l0 a1_0).f0))).setCell ⟨gb115, 1, none⟩ (.int .i64 ((rd_T58 l0 a1_0).f1))).heap[gb113]? = some (.cells #[.int .i64 a1_0, .bool false, .int .i64 a1_2] 48 (0, 0))) := ⟨bx_ BK113.out⟩
                    have n1_ : Aside0 (((w60.setCell ⟨gb115, 0, none⟩ (.int .i64 ((rd_T58 l0 a1_0).f0))).setCell ⟨gb115, 1, none⟩ (.int .i64 ((rd_T58 l0 a1_0).f1))).heap[gb115]? = some (.cells #[.int .i64 ((rd_T58 l0 a1_0).f0), .int .i64 ((rd_T58 l0 a1_0).f1)] 58 (0, 0))) := ⟨by (with_reducible repeat (first | refine blk_drewN ?_ _ | refine blk_drew ?_ | refine blk_alloc ?_ _)); refine blk_put (cs := #[.int .i64 ((rd_T58 l0 a1_0).f0), .int .i64 0]) ?_ 1 _ rfl; (with_reducible repeat (first | refine blk_drewN ?_ _ | refine blk_drew ?_ | refine blk_alloc ?_ _)); refine blk_put (cs := #[.int .i64 0, .int .i64 0]) ?_ 0 _ rfl; (with_reducible repeat (first | refine blk_drewN ?_ _ | refine blk_drew ?_ | refine blk_alloc ?_ _)); exact BK115.out⟩
                    have n2_ : Aside0 (Below w.heap.size w ((w60.setCell ⟨gb115, 0, none⟩ (.int .i64 ((rd_T58 l0 a1_0).f0))).setCell ⟨gb115, 1, none⟩ (.int .i64 ((rd_T58 l0 a1_0).f1)))) := ⟨hx_ HB.out⟩
                    (try clear BK113)
                    (try clear BK115)
                    (try clear HB)
                    generalize ((w60.setCell ⟨gb115, 0, none⟩ (.int .i64 ((rd_T58 l0 a1_0).f0))).setCell ⟨gb115, 1, none⟩ (.int .i64 ((rd_T58 l0 a1_0).f1))) = w63 at n0_ n1_ n2_ ⊢
                    have BK113 := n0_
                    have BK115 := n1_
                    have HB := n2_
                    clear n0_ n1_ n2_
                    have n0_ := Aside0.mk (blk_drew BK113.out)
                    have n1_ := Aside0.mk (blk_drew BK115.out)
                    have n2_ := Aside0.mk (below_drew1 HB.out)
                    clear BK113
                    clear BK115
                    clear HB
                    have BK113 := n0_
                    have BK115 := n1_
                    have HB := n2_
                    clear n0_ n1_ n2_
                    refine start_ (n := 17) (S := fun w' => w'.cell? ⟨gb113, 0, none⟩ = some (.int .i64 a1_0) ∧ w'.cell? ⟨gb113, 1, none⟩ = some (.bool false) ∧ w'.cell? ⟨gb113, 2, none⟩ = some (.int .i64 a1_2) ∧ w'.cell? ⟨gb115, 0, none⟩ = some (.int .i64 ((rd_T58 l0 a1_0).f0)) ∧ w'.cell? ⟨gb115, 1, none⟩ = some (.int .i64 ((rd_T58 l0 a1_0).f1))) (ds := []) #[false, false, false, false, false, false, false, false, false, false, false, false, false, false, false, false, false] (by kernel_rfl) rfl rfl ⟨(blk_cell BK113.out 0).trans rfl, (blk_cell BK113.out 1).trans rfl, (blk_cell BK113.out 2).trans rfl, (blk_cell BK115.out 0).trans rfl, (blk_cell BK115.out 1).trans rfl⟩ (fun hHeld => ?_); refine with_tabW spec_l09Cut.tab2 spec_l09Cut.bits2 (fun HT_ HW_ => ?_)
                    generalize w63.drew = w64 at BK113 BK115 HB hHeld ⊢
                    refine pure_ (i := 0) (N := some 13) (v := ?_) (a' := ?_) #[true, false, false, false, false, false, false, false, false, false, false, false, false, false, false, false, false] rfl rfl (any_of HT_.out (by kernel_rfl)) (fun _ _ _ h => h) (Or.inl ⟨by rfl, ?_⟩) ?_ ?_
                    rotate_left
                    · intro w'
                      go_simp
                      with_reducible rfl
                    rotate_left
                    · simp only [Act.put, List.setIfInBounds_toArray, List.set_cons_zero, List.set_cons_succ, i64_w, i32_w]
                      rfl
                    refine pure_ (i := 2) (N := some 15) (v := ?_) (a' := ?_) #[true, false, true, false, false, false, false, false, false, false, false, false, false, false, false, false, false] rfl rfl (any_of HT_.out (by kernel_rfl)) (fun _ _ _ h => h) (Or.inl ⟨by rfl, ?_⟩) ?_ ?_
                    rotate_left
                    · intro w'
                      go_simp
                      with_reducible rfl
                    rotate_left
                    · simp only [Act.put, List.setIfInBounds_toArray, List.set_cons_zero, List.set_cons_succ, i64_w, i32_w]
                      rfl
                    refine pure_ (i := 5) (N := some 18) (v := ?_) (a' := ?_) #[true, false, true, false, false, true, false, false, false, false, false, false, false, false, false, false, false] rfl rfl (any_of HT_.out (by kernel_rfl)) (fun _ _ _ h => h) (Or.inl ⟨by rfl, ?_⟩) ?_ ?_
                    rotate_left
                    · intro w'
                      go_simp
                      with_reducible rfl
                    rotate_left
                    · simp only [Act.put, List.setIfInBounds_toArray, List.set_cons_zero, List.set_cons_succ, i64_w, i32_w]
                      rfl
                    refine pure_ (i := 7) (N := some 20) (v := ?_) (a' := ?_) #[true, false, true, false, false, true, false, true, false, false, false, false, false, false, false, false, false] rfl rfl (any_of HT_.out (by kernel_rfl)) (fun _ _ _ h => h) (Or.inl ⟨by rfl, ?_⟩) ?_ ?_
                    rotate_left
                    · intro w'
                      go_simp
                      with_reducible rfl
                    rotate_left
                    · simp only [Act.put, List.setIfInBounds_toArray, List.set_cons_zero, List.set_cons_succ, i64_w, i32_w]
                      rfl
                    refine pure_ (i := 10) (N := some 23) (v := ?_) (a' := ?_) #[true, false, true, false, false, true, false, true, false, false, true, false, false, false, false, false, false] rfl rfl (any_of HT_.out (by kernel_rfl)) (fun _ _ _ h => h) (Or.inl ⟨by rfl, ?_⟩) ?_ ?_
                    rotate_left
                    · intro w'
                      go_simp
                      with_reducible rfl
                    rotate_left
                    · simp only [Act.put, List.setIfInBounds_toArray, List.set_cons_zero, List.set_cons_succ, i64_w, i32_w]
                      rfl
                    refine take_ (i := 1) (N := some 14) (v := ?_) (a' := ?_) #[true, true, true, false, false, true, false, true, false, false, true, false, false, false, false, false, false] rfl rfl (take_ofW HT_.out HW_.out (by kernel_rfl)) (fun _ _ _ h => h) (Or.inl ⟨by rfl, ?_⟩) hHeld ?_ ?_
                    rotate_left
                    · rintro w' ⟨s0, s1, s2, s3, s4⟩
                      go_simp
                      with_reducible rfl
                    rotate_left
                    · simp only [Act.put, List.setIfInBounds_toArray, List.set_cons_zero, List.set_cons_succ, i64_w, i32_w]
                      rfl
                    refine take_ (i := 3) (N := some 16) (v := ?_) (a' := ?_) #[true, true, true, true, false, true, false, true, false, false, true, false, false, false, false, false, false] rfl rfl (take_ofW HT_.out HW_.out (by kernel_rfl)) (fun _ _ _ h => h) (Or.inl ⟨by rfl, ?_⟩) hHeld ?_ ?_
                    rotate_left
                    · rintro w' ⟨s0, s1, s2, s3, s4⟩
                      go_simp
                      with_reducible rfl
                    rotate_left
                    · simp only [Act.put, List.setIfInBounds_toArray, List.set_cons_zero, List.set_cons_succ, i64_w, i32_w]
                      rfl
                    refine pure_ (i := 4) (N := some 17) (v := ?_) (a' := ?_) #[true, true, true, true, true, true, false, true, false, false, true, false, false, false, false, false, false] rfl rfl (any_of HT_.out (by kernel_rfl)) (fun _ _ _ h => h) (Or.inl ⟨by rfl, ?_⟩) ?_ ?_
                    rotate_left
                    · intro w'
                      go_simp
                      with_reducible rfl
                    rotate_left
                    · simp only [Act.put, List.setIfInBounds_toArray, List.set_cons_zero, List.set_cons_succ, i64_w, i32_w]
                      rfl
                    refine take_ (i := 6) (N := some 19) (v := ?_) (a' := ?_) #[true, true, true, true, true, true, true, true, false, false, true, false, false, false, false, false, false] rfl rfl (take_ofW HT_.out HW_.out (by kernel_rfl)) (fun _ _ _ h => h) (Or.inl ⟨by rfl, ?_⟩) hHeld ?_ ?_
                    rotate_left
                    · rintro w' ⟨s0, s1, s2, s3, s4⟩
                      go_simp
                      with_reducible rfl
                    rotate_left
                    · simp only [Act.put, List.setIfInBounds_toArray, List.set_cons_zero, List.set_cons_succ, i64_w, i32_w]
                      rfl
                    refine take_ (i := 8) (N := some 21) (v := ?_) (a' := ?_) #[true, true, true, true, true, true, true, true, true, false, true, false, false, false, false, false, false] rfl rfl (take_ofW HT_.out HW_.out (by kernel_rfl)) (fun _ _ _ h => h) (Or.inl ⟨by rfl, ?_⟩) hHeld ?_ ?_
                    rotate_left
                    · rintro w' ⟨s0, s1, s2, s3, s4⟩
                      go_simp
                      with_reducible rfl
                    rotate_left
                    · simp only [Act.put, List.setIfInBounds_toArray, List.set_cons_zero, List.set_cons_succ, i64_w, i32_w]
                      rfl
                    refine pure_ (i := 9) (N := some 22) (v := ?_) (a' := ?_) #[true, true, true, true, true, true, true, true, true, true, true, false, false, false, false, false, false] rfl rfl (any_of HT_.out (by kernel_rfl)) (fun _ _ _ h => h) (Or.inl ⟨by rfl, ?_⟩) ?_ ?_
                    rotate_left
                    · intro w'
                      go_simp
                      with_reducible rfl
                    rotate_left
                    · simp only [Act.put, List.setIfInBounds_toArray, List.set_cons_zero, List.set_cons_succ, i64_w, i32_w]
                      rfl
                    refine take_ (i := 11) (N := some 24) (v := ?_) (a' := ?_) #[true, true, true, true, true, true, true, true, true, true, true, true, false, false, false, false, false] rfl rfl (take_ofW HT_.out HW_.out (by kernel_rfl)) (fun _ _ _ h => h) (Or.inl ⟨by rfl, ?_⟩) hHeld ?_ ?_
                    rotate_left
                    · rintro w' ⟨s0, s1, s2, s3, s4⟩
                      go_simp
                      with_reducible rfl
                    rotate_left
                    · simp only [Act.put, List.setIfInBounds_toArray, List.set_cons_zero, List.set_cons_succ, i64_w, i32_w]
                      rfl
                    refine pure_ (i := 12) (N := some 25) (v := ?_) (a' := ?_) #[true, true, true, true, true, true, true, true, true, true, true, true, true, false, false, false, false] rfl rfl (any_of HT_.out (by kernel_rfl)) (fun _ _ _ h => h) (Or.inl ⟨by rfl, ?_⟩) ?_ ?_
                    rotate_left
                    · intro w'
                      go_simp
                      with_reducible rfl
                    rotate_left
                    · simp only [Act.put, List.setIfInBounds_toArray, List.set_cons_zero, List.set_cons_succ, i64_w, i32_w]
                      rfl
                    refine join_ (σ := Nat × Nat) 2 #[true, true, true, true, true, true, true, true, true, true, true, true, true, true, true, false, false] (fun s_ => [(6, .pointer (some ⟨s_.1, 0, none⟩)), (7, .pointer (some ⟨s_.2, 0, none⟩))]) (fun s_ w' => (w'.cell? ⟨gb113, 0, none⟩ = some (.int .i64 a1_0) ∧ w'.cell? ⟨gb113, 1, none⟩ = some (.bool false) ∧ w'.cell? ⟨gb113, 2, none⟩ = some (.int .i64 a1_2) ∧ w'.cell? ⟨gb115, 0, none⟩ = some (.int .i64 ((rd_T58 l0 a1_0).f0)) ∧ w'.cell? ⟨gb115, 1, none⟩ = some (.int .i64 ((rd_T58 l0 a1_0).f1))) ∧ (w'.heap[gb113]? = some (.cells #[.int .i64 a1_0, .bool false, .int .i64 a1_2] 48 (0, 0))) ∧ (w'.heap[gb115]? = some (.cells #[.int .i64 ((rd_T58 l0 a1_0).f0), .int .i64 ((rd_T58 l0 a1_0).f1)] 58 (0, 0))) ∧ (w'.heap[s_.1]? = some (.cells #[.int .i64 0, .int .i64 0] 58 (0, 0))) ∧ (w'.heap[s_.2]? = some (.cells #[.int .i64 0, .int .i64 0] 58 (0, 0))) ∧ (w.heap.size ≤ s_.1) ∧ (w.heap.size ≤ s_.1) ∧ (gb113 ≠ s_.1) ∧ (s_.1 ≠ gb113) ∧ (gb115 ≠ s_.1) ∧ (s_.1 ≠ gb115) ∧ (s_.2 ≠ s_.1) ∧ (s_.1 ≠ s_.2) ∧ (w.heap.size ≤ s_.2) ∧ (w.heap.size ≤ s_.2) ∧ (gb113 ≠ s_.2) ∧ (s_.2 ≠ gb113) ∧ (gb115 ≠ s_.2) ∧ (s_.2 ≠ gb115) ∧ (Below w.heap.size w w')) ?_ ?_
                    rotate_left
                    · intro hCont
                      refine two_ (i := 13) (j := 14) (Ni := some 6) (Nj := some 7) #[true, true, true, true, true, true, true, true, true, true, true, true, true, true, false, false, false] #[true, true, true, true, true, true, true, true, true, true, true, true, true, false, true, false, false] rfl rfl rfl rfl (two_of HT_.out (by kernel_rfl)) (by decide) (by decide) (fun K hK => ?_) (fun K hK => ?_)
                      · skip
                        refine box_step ?hg (N := 6) ?hd (cs := #[.int .i64 0, .int .i64 0]) (t := 58) ?hr ?_; (case hd => rfl); (case hg => rfl); (case hr => first | (go_simp; done) | (go_simp; rfl))
                        intro gb116 hg w65 hbox hb
                        have n0_ := Aside0.mk (blk_below (g := gb113) (o := .cells #[.int .i64 a1_0, .bool false, .int .i64 a1_2] 48 (0, 0)) (bx_ BK113.out) hb)
                        have n1_ := Aside0.mk (blk_below (g := gb115) (o := .cells #[.int .i64 ((rd_T58 l0 a1_0).f0), .int .i64 ((rd_T58 l0 a1_0).f1)] 58 (0, 0)) (bx_ BK115.out) hb)
                        have n2_ := Aside0.mk (below_step (hx_ HB.out) hb)
                        have n3_ := Aside0.mk (hbox)
                        have n4_ := Aside0.mk ((by rw [hg]; exact (below_size (hx_ HB.out)) : w.heap.size ≤ gb116))
                        have n5_ := Aside0.mk ((by rw [hg]; exact (below_size (hx_ HB.out)) : w.heap.size ≤ gb116))
                        have n6_ := Aside0.mk ((by rw [hg]; exact Nat.ne_of_lt (blk_lt (g := gb113) (o := .cells #[.int .i64 a1_0, .bool false, .int .i64 a1_2] 48 (0, 0)) (bx_ BK113.out)) : gb113 ≠ gb116))
                        have n7_ := Aside0.mk ((by rw [hg]; exact Nat.ne_of_gt (blk_lt (g := gb113) (o := .cells #[.int .i64 a1_0, .bool false, .int .i64 a1_2] 48 (0, 0)) (bx_ BK113.out)) : gb116 ≠ gb113))
                        have n8_ := Aside0.mk ((by rw [hg]; exact Nat.ne_of_lt (blk_lt (g := gb115) (o := .cells #[.int .i64 ((rd_T58 l0 a1_0).f0), .int .i64 ((rd_T58 l0 a1_0).f1)] 58 (0, 0)) (bx_ BK115.out)) : gb115 ≠ gb116))
                        have n9_ := Aside0.mk ((by rw [hg]; exact Nat.ne_of_gt (blk_lt (g := gb115) (o := .cells #[.int .i64 ((rd_T58 l0 a1_0).f0), .int .i64 ((rd_T58 l0 a1_0).f1)] 58 (0, 0)) (bx_ BK115.out)) : gb116 ≠ gb115))
                        clear BK113
                        clear BK115
                        clear HB
                        have BK113 := n0_
                        have BK115 := n1_
                        have HB := n2_
                        have BK116 := n3_
                        have GW116 := n4_
                        have GE116 := n5_
                        have NB113_116 := n6_
                        have NB116_113 := n7_
                        have NB115_116 := n8_
                        have NB116_115 := n9_
                        clear n0_ n1_ n2_ n3_ n4_ n5_ n6_ n7_ n8_ n9_
                        clear hb hbox hg
                        refine hK.out _ _ ⟨(blk_cell BK113.out 0).trans rfl, (blk_cell BK113.out 1).trans rfl, (blk_cell BK113.out 2).trans rfl, (blk_cell BK115.out 0).trans rfl, (blk_cell BK115.out 1).trans rfl⟩ (fun hHeld => ?_)
                        clear hK K
                        refine norm_ (a' := ?_) ?_ ?_
                        rotate_left
                        · show Act.put _ (some 6) _ = _
                          simp only [Act.put, List.setIfInBounds_toArray, List.set_cons_zero, List.set_cons_succ, i64_w, i32_w]
                          rfl
                        refine one_ (i := 14) (N := some 7) #[true, true, true, true, true, true, true, true, true, true, true, true, true, true, true, false, false] rfl rfl (one_of HT_.out (by kernel_rfl)) (by decide) (fun K hK => ?_)
                        refine box_step ?hg (N := 7) ?hd (cs := #[.int .i64 0, .int .i64 0]) (t := 58) ?hr ?_; (case hd => rfl); (case hg => rfl); (case hr => first | (go_simp; done) | (go_simp; rfl))
                        intro gb117 hg w66 hbox hb
                        have n0_ := Aside0.mk (blk_below (g := gb113) (o := .cells #[.int .i64 a1_0, .bool false, .int .i64 a1_2] 48 (0, 0)) (bx_ BK113.out) hb)
                        have n1_ := Aside0.mk (blk_below (g := gb115) (o := .cells #[.int .i64 ((rd_T58 l0 a1_0).f0), .int .i64 ((rd_T58 l0 a1_0).f1)] 58 (0, 0)) (bx_ BK115.out) hb)
                        have n2_ := Aside0.mk (blk_below (g := gb116) (o := .cells #[.int .i64 0, .int .i64 0] 58 (0, 0)) (bx_ BK116.out) hb)
                        have n3_ := Aside0.mk (below_step (hx_ HB.out) hb)
                        have n4_ := Aside0.mk (hbox)
                        have n5_ := Aside0.mk ((by rw [hg]; exact (below_size (hx_ HB.out)) : w.heap.size ≤ gb117))
                        have n6_ := Aside0.mk ((by rw [hg]; exact (below_size (hx_ HB.out)) : w.heap.size ≤ gb117))
                        have n7_ := Aside0.mk ((by rw [hg]; exact Nat.ne_of_lt (blk_lt (g := gb113) (o := .cells #[.int .i64 a1_0, .bool false, .int .i64 a1_2] 48 (0, 0)) (bx_ BK113.out)) : gb113 ≠ gb117))
                        have n8_ := Aside0.mk ((by rw [hg]; exact Nat.ne_of_gt (blk_lt (g := gb113) (o := .cells #[.int .i64 a1_0, .bool false, .int .i64 a1_2] 48 (0, 0)) (bx_ BK113.out)) : gb117 ≠ gb113))
                        have n9_ := Aside0.mk ((by rw [hg]; exact Nat.ne_of_lt (blk_lt (g := gb115) (o := .cells #[.int .i64 ((rd_T58 l0 a1_0).f0), .int .i64 ((rd_T58 l0 a1_0).f1)] 58 (0, 0)) (bx_ BK115.out)) : gb115 ≠ gb117))
                        have n10_ := Aside0.mk ((by rw [hg]; exact Nat.ne_of_gt (blk_lt (g := gb115) (o := .cells #[.int .i64 ((rd_T58 l0 a1_0).f0), .int .i64 ((rd_T58 l0 a1_0).f1)] 58 (0, 0)) (bx_ BK115.out)) : gb117 ≠ gb115))
                        have n11_ := Aside0.mk ((by rw [hg]; exact Nat.ne_of_lt (blk_lt (g := gb116) (o := .cells #[.int .i64 0, .int .i64 0] 58 (0, 0)) (bx_ BK116.out)) : gb116 ≠ gb117))
                        have n12_ := Aside0.mk ((by rw [hg]; exact Nat.ne_of_gt (blk_lt (g := gb116) (o := .cells #[.int .i64 0, .int .i64 0] 58 (0, 0)) (bx_ BK116.out)) : gb117 ≠ gb116))
                        clear BK113
                        clear BK115
                        clear BK116
                        clear HB
                        have BK113 := n0_
                        have BK115 := n1_
                        have BK116 := n2_
                        have HB := n3_
                        have BK117 := n4_
                        have GW117 := n5_
                        have GE117 := n6_
                        have NB113_117 := n7_
                        have NB117_113 := n8_
                        have NB115_117 := n9_
                        have NB117_115 := n10_
                        have NB116_117 := n11_
                        have NB117_116 := n12_
                        clear n0_ n1_ n2_ n3_ n4_ n5_ n6_ n7_ n8_ n9_ n10_ n11_ n12_
                        clear hb hbox hg
                        refine hK.out _ _ ⟨(blk_cell BK113.out 0).trans rfl, (blk_cell BK113.out 1).trans rfl, (blk_cell BK113.out 2).trans rfl, (blk_cell BK115.out 0).trans rfl, (blk_cell BK115.out 1).trans rfl⟩ (fun hHeld => ?_)
                        clear hK K
                        refine norm_ (a' := ?_) ?_ ?_
                        rotate_left
                        · show Act.put _ (some 7) _ = _
                          simp only [Act.put, List.setIfInBounds_toArray, List.set_cons_zero, List.set_cons_succ, i64_w, i32_w]
                          rfl
                        exact norm_ (by simp only [putAll, Act.put, List.setIfInBounds_toArray, List.set_cons_zero, List.set_cons_succ]) (hCont (gb116, gb117) _ ⟨hHeld, (bx_ BK113.out), (bx_ BK115.out), (bx_ BK116.out), (bx_ BK117.out), GW116.out, GE116.out, NB113_116.out, NB116_113.out, NB115_116.out, NB116_115.out, NB117_116.out, NB116_117.out, GW117.out, GE117.out, NB113_117.out, NB117_113.out, NB115_117.out, NB117_115.out, (hx_ HB.out)⟩)
                      · skip
                        refine box_step ?hg (N := 7) ?hd (cs := #[.int .i64 0, .int .i64 0]) (t := 58) ?hr ?_; (case hd => rfl); (case hg => rfl); (case hr => first | (go_simp; done) | (go_simp; rfl))
                        intro gb117 hg w65 hbox hb
                        have n0_ := Aside0.mk (blk_below (g := gb113) (o := .cells #[.int .i64 a1_0, .bool false, .int .i64 a1_2] 48 (0, 0)) (bx_ BK113.out) hb)
                        have n1_ := Aside0.mk (blk_below (g := gb115) (o := .cells #[.int .i64 ((rd_T58 l0 a1_0).f0), .int .i64 ((rd_T58 l0 a1_0).f1)] 58 (0, 0)) (bx_ BK115.out) hb)
                        have n2_ := Aside0.mk (below_step (hx_ HB.out) hb)
                        have n3_ := Aside0.mk (hbox)
                        have n4_ := Aside0.mk ((by rw [hg]; exact (below_size (hx_ HB.out)) : w.heap.size ≤ gb117))
                        have n5_ := Aside0.mk ((by rw [hg]; exact (below_size (hx_ HB.out)) : w.heap.size ≤ gb117))
                        have n6_ := Aside0.mk ((by rw [hg]; exact Nat.ne_of_lt (blk_lt (g := gb113) (o := .cells #[.int .i64 a1_0, .bool false, .int .i64 a1_2] 48 (0, 0)) (bx_ BK113.out)) : gb113 ≠ gb117))
                        have n7_ := Aside0.mk ((by rw [hg]; exact Nat.ne_of_gt (blk_lt (g := gb113) (o := .cells #[.int .i64 a1_0, .bool false, .int .i64 a1_2] 48 (0, 0)) (bx_ BK113.out)) : gb117 ≠ gb113))
                        have n8_ := Aside0.mk ((by rw [hg]; exact Nat.ne_of_lt (blk_lt (g := gb115) (o := .cells #[.int .i64 ((rd_T58 l0 a1_0).f0), .int .i64 ((rd_T58 l0 a1_0).f1)] 58 (0, 0)) (bx_ BK115.out)) : gb115 ≠ gb117))
                        have n9_ := Aside0.mk ((by rw [hg]; exact Nat.ne_of_gt (blk_lt (g := gb115) (o := .cells #[.int .i64 ((rd_T58 l0 a1_0).f0), .int .i64 ((rd_T58 l0 a1_0).f1)] 58 (0, 0)) (bx_ BK115.out)) : gb117 ≠ gb115))
                        clear BK113
                        clear BK115
                        clear HB
                        have BK113 := n0_
                        have BK115 := n1_
                        have HB := n2_
                        have BK117 := n3_
                        have GW117 := n4_
                        have GE117 := n5_
                        have NB113_117 := n6_
                        have NB117_113 := n7_
                        have NB115_117 := n8_
                        have NB117_115 := n9_
                        clear n0_ n1_ n2_ n3_ n4_ n5_ n6_ n7_ n8_ n9_
                        clear hb hbox hg
                        refine hK.out _ _ ⟨(blk_cell BK113.out 0).trans rfl, (blk_cell BK113.out 1).trans rfl, (blk_cell BK113.out 2).trans rfl, (blk_cell BK115.out 0).trans rfl, (blk_cell BK115.out 1).trans rfl⟩ (fun hHeld => ?_)
                        clear hK K
                        refine norm_ (a' := ?_) ?_ ?_
                        rotate_left
                        · show Act.put _ (some 7) _ = _
                          simp only [Act.put, List.setIfInBounds_toArray, List.set_cons_zero, List.set_cons_succ, i64_w, i32_w]
                          rfl
                        refine one_ (i := 13) (N := some 6) #[true, true, true, true, true, true, true, true, true, true, true, true, true, true, true, false, false] rfl rfl (one_of HT_.out (by kernel_rfl)) (by decide) (fun K hK => ?_)
                        refine box_step ?hg (N := 6) ?hd (cs := #[.int .i64 0, .int .i64 0]) (t := 58) ?hr ?_; (case hd => rfl); (case hg => rfl); (case hr => first | (go_simp; done) | (go_simp; rfl))
                        intro gb116 hg w66 hbox hb
                        have n0_ := Aside0.mk (blk_below (g := gb113) (o := .cells #[.int .i64 a1_0, .bool false, .int .i64 a1_2] 48 (0, 0)) (bx_ BK113.out) hb)
                        have n1_ := Aside0.mk (blk_below (g := gb115) (o := .cells #[.int .i64 ((rd_T58 l0 a1_0).f0), .int .i64 ((rd_T58 l0 a1_0).f1)] 58 (0, 0)) (bx_ BK115.out) hb)
                        have n2_ := Aside0.mk (blk_below (g := gb117) (o := .cells #[.int .i64 0, .int .i64 0] 58 (0, 0)) (bx_ BK117.out) hb)
                        have n3_ := Aside0.mk (below_step (hx_ HB.out) hb)
                        have n4_ := Aside0.mk (hbox)
                        have n5_ := Aside0.mk ((by rw [hg]; exact (below_size (hx_ HB.out)) : w.heap.size ≤ gb116))
                        have n6_ := Aside0.mk ((by rw [hg]; exact (below_size (hx_ HB.out)) : w.heap.size ≤ gb116))
                        have n7_ := Aside0.mk ((by rw [hg]; exact Nat.ne_of_lt (blk_lt (g := gb113) (o := .cells #[.int .i64 a1_0, .bool false, .int .i64 a1_2] 48 (0, 0)) (bx_ BK113.out)) : gb113 ≠ gb116))
                        have n8_ := Aside0.mk ((by rw [hg]; exact Nat.ne_of_gt (blk_lt (g := gb113) (o := .cells #[.int .i64 a1_0, .bool false, .int .i64 a1_2] 48 (0, 0)) (bx_ BK113.out)) : gb116 ≠ gb113))
                        have n9_ := Aside0.mk ((by rw [hg]; exact Nat.ne_of_lt (blk_lt (g := gb115) (o := .cells #[.int .i64 ((rd_T58 l0 a1_0).f0), .int .i64 ((rd_T58 l0 a1_0).f1)] 58 (0, 0)) (bx_ BK115.out)) : gb115 ≠ gb116))
                        have n10_ := Aside0.mk ((by rw [hg]; exact Nat.ne_of_gt (blk_lt (g := gb115) (o := .cells #[.int .i64 ((rd_T58 l0 a1_0).f0), .int .i64 ((rd_T58 l0 a1_0).f1)] 58 (0, 0)) (bx_ BK115.out)) : gb116 ≠ gb115))
                        have n11_ := Aside0.mk ((by rw [hg]; exact Nat.ne_of_lt (blk_lt (g := gb117) (o := .cells #[.int .i64 0, .int .i64 0] 58 (0, 0)) (bx_ BK117.out)) : gb117 ≠ gb116))
                        have n12_ := Aside0.mk ((by rw [hg]; exact Nat.ne_of_gt (blk_lt (g := gb117) (o := .cells #[.int .i64 0, .int .i64 0] 58 (0, 0)) (bx_ BK117.out)) : gb116 ≠ gb117))
                        clear BK113
                        clear BK115
                        clear BK117
                        clear HB
                        have BK113 := n0_
                        have BK115 := n1_
                        have BK117 := n2_
                        have HB := n3_
                        have BK116 := n4_
                        have GW116 := n5_
                        have GE116 := n6_
                        have NB113_116 := n7_
                        have NB116_113 := n8_
                        have NB115_116 := n9_
                        have NB116_115 := n10_
                        have NB117_116 := n11_
                        have NB116_117 := n12_
                        clear n0_ n1_ n2_ n3_ n4_ n5_ n6_ n7_ n8_ n9_ n10_ n11_ n12_
                        clear hb hbox hg
                        refine hK.out _ _ ⟨(blk_cell BK113.out 0).trans rfl, (blk_cell BK113.out 1).trans rfl, (blk_cell BK113.out 2).trans rfl, (blk_cell BK115.out 0).trans rfl, (blk_cell BK115.out 1).trans rfl⟩ (fun hHeld => ?_)
                        clear hK K
                        refine norm_ (a' := ?_) ?_ ?_
                        rotate_left
                        · show Act.put _ (some 6) _ = _
                          simp only [Act.put, List.setIfInBounds_toArray, List.set_cons_zero, List.set_cons_succ, i64_w, i32_w]
                          rfl
                        exact norm_ (by simp only [putAll, Act.put, List.setIfInBounds_toArray, List.set_cons_zero, List.set_cons_succ]) (hCont (gb116, gb117) _ ⟨hHeld, (bx_ BK113.out), (bx_ BK115.out), (bx_ BK116.out), (bx_ BK117.out), GW116.out, GE116.out, NB113_116.out, NB116_113.out, NB115_116.out, NB116_115.out, NB117_116.out, NB116_117.out, GW117.out, GE117.out, NB113_117.out, NB117_113.out, NB115_117.out, NB117_115.out, (hx_ HB.out)⟩)
                    rintro ⟨gb116, gb117⟩ w67 ⟨hS_, h0_, h1_, h2_, h3_, h4_, h5_, h6_, h7_, h8_, h9_, h10_, h11_, h12_, h13_, h14_, h15_, h16_, h17_, h18_⟩
                    have n0_ : Aside0 (w67.heap[gb113]? = some (.cells #[.int .i64 a1_0, .bool false, .int .i64 a1_2] 48 (0, 0))) := ⟨h0_⟩
                    have n1_ : Aside0 (w67.heap[gb115]? = some (.cells #[.int .i64 ((rd_T58 l0 a1_0).f0), .int .i64 ((rd_T58 l0 a1_0).f1)] 58 (0, 0))) := ⟨h1_⟩
                    have n2_ : Aside0 (w67.heap[gb116]? = some (.cells #[.int .i64 0, .int .i64 0] 58 (0, 0))) := ⟨h2_⟩
                    have n3_ : Aside0 (w67.heap[gb117]? = some (.cells #[.int .i64 0, .int .i64 0] 58 (0, 0))) := ⟨h3_⟩
                    have n4_ : Aside0 (w.heap.size ≤ gb116) := ⟨h4_⟩
                    have n5_ : Aside0 (w.heap.size ≤ gb116) := ⟨h5_⟩
                    have n6_ : Aside0 (gb113 ≠ gb116) := ⟨h6_⟩
                    have n7_ : Aside0 (gb116 ≠ gb113) := ⟨h7_⟩
                    have n8_ : Aside0 (gb115 ≠ gb116) := ⟨h8_⟩
                    have n9_ : Aside0 (gb116 ≠ gb115) := ⟨h9_⟩
                    have n10_ : Aside0 (gb117 ≠ gb116) := ⟨h10_⟩
                    have n11_ : Aside0 (gb116 ≠ gb117) := ⟨h11_⟩
                    have n12_ : Aside0 (w.heap.size ≤ gb117) := ⟨h12_⟩
                    have n13_ : Aside0 (w.heap.size ≤ gb117) := ⟨h13_⟩
                    have n14_ : Aside0 (gb113 ≠ gb117) := ⟨h14_⟩
                    have n15_ : Aside0 (gb117 ≠ gb113) := ⟨h15_⟩
                    have n16_ : Aside0 (gb115 ≠ gb117) := ⟨h16_⟩
                    have n17_ : Aside0 (gb117 ≠ gb115) := ⟨h17_⟩
                    have n18_ : Aside0 (Below w.heap.size w w67) := ⟨h18_⟩
                    clear BK113
                    clear BK115
                    clear HB
                    clear h0_ h1_ h2_ h3_ h4_ h5_ h6_ h7_ h8_ h9_ h10_ h11_ h12_ h13_ h14_ h15_ h16_ h17_ h18_
                    have BK113 := n0_
                    have BK115 := n1_
                    have BK116 := n2_
                    have BK117 := n3_
                    have GW116 := n4_
                    have GE116 := n5_
                    have NB113_116 := n6_
                    have NB116_113 := n7_
                    have NB115_116 := n8_
                    have NB116_115 := n9_
                    have NB117_116 := n10_
                    have NB116_117 := n11_
                    have GW117 := n12_
                    have GE117 := n13_
                    have NB113_117 := n14_
                    have NB117_113 := n15_
                    have NB115_117 := n16_
                    have NB117_115 := n17_
                    have HB := n18_
                    clear n0_ n1_ n2_ n3_ n4_ n5_ n6_ n7_ n8_ n9_ n10_ n11_ n12_ n13_ n14_ n15_ n16_ n17_ n18_
                    have hHeld : w67.cell? ⟨gb113, 0, none⟩ = some (.int .i64 a1_0) ∧ w67.cell? ⟨gb113, 1, none⟩ = some (.bool false) ∧ w67.cell? ⟨gb113, 2, none⟩ = some (.int .i64 a1_2) ∧ w67.cell? ⟨gb115, 0, none⟩ = some (.int .i64 ((rd_T58 l0 a1_0).f0)) ∧ w67.cell? ⟨gb115, 1, none⟩ = some (.int .i64 ((rd_T58 l0 a1_0).f1)) := hS_
                    refine norm_ (a' := ?_) ?_ ?_
                    rotate_left
                    · simp only [putAll, Act.put, List.setIfInBounds_toArray, List.set_cons_zero, List.set_cons_succ]
                      rfl
                    refine one_ (i := 15) (N := none) #[true, true, true, true, true, true, true, true, true, true, true, true, true, true, true, true, false] rfl rfl (one_of HT_.out (by kernel_rfl)) (by decide) (fun K hK => ?_)
                    have hs68 : w67.cell? ⟨gb116, 0, none⟩ = some (.int .i64 0) := (blk_cell BK116.out 0).trans rfl
                    have hfs68 := blk_frozen BK116.out 0
                    have hns68_0 := NB113_116.out
                    have hns68_1 := NB115_116.out
                    have hns68_3 := NB117_116.out
                    have hms68_0 := NB116_113.out
                    have hms68_1 := NB116_115.out
                    have hms68_3 := NB116_117.out
                    have hs69 : w67.cell? ⟨gb116, 1, none⟩ = some (.int .i64 0) := (blk_cell BK116.out 1).trans rfl
                    have hfs69 := blk_frozen BK116.out 1
                    have hns69_0 := NB113_116.out
                    have hns69_1 := NB115_116.out
                    have hns69_3 := NB117_116.out
                    have hms69_0 := NB116_113.out
                    have hms69_1 := NB116_115.out
                    have hms69_3 := NB116_117.out
                    refine skip_ (w1 := ?_) (by rfl) rfl ?_ ?_
                    rotate_left
                    · go_simp
                      rfl
                    refine hK.out _ _ ⟨((cell_far (p := ⟨gb116, _, none⟩) NB113_116.out _).trans (((cell_far (p := ⟨gb116, _, none⟩) NB113_116.out _).trans (hHeld.1)))), ((cell_far (p := ⟨gb116, _, none⟩) NB113_116.out _).trans (((cell_far (p := ⟨gb116, _, none⟩) NB113_116.out _).trans (hHeld.2.1)))), ((cell_far (p := ⟨gb116, _, none⟩) NB113_116.out _).trans (((cell_far (p := ⟨gb116, _, none⟩) NB113_116.out _).trans (hHeld.2.2.1)))), ((cell_far (p := ⟨gb116, _, none⟩) NB115_116.out _).trans (((cell_far (p := ⟨gb116, _, none⟩) NB115_116.out _).trans (hHeld.2.2.2.1)))), ((cell_far (p := ⟨gb116, _, none⟩) NB115_116.out _).trans (((cell_far (p := ⟨gb116, _, none⟩) NB115_116.out _).trans (hHeld.2.2.2.2))))⟩ (fun hHeld => ?_)
                    clear hK K
                    refine one_ (i := 16) (N := none) #[true, true, true, true, true, true, true, true, true, true, true, true, true, true, true, true, true] rfl rfl (one_of HT_.out (by kernel_rfl)) (by decide) (fun K hK => ?_)
                    have hs70 : w67.cell? ⟨gb117, 0, none⟩ = some (.int .i64 0) := (blk_cell BK117.out 0).trans rfl
                    have hfs70 := blk_frozen BK117.out 0
                    have hns70_0 := NB113_117.out
                    have hns70_1 := NB115_117.out
                    have hns70_2 := NB116_117.out
                    have hms70_0 := NB117_113.out
                    have hms70_1 := NB117_115.out
                    have hms70_2 := NB117_116.out
                    have hs71 : w67.cell? ⟨gb117, 1, none⟩ = some (.int .i64 0) := (blk_cell BK117.out 1).trans rfl
                    have hfs71 := blk_frozen BK117.out 1
                    have hns71_0 := NB113_117.out
                    have hns71_1 := NB115_117.out
                    have hns71_2 := NB116_117.out
                    have hms71_0 := NB117_113.out
                    have hms71_1 := NB117_115.out
                    have hms71_2 := NB117_116.out
                    refine skip_ (w1 := ?_) (by rfl) rfl ?_ ?_
                    rotate_left
                    · go_simp
                      rfl
                    refine hK.out _ _ ⟨((cell_far (p := ⟨gb117, _, none⟩) NB113_117.out _).trans (((cell_far (p := ⟨gb117, _, none⟩) NB113_117.out _).trans (hHeld.1)))), ((cell_far (p := ⟨gb117, _, none⟩) NB113_117.out _).trans (((cell_far (p := ⟨gb117, _, none⟩) NB113_117.out _).trans (hHeld.2.1)))), ((cell_far (p := ⟨gb117, _, none⟩) NB113_117.out _).trans (((cell_far (p := ⟨gb117, _, none⟩) NB113_117.out _).trans (hHeld.2.2.1)))), ((cell_far (p := ⟨gb117, _, none⟩) NB115_117.out _).trans (((cell_far (p := ⟨gb117, _, none⟩) NB115_117.out _).trans (hHeld.2.2.2.1)))), ((cell_far (p := ⟨gb117, _, none⟩) NB115_117.out _).trans (((cell_far (p := ⟨gb117, _, none⟩) NB115_117.out _).trans (hHeld.2.2.2.2))))⟩ (fun hHeld => ?_)
                    clear hK K
                    refine done_ (done_of HT_.out (by kernel_rfl)) ?_
                    have hnb72 := NB113_116.out
                    have hnc72 := NB116_113.out
                    have hnb73 := NB113_117.out
                    have hnc73 := NB117_113.out
                    have hcz74_0 : w67.cell? ⟨gb113, 0, none⟩ = some (.int .i64 a1_0) := (blk_cell BK113.out 0).trans rfl
                    have hcz74_1 : w67.cell? ⟨gb113, 1, none⟩ = some (.bool false) := (blk_cell BK113.out 1).trans rfl
                    have hcz74_2 : w67.cell? ⟨gb113, 2, none⟩ = some (.int .i64 a1_2) := (blk_cell BK113.out 2).trans rfl
                    have hfz74_0 := blk_frozen BK113.out 0
                    have hfz74_1 := blk_frozen BK113.out 1
                    have hfz74_2 := blk_frozen BK113.out 2
                    try go_wp2
                    have n0_ : Aside0 (((((w67.setCell ⟨gb116, 0, none⟩ (.int .i64 a1_2)).setCell ⟨gb116, 1, none⟩ (.int .i64 ((rd_T58 l0 a1_0).f1))).setCell ⟨gb117, 0, none⟩ (.int .i64 (wrap64 (((rd_T58 l0 a1_0).f0) - a1_2)))).setCell ⟨gb117, 1, none⟩ (.int .i64 ((rd_T58 l0 a1_0).f1))).heap[gb113]? = some (.cells #[.int .i64 a1_0, .bool false, .int .i64 a1_2] 48 (0, 0))) := ⟨bx_ BK113.out⟩
                    have n1_ : Aside0 (((((w67.setCell ⟨gb116, 0, none⟩ (.int .i64 a1_2)).setCell ⟨gb116, 1, none⟩ (.int .i64 ((rd_T58 l0 a1_0).f1))).setCell ⟨gb117, 0, none⟩ (.int .i64 (wrap64 (((rd_T58 l0 a1_0).f0) - a1_2)))).setCell ⟨gb117, 1, none⟩ (.int .i64 ((rd_T58 l0 a1_0).f1))).heap[gb115]? = some (.cells #[.int .i64 ((rd_T58 l0 a1_0).f0), .int .i64 ((rd_T58 l0 a1_0).f1)] 58 (0, 0))) := ⟨bx_ BK115.out⟩
                    have n2_ : Aside0 (((((w67.setCell ⟨gb116, 0, none⟩ (.int .i64 a1_2)).setCell ⟨gb116, 1, none⟩ (.int .i64 ((rd_T58 l0 a1_0).f1))).setCell ⟨gb117, 0, none⟩ (.int .i64 (wrap64 (((rd_T58 l0 a1_0).f0) - a1_2)))).setCell ⟨gb117, 1, none⟩ (.int .i64 ((rd_T58 l0 a1_0).f1))).heap[gb116]? = some (.cells #[.int .i64 a1_2, .int .i64 ((rd_T58 l0 a1_0).f1)] 58 (0, 0))) := ⟨by (with_reducible repeat (first | refine blk_drewN ?_ _ | refine blk_drew ?_ | refine blk_alloc ?_ _)); refine blk_far ?_ NB116_117.out _; (with_reducible repeat (first | refine blk_drewN ?_ _ | refine blk_drew ?_ | refine blk_alloc ?_ _)); refine blk_far ?_ NB116_117.out _; (with_reducible repeat (first | refine blk_drewN ?_ _ | refine blk_drew ?_ | refine blk_alloc ?_ _)); refine blk_put (cs := #[.int .i64 a1_2, .int .i64 0]) ?_ 1 _ rfl; (with_reducible repeat (first | refine blk_drewN ?_ _ | refine blk_drew ?_ | refine blk_alloc ?_ _)); refine blk_put (cs := #[.int .i64 0, .int .i64 0]) ?_ 0 _ rfl; (with_reducible repeat (first | refine blk_drewN ?_ _ | refine blk_drew ?_ | refine blk_alloc ?_ _)); exact BK116.out⟩
                    have n3_ : Aside0 (((((w67.setCell ⟨gb116, 0, none⟩ (.int .i64 a1_2)).setCell ⟨gb116, 1, none⟩ (.int .i64 ((rd_T58 l0 a1_0).f1))).setCell ⟨gb117, 0, none⟩ (.int .i64 (wrap64 (((rd_T58 l0 a1_0).f0) - a1_2)))).setCell ⟨gb117, 1, none⟩ (.int .i64 ((rd_T58 l0 a1_0).f1))).heap[gb117]? = some (.cells #[.int .i64 (wrap64 (((rd_T58 l0 a1_0).f0) - a1_2)), .int .i64 ((rd_T58 l0 a1_0).f1)] 58 (0, 0))) := ⟨by (with_reducible repeat (first | refine blk_drewN ?_ _ | refine blk_drew ?_ | refine blk_alloc ?_ _)); refine blk_put (cs := #[.int .i64 (wrap64 (((rd_T58 l0 a1_0).f0) - a1_2)), .int .i64 0]) ?_ 1 _ rfl; (with_reducible repeat (first | refine blk_drewN ?_ _ | refine blk_drew ?_ | refine blk_alloc ?_ _)); refine blk_put (cs := #[.int .i64 0, .int .i64 0]) ?_ 0 _ rfl; (with_reducible repeat (first | refine blk_drewN ?_ _ | refine blk_drew ?_ | refine blk_alloc ?_ _)); refine blk_far ?_ NB117_116.out _; (with_reducible repeat (first | refine blk_drewN ?_ _ | refine blk_drew ?_ | refine blk_alloc ?_ _)); refine blk_far ?_ NB117_116.out _; (with_reducible repeat (first | refine blk_drewN ?_ _ | refine blk_drew ?_ | refine blk_alloc ?_ _)); exact BK117.out⟩
                    have n4_ : Aside0 (Below w.heap.size w ((((w67.setCell ⟨gb116, 0, none⟩ (.int .i64 a1_2)).setCell ⟨gb116, 1, none⟩ (.int .i64 ((rd_T58 l0 a1_0).f1))).setCell ⟨gb117, 0, none⟩ (.int .i64 (wrap64 (((rd_T58 l0 a1_0).f0) - a1_2)))).setCell ⟨gb117, 1, none⟩ (.int .i64 ((rd_T58 l0 a1_0).f1)))) := ⟨hx_ HB.out⟩
                    (try clear BK113)
                    (try clear BK115)
                    (try clear BK116)
                    (try clear BK117)
                    (try clear HB)
                    generalize ((((w67.setCell ⟨gb116, 0, none⟩ (.int .i64 a1_2)).setCell ⟨gb116, 1, none⟩ (.int .i64 ((rd_T58 l0 a1_0).f1))).setCell ⟨gb117, 0, none⟩ (.int .i64 (wrap64 (((rd_T58 l0 a1_0).f0) - a1_2)))).setCell ⟨gb117, 1, none⟩ (.int .i64 ((rd_T58 l0 a1_0).f1))) = w75 at n0_ n1_ n2_ n3_ n4_ ⊢
                    have BK113 := n0_
                    have BK115 := n1_
                    have BK116 := n2_
                    have BK117 := n3_
                    have HB := n4_
                    clear n0_ n1_ n2_ n3_ n4_
                    have n0_ := Aside0.mk (blk_drew BK113.out)
                    have n1_ := Aside0.mk (blk_drew BK115.out)
                    have n2_ := Aside0.mk (blk_drew BK116.out)
                    have n3_ := Aside0.mk (blk_drew BK117.out)
                    have n4_ := Aside0.mk (below_drew1 HB.out)
                    clear BK113
                    clear BK115
                    clear BK116
                    clear BK117
                    clear HB
                    have BK113 := n0_
                    have BK115 := n1_
                    have BK116 := n2_
                    have BK117 := n3_
                    have HB := n4_
                    clear n0_ n1_ n2_ n3_ n4_
                    have q77 : (a1_0 : Int) ≤ ((l0.length : Int) : Int) := of_decide_eq_true (by first | (with_reducible assumption) | assumption)
                    obtain ⟨i077, hi077, _, hsz77, _⟩ := info_parts info58
                    have hroom77 : l0.length ≤ c0 := HC0.out
                    have hC77 : Kd.C k58 _ (some ad114) l0.length l0 := HR0.out
                    have hcut77 := cut_to (P := Try.prog) 44 58 .i64 Try.underlying44 hi077 (some ad114) l0.length c0 a1_0 (of_decide_eq_true (by first | (with_reducible assumption) | assumption)) q77 hroom77
                    have hr77 := Kd.C_take (m := (a1_0 : Int).toNat) hC77 (by omega)
                    have hy77 : y144.length = (a1_0 : Int).toNat := (by rw [Ny144.out, List.length_take]; omega)
                    rw [← Ny144.out] at hr77
                    rw [← hy77] at hcut77
                    have HR147 := Aside0.mk hr77
                    have HC147 := Aside0.mk (show y144.length ≤ c0 from by omega)
                    clear hr77 hC77 hroom77 hi077 hsz77
                    have KY77 := Aside0.mk hy77
                    clear hy77
                    replace q77 := eq_true q77
                    have q78 : ((ji54) : Int) ≤ ((l0.length : Int) : Int) := of_decide_eq_true (by first | (with_reducible assumption) | assumption)
                    obtain ⟨i078, hi078, _, hsz78, _⟩ := info_parts info58
                    have hroom78 : l0.length ≤ c0 := HC0.out
                    have hC78 : Kd.C k58 _ (some ad114) l0.length l0 := HR0.out
                    have q078 : (0 : Int) ≤ ((ji54) : Int) := of_decide_eq_true (by first | (with_reducible assumption) | assumption)
                    have hcut78 := cut_from (P := Try.prog) 44 58 .i64 Try.underlying44 hi078 2 hsz78 (some ad114) l0.length c0 (ji54) q078 q78
                    have hr78 := Kd.C_drop (m := ((ji54) : Int).toNat) (c := c0) hC78 (by omega) hroom78
                    obtain ⟨A78, hA78⟩ : ∃ A1, A1 = (if c0 = ((ji54) : Int).toNat then (some ad114) else ((some ad114) : Option Addr).map (·.add (((ji54) : Int).toNat * 2))) := ⟨_, rfl⟩
                    obtain ⟨c78, hc78⟩ : ∃ c1, c1 = c0 - ((ji54) : Int).toNat := ⟨_, rfl⟩
                    have hy78 : y157.length = l0.length - ((ji54) : Int).toNat := (by rw [Ny157.out, List.length_drop] <;> omega)
                    rw [show (l0).drop ((ji54) : Int).toNat = y157 from Ny157.out.symm] at hr78
                    replace hr78 : Kd.C k58 _ A78 y157.length y157 := (by rw [hA78]; exact hr78)
                    rw [← hy78, ← hA78, ← hc78] at hcut78
                    have HR160 := Aside0.mk hr78
                    have HC160 := Aside0.mk (show y157.length ≤ c78 from by rw [hy78, hc78]; exact Nat.sub_le_sub_right hroom78 _)
                    clear hr78 hC78 hroom78 hi078 hsz78 hc78
                    have KY78 := Aside0.mk hy78
                    have KA78 := Aside0.mk hA78
                    clear hy78 hA78
                    replace q78 := eq_true q78
                    refine start_ (n := 17) (S := fun w' => w'.cell? ⟨gb113, 0, none⟩ = some (.int .i64 a1_0) ∧ w'.cell? ⟨gb113, 1, none⟩ = some (.bool false) ∧ w'.cell? ⟨gb113, 2, none⟩ = some (.int .i64 a1_2) ∧ w'.cell? ⟨gb116, 0, none⟩ = some (.int .i64 a1_2) ∧ w'.cell? ⟨gb116, 1, none⟩ = some (.int .i64 ((rd_T58 l0 a1_0).f1)) ∧ w'.cell? ⟨gb117, 0, none⟩ = some (.int .i64 (wrap64 (((rd_T58 l0 a1_0).f0) - a1_2))) ∧ w'.cell? ⟨gb117, 1, none⟩ = some (.int .i64 ((rd_T58 l0 a1_0).f1))) (ds := []) #[false, false, false, false, false, false, false, false, false, false, false, false, false, false, false, false, false] (by kernel_rfl) rfl rfl ⟨(blk_cell BK113.out 0).trans rfl, (blk_cell BK113.out 1).trans rfl, (blk_cell BK113.out 2).trans rfl, (blk_cell BK116.out 0).trans rfl, (blk_cell BK116.out 1).trans rfl, (blk_cell BK117.out 0).trans rfl, (blk_cell BK117.out 1).trans rfl⟩ (fun hHeld => ?_); refine with_tabW spec_l09Cut.tab5 spec_l09Cut.bits5 (fun HT_ HW_ => ?_)
                    generalize w75.drew = w76 at BK113 BK115 BK116 BK117 HB HR147 HR160 hHeld ⊢
                    refine pure_ (i := 1) (N := some 42) (v := ?_) (a' := ?_) #[false, true, false, false, false, false, false, false, false, false, false, false, false, false, false, false, false] rfl rfl (any_of HT_.out (by kernel_rfl)) (fun _ _ _ h => h) (Or.inl ⟨by rfl, ?_⟩) ?_ ?_
                    rotate_left
                    · intro w'
                      go_simp
                      with_reducible rfl
                    rotate_left
                    · simp only [Act.put, List.setIfInBounds_toArray, List.set_cons_zero, List.set_cons_succ, i64_w, i32_w]
                      rfl
                    refine pure_ (i := 2) (N := some 43) (v := ?_) (a' := ?_) #[false, true, true, false, false, false, false, false, false, false, false, false, false, false, false, false, false] rfl rfl (any_of HT_.out (by kernel_rfl)) (fun _ _ _ h => h) (Or.inl ⟨by rfl, ?_⟩) ?_ ?_
                    rotate_left
                    · intro w'
                      go_simp
                      with_reducible rfl
                    rotate_left
                    · simp only [Act.put, List.setIfInBounds_toArray, List.set_cons_zero, List.set_cons_succ, i64_w, i32_w]
                      rfl
                    refine pure_ (i := 10) (N := some 51) (v := ?_) (a' := ?_) #[false, true, true, false, false, false, false, false, false, false, true, false, false, false, false, false, false] rfl rfl (any_of HT_.out (by kernel_rfl)) (fun _ _ _ h => h) (Or.inl ⟨by rfl, ?_⟩) ?_ ?_
                    rotate_left
                    · intro w'
                      go_simp
                      with_reducible rfl
                    rotate_left
                    · simp only [Act.put, List.setIfInBounds_toArray, List.set_cons_zero, List.set_cons_succ, i64_w, i32_w]
                      rfl
                    refine pure_ (i := 11) (N := some 52) (v := ?_) (a' := ?_) #[false, true, true, false, false, false, false, false, false, false, true, true, false, false, false, false, false] rfl rfl (any_of HT_.out (by kernel_rfl)) (fun _ _ _ h => h) (Or.inl ⟨by rfl, ?_⟩) ?_ ?_
                    rotate_left
                    · intro w'
                      go_simp
                      with_reducible rfl
                    rotate_left
                    · simp only [Act.put, List.setIfInBounds_toArray, List.set_cons_zero, List.set_cons_succ, i64_w, i32_w]
                      rfl
                    refine take_ (i := 3) (N := some 44) (v := ?_) (a' := ?_) #[false, true, true, true, false, false, false, false, false, false, true, true, false, false, false, false, false] rfl rfl (take_ofW HT_.out HW_.out (by kernel_rfl)) (fun _ _ _ h => h) (Or.inl ⟨by rfl, ?_⟩) hHeld ?_ ?_
                    rotate_left
                    · rintro w' ⟨s0, s1, s2, s3, s4, s5, s6⟩
                      go_simp
                      with_reducible rfl
                    rotate_left
                    · simp only [Act.put, List.setIfInBounds_toArray, List.set_cons_zero, List.set_cons_succ, i64_w, i32_w]
                      rfl
                    refine pure_ (i := 4) (N := some 45) (v := ?_) (a' := ?_) #[false, true, true, true, true, false, false, false, false, false, true, true, false, false, false, false, false] rfl rfl (any_of HT_.out (by kernel_rfl)) (fun _ _ _ h => h) (Or.inl ⟨by rfl, ?_⟩) ?_ ?_
                    rotate_left
                    · intro w'
                      go_simp
                      with_reducible rfl
                    rotate_left
                    · simp only [Act.put, List.setIfInBounds_toArray, List.set_cons_zero, List.set_cons_succ, i64_w, i32_w]
                      rfl
                    refine take_ (i := 6) (N := some 47) (v := ?_) (a' := ?_) #[false, true, true, true, true, false, true, false, false, false, true, true, false, false, false, false, false] rfl rfl (take_ofW HT_.out HW_.out (by kernel_rfl)) (fun _ _ _ h => h) (Or.inl ⟨by rfl, ?_⟩) hHeld ?_ ?_
                    rotate_left
                    · rintro w' ⟨s0, s1, s2, s3, s4, s5, s6⟩
                      go_simp
                      with_reducible rfl
                    rotate_left
                    · simp only [Act.put, List.setIfInBounds_toArray, List.set_cons_zero, List.set_cons_succ, i64_w, i32_w]
                      rfl
                    refine take_ (i := 7) (N := some 48) (v := ?_) (a' := ?_) #[false, true, true, true, true, false, true, true, false, false, true, true, false, false, false, false, false] rfl rfl (take_ofW HT_.out HW_.out (by kernel_rfl)) (fun _ _ _ h => h) (Or.inl ⟨by rfl, ?_⟩) hHeld ?_ ?_
                    rotate_left
                    · rintro w' ⟨s0, s1, s2, s3, s4, s5, s6⟩
                      go_simp
                      with_reducible rfl
                    rotate_left
                    · simp only [Act.put, List.setIfInBounds_toArray, List.set_cons_zero, List.set_cons_succ, i64_w, i32_w]
                      rfl
                    refine take_ (i := 12) (N := some 53) (v := ?_) (a' := ?_) #[false, true, true, true, true, false, true, true, false, false, true, true, true, false, false, false, false] rfl rfl (take_ofW HT_.out HW_.out (by kernel_rfl)) (fun _ _ _ h => h) (Or.inl ⟨by rfl, ?_⟩) hHeld ?_ ?_
                    rotate_left
                    · rintro w' ⟨s0, s1, s2, s3, s4, s5, s6⟩
                      go_simp
                      with_reducible rfl
                    rotate_left
                    · simp only [Act.put, List.setIfInBounds_toArray, List.set_cons_zero, List.set_cons_succ, i64_w, i32_w]
                      rfl
                    refine pure_ (i := 13) (N := some 54) (v := ?_) (a' := ?_) #[false, true, true, true, true, false, true, true, false, false, true, true, true, true, false, false, false] rfl rfl (any_of HT_.out (by kernel_rfl)) (fun _ _ _ h => h) (Or.inl ⟨by rfl, ?_⟩) ?_ ?_
                    rotate_left
                    · intro w'
                      go_simp
                      with_reducible rfl
                    rotate_left
                    · simp only [Act.put, List.setIfInBounds_toArray, List.set_cons_zero, List.set_cons_succ, i64_w, i32_w]
                      rfl
                    refine pure_ (i := 14) (N := some 55) (v := ?_) (a' := ?_) #[false, true, true, true, true, false, true, true, false, false, true, true, true, true, true, false, false] rfl rfl (any_of HT_.out (by kernel_rfl)) (fun _ _ _ h => h) (Or.inl ⟨by rfl, ?_⟩) ?_ ?_
                    rotate_left
                    · intro w'
                      go_simp
                      with_reducible rfl
                    rotate_left
                    · simp only [Act.put, List.setIfInBounds_toArray, List.set_cons_zero, List.set_cons_succ, i64_w, i32_w]
                      rfl
                    refine join_ (σ := Value × Value × Value) 3 #[true, true, true, true, true, true, true, true, true, false, true, true, true, true, true, false, false] (fun s_ => [(41, s_.1), (46, s_.2.1), (49, s_.2.2)]) (fun s_ w' => (w'.cell? ⟨gb113, 0, none⟩ = some (.int .i64 a1_0) ∧ w'.cell? ⟨gb113, 1, none⟩ = some (.bool false) ∧ w'.cell? ⟨gb113, 2, none⟩ = some (.int .i64 a1_2) ∧ w'.cell? ⟨gb116, 0, none⟩ = some (.int .i64 a1_2) ∧ w'.cell? ⟨gb116, 1, none⟩ = some (.int .i64 ((rd_T58 l0 a1_0).f1)) ∧ w'.cell? ⟨gb117, 0, none⟩ = some (.int .i64 (wrap64 (((rd_T58 l0 a1_0).f0) - a1_2))) ∧ w'.cell? ⟨gb117, 1, none⟩ = some (.int .i64 ((rd_T58 l0 a1_0).f1))) ∧ (Kd.R k58 58 w' w.heap.size (fun k_ => some k_ ≠ (s_.2.2 : Value).ownBlock ∧ k_ ≠ gb115 ∧ k_ ≠ gb116 ∧ k_ ≠ gb117) s_.2.1 y148) ∧ (Kd.R k58 58 w' w.heap.size (fun k_ => some k_ ≠ (s_.2.1 : Value).ownBlock ∧ k_ ≠ gb115 ∧ k_ ≠ gb116 ∧ k_ ≠ gb117) s_.2.2 y151) ∧ (w'.heap[gb113]? = some (.cells #[.int .i64 a1_0, .bool false, .int .i64 a1_2] 48 (0, 0))) ∧ (w'.heap[gb115]? = some (.cells #[.int .i64 ((rd_T58 l0 a1_0).f0), .int .i64 ((rd_T58 l0 a1_0).f1)] 58 (0, 0))) ∧ (w'.heap[gb116]? = some (.cells #[.int .i64 a1_2, .int .i64 ((rd_T58 l0 a1_0).f1)] 58 (0, 0))) ∧ (w'.heap[gb117]? = some (.cells #[.int .i64 (wrap64 (((rd_T58 l0 a1_0).f0) - a1_2)), .int .i64 ((rd_T58 l0 a1_0).f1)] 58 (0, 0))) ∧ (Below w.heap.size w w')) ?_ ?_
                    rotate_left
                    · intro hCont
                      refine two_ (i := 0) (j := 8) (Ni := some 41) (Nj := some 49) #[true, true, true, true, true, false, true, true, false, false, true, true, true, true, true, false, false] #[false, true, true, true, true, false, true, true, true, false, true, true, true, true, true, false, false] rfl rfl rfl rfl (two_of HT_.out (by kernel_rfl)) (by decide) (by decide) (fun K hK => ?_) (fun K hK => ?_)
                      · skip
                        refine Kd.R_lit_step k58 _ 58 ?hg (N := 41) ?hd (xs := ([] : List (S58))) (inner := []) (ok := fun _ => True) (okp := fun _ => True) ?hr ?hp (fun _ hk => hk) trivial (Below.refl _ _) (Nat.le_refl _) (by simp) ?_; (case hd => rfl); (case hg => rfl); (case hr => first | (go_simp; done) | (go_simp; rfl)); (case hp => exact (Reps.none _ _))
                        intro v142 w79 ho80 hb hg_ hnew_
                        clear hg_ hnew_
                        (first | rw [← Ny141.out] at ho80 | (simp only [Int.reduceToNat] at ho80; rw [← Ny141.out] at ho80))
                        have n0_ := Aside0.mk (Kd.R_lower (Kd.R_newB (Kd.R_newB (Kd.R_newB ho80 (g := gb115) (o := .cells #[.int .i64 ((rd_T58 l0 a1_0).f0), .int .i64 ((rd_T58 l0 a1_0).f1)] 58 (0, 0)) (bx_ BK115.out)) (g := gb116) (o := .cells #[.int .i64 a1_2, .int .i64 ((rd_T58 l0 a1_0).f1)] 58 (0, 0)) (bx_ BK116.out)) (g := gb117) (o := .cells #[.int .i64 (wrap64 (((rd_T58 l0 a1_0).f0) - a1_2)), .int .i64 ((rd_T58 l0 a1_0).f1)] 58 (0, 0)) (bx_ BK117.out)) (below_size (hx_ HB.out)))
                        have n1_ := Aside0.mk (blk_below (g := gb113) (o := .cells #[.int .i64 a1_0, .bool false, .int .i64 a1_2] 48 (0, 0)) (bx_ BK113.out) hb)
                        have n2_ := Aside0.mk (blk_below (g := gb115) (o := .cells #[.int .i64 ((rd_T58 l0 a1_0).f0), .int .i64 ((rd_T58 l0 a1_0).f1)] 58 (0, 0)) (bx_ BK115.out) hb)
                        have n3_ := Aside0.mk (blk_below (g := gb116) (o := .cells #[.int .i64 a1_2, .int .i64 ((rd_T58 l0 a1_0).f1)] 58 (0, 0)) (bx_ BK116.out) hb)
                        have n4_ := Aside0.mk (blk_below (g := gb117) (o := .cells #[.int .i64 (wrap64 (((rd_T58 l0 a1_0).f0) - a1_2)), .int .i64 ((rd_T58 l0 a1_0).f1)] 58 (0, 0)) (bx_ BK117.out) hb)
                        have n5_ := Aside0.mk (below_step (hx_ HB.out) hb)
                        clear BK113
                        clear BK115
                        clear BK116
                        clear BK117
                        clear HB
                        have HO143 := n0_
                        have BK113 := n1_
                        have BK115 := n2_
                        have BK116 := n3_
                        have BK117 := n4_
                        have HB := n5_
                        clear n0_ n1_ n2_ n3_ n4_ n5_
                        clear hb ho80
                        refine hK.out _ _ ⟨(blk_cell BK113.out 0).trans rfl, (blk_cell BK113.out 1).trans rfl, (blk_cell BK113.out 2).trans rfl, (blk_cell BK116.out 0).trans rfl, (blk_cell BK116.out 1).trans rfl, (blk_cell BK117.out 0).trans rfl, (blk_cell BK117.out 1).trans rfl⟩ (fun hHeld => ?_)
                        clear hK K
                        refine norm_ (a' := ?_) ?_ ?_
                        rotate_left
                        · show Act.put _ (some 41) _ = _
                          simp only [Act.put, List.setIfInBounds_toArray, List.set_cons_zero, List.set_cons_succ, i64_w, i32_w]
                          rfl
                        refine two_ (i := 5) (j := 8) (Ni := some 46) (Nj := some 49) #[true, true, true, true, true, true, true, true, false, false, true, true, true, true, true, false, false] #[true, true, true, true, true, false, true, true, true, false, true, true, true, true, true, false, false] rfl rfl rfl rfl (two_of HT_.out (by kernel_rfl)) (by decide) (by decide) (fun K hK => ?_) (fun K hK => ?_)
                        · skip
                          refine Kd.R_append_rows_step k58 (w0 := w) w.heap.size (by rfl) (.tmp 41) (.tmp 45) 44 58 (.agg #[(.int .i64 0), (.int .i64 0)]) 16 rfl Try.underlying44 info58 rfl (by decide) (by omega) v142 y141 y144 _ _ _ (fun k_ => k_ ≠ gb115 ∧ k_ ≠ gb116 ∧ k_ ≠ gb117) (fun _ => False) rfl rfl ?aO ?aR (fun _ _ h => h) (fun _ h => h.elim) ?aF ?aB ?aS ?aL ?_
                          (case aR => repeat (first | exact (Kd.C_below HR147.out HB.out) | (with_reducible refine Kd.C_alloc ?_ _) | (with_reducible refine Kd.C_drewN ?_ _) | (with_reducible refine Kd.C_drew ?_)))
                          (case aB => exact (hx_ HB.out))
                          (case aF => exact (fun k_ hk => ⟨Kd.freshB (g := gb115) (o := .cells #[.int .i64 ((rd_T58 l0 a1_0).f0), .int .i64 ((rd_T58 l0 a1_0).f1)] 58 (0, 0)) (bx_ BK115.out) k_ hk, Kd.freshB (g := gb116) (o := .cells #[.int .i64 a1_2, .int .i64 ((rd_T58 l0 a1_0).f1)] 58 (0, 0)) (bx_ BK116.out) k_ hk, Kd.freshB (g := gb117) (o := .cells #[.int .i64 (wrap64 (((rd_T58 l0 a1_0).f0) - a1_2)), .int .i64 ((rd_T58 l0 a1_0).f1)] 58 (0, 0)) (bx_ BK117.out) k_ hk⟩))
                          (case aO => exact (by (with_reducible repeat (first | apply Kd.R_alloc | apply Kd.R_drewN | apply Kd.R_drew)); exact Kd.R_mono HO143.out (fun _ hk => ⟨hk.1.1.2, ⟨hk.1.2, hk.2⟩⟩)))
                          (case aS => exact (below_size (hx_ HB.out)))
                          (case aL => have := LMc52.out; omega)
                          intro v149 w81 ho hb hg hat
                          rw [← Ny148.out] at ho
                          have n0_ := Aside0.mk (blk_grown (g := gb113) (o := .cells #[.int .i64 a1_0, .bool false, .int .i64 a1_2] 48 (0, 0)) (bx_ BK113.out) hg (Kd.R_ne HO143.out BK113.out (by decide)))
                          have n1_ := Aside0.mk (blk_grown (g := gb115) (o := .cells #[.int .i64 ((rd_T58 l0 a1_0).f0), .int .i64 ((rd_T58 l0 a1_0).f1)] 58 (0, 0)) (bx_ BK115.out) hg (Kd.R_away HO143.out (fun _ hk => hk.1.1.2)))
                          have n2_ := Aside0.mk (blk_grown (g := gb116) (o := .cells #[.int .i64 a1_2, .int .i64 ((rd_T58 l0 a1_0).f1)] 58 (0, 0)) (bx_ BK116.out) hg (Kd.R_away HO143.out (fun _ hk => hk.1.2)))
                          have n3_ := Aside0.mk (blk_grown (g := gb117) (o := .cells #[.int .i64 (wrap64 (((rd_T58 l0 a1_0).f0) - a1_2)), .int .i64 ((rd_T58 l0 a1_0).f1)] 58 (0, 0)) (bx_ BK117.out) hg (Kd.R_away HO143.out (fun _ hk => hk.2)))
                          have n4_ := Aside0.mk (hb)
                          have n5_ := Aside0.mk (ho)
                          clear BK113
                          clear BK115
                          clear BK116
                          clear BK117
                          clear HB
                          clear HO143
                          have BK113 := n0_
                          have BK115 := n1_
                          have BK116 := n2_
                          have BK117 := n3_
                          have HB := n4_
                          have HO150 := n5_
                          clear n0_ n1_ n2_ n3_ n4_ n5_
                          clear ho hb hg hat
                          refine hK.out _ _ ⟨(blk_cell BK113.out 0).trans rfl, (blk_cell BK113.out 1).trans rfl, (blk_cell BK113.out 2).trans rfl, (blk_cell BK116.out 0).trans rfl, (blk_cell BK116.out 1).trans rfl, (blk_cell BK117.out 0).trans rfl, (blk_cell BK117.out 1).trans rfl⟩ (fun hHeld => ?_)
                          clear hK K
                          refine norm_ (a' := ?_) ?_ ?_
                          rotate_left
                          · show Act.put _ (some 46) _ = _
                            simp only [Act.put, List.setIfInBounds_toArray, List.set_cons_zero, List.set_cons_succ, i64_w, i32_w]
                            rfl
                          refine one_ (i := 8) (N := some 49) #[true, true, true, true, true, true, true, true, true, false, true, true, true, true, true, false, false] rfl rfl (one_of HT_.out (by kernel_rfl)) (by decide) (fun K hK => ?_)
                          refine Kd.R_lit_step k58 _ 58 ?hg (N := 49) ?hd (xs := ([(⟨a1_2, (rd_T58 l0 a1_0).f1⟩ : S58), (⟨wrap64 (((rd_T58 l0 a1_0).f0) - a1_2), (rd_T58 l0 a1_0).f1⟩ : S58)] : List (S58))) (inner := [.int .i64 a1_2, .int .i64 ((rd_T58 l0 a1_0).f1), .int .i64 (wrap64 (((rd_T58 l0 a1_0).f0) - a1_2)), .int .i64 ((rd_T58 l0 a1_0).f1)]) (ok := fun _ => True) (okp := fun _ => True) ?hr ?hp (fun _ hk => hk) trivial (Below.refl _ _) (Nat.le_refl _) (by simp) ?_; (case hd => rfl); (case hg => rfl); (case hr => first | (go_simp; done) | (go_simp; rfl)); (case hp => exact (Reps.c2 (show Kd.M k58 _ _ _ (⟨a1_2, (rd_T58 l0 a1_0).f1⟩ : S58) [.int .i64 a1_2, .int .i64 ((rd_T58 l0 a1_0).f1)] from (k58_mkM _ _ _ (⟨a1_2, (rd_T58 l0 a1_0).f1⟩ : S58) )) (Reps.c2 (show Kd.M k58 _ _ _ (⟨wrap64 (((rd_T58 l0 a1_0).f0) - a1_2), (rd_T58 l0 a1_0).f1⟩ : S58) [.int .i64 (wrap64 (((rd_T58 l0 a1_0).f0) - a1_2)), .int .i64 ((rd_T58 l0 a1_0).f1)] from (k58_mkM _ _ _ (⟨wrap64 (((rd_T58 l0 a1_0).f0) - a1_2), (rd_T58 l0 a1_0).f1⟩ : S58) )) (Reps.none _ _))))
                          intro v152 w82 ho83 hb hg_ hnew_
                          clear hg_ hnew_
                          (first | rw [← Ny151.out] at ho83 | (simp only [Int.reduceToNat] at ho83; rw [← Ny151.out] at ho83))
                          have n0_ := Aside0.mk (Kd.R_elder' (rx_ HO150.out) (Kd.R_base ho83) hb)
                          have n1_ := Aside0.mk (Kd.R_lower (Kd.R_newB (Kd.R_newB (Kd.R_newB (Kd.R_new' ho83 (Kd.R_lt (rx_ HO150.out))) (g := gb115) (o := .cells #[.int .i64 ((rd_T58 l0 a1_0).f0), .int .i64 ((rd_T58 l0 a1_0).f1)] 58 (0, 0)) (bx_ BK115.out)) (g := gb116) (o := .cells #[.int .i64 a1_2, .int .i64 ((rd_T58 l0 a1_0).f1)] 58 (0, 0)) (bx_ BK116.out)) (g := gb117) (o := .cells #[.int .i64 (wrap64 (((rd_T58 l0 a1_0).f0) - a1_2)), .int .i64 ((rd_T58 l0 a1_0).f1)] 58 (0, 0)) (bx_ BK117.out)) (below_size (hx_ HB.out)))
                          have n2_ := Aside0.mk (blk_below (g := gb113) (o := .cells #[.int .i64 a1_0, .bool false, .int .i64 a1_2] 48 (0, 0)) (bx_ BK113.out) hb)
                          have n3_ := Aside0.mk (blk_below (g := gb115) (o := .cells #[.int .i64 ((rd_T58 l0 a1_0).f0), .int .i64 ((rd_T58 l0 a1_0).f1)] 58 (0, 0)) (bx_ BK115.out) hb)
                          have n4_ := Aside0.mk (blk_below (g := gb116) (o := .cells #[.int .i64 a1_2, .int .i64 ((rd_T58 l0 a1_0).f1)] 58 (0, 0)) (bx_ BK116.out) hb)
                          have n5_ := Aside0.mk (blk_below (g := gb117) (o := .cells #[.int .i64 (wrap64 (((rd_T58 l0 a1_0).f0) - a1_2)), .int .i64 ((rd_T58 l0 a1_0).f1)] 58 (0, 0)) (bx_ BK117.out) hb)
                          have n6_ := Aside0.mk (below_step (hx_ HB.out) hb)
                          clear HO150
                          clear BK113
                          clear BK115
                          clear BK116
                          clear BK117
                          clear HB
                          have HO150 := n0_
                          have HO153 := n1_
                          have BK113 := n2_
                          have BK115 := n3_
                          have BK116 := n4_
                          have BK117 := n5_
                          have HB := n6_
                          clear n0_ n1_ n2_ n3_ n4_ n5_ n6_
                          clear hb ho83
                          refine hK.out _ _ ⟨(blk_cell BK113.out 0).trans rfl, (blk_cell BK113.out 1).trans rfl, (blk_cell BK113.out 2).trans rfl, (blk_cell BK116.out 0).trans rfl, (blk_cell BK116.out 1).trans rfl, (blk_cell BK117.out 0).trans rfl, (blk_cell BK117.out 1).trans rfl⟩ (fun hHeld => ?_)
                          clear hK K
                          refine norm_ (a' := ?_) ?_ ?_
                          rotate_left
                          · show Act.put _ (some 49) _ = _
                            simp only [Act.put, List.setIfInBounds_toArray, List.set_cons_zero, List.set_cons_succ, i64_w, i32_w]
                            rfl
                          exact norm_ (by simp only [putAll, Act.put, List.setIfInBounds_toArray, List.set_cons_zero, List.set_cons_succ]) (hCont (v142, v149, v152) _ ⟨hHeld, (by (with_reducible repeat (first | apply Kd.R_alloc | apply Kd.R_drewN | apply Kd.R_drew)); exact Kd.R_mono HO150.out (fun _ hk => ⟨hk.2, ⟨hk.1.1, ⟨hk.1.2.1, hk.1.2.2⟩⟩⟩)), (by (with_reducible repeat (first | apply Kd.R_alloc | apply Kd.R_drewN | apply Kd.R_drew)); exact Kd.R_mono HO153.out (fun _ hk => ⟨hk.1.1.1.2, ⟨hk.1.1.2, ⟨hk.1.2, hk.2⟩⟩⟩)), (bx_ BK113.out), (bx_ BK115.out), (bx_ BK116.out), (bx_ BK117.out), (hx_ HB.out)⟩)
                        · skip
                          refine Kd.R_lit_step k58 _ 58 ?hg (N := 49) ?hd (xs := ([(⟨a1_2, (rd_T58 l0 a1_0).f1⟩ : S58), (⟨wrap64 (((rd_T58 l0 a1_0).f0) - a1_2), (rd_T58 l0 a1_0).f1⟩ : S58)] : List (S58))) (inner := [.int .i64 a1_2, .int .i64 ((rd_T58 l0 a1_0).f1), .int .i64 (wrap64 (((rd_T58 l0 a1_0).f0) - a1_2)), .int .i64 ((rd_T58 l0 a1_0).f1)]) (ok := fun _ => True) (okp := fun _ => True) ?hr ?hp (fun _ hk => hk) trivial (Below.refl _ _) (Nat.le_refl _) (by simp) ?_; (case hd => rfl); (case hg => rfl); (case hr => first | (go_simp; done) | (go_simp; rfl)); (case hp => exact (Reps.c2 (show Kd.M k58 _ _ _ (⟨a1_2, (rd_T58 l0 a1_0).f1⟩ : S58) [.int .i64 a1_2, .int .i64 ((rd_T58 l0 a1_0).f1)] from (k58_mkM _ _ _ (⟨a1_2, (rd_T58 l0 a1_0).f1⟩ : S58) )) (Reps.c2 (show Kd.M k58 _ _ _ (⟨wrap64 (((rd_T58 l0 a1_0).f0) - a1_2), (rd_T58 l0 a1_0).f1⟩ : S58) [.int .i64 (wrap64 (((rd_T58 l0 a1_0).f0) - a1_2)), .int .i64 ((rd_T58 l0 a1_0).f1)] from (k58_mkM _ _ _ (⟨wrap64 (((rd_T58 l0 a1_0).f0) - a1_2), (rd_T58 l0 a1_0).f1⟩ : S58) )) (Reps.none _ _))))
                          intro v152 w81 ho82 hb hg_ hnew_
                          clear hg_ hnew_
                          (first | rw [← Ny151.out] at ho82 | (simp only [Int.reduceToNat] at ho82; rw [← Ny151.out] at ho82))
                          have n0_ := Aside0.mk (Kd.R_elder' (rx_ HO143.out) (Kd.R_base ho82) hb)
                          have n1_ := Aside0.mk (Kd.R_lower (Kd.R_newB (Kd.R_newB (Kd.R_newB (Kd.R_new' ho82 (Kd.R_lt (rx_ HO143.out))) (g := gb115) (o := .cells #[.int .i64 ((rd_T58 l0 a1_0).f0), .int .i64 ((rd_T58 l0 a1_0).f1)] 58 (0, 0)) (bx_ BK115.out)) (g := gb116) (o := .cells #[.int .i64 a1_2, .int .i64 ((rd_T58 l0 a1_0).f1)] 58 (0, 0)) (bx_ BK116.out)) (g := gb117) (o := .cells #[.int .i64 (wrap64 (((rd_T58 l0 a1_0).f0) - a1_2)), .int .i64 ((rd_T58 l0 a1_0).f1)] 58 (0, 0)) (bx_ BK117.out)) (below_size (hx_ HB.out)))
                          have n2_ := Aside0.mk (blk_below (g := gb113) (o := .cells #[.int .i64 a1_0, .bool false, .int .i64 a1_2] 48 (0, 0)) (bx_ BK113.out) hb)
                          have n3_ := Aside0.mk (blk_below (g := gb115) (o := .cells #[.int .i64 ((rd_T58 l0 a1_0).f0), .int .i64 ((rd_T58 l0 a1_0).f1)] 58 (0, 0)) (bx_ BK115.out) hb)
                          have n4_ := Aside0.mk (blk_below (g := gb116) (o := .cells #[.int .i64 a1_2, .int .i64 ((rd_T58 l0 a1_0).f1)] 58 (0, 0)) (bx_ BK116.out) hb)
                          have n5_ := Aside0.mk (blk_below (g := gb117) (o := .cells #[.int .i64 (wrap64 (((rd_T58 l0 a1_0).f0) - a1_2)), .int .i64 ((rd_T58 l0 a1_0).f1)] 58 (0, 0)) (bx_ BK117.out) hb)
                          have n6_ := Aside0.mk (below_step (hx_ HB.out) hb)
                          clear HO143
                          clear BK113
                          clear BK115
                          clear BK116
                          clear BK117
                          clear HB
                          have HO143 := n0_
                          have HO153 := n1_
                          have BK113 := n2_
                          have BK115 := n3_
                          have BK116 := n4_
                          have BK117 := n5_
                          have HB := n6_
                          clear n0_ n1_ n2_ n3_ n4_ n5_ n6_
                          clear hb ho82
                          refine hK.out _ _ ⟨(blk_cell BK113.out 0).trans rfl, (blk_cell BK113.out 1).trans rfl, (blk_cell BK113.out 2).trans rfl, (blk_cell BK116.out 0).trans rfl, (blk_cell BK116.out 1).trans rfl, (blk_cell BK117.out 0).trans rfl, (blk_cell BK117.out 1).trans rfl⟩ (fun hHeld => ?_)
                          clear hK K
                          refine norm_ (a' := ?_) ?_ ?_
                          rotate_left
                          · show Act.put _ (some 49) _ = _
                            simp only [Act.put, List.setIfInBounds_toArray, List.set_cons_zero, List.set_cons_succ, i64_w, i32_w]
                            rfl
                          refine one_ (i := 5) (N := some 46) #[true, true, true, true, true, true, true, true, true, false, true, true, true, true, true, false, false] rfl rfl (one_of HT_.out (by kernel_rfl)) (by decide) (fun K hK => ?_)
                          refine Kd.R_append_rows_step k58 (w0 := w) w.heap.size (by rfl) (.tmp 41) (.tmp 45) 44 58 (.agg #[(.int .i64 0), (.int .i64 0)]) 16 rfl Try.underlying44 info58 rfl (by decide) (by omega) v142 y141 y144 _ _ _ (fun k_ => some k_ ≠ (v152 : Value).ownBlock ∧ k_ ≠ gb115 ∧ k_ ≠ gb116 ∧ k_ ≠ gb117) (fun _ => False) rfl rfl ?aO ?aR (fun _ _ h => h) (fun _ h => h.elim) ?aF ?aB ?aS ?aL ?_
                          (case aR => repeat (first | exact (Kd.C_below HR147.out HB.out) | (with_reducible refine Kd.C_alloc ?_ _) | (with_reducible refine Kd.C_drewN ?_ _) | (with_reducible refine Kd.C_drew ?_)))
                          (case aB => exact (hx_ HB.out))
                          (case aF => exact (fun k_ hk => ⟨Kd.fresh' (Kd.R_lt (rx_ HO153.out)) k_ hk, Kd.freshB (g := gb115) (o := .cells #[.int .i64 ((rd_T58 l0 a1_0).f0), .int .i64 ((rd_T58 l0 a1_0).f1)] 58 (0, 0)) (bx_ BK115.out) k_ hk, Kd.freshB (g := gb116) (o := .cells #[.int .i64 a1_2, .int .i64 ((rd_T58 l0 a1_0).f1)] 58 (0, 0)) (bx_ BK116.out) k_ hk, Kd.freshB (g := gb117) (o := .cells #[.int .i64 (wrap64 (((rd_T58 l0 a1_0).f0) - a1_2)), .int .i64 ((rd_T58 l0 a1_0).f1)] 58 (0, 0)) (bx_ BK117.out) k_ hk⟩))
                          (case aO => exact (by (with_reducible repeat (first | apply Kd.R_alloc | apply Kd.R_drewN | apply Kd.R_drew)); exact Kd.R_mono HO143.out (fun _ hk => ⟨hk.2, ⟨hk.1.1.1.2, ⟨hk.1.1.2, hk.1.2⟩⟩⟩)))
                          (case aS => exact (below_size (hx_ HB.out)))
                          (case aL => have := LMc52.out; omega)
                          intro v149 w83 ho hb hg hat
                          rw [← Ny148.out] at ho
                          have n0_ := Aside0.mk (blk_grown (g := gb113) (o := .cells #[.int .i64 a1_0, .bool false, .int .i64 a1_2] 48 (0, 0)) (bx_ BK113.out) hg (Kd.R_ne HO143.out BK113.out (by decide)))
                          have n1_ := Aside0.mk (blk_grown (g := gb115) (o := .cells #[.int .i64 ((rd_T58 l0 a1_0).f0), .int .i64 ((rd_T58 l0 a1_0).f1)] 58 (0, 0)) (bx_ BK115.out) hg (Kd.R_away HO143.out (fun _ hk => hk.1.1.1.2)))
                          have n2_ := Aside0.mk (blk_grown (g := gb116) (o := .cells #[.int .i64 a1_2, .int .i64 ((rd_T58 l0 a1_0).f1)] 58 (0, 0)) (bx_ BK116.out) hg (Kd.R_away HO143.out (fun _ hk => hk.1.1.2)))
                          have n3_ := Aside0.mk (blk_grown (g := gb117) (o := .cells #[.int .i64 (wrap64 (((rd_T58 l0 a1_0).f0) - a1_2)), .int .i64 ((rd_T58 l0 a1_0).f1)] 58 (0, 0)) (bx_ BK117.out) hg (Kd.R_away HO143.out (fun _ hk => hk.1.2)))
                          have n4_ := Aside0.mk (Kd.R_after (ok := (fun k_ => k_ ≠ gb115 ∧ k_ ≠ gb116 ∧ k_ ≠ gb117)) (by (with_reducible repeat (first | apply Kd.R_alloc | apply Kd.R_drewN | apply Kd.R_drew)); exact Kd.R_mono HO153.out (fun _ hk => ⟨⟨hk.1.1.2, ⟨hk.1.2, hk.2⟩⟩, hk.1.1.1.2⟩)) hg hat)
                          have n5_ := Aside0.mk (hb)
                          have n6_ := Aside0.mk (ho)
                          clear BK113
                          clear BK115
                          clear BK116
                          clear BK117
                          clear HO153
                          clear HB
                          clear HO143
                          have BK113 := n0_
                          have BK115 := n1_
                          have BK116 := n2_
                          have BK117 := n3_
                          have HO153 := n4_
                          have HB := n5_
                          have HO150 := n6_
                          clear n0_ n1_ n2_ n3_ n4_ n5_ n6_
                          clear ho hb hg hat
                          refine hK.out _ _ ⟨(blk_cell BK113.out 0).trans rfl, (blk_cell BK113.out 1).trans rfl, (blk_cell BK113.out 2).trans rfl, (blk_cell BK116.out 0).trans rfl, (blk_cell BK116.out 1).trans rfl, (blk_cell BK117.out 0).trans rfl, (blk_cell BK117.out 1).trans rfl⟩ (fun hHeld => ?_)
                          clear hK K
                          refine norm_ (a' := ?_) ?_ ?_
                          rotate_left
                          · show Act.put _ (some 46) _ = _
                            simp only [Act.put, List.setIfInBounds_toArray, List.set_cons_zero, List.set_cons_succ, i64_w, i32_w]
                            rfl
                          exact norm_ (by simp only [putAll, Act.put, List.setIfInBounds_toArray, List.set_cons_zero, List.set_cons_succ]) (hCont (v142, v149, v152) _ ⟨hHeld, (rx_ HO150.out), (by (with_reducible repeat (first | apply Kd.R_alloc | apply Kd.R_drewN | apply Kd.R_drew)); exact Kd.R_mono HO153.out (fun _ hk => ⟨hk.2, ⟨hk.1.1, ⟨hk.1.2.1, hk.1.2.2⟩⟩⟩)), (bx_ BK113.out), (bx_ BK115.out), (bx_ BK116.out), (bx_ BK117.out), (hx_ HB.out)⟩)
                      · skip
                        refine Kd.R_lit_step k58 _ 58 ?hg (N := 49) ?hd (xs := ([(⟨a1_2, (rd_T58 l0 a1_0).f1⟩ : S58), (⟨wrap64 (((rd_T58 l0 a1_0).f0) - a1_2), (rd_T58 l0 a1_0).f1⟩ : S58)] : List (S58))) (inner := [.int .i64 a1_2, .int .i64 ((rd_T58 l0 a1_0).f1), .int .i64 (wrap64 (((rd_T58 l0 a1_0).f0) - a1_2)), .int .i64 ((rd_T58 l0 a1_0).f1)]) (ok := fun _ => True) (okp := fun _ => True) ?hr ?hp (fun _ hk => hk) trivial (Below.refl _ _) (Nat.le_refl _) (by simp) ?_; (case hd => rfl); (case hg => rfl); (case hr => first | (go_simp; done) | (go_simp; rfl)); (case hp => exact (Reps.c2 (show Kd.M k58 _ _ _ (⟨a1_2, (rd_T58 l0 a1_0).f1⟩ : S58) [.int .i64 a1_2, .int .i64 ((rd_T58 l0 a1_0).f1)] from (k58_mkM _ _ _ (⟨a1_2, (rd_T58 l0 a1_0).f1⟩ : S58) )) (Reps.c2 (show Kd.M k58 _ _ _ (⟨wrap64 (((rd_T58 l0 a1_0).f0) - a1_2), (rd_T58 l0 a1_0).f1⟩ : S58) [.int .i64 (wrap64 (((rd_T58 l0 a1_0).f0) - a1_2)), .int .i64 ((rd_T58 l0 a1_0).f1)] from (k58_mkM _ _ _ (⟨wrap64 (((rd_T58 l0 a1_0).f0) - a1_2), (rd_T58 l0 a1_0).f1⟩ : S58) )) (Reps.none _ _))))
                        intro v152 w79 ho80 hb hg_ hnew_
                        clear hg_ hnew_
                        (first | rw [← Ny151.out] at ho80 | (simp only [Int.reduceToNat] at ho80; rw [← Ny151.out] at ho80))
                        have n0_ := Aside0.mk (Kd.R_lower (Kd.R_newB (Kd.R_newB (Kd.R_newB ho80 (g := gb115) (o := .cells #[.int .i64 ((rd_T58 l0 a1_0).f0), .int .i64 ((rd_T58 l0 a1_0).f1)] 58 (0, 0)) (bx_ BK115.out)) (g := gb116) (o := .cells #[.int .i64 a1_2, .int .i64 ((rd_T58 l0 a1_0).f1)] 58 (0, 0)) (bx_ BK116.out)) (g := gb117) (o := .cells #[.int .i64 (wrap64 (((rd_T58 l0 a1_0).f0) - a1_2)), .int .i64 ((rd_T58 l0 a1_0).f1)] 58 (0, 0)) (bx_ BK117.out)) (below_size (hx_ HB.out)))
                        have n1_ := Aside0.mk (blk_below (g := gb113) (o := .cells #[.int .i64 a1_0, .bool false, .int .i64 a1_2] 48 (0, 0)) (bx_ BK113.out) hb)
                        have n2_ := Aside0.mk (blk_below (g := gb115) (o := .cells #[.int .i64 ((rd_T58 l0 a1_0).f0), .int .i64 ((rd_T58 l0 a1_0).f1)] 58 (0, 0)) (bx_ BK115.out) hb)
                        have n3_ := Aside0.mk (blk_below (g := gb116) (o := .cells #[.int .i64 a1_2, .int .i64 ((rd_T58 l0 a1_0).f1)] 58 (0, 0)) (bx_ BK116.out) hb)
                        have n4_ := Aside0.mk (blk_below (g := gb117) (o := .cells #[.int .i64 (wrap64 (((rd_T58 l0 a1_0).f0) - a1_2)), .int .i64 ((rd_T58 l0 a1_0).f1)] 58 (0, 0)) (bx_ BK117.out) hb)
                        have n5_ := Aside0.mk (below_step (hx_ HB.out) hb)
                        clear BK113
                        clear BK115
                        clear BK116
                        clear BK117
                        clear HB
                        have HO153 := n0_
                        have BK113 := n1_
                        have BK115 := n2_
                        have BK116 := n3_
                        have BK117 := n4_
                        have HB := n5_
                        clear n0_ n1_ n2_ n3_ n4_ n5_
                        clear hb ho80
                        refine hK.out _ _ ⟨(blk_cell BK113.out 0).trans rfl, (blk_cell BK113.out 1).trans rfl, (blk_cell BK113.out 2).trans rfl, (blk_cell BK116.out 0).trans rfl, (blk_cell BK116.out 1).trans rfl, (blk_cell BK117.out 0).trans rfl, (blk_cell BK117.out 1).trans rfl⟩ (fun hHeld => ?_)
                        clear hK K
                        refine norm_ (a' := ?_) ?_ ?_
                        rotate_left
                        · show Act.put _ (some 49) _ = _
                          simp only [Act.put, List.setIfInBounds_toArray, List.set_cons_zero, List.set_cons_succ, i64_w, i32_w]
                          rfl
                        refine one_ (i := 0) (N := some 41) #[true, true, true, true, true, false, true, true, true, false, true, true, true, true, true, false, false] rfl rfl (one_of HT_.out (by kernel_rfl)) (by decide) (fun K hK => ?_)
                        refine Kd.R_lit_step k58 _ 58 ?hg (N := 41) ?hd (xs := ([] : List (S58))) (inner := []) (ok := fun _ => True) (okp := fun _ => True) ?hr ?hp (fun _ hk => hk) trivial (Below.refl _ _) (Nat.le_refl _) (by simp) ?_; (case hd => rfl); (case hg => rfl); (case hr => first | (go_simp; done) | (go_simp; rfl)); (case hp => exact (Reps.none _ _))
                        intro v142 w81 ho82 hb hg_ hnew_
                        clear hg_ hnew_
                        (first | rw [← Ny141.out] at ho82 | (simp only [Int.reduceToNat] at ho82; rw [← Ny141.out] at ho82))
                        have n0_ := Aside0.mk (Kd.R_elder' (rx_ HO153.out) (Kd.R_base ho82) hb)
                        have n1_ := Aside0.mk (Kd.R_lower (Kd.R_newB (Kd.R_newB (Kd.R_newB (Kd.R_new' ho82 (Kd.R_lt (rx_ HO153.out))) (g := gb115) (o := .cells #[.int .i64 ((rd_T58 l0 a1_0).f0), .int .i64 ((rd_T58 l0 a1_0).f1)] 58 (0, 0)) (bx_ BK115.out)) (g := gb116) (o := .cells #[.int .i64 a1_2, .int .i64 ((rd_T58 l0 a1_0).f1)] 58 (0, 0)) (bx_ BK116.out)) (g := gb117) (o := .cells #[.int .i64 (wrap64 (((rd_T58 l0 a1_0).f0) - a1_2)), .int .i64 ((rd_T58 l0 a1_0).f1)] 58 (0, 0)) (bx_ BK117.out)) (below_size (hx_ HB.out)))
                        have n2_ := Aside0.mk (blk_below (g := gb113) (o := .cells #[.int .i64 a1_0, .bool false, .int .i64 a1_2] 48 (0, 0)) (bx_ BK113.out) hb)
                        have n3_ := Aside0.mk (blk_below (g := gb115) (o := .cells #[.int .i64 ((rd_T58 l0 a1_0).f0), .int .i64 ((rd_T58 l0 a1_0).f1)] 58 (0, 0)) (bx_ BK115.out) hb)
                        have n4_ := Aside0.mk (blk_below (g := gb116) (o := .cells #[.int .i64 a1_2, .int .i64 ((rd_T58 l0 a1_0).f1)] 58 (0, 0)) (bx_ BK116.out) hb)
                        have n5_ := Aside0.mk (blk_below (g := gb117) (o := .cells #[.int .i64 (wrap64 (((rd_T58 l0 a1_0).f0) - a1_2)), .int .i64 ((rd_T58 l0 a1_0).f1)] 58 (0, 0)) (bx_ BK117.out) hb)
                        have n6_ := Aside0.mk (below_step (hx_ HB.out) hb)
                        clear HO153
                        clear BK113
                        clear BK115
                        clear BK116
                        clear BK117
                        clear HB
                        have HO153 := n0_
                        have HO143 := n1_
                        have BK113 := n2_
                        have BK115 := n3_
                        have BK116 := n4_
                        have BK117 := n5_
                        have HB := n6_
                        clear n0_ n1_ n2_ n3_ n4_ n5_ n6_
                        clear hb ho82
                        refine hK.out _ _ ⟨(blk_cell BK113.out 0).trans rfl, (blk_cell BK113.out 1).trans rfl, (blk_cell BK113.out 2).trans rfl, (blk_cell BK116.out 0).trans rfl, (blk_cell BK116.out 1).trans rfl, (blk_cell BK117.out 0).trans rfl, (blk_cell BK117.out 1).trans rfl⟩ (fun hHeld => ?_)
                        clear hK K
                        refine norm_ (a' := ?_) ?_ ?_
                        rotate_left
                        · show Act.put _ (some 41) _ = _
                          simp only [Act.put, List.setIfInBounds_toArray, List.set_cons_zero, List.set_cons_succ, i64_w, i32_w]
                          rfl
                        refine one_ (i := 5) (N := some 46) #[true, true, true, true, true, true, true, true, true, false, true, true, true, true, true, false, false] rfl rfl (one_of HT_.out (by kernel_rfl)) (by decide) (fun K hK => ?_)
                        refine Kd.R_append_rows_step k58 (w0 := w) w.heap.size (by rfl) (.tmp 41) (.tmp 45) 44 58 (.agg #[(.int .i64 0), (.int .i64 0)]) 16 rfl Try.underlying44 info58 rfl (by decide) (by omega) v142 y141 y144 _ _ _ (fun k_ => some k_ ≠ (v152 : Value).ownBlock ∧ k_ ≠ gb115 ∧ k_ ≠ gb116 ∧ k_ ≠ gb117) (fun _ => False) rfl rfl ?aO ?aR (fun _ _ h => h) (fun _ h => h.elim) ?aF ?aB ?aS ?aL ?_
                        (case aR => repeat (first | exact (Kd.C_below HR147.out HB.out) | (with_reducible refine Kd.C_alloc ?_ _) | (with_reducible refine Kd.C_drewN ?_ _) | (with_reducible refine Kd.C_drew ?_)))
                        (case aB => exact (hx_ HB.out))
                        (case aF => exact (fun k_ hk => ⟨Kd.fresh' (Kd.R_lt (rx_ HO153.out)) k_ hk, Kd.freshB (g := gb115) (o := .cells #[.int .i64 ((rd_T58 l0 a1_0).f0), .int .i64 ((rd_T58 l0 a1_0).f1)] 58 (0, 0)) (bx_ BK115.out) k_ hk, Kd.freshB (g := gb116) (o := .cells #[.int .i64 a1_2, .int .i64 ((rd_T58 l0 a1_0).f1)] 58 (0, 0)) (bx_ BK116.out) k_ hk, Kd.freshB (g := gb117) (o := .cells #[.int .i64 (wrap64 (((rd_T58 l0 a1_0).f0) - a1_2)), .int .i64 ((rd_T58 l0 a1_0).f1)] 58 (0, 0)) (bx_ BK117.out) k_ hk⟩))
                        (case aO => exact (by (with_reducible repeat (first | apply Kd.R_alloc | apply Kd.R_drewN | apply Kd.R_drew)); exact Kd.R_mono HO143.out (fun _ hk => ⟨hk.1.1.1.2, ⟨hk.1.1.2, ⟨hk.1.2, hk.2⟩⟩⟩)))
                        (case aS => exact (below_size (hx_ HB.out)))
                        (case aL => have := LMc52.out; omega)
                        intro v149 w83 ho hb hg hat
                        rw [← Ny148.out] at ho
                        have n0_ := Aside0.mk (blk_grown (g := gb113) (o := .cells #[.int .i64 a1_0, .bool false, .int .i64 a1_2] 48 (0, 0)) (bx_ BK113.out) hg (Kd.R_ne HO143.out BK113.out (by decide)))
                        have n1_ := Aside0.mk (blk_grown (g := gb115) (o := .cells #[.int .i64 ((rd_T58 l0 a1_0).f0), .int .i64 ((rd_T58 l0 a1_0).f1)] 58 (0, 0)) (bx_ BK115.out) hg (Kd.R_away HO143.out (fun _ hk => hk.1.1.2)))
                        have n2_ := Aside0.mk (blk_grown (g := gb116) (o := .cells #[.int .i64 a1_2, .int .i64 ((rd_T58 l0 a1_0).f1)] 58 (0, 0)) (bx_ BK116.out) hg (Kd.R_away HO143.out (fun _ hk => hk.1.2)))
                        have n3_ := Aside0.mk (blk_grown (g := gb117) (o := .cells #[.int .i64 (wrap64 (((rd_T58 l0 a1_0).f0) - a1_2)), .int .i64 ((rd_T58 l0 a1_0).f1)] 58 (0, 0)) (bx_ BK117.out) hg (Kd.R_away HO143.out (fun _ hk => hk.2)))
                        have n4_ := Aside0.mk (Kd.R_after (ok := (fun k_ => k_ ≠ gb115 ∧ k_ ≠ gb116 ∧ k_ ≠ gb117)) (by (with_reducible repeat (first | apply Kd.R_alloc | apply Kd.R_drewN | apply Kd.R_drew)); exact Kd.R_mono HO153.out (fun _ hk => ⟨⟨hk.1.1.1.2, ⟨hk.1.1.2, hk.1.2⟩⟩, hk.2⟩)) hg hat)
                        have n5_ := Aside0.mk (hb)
                        have n6_ := Aside0.mk (ho)
                        clear BK113
                        clear BK115
                        clear BK116
                        clear BK117
                        clear HO153
                        clear HB
                        clear HO143
                        have BK113 := n0_
                        have BK115 := n1_
                        have BK116 := n2_
                        have BK117 := n3_
                        have HO153 := n4_
                        have HB := n5_
                        have HO150 := n6_
                        clear n0_ n1_ n2_ n3_ n4_ n5_ n6_
                        clear ho hb hg hat
                        refine hK.out _ _ ⟨(blk_cell BK113.out 0).trans rfl, (blk_cell BK113.out 1).trans rfl, (blk_cell BK113.out 2).trans rfl, (blk_cell BK116.out 0).trans rfl, (blk_cell BK116.out 1).trans rfl, (blk_cell BK117.out 0).trans rfl, (blk_cell BK117.out 1).trans rfl⟩ (fun hHeld => ?_)
                        clear hK K
                        refine norm_ (a' := ?_) ?_ ?_
                        rotate_left
                        · show Act.put _ (some 46) _ = _
                          simp only [Act.put, List.setIfInBounds_toArray, List.set_cons_zero, List.set_cons_succ, i64_w, i32_w]
                          rfl
                        exact norm_ (by simp only [putAll, Act.put, List.setIfInBounds_toArray, List.set_cons_zero, List.set_cons_succ]) (hCont (v142, v149, v152) _ ⟨hHeld, (rx_ HO150.out), (by (with_reducible repeat (first | apply Kd.R_alloc | apply Kd.R_drewN | apply Kd.R_drew)); exact Kd.R_mono HO153.out (fun _ hk => ⟨hk.2, ⟨hk.1.1, ⟨hk.1.2.1, hk.1.2.2⟩⟩⟩)), (bx_ BK113.out), (bx_ BK115.out), (bx_ BK116.out), (bx_ BK117.out), (hx_ HB.out)⟩)
                    rintro ⟨v142, v149, v152⟩ w84 ⟨hS_, h0_, h1_, h2_, h3_, h4_, h5_, h6_⟩
                    have n0_ : Aside0 (Kd.R k58 58 w84 w.heap.size (fun k_ => some k_ ≠ (v152 : Value).ownBlock ∧ k_ ≠ gb115 ∧ k_ ≠ gb116 ∧ k_ ≠ gb117) v149 y148) := ⟨h0_⟩
                    have n1_ : Aside0 (Kd.R k58 58 w84 w.heap.size (fun k_ => some k_ ≠ (v149 : Value).ownBlock ∧ k_ ≠ gb115 ∧ k_ ≠ gb116 ∧ k_ ≠ gb117) v152 y151) := ⟨h1_⟩
                    have n2_ : Aside0 (w84.heap[gb113]? = some (.cells #[.int .i64 a1_0, .bool false, .int .i64 a1_2] 48 (0, 0))) := ⟨h2_⟩
                    have n3_ : Aside0 (w84.heap[gb115]? = some (.cells #[.int .i64 ((rd_T58 l0 a1_0).f0), .int .i64 ((rd_T58 l0 a1_0).f1)] 58 (0, 0))) := ⟨h3_⟩
                    have n4_ : Aside0 (w84.heap[gb116]? = some (.cells #[.int .i64 a1_2, .int .i64 ((rd_T58 l0 a1_0).f1)] 58 (0, 0))) := ⟨h4_⟩
                    have n5_ : Aside0 (w84.heap[gb117]? = some (.cells #[.int .i64 (wrap64 (((rd_T58 l0 a1_0).f0) - a1_2)), .int .i64 ((rd_T58 l0 a1_0).f1)] 58 (0, 0))) := ⟨h5_⟩
                    have n6_ : Aside0 (Below w.heap.size w w84) := ⟨h6_⟩
                    clear BK113
                    clear BK115
                    clear BK116
                    clear BK117
                    clear HB
                    clear h0_ h1_ h2_ h3_ h4_ h5_ h6_
                    have HO150 := n0_
                    have HO153 := n1_
                    have BK113 := n2_
                    have BK115 := n3_
                    have BK116 := n4_
                    have BK117 := n5_
                    have HB := n6_
                    clear n0_ n1_ n2_ n3_ n4_ n5_ n6_
                    have hHeld : w84.cell? ⟨gb113, 0, none⟩ = some (.int .i64 a1_0) ∧ w84.cell? ⟨gb113, 1, none⟩ = some (.bool false) ∧ w84.cell? ⟨gb113, 2, none⟩ = some (.int .i64 a1_2) ∧ w84.cell? ⟨gb116, 0, none⟩ = some (.int .i64 a1_2) ∧ w84.cell? ⟨gb116, 1, none⟩ = some (.int .i64 ((rd_T58 l0 a1_0).f1)) ∧ w84.cell? ⟨gb117, 0, none⟩ = some (.int .i64 (wrap64 (((rd_T58 l0 a1_0).f0) - a1_2))) ∧ w84.cell? ⟨gb117, 1, none⟩ = some (.int .i64 ((rd_T58 l0 a1_0).f1)) := hS_
                    obtain ⟨Ao86, co86, eo86⟩ := Kd.R_slice HO153.out
                    (first | subst eo86 | (injection eo86 with f1_ f2_ f3_; have f4_ := f1_.symm; have f5_ := f3_.symm; clear f1_ f2_ f3_; subst f4_; subst f5_))
                    refine norm_ (a' := ?_) ?_ ?_
                    rotate_left
                    · simp only [putAll, Act.put, List.setIfInBounds_toArray, List.set_cons_zero, List.set_cons_succ]
                      rfl
                    refine one_ (i := 9) (N := some 50) #[true, true, true, true, true, true, true, true, true, true, true, true, true, true, true, false, false] rfl rfl (one_of HT_.out (by kernel_rfl)) (by decide) (fun K hK => ?_)
                    refine Kd.R_append_rows_step k58 (w0 := w) w.heap.size (by rfl) (.tmp 46) (.tmp 49) 44 58 (.agg #[(.int .i64 0), (.int .i64 0)]) 16 rfl Try.underlying44 info58 rfl (by decide) (by omega) v149 y148 y151 _ _ _ (fun k_ => some k_ ≠ (.slice Ao86 y151.length co86 : Value).ownBlock ∧ k_ ≠ gb115 ∧ k_ ≠ gb116 ∧ k_ ≠ gb117) (fun _ => False) rfl rfl ?aO ?aR (fun _ _ h => h) (fun _ h => h.elim) ?aF ?aB ?aS ?aL ?_
                    (case aR => repeat (first | exact (Kd.R_reads' HO153.out).2.2 | (with_reducible refine Kd.C_alloc ?_ _) | (with_reducible refine Kd.C_drewN ?_ _) | (with_reducible refine Kd.C_drew ?_)))
                    (case aB => exact (hx_ HB.out))
                    (case aF => exact (fun k_ hk => ⟨Kd.fresh' (Kd.R_lt (rx_ HO153.out)) k_ hk, Kd.freshB (g := gb115) (o := .cells #[.int .i64 ((rd_T58 l0 a1_0).f0), .int .i64 ((rd_T58 l0 a1_0).f1)] 58 (0, 0)) (bx_ BK115.out) k_ hk, Kd.freshB (g := gb116) (o := .cells #[.int .i64 a1_2, .int .i64 ((rd_T58 l0 a1_0).f1)] 58 (0, 0)) (bx_ BK116.out) k_ hk, Kd.freshB (g := gb117) (o := .cells #[.int .i64 (wrap64 (((rd_T58 l0 a1_0).f0) - a1_2)), .int .i64 ((rd_T58 l0 a1_0).f1)] 58 (0, 0)) (bx_ BK117.out) k_ hk⟩))
                    (case aO => exact (rx_ HO150.out))
                    (case aS => exact (below_size (hx_ HB.out)))
                    (case aL => have := LMc53.out; omega)
                    intro v155 w85 ho hb hg hat
                    rw [← Ny154.out] at ho
                    have n0_ := Aside0.mk (blk_grown (g := gb113) (o := .cells #[.int .i64 a1_0, .bool false, .int .i64 a1_2] 48 (0, 0)) (bx_ BK113.out) hg (Kd.R_ne HO150.out BK113.out (by decide)))
                    have n1_ := Aside0.mk (blk_grown (g := gb115) (o := .cells #[.int .i64 ((rd_T58 l0 a1_0).f0), .int .i64 ((rd_T58 l0 a1_0).f1)] 58 (0, 0)) (bx_ BK115.out) hg (Kd.R_away HO150.out (fun _ hk => hk.2.1)))
                    have n2_ := Aside0.mk (blk_grown (g := gb116) (o := .cells #[.int .i64 a1_2, .int .i64 ((rd_T58 l0 a1_0).f1)] 58 (0, 0)) (bx_ BK116.out) hg (Kd.R_away HO150.out (fun _ hk => hk.2.2.1)))
                    have n3_ := Aside0.mk (blk_grown (g := gb117) (o := .cells #[.int .i64 (wrap64 (((rd_T58 l0 a1_0).f0) - a1_2)), .int .i64 ((rd_T58 l0 a1_0).f1)] 58 (0, 0)) (bx_ BK117.out) hg (Kd.R_away HO150.out (fun _ hk => hk.2.2.2)))
                    have n4_ := Aside0.mk (Kd.R_after (ok := (fun k_ => k_ ≠ gb115 ∧ k_ ≠ gb116 ∧ k_ ≠ gb117)) (by (with_reducible repeat (first | apply Kd.R_alloc | apply Kd.R_drewN | apply Kd.R_drew)); exact Kd.R_mono HO153.out (fun _ hk => ⟨⟨hk.2.1, ⟨hk.2.2.1, hk.2.2.2⟩⟩, hk.1⟩)) hg hat)
                    have n5_ := Aside0.mk (hb)
                    have n6_ := Aside0.mk (ho)
                    clear BK113
                    clear BK115
                    clear BK116
                    clear BK117
                    clear HO153
                    clear HB
                    clear HO150
                    have BK113 := n0_
                    have BK115 := n1_
                    have BK116 := n2_
                    have BK117 := n3_
                    have HO153 := n4_
                    have HB := n5_
                    have HO156 := n6_
                    clear n0_ n1_ n2_ n3_ n4_ n5_ n6_
                    clear ho hb hg hat
                    refine hK.out _ _ ⟨(blk_cell BK113.out 0).trans rfl, (blk_cell BK113.out 1).trans rfl, (blk_cell BK113.out 2).trans rfl, (blk_cell BK116.out 0).trans rfl, (blk_cell BK116.out 1).trans rfl, (blk_cell BK117.out 0).trans rfl, (blk_cell BK117.out 1).trans rfl⟩ (fun hHeld => ?_)
                    clear hK K
                    refine norm_ (a' := ?_) ?_ ?_
                    rotate_left
                    · show Act.put _ (some 50) _ = _
                      simp only [Act.put, List.setIfInBounds_toArray, List.set_cons_zero, List.set_cons_succ, i64_w, i32_w]
                      rfl
                    refine one_ (i := 15) (N := some 56) #[true, true, true, true, true, true, true, true, true, true, true, true, true, true, true, true, false] rfl rfl (one_of HT_.out (by kernel_rfl)) (by decide) (fun K hK => ?_)
                    refine Kd.R_append_rows_step k58 (w0 := w) w.heap.size (by rfl) (.tmp 50) (.tmp 55) 44 58 (.agg #[(.int .i64 0), (.int .i64 0)]) 16 rfl Try.underlying44 info58 rfl (by decide) (by omega) v155 y154 y157 _ _ _ (fun k_ => some k_ ≠ (.slice Ao86 y151.length co86 : Value).ownBlock ∧ k_ ≠ gb115 ∧ k_ ≠ gb116 ∧ k_ ≠ gb117) (fun _ => False) rfl rfl ?aO ?aR (fun _ _ h => h) (fun _ h => h.elim) ?aF ?aB ?aS ?aL ?_
                    (case aR => repeat (first | exact (Kd.C_below HR160.out HB.out) | (with_reducible refine Kd.C_alloc ?_ _) | (with_reducible refine Kd.C_drewN ?_ _) | (with_reducible refine Kd.C_drew ?_)))
                    (case aB => exact (hx_ HB.out))
                    (case aF => exact (fun k_ hk => ⟨Kd.fresh' (Kd.R_lt (rx_ HO153.out)) k_ hk, Kd.freshB (g := gb115) (o := .cells #[.int .i64 ((rd_T58 l0 a1_0).f0), .int .i64 ((rd_T58 l0 a1_0).f1)] 58 (0, 0)) (bx_ BK115.out) k_ hk, Kd.freshB (g := gb116) (o := .cells #[.int .i64 a1_2, .int .i64 ((rd_T58 l0 a1_0).f1)] 58 (0, 0)) (bx_ BK116.out) k_ hk, Kd.freshB (g := gb117) (o := .cells #[.int .i64 (wrap64 (((rd_T58 l0 a1_0).f0) - a1_2)), .int .i64 ((rd_T58 l0 a1_0).f1)] 58 (0, 0)) (bx_ BK117.out) k_ hk⟩))
                    (case aO => exact (rx_ HO156.out))
                    (case aS => exact (below_size (hx_ HB.out)))
                    (case aL => have := LMc57.out; omega)
                    intro v162 w87 ho hb hg hat
                    rw [← Ny161.out] at ho
                    have n0_ := Aside0.mk (blk_grown (g := gb113) (o := .cells #[.int .i64 a1_0, .bool false, .int .i64 a1_2] 48 (0, 0)) (bx_ BK113.out) hg (Kd.R_ne HO156.out BK113.out (by decide)))
                    have n1_ := Aside0.mk (blk_grown (g := gb115) (o := .cells #[.int .i64 ((rd_T58 l0 a1_0).f0), .int .i64 ((rd_T58 l0 a1_0).f1)] 58 (0, 0)) (bx_ BK115.out) hg (Kd.R_away HO156.out (fun _ hk => hk.2.1)))
                    have n2_ := Aside0.mk (blk_grown (g := gb116) (o := .cells #[.int .i64 a1_2, .int .i64 ((rd_T58 l0 a1_0).f1)] 58 (0, 0)) (bx_ BK116.out) hg (Kd.R_away HO156.out (fun _ hk => hk.2.2.1)))
                    have n3_ := Aside0.mk (blk_grown (g := gb117) (o := .cells #[.int .i64 (wrap64 (((rd_T58 l0 a1_0).f0) - a1_2)), .int .i64 ((rd_T58 l0 a1_0).f1)] 58 (0, 0)) (bx_ BK117.out) hg (Kd.R_away HO156.out (fun _ hk => hk.2.2.2)))
                    have n4_ := Aside0.mk (Kd.R_after (ok := (fun k_ => k_ ≠ gb115 ∧ k_ ≠ gb116 ∧ k_ ≠ gb117)) (rx_ HO153.out) hg hat)
                    have n5_ := Aside0.mk (hb)
                    have n6_ := Aside0.mk (ho)
                    clear BK113
                    clear BK115
                    clear BK116
                    clear BK117
                    clear HO153
                    clear HB
                    clear HO156
                    have BK113 := n0_
                    have BK115 := n1_
                    have BK116 := n2_
                    have BK117 := n3_
                    have HO153 := n4_
                    have HB := n5_
                    have HO163 := n6_
                    clear n0_ n1_ n2_ n3_ n4_ n5_ n6_
                    clear ho hb hg hat
                    refine hK.out _ _ ⟨(blk_cell BK113.out 0).trans rfl, (blk_cell BK113.out 1).trans rfl, (blk_cell BK113.out 2).trans rfl, (blk_cell BK116.out 0).trans rfl, (blk_cell BK116.out 1).trans rfl, (blk_cell BK117.out 0).trans rfl, (blk_cell BK117.out 1).trans rfl⟩ (fun hHeld => ?_)
                    clear hK K
                    refine norm_ (a' := ?_) ?_ ?_
                    rotate_left
                    · show Act.put _ (some 56) _ = _
                      simp only [Act.put, List.setIfInBounds_toArray, List.set_cons_zero, List.set_cons_succ, i64_w, i32_w]
                      rfl
                    refine pure_ (i := 16) (N := some 4) (v := ?_) (a' := ?_) #[true, true, true, true, true, true, true, true, true, true, true, true, true, true, true, true, true] rfl rfl (any_of HT_.out (by kernel_rfl)) (fun _ _ _ h => h) (Or.inl ⟨by rfl, ?_⟩) ?_ ?_
                    rotate_left
                    · intro w'
                      go_simp
                      with_reducible rfl
                    rotate_left
                    · simp only [Act.put, List.setIfInBounds_toArray, List.set_cons_zero, List.set_cons_succ, i64_w, i32_w]
                      rfl
                    refine done_ (done_of HT_.out (by kernel_rfl)) ?_
                    try go_wp2
                    go_ret
                    exact ⟨_, by first | rfl | (simp [errW_none, errW_some] <;> rfl) | (simp only [← hji54]; first | rfl | (simp [errW_none, errW_some] <;> rfl)) | (simp [*, errW_none, errW_some] <;> rfl), by (with_reducible repeat (first | apply Kd.R_alloc | apply Kd.R_drewN | apply Kd.R_drew)); exact Kd.R_mono HO163.out (fun _ hk => trivial), hx_ HB.out⟩
                  · rw [if_neg c57] at H
                    exact absurd H (by simp)
                · rw [if_neg c56] at H
                  exact absurd H (by simp)
              · rw [if_neg c55] at H
                exact absurd H (by simp)
            · rw [if_neg c53] at H
              exact absurd H (by simp)
          · rw [if_neg c52] at H
            exact absurd H (by simp)
        · rw [if_neg c51] at H
          exact absurd H (by simp)
    · rw [if_neg c4] at H
      exact absurd H (by simp)
  · rw [if_neg c3] at H
    exact absurd H (by simp)

end Go.Proofs.Ytaapnjhgkbjdkaa.PFnExactMakeCut
