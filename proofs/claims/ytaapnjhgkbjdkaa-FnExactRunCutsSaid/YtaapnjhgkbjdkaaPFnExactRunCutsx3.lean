-- Written by wip/inject.py: a contract of each function that the law reaches; those of the stand-ins are proved in this seat's Hand texts
import Derived.Test.YtaapnjhgkbjdkaaPFnExactRunCutsx0
namespace Go.Proofs.Ytaapnjhgkbjdkaa.PFnExactRunCuts
open Go.RowKit Go.Proofs.YtaapnjhgkbjdkaaW.PrintWords Go.Proofs.YtaapnjhgkbjdkaaW.PrintLast Go.Proofs.YtaapnjhgkbjdkaaW.PrintMore
attribute [local go_sem] max2_int min2_int max_two min_two max_three min_three max_four min_four   -- for this text's walks alone
set_option linter.unusedVariables false
set_option linter.unusedSimpArgs false

/-! ### spec_l09Cut: function 86 -/
def spec_l09Cut.f (l0 : List (S58)) (a1_0 : Int) (a1_1 : Bool) (a1_2 : Int) : Option ((List (S58))) := if 0 ≤ a1_0 then (if a1_0 < (l0.length : Int) then (if a1_1 = true then ((some (([] : List (S58)) : List (S58))).bind fun y127 => (if a1_0 ≤ (l0.length : Int) then ((some (l0.take (a1_0 : Int).toNat : List (S58))).bind fun y130 => (if y127.length + y130.length < 8796093022208 then ((some (y127 ++ y130 : List (S58))).bind fun y134 => ((some (([(⟨(rd_T58 l0 a1_0).f0, a1_2⟩ : S58), (⟨(rd_T58 l0 a1_0).f0, wrap64 (((rd_T58 l0 a1_0).f1) - a1_2)⟩ : S58)] : List (S58)) : List (S58))).bind fun y137 => (if y134.length + y137.length < 8796093022208 then ((some (y134 ++ y137 : List (S58))).bind fun y140 => (if 0 ≤ (wrap64 (a1_0 + 1)) then (if (wrap64 (a1_0 + 1)) ≤ (l0.length : Int) then ((some (l0.drop ((wrap64 (a1_0 + 1)) : Int).toNat : List (S58))).bind fun y143 => (if y140.length + y143.length < 8796093022208 then (some (y140 ++ y143)) else (none))) else (none)) else (none))) else (none)))) else (none))) else (none))) else ((some (([] : List (S58)) : List (S58))).bind fun y150 => (if a1_0 ≤ (l0.length : Int) then ((some (l0.take (a1_0 : Int).toNat : List (S58))).bind fun y153 => (if y150.length + y153.length < 8796093022208 then ((some (y150 ++ y153 : List (S58))).bind fun y157 => ((some (([(⟨a1_2, (rd_T58 l0 a1_0).f1⟩ : S58), (⟨wrap64 (((rd_T58 l0 a1_0).f0) - a1_2), (rd_T58 l0 a1_0).f1⟩ : S58)] : List (S58)) : List (S58))).bind fun y160 => (if y157.length + y160.length < 8796093022208 then ((some (y157 ++ y160 : List (S58))).bind fun y163 => (if 0 ≤ (wrap64 (a1_0 + 1)) then (if (wrap64 (a1_0 + 1)) ≤ (l0.length : Int) then ((some (l0.drop ((wrap64 (a1_0 + 1)) : Int).toNat : List (S58))).bind fun y166 => (if y163.length + y166.length < 8796093022208 then (some (y163 ++ y166)) else (none))) else (none)) else (none))) else (none)))) else (none))) else (none)))) else (none)) else (none)
def spec_l09Cut.T2 : Bool × List (List Nat × List Nat) := (true, [([], []), ([0], [0]), ([], []), ([2], [2]), ([1, 3], [1, 3]), ([], []), ([5], [5]), ([], []), ([7], [7]), ([6, 8], [6, 8]), ([], []), ([10], [10]), ([9, 11], [9, 11]), ([], []), ([], []), ([13, 4, 0, 1, 2, 3, 4, 13, 14], [4, 13]), ([14, 12, 15, 0, 1, 2, 3, 4, 5, 6, 7, 8, 9, 10, 11, 12, 13, 14, 15], [12, 14])])
def spec_l09Cut.B2 : List Nat := [0, 1, 0, 4, 15, 0, 32, 0, 128, 480, 0, 1024, 4064, 0, 0, 24607, 65535]
theorem spec_l09Cut.tab2 : rtab .any (opsOf Try.f86 2) = spec_l09Cut.T2 := by kernel_rfl
theorem spec_l09Cut.bits2 : waitsOk spec_l09Cut.T2.2 spec_l09Cut.B2 = true := by kernel_rfl
def spec_l09Cut.T4 : Bool × List (List Nat × List Nat) := (true, [([], []), ([0], [0]), ([], []), ([2], [2]), ([1, 3], [1, 3]), ([], []), ([5], [5]), ([], []), ([7], [7]), ([], []), ([9], [9]), ([8, 10], [8, 10]), ([6, 11], [6, 11]), ([4, 0, 1, 2, 3, 4], [4]), ([12, 13, 0, 1, 2, 3, 4, 5, 6, 7, 8, 9, 10, 11, 12, 13], [12])])
def spec_l09Cut.B4 : List Nat := [0, 1, 0, 4, 15, 0, 32, 0, 128, 0, 512, 1920, 4064, 31, 16383]
theorem spec_l09Cut.tab4 : rtab .any (opsOf Try.f86 4) = spec_l09Cut.T4 := by kernel_rfl
theorem spec_l09Cut.bits4 : waitsOk spec_l09Cut.T4.2 spec_l09Cut.B4 = true := by kernel_rfl
def spec_l09Cut.T5 : Bool × List (List Nat × List Nat) := (true, [([], []), ([], []), ([], []), ([2], [2]), ([1, 3], [1, 3]), ([0, 4], [0, 4]), ([], []), ([], []), ([6, 7], [6, 7]), ([5, 8, 5], [5, 8]), ([], []), ([], []), ([11], [11]), ([12], [12]), ([10, 13], [10, 13]), ([9, 14, 9], [9, 14]), ([15, 15, 0, 1, 2, 3, 4, 5, 6, 7, 8, 9, 10, 11, 12, 13, 14, 15], [15])])
def spec_l09Cut.B5 : List Nat := [0, 0, 0, 4, 14, 31, 0, 0, 192, 511, 0, 0, 2048, 6144, 15360, 32767, 65535]
theorem spec_l09Cut.tab5 : rtab .any (opsOf Try.f86 5) = spec_l09Cut.T5 := by kernel_rfl
theorem spec_l09Cut.bits5 : waitsOk spec_l09Cut.T5.2 spec_l09Cut.B5 = true := by kernel_rfl
set_option maxHeartbeats 8000000 in
set_option maxRecDepth 100000 in
theorem spec_l09Cut.calls (A0 : Option Addr) (c0 : Nat) (l0 : List (S58)) (a1_0 : Int) (a1_1 : Bool) (a1_2 : Int) (r : List (S58)) (w : World) (hr0 : Kd.C k58 w A0 l0.length l0) (hc0 : l0.length ≤ c0) (h : spec_l09Cut.f l0 a1_0 a1_1 a1_2 = some r) :
    Calls Try.prog 86 #[.slice A0 l0.length c0, .agg #[.int .i64 a1_0, .bool a1_1, .int .i64 a1_2]] w fun e w' => ∃ v0_ : Value, e = .returned (v0_) ∧ Kd.R k58 58 w' w.heap.size (fun _ => True) v0_ r ∧ Below w.heap.size w w' := by
  have hu48 := Try.underlying48
  have hu58 := Try.underlying58
  have HR0 := Aside0.mk hr0
  have HC0 := Aside0.mk hc0
  clear hr0 hc0
  have HB := Aside0.mk (Below.refl w.heap.size w)
  have H : (if 0 ≤ a1_0 then (if a1_0 < (l0.length : Int) then (if a1_1 = true then ((some (([] : List (S58)) : List (S58))).bind fun y127 => (if a1_0 ≤ (l0.length : Int) then ((some (l0.take (a1_0 : Int).toNat : List (S58))).bind fun y130 => (if y127.length + y130.length < 8796093022208 then ((some (y127 ++ y130 : List (S58))).bind fun y134 => ((some (([(⟨(rd_T58 l0 a1_0).f0, a1_2⟩ : S58), (⟨(rd_T58 l0 a1_0).f0, wrap64 (((rd_T58 l0 a1_0).f1) - a1_2)⟩ : S58)] : List (S58)) : List (S58))).bind fun y137 => (if y134.length + y137.length < 8796093022208 then ((some (y134 ++ y137 : List (S58))).bind fun y140 => (if 0 ≤ (wrap64 (a1_0 + 1)) then (if (wrap64 (a1_0 + 1)) ≤ (l0.length : Int) then ((some (l0.drop ((wrap64 (a1_0 + 1)) : Int).toNat : List (S58))).bind fun y143 => (if y140.length + y143.length < 8796093022208 then (some (y140 ++ y143)) else (none))) else (none)) else (none))) else (none)))) else (none))) else (none))) else ((some (([] : List (S58)) : List (S58))).bind fun y150 => (if a1_0 ≤ (l0.length : Int) then ((some (l0.take (a1_0 : Int).toNat : List (S58))).bind fun y153 => (if y150.length + y153.length < 8796093022208 then ((some (y150 ++ y153 : List (S58))).bind fun y157 => ((some (([(⟨a1_2, (rd_T58 l0 a1_0).f1⟩ : S58), (⟨wrap64 (((rd_T58 l0 a1_0).f0) - a1_2), (rd_T58 l0 a1_0).f1⟩ : S58)] : List (S58)) : List (S58))).bind fun y160 => (if y157.length + y160.length < 8796093022208 then ((some (y157 ++ y160 : List (S58))).bind fun y163 => (if 0 ≤ (wrap64 (a1_0 + 1)) then (if (wrap64 (a1_0 + 1)) ≤ (l0.length : Int) then ((some (l0.drop ((wrap64 (a1_0 + 1)) : Int).toNat : List (S58))).bind fun y166 => (if y163.length + y166.length < 8796093022208 then (some (y163 ++ y166)) else (none))) else (none)) else (none))) else (none)))) else (none))) else (none)))) else (none)) else (none)) = some r := h
  clear h
  by_cases c3 : 0 ≤ a1_0
  · rw [if_pos c3] at H
    have c3b0 : decide (0 ≤ a1_0) = true := decide_eq_true c3
    clear c3
    by_cases c4 : a1_0 < (l0.length : Int)
    · rw [if_pos c4] at H
      have c4b0 : decide (a1_0 < (l0.length : Int)) = true := decide_eq_true c4
      clear c4
      by_cases c5 : a1_1 = true
      · subst c5
        have H1 : ((some (([] : List (S58)) : List (S58))).bind fun y127 => (if a1_0 ≤ (l0.length : Int) then ((some (l0.take (a1_0 : Int).toNat : List (S58))).bind fun y130 => (if y127.length + y130.length < 8796093022208 then ((some (y127 ++ y130 : List (S58))).bind fun y134 => ((some (([(⟨(rd_T58 l0 a1_0).f0, a1_2⟩ : S58), (⟨(rd_T58 l0 a1_0).f0, wrap64 (((rd_T58 l0 a1_0).f1) - a1_2)⟩ : S58)] : List (S58)) : List (S58))).bind fun y137 => (if y134.length + y137.length < 8796093022208 then ((some (y134 ++ y137 : List (S58))).bind fun y140 => (if 0 ≤ (wrap64 (a1_0 + 1)) then (if (wrap64 (a1_0 + 1)) ≤ (l0.length : Int) then ((some (l0.drop ((wrap64 (a1_0 + 1)) : Int).toNat : List (S58))).bind fun y143 => (if y140.length + y143.length < 8796093022208 then (some (y140 ++ y143)) else (none))) else (none)) else (none))) else (none)))) else (none))) else (none))) = some r := by rw [if_pos rfl] at H; exact H
        clear H
        have H := H1
        clear H1
        obtain ⟨y127, hy127⟩ : ∃ y_ : List (S58), y_ = (([] : List (S58))) := ⟨_, rfl⟩
        replace H : (if a1_0 ≤ (l0.length : Int) then ((some (l0.take (a1_0 : Int).toNat : List (S58))).bind fun y130 => (if y127.length + y130.length < 8796093022208 then ((some (y127 ++ y130 : List (S58))).bind fun y134 => ((some (([(⟨(rd_T58 l0 a1_0).f0, a1_2⟩ : S58), (⟨(rd_T58 l0 a1_0).f0, wrap64 (((rd_T58 l0 a1_0).f1) - a1_2)⟩ : S58)] : List (S58)) : List (S58))).bind fun y137 => (if y134.length + y137.length < 8796093022208 then ((some (y134 ++ y137 : List (S58))).bind fun y140 => (if 0 ≤ (wrap64 (a1_0 + 1)) then (if (wrap64 (a1_0 + 1)) ≤ (l0.length : Int) then ((some (l0.drop ((wrap64 (a1_0 + 1)) : Int).toNat : List (S58))).bind fun y143 => (if y140.length + y143.length < 8796093022208 then (some (y140 ++ y143)) else (none))) else (none)) else (none))) else (none)))) else (none))) else (none)) = some r := by first | (rw [hy127]; with_reducible exact H) | (have H2_ := (Option.bind_some _ _).symm.trans H; rw [hy127]; with_reducible exact H2_) | (have H2_ := (Option.bind_some _ _).symm.trans H; with_reducible exact H2_) | with_reducible exact H | (rw [hy127]; exact H) | exact H
        have Ny127 := Aside0.mk hy127
        clear hy127
        have c6b0 := eq_true (of_decide_eq_true (by first | (with_reducible assumption) | assumption) : 0 ≤ a1_0)
        by_cases c7 : a1_0 ≤ (l0.length : Int)
        · rw [if_pos c7] at H
          have c7b0 := eq_true c7
          have c7b1 : decide (a1_0 ≤ (l0.length : Int)) = true := decide_eq_true c7
          clear c7
          obtain ⟨y130, hy130⟩ : ∃ y_ : List (S58), y_ = (l0.take (a1_0 : Int).toNat) := ⟨_, rfl⟩
          replace H : (if y127.length + y130.length < 8796093022208 then ((some (y127 ++ y130 : List (S58))).bind fun y134 => ((some (([(⟨(rd_T58 l0 a1_0).f0, a1_2⟩ : S58), (⟨(rd_T58 l0 a1_0).f0, wrap64 (((rd_T58 l0 a1_0).f1) - a1_2)⟩ : S58)] : List (S58)) : List (S58))).bind fun y137 => (if y134.length + y137.length < 8796093022208 then ((some (y134 ++ y137 : List (S58))).bind fun y140 => (if 0 ≤ (wrap64 (a1_0 + 1)) then (if (wrap64 (a1_0 + 1)) ≤ (l0.length : Int) then ((some (l0.drop ((wrap64 (a1_0 + 1)) : Int).toNat : List (S58))).bind fun y143 => (if y140.length + y143.length < 8796093022208 then (some (y140 ++ y143)) else (none))) else (none)) else (none))) else (none)))) else (none)) = some r := by first | (rw [hy130]; with_reducible exact H) | (have H2_ := (Option.bind_some _ _).symm.trans H; rw [hy130]; with_reducible exact H2_) | (have H2_ := (Option.bind_some _ _).symm.trans H; with_reducible exact H2_) | with_reducible exact H | (rw [hy130]; exact H) | exact H
          have Ny130 := Aside0.mk hy130
          clear hy130
          by_cases c8 : y127.length + y130.length < 8796093022208
          · rw [if_pos c8] at H
            have LMc8 := Aside0.mk c8
            clear c8
            obtain ⟨y134, hy134⟩ : ∃ y_ : List (S58), y_ = (y127 ++ y130) := ⟨_, rfl⟩
            replace H : ((some (([(⟨(rd_T58 l0 a1_0).f0, a1_2⟩ : S58), (⟨(rd_T58 l0 a1_0).f0, wrap64 (((rd_T58 l0 a1_0).f1) - a1_2)⟩ : S58)] : List (S58)) : List (S58))).bind fun y137 => (if y134.length + y137.length < 8796093022208 then ((some (y134 ++ y137 : List (S58))).bind fun y140 => (if 0 ≤ (wrap64 (a1_0 + 1)) then (if (wrap64 (a1_0 + 1)) ≤ (l0.length : Int) then ((some (l0.drop ((wrap64 (a1_0 + 1)) : Int).toNat : List (S58))).bind fun y143 => (if y140.length + y143.length < 8796093022208 then (some (y140 ++ y143)) else (none))) else (none)) else (none))) else (none))) = some r := by first | (rw [hy134]; with_reducible exact H) | (have H2_ := (Option.bind_some _ _).symm.trans H; rw [hy134]; with_reducible exact H2_) | (have H2_ := (Option.bind_some _ _).symm.trans H; with_reducible exact H2_) | with_reducible exact H | (rw [hy134]; exact H) | exact H
            have Ny134 := Aside0.mk hy134
            clear hy134
            obtain ⟨y137, hy137⟩ : ∃ y_ : List (S58), y_ = (([(⟨(rd_T58 l0 a1_0).f0, a1_2⟩ : S58), (⟨(rd_T58 l0 a1_0).f0, wrap64 (((rd_T58 l0 a1_0).f1) - a1_2)⟩ : S58)] : List (S58))) := ⟨_, rfl⟩
            replace H : (if y134.length + y137.length < 8796093022208 then ((some (y134 ++ y137 : List (S58))).bind fun y140 => (if 0 ≤ (wrap64 (a1_0 + 1)) then (if (wrap64 (a1_0 + 1)) ≤ (l0.length : Int) then ((some (l0.drop ((wrap64 (a1_0 + 1)) : Int).toNat : List (S58))).bind fun y143 => (if y140.length + y143.length < 8796093022208 then (some (y140 ++ y143)) else (none))) else (none)) else (none))) else (none)) = some r := by first | (rw [hy137]; with_reducible exact H) | (have H2_ := (Option.bind_some _ _).symm.trans H; rw [hy137]; with_reducible exact H2_) | (have H2_ := (Option.bind_some _ _).symm.trans H; with_reducible exact H2_) | with_reducible exact H | (rw [hy137]; exact H) | exact H
            have Ny137 := Aside0.mk hy137
            clear hy137
            by_cases c9 : y134.length + y137.length < 8796093022208
            · rw [if_pos c9] at H
              have LMc9 := Aside0.mk c9
              clear c9
              obtain ⟨y140, hy140⟩ : ∃ y_ : List (S58), y_ = (y134 ++ y137) := ⟨_, rfl⟩
              replace H : (if 0 ≤ (wrap64 (a1_0 + 1)) then (if (wrap64 (a1_0 + 1)) ≤ (l0.length : Int) then ((some (l0.drop ((wrap64 (a1_0 + 1)) : Int).toNat : List (S58))).bind fun y143 => (if y140.length + y143.length < 8796093022208 then (some (y140 ++ y143)) else (none))) else (none)) else (none)) = some r := by first | (rw [hy140]; with_reducible exact H) | (have H2_ := (Option.bind_some _ _).symm.trans H; rw [hy140]; with_reducible exact H2_) | (have H2_ := (Option.bind_some _ _).symm.trans H; with_reducible exact H2_) | with_reducible exact H | (rw [hy140]; exact H) | exact H
              have Ny140 := Aside0.mk hy140
              clear hy140
              obtain ⟨ji10, hji10⟩ : ∃ j_ : Int, (wrap64 (a1_0 + 1)) = j_ := ⟨_, rfl⟩
              replace H : (if 0 ≤ (ji10) then (if (ji10) ≤ (l0.length : Int) then ((some (l0.drop ((ji10) : Int).toNat : List (S58))).bind fun y143 => (if y140.length + y143.length < 8796093022208 then (some (y140 ++ y143)) else (none))) else (none)) else (none)) = some r := by first | (rw [hji10] at H; exact H) | (simp only [hji10] at H ⊢; exact H)
              have hji10w : (IntKind.i64.wrap (a1_0 + 1)) = ji10 := (i64_w _).trans hji10
              by_cases c11 : 0 ≤ (ji10)
              · rw [if_pos c11] at H
                have c11b0 := eq_true c11
                have c11b1 : decide (0 ≤ (ji10)) = true := decide_eq_true c11
                clear c11
                by_cases c12 : (ji10) ≤ (l0.length : Int)
                · rw [if_pos c12] at H
                  have c12b0 := eq_true c12
                  have c12b1 : decide ((ji10) ≤ (l0.length : Int)) = true := decide_eq_true c12
                  clear c12
                  obtain ⟨y143, hy143⟩ : ∃ y_ : List (S58), y_ = (l0.drop ((ji10) : Int).toNat) := ⟨_, rfl⟩
                  replace H : (if y140.length + y143.length < 8796093022208 then (some (y140 ++ y143)) else (none)) = some r := by first | (rw [hy143]; with_reducible exact H) | (have H2_ := (Option.bind_some _ _).symm.trans H; rw [hy143]; with_reducible exact H2_) | (have H2_ := (Option.bind_some _ _).symm.trans H; with_reducible exact H2_) | with_reducible exact H | (rw [hy143]; exact H) | exact H
                  have Ny143 := Aside0.mk hy143
                  clear hy143
                  by_cases c13 : y140.length + y143.length < 8796093022208
                  · rw [if_pos c13] at H
                    have LMc13 := Aside0.mk c13
                    clear c13
                    obtain ⟨y147, hy147⟩ : ∃ y_ : List (S58), y_ = (y140 ++ y143) := ⟨_, rfl⟩
                    replace H : (some y147) = some r := by first | (rw [hy147]; with_reducible exact H) | (have H2_ := (Option.bind_some _ _).symm.trans H; rw [hy147]; with_reducible exact H2_) | (have H2_ := (Option.bind_some _ _).symm.trans H; with_reducible exact H2_) | with_reducible exact H | (rw [hy147]; exact H) | exact H
                    have Ny147 := Aside0.mk hy147
                    clear hy147
                    obtain rfl := Option.some.inj H
                    go_enter Try.func86, Try.ntmps86
                    try go_wp2_with (first | ((with_reducible refine gate_dst (N := 3) rfl ?_); refine box_event ?hg (N := 3) ?hd (cs := #[.int .i64 a1_0, .bool true, .int .i64 a1_2]) (t := 48) ?hr ?_; (case hd => rfl); (case hg => rfl); (case hr => first | (go_simp; done) | (go_simp; rfl)); intro gb122 hg w14 hbox hb; have n0_ := Aside0.mk (below_step (hx_ HB.out) hb); have n1_ := Aside0.mk (hbox); have n2_ := Aside0.mk ((by rw [hg]; exact (below_size (hx_ HB.out)) : w.heap.size ≤ gb122)); have n3_ := Aside0.mk ((by rw [hg]; exact (below_size (hx_ HB.out)) : w.heap.size ≤ gb122)); clear HB; have HB := n0_; have BK122 := n1_; have GW122 := n2_; have GE122 := n3_; clear n0_ n1_ n2_ n3_; clear hb hbox hg; have hcz15_0 : w14.cell? ⟨gb122, 0, none⟩ = some (.int .i64 a1_0) := (blk_cell BK122.out 0).trans rfl; have hcz15_1 : w14.cell? ⟨gb122, 1, none⟩ = some (.bool true) := (blk_cell BK122.out 1).trans rfl; have hcz15_2 : w14.cell? ⟨gb122, 2, none⟩ = some (.int .i64 a1_2) := (blk_cell BK122.out 2).trans rfl; have hfz15_0 := blk_frozen BK122.out 0; have hfz15_1 := blk_frozen BK122.out 1; have hfz15_2 := blk_frozen BK122.out 2; have p123 : 0 ≤ (a1_0 : Int) := of_decide_eq_true (by first | (with_reducible assumption) | assumption); have q123 : a1_0 < (l0.length : Int) := of_decide_eq_true (by first | (with_reducible assumption) | assumption); obtain ⟨ad123, e123, hx123_0, hx123_1⟩ := at_T58 HR0.out a1_0 p123 q123; cases e123; replace hx123_0 := (HB.out.cell (World.block_lt_of_cell? w _ hx123_0)).trans hx123_0; replace hx123_1 := (HB.out.cell (World.block_lt_of_cell? w _ hx123_1)).trans hx123_1; replace p123 := eq_true p123; replace q123 := eq_true q123) | ((with_reducible refine gate_dst (N := 5) rfl ?_); refine box_event ?hg (N := 5) ?hd (cs := #[.int .i64 0, .int .i64 0]) (t := 58) ?hr ?_; (case hd => rfl); (case hg => rfl); (case hr => first | (go_simp; done) | (go_simp; rfl)); intro gb124 hg w16 hbox hb; have n0_ := Aside0.mk (blk_below (g := gb122) (o := .cells #[.int .i64 a1_0, .bool true, .int .i64 a1_2] 48 (0, 0)) (bx_ BK122.out) hb); have n1_ := Aside0.mk (below_step (hx_ HB.out) hb); have n2_ := Aside0.mk (hbox); have n3_ := Aside0.mk ((by rw [hg]; exact (below_size (hx_ HB.out)) : w.heap.size ≤ gb124)); have n4_ := Aside0.mk ((by rw [hg]; exact (below_size (hx_ HB.out)) : w.heap.size ≤ gb124)); have n5_ := Aside0.mk ((by rw [hg]; exact Nat.ne_of_lt (blk_lt (g := gb122) (o := .cells #[.int .i64 a1_0, .bool true, .int .i64 a1_2] 48 (0, 0)) (bx_ BK122.out)) : gb122 ≠ gb124)); have n6_ := Aside0.mk ((by rw [hg]; exact Nat.ne_of_gt (blk_lt (g := gb122) (o := .cells #[.int .i64 a1_0, .bool true, .int .i64 a1_2] 48 (0, 0)) (bx_ BK122.out)) : gb124 ≠ gb122)); clear BK122; clear HB; have BK122 := n0_; have HB := n1_; have BK124 := n2_; have GW124 := n3_; have GE124 := n4_; have NB122_124 := n5_; have NB124_122 := n6_; clear n0_ n1_ n2_ n3_ n4_ n5_ n6_; clear hb hbox hg; have hnb17 := NB124_122.out; have hnc17 := NB122_124.out; have hcz18_0 : w16.cell? ⟨gb124, 0, none⟩ = some (.int .i64 0) := (blk_cell BK124.out 0).trans rfl; have hcz18_1 : w16.cell? ⟨gb124, 1, none⟩ = some (.int .i64 0) := (blk_cell BK124.out 1).trans rfl; have hfz18_0 := blk_frozen BK124.out 0; have hfz18_1 := blk_frozen BK124.out 1))
                    have n0_ : Aside0 (((w16.setCell ⟨gb124, 0, none⟩ (.int .i64 ((rd_T58 l0 a1_0).f0))).setCell ⟨gb124, 1, none⟩ (.int .i64 ((rd_T58 l0 a1_0).f1))).heap[gb122]? = some (.cells #[.int .i64 a1_0, .bool true, .int .i64 a1_2] 48 (0, 0))) := ⟨bx_ BK122.out⟩
                    have n1_ : Aside0 (((w16.setCell ⟨gb124, 0, none⟩ (.int .i64 ((rd_T58 l0 a1_0).f0))).setCell ⟨gb124, 1, none⟩ (.int .i64 ((rd_T58 l0 a1_0).f1))).heap[gb124]? = some (.cells #[.int .i64 ((rd_T58 l0 a1_0).f0), .int .i64 ((rd_T58 l0 a1_0).f1)] 58 (0, 0))) := ⟨by (with_reducible repeat (first | refine blk_drewN ?_ _ | refine blk_drew ?_ | refine blk_alloc ?_ _)); refine blk_put (cs := #[.int .i64 ((rd_T58 l0 a1_0).f0), .int .i64 0]) ?_ 1 _ rfl; (with_reducible repeat (first | refine blk_drewN ?_ _ | refine blk_drew ?_ | refine blk_alloc ?_ _)); refine blk_put (cs := #[.int .i64 0, .int .i64 0]) ?_ 0 _ rfl; (with_reducible repeat (first | refine blk_drewN ?_ _ | refine blk_drew ?_ | refine blk_alloc ?_ _)); exact BK124.out⟩
                    have n2_ : Aside0 (Below w.heap.size w ((w16.setCell ⟨gb124, 0, none⟩ (.int .i64 ((rd_T58 l0 a1_0).f0))).setCell ⟨gb124, 1, none⟩ (.int .i64 ((rd_T58 l0 a1_0).f1)))) := ⟨hx_ HB.out⟩
                    (try clear BK122)
                    (try clear BK124)
                    (try clear HB)
                    generalize ((w16.setCell ⟨gb124, 0, none⟩ (.int .i64 ((rd_T58 l0 a1_0).f0))).setCell ⟨gb124, 1, none⟩ (.int .i64 ((rd_T58 l0 a1_0).f1))) = w19 at n0_ n1_ n2_ ⊢
                    have BK122 := n0_
                    have BK124 := n1_
                    have HB := n2_
                    clear n0_ n1_ n2_
                    have n0_ := Aside0.mk (blk_drew BK122.out)
                    have n1_ := Aside0.mk (blk_drew BK124.out)
                    have n2_ := Aside0.mk (below_drew1 HB.out)
                    clear BK122
                    clear BK124
                    clear HB
                    have BK122 := n0_
                    have BK124 := n1_
                    have HB := n2_
                    clear n0_ n1_ n2_
                    refine start_ (n := 17) (S := fun w' => w'.cell? ⟨gb122, 0, none⟩ = some (.int .i64 a1_0) ∧ w'.cell? ⟨gb122, 1, none⟩ = some (.bool true) ∧ w'.cell? ⟨gb122, 2, none⟩ = some (.int .i64 a1_2) ∧ w'.cell? ⟨gb124, 0, none⟩ = some (.int .i64 ((rd_T58 l0 a1_0).f0)) ∧ w'.cell? ⟨gb124, 1, none⟩ = some (.int .i64 ((rd_T58 l0 a1_0).f1))) (ds := []) #[false, false, false, false, false, false, false, false, false, false, false, false, false, false, false, false, false] (by kernel_rfl) rfl rfl ⟨(blk_cell BK122.out 0).trans rfl, (blk_cell BK122.out 1).trans rfl, (blk_cell BK122.out 2).trans rfl, (blk_cell BK124.out 0).trans rfl, (blk_cell BK124.out 1).trans rfl⟩ (fun hHeld => ?_); refine with_tabW spec_l09Cut.tab2 spec_l09Cut.bits2 (fun HT_ HW_ => ?_)
                    generalize w19.drew = w20 at BK122 BK124 HB hHeld ⊢
                    refine pure_ (i := 0) (N := some 13) (v := ?_) (a' := ?_) #[true, false, false, false, false, false, false, false, false, false, false, false, false, false, false, false, false] rfl rfl (any_of HT_.out (by kernel_rfl)) (fun _ _ _ h => h) (Or.inl ⟨by rfl, ?_⟩) ?_ ?_
                    rotate_left
                    · intro w'
                      go_simp
                      with_reducible rfl
                    rotate_left
                    · simp only [Act.put, List.setIfInBounds_toArray, List.set_cons_zero, List.set_cons_succ, i64_w, i32_w]
                      rfl
                    refine pure_ (i := 2) (N := some 15) (v := ?_) (a' := ?_) #[true, false, true, false, false, false, false, false, false, false, false, false, false, false, false, false, false] rfl rfl (any_of HT_.out (by kernel_rfl)) (fun _ _ _ h => h) (Or.inl ⟨by rfl, ?_⟩) ?_ ?_
                    rotate_left
                    · intro w'
                      go_simp
                      with_reducible rfl
                    rotate_left
                    · simp only [Act.put, List.setIfInBounds_toArray, List.set_cons_zero, List.set_cons_succ, i64_w, i32_w]
                      rfl
                    refine pure_ (i := 5) (N := some 18) (v := ?_) (a' := ?_) #[true, false, true, false, false, true, false, false, false, false, false, false, false, false, false, false, false] rfl rfl (any_of HT_.out (by kernel_rfl)) (fun _ _ _ h => h) (Or.inl ⟨by rfl, ?_⟩) ?_ ?_
                    rotate_left
                    · intro w'
                      go_simp
                      with_reducible rfl
                    rotate_left
                    · simp only [Act.put, List.setIfInBounds_toArray, List.set_cons_zero, List.set_cons_succ, i64_w, i32_w]
                      rfl
                    refine pure_ (i := 7) (N := some 20) (v := ?_) (a' := ?_) #[true, false, true, false, false, true, false, true, false, false, false, false, false, false, false, false, false] rfl rfl (any_of HT_.out (by kernel_rfl)) (fun _ _ _ h => h) (Or.inl ⟨by rfl, ?_⟩) ?_ ?_
                    rotate_left
                    · intro w'
                      go_simp
                      with_reducible rfl
                    rotate_left
                    · simp only [Act.put, List.setIfInBounds_toArray, List.set_cons_zero, List.set_cons_succ, i64_w, i32_w]
                      rfl
                    refine pure_ (i := 10) (N := some 23) (v := ?_) (a' := ?_) #[true, false, true, false, false, true, false, true, false, false, true, false, false, false, false, false, false] rfl rfl (any_of HT_.out (by kernel_rfl)) (fun _ _ _ h => h) (Or.inl ⟨by rfl, ?_⟩) ?_ ?_
                    rotate_left
                    · intro w'
                      go_simp
                      with_reducible rfl
                    rotate_left
                    · simp only [Act.put, List.setIfInBounds_toArray, List.set_cons_zero, List.set_cons_succ, i64_w, i32_w]
                      rfl
                    refine take_ (i := 1) (N := some 14) (v := ?_) (a' := ?_) #[true, true, true, false, false, true, false, true, false, false, true, false, false, false, false, false, false] rfl rfl (take_ofW HT_.out HW_.out (by kernel_rfl)) (fun _ _ _ h => h) (Or.inl ⟨by rfl, ?_⟩) hHeld ?_ ?_
                    rotate_left
                    · rintro w' ⟨s0, s1, s2, s3, s4⟩
                      go_simp
                      with_reducible rfl
                    rotate_left
                    · simp only [Act.put, List.setIfInBounds_toArray, List.set_cons_zero, List.set_cons_succ, i64_w, i32_w]
                      rfl
                    refine take_ (i := 3) (N := some 16) (v := ?_) (a' := ?_) #[true, true, true, true, false, true, false, true, false, false, true, false, false, false, false, false, false] rfl rfl (take_ofW HT_.out HW_.out (by kernel_rfl)) (fun _ _ _ h => h) (Or.inl ⟨by rfl, ?_⟩) hHeld ?_ ?_
                    rotate_left
                    · rintro w' ⟨s0, s1, s2, s3, s4⟩
                      go_simp
                      with_reducible rfl
                    rotate_left
                    · simp only [Act.put, List.setIfInBounds_toArray, List.set_cons_zero, List.set_cons_succ, i64_w, i32_w]
                      rfl
                    refine pure_ (i := 4) (N := some 17) (v := ?_) (a' := ?_) #[true, true, true, true, true, true, false, true, false, false, true, false, false, false, false, false, false] rfl rfl (any_of HT_.out (by kernel_rfl)) (fun _ _ _ h => h) (Or.inl ⟨by rfl, ?_⟩) ?_ ?_
                    rotate_left
                    · intro w'
                      go_simp
                      with_reducible rfl
                    rotate_left
                    · simp only [Act.put, List.setIfInBounds_toArray, List.set_cons_zero, List.set_cons_succ, i64_w, i32_w]
                      rfl
                    refine take_ (i := 6) (N := some 19) (v := ?_) (a' := ?_) #[true, true, true, true, true, true, true, true, false, false, true, false, false, false, false, false, false] rfl rfl (take_ofW HT_.out HW_.out (by kernel_rfl)) (fun _ _ _ h => h) (Or.inl ⟨by rfl, ?_⟩) hHeld ?_ ?_
                    rotate_left
                    · rintro w' ⟨s0, s1, s2, s3, s4⟩
                      go_simp
                      with_reducible rfl
                    rotate_left
                    · simp only [Act.put, List.setIfInBounds_toArray, List.set_cons_zero, List.set_cons_succ, i64_w, i32_w]
                      rfl
                    refine take_ (i := 8) (N := some 21) (v := ?_) (a' := ?_) #[true, true, true, true, true, true, true, true, true, false, true, false, false, false, false, false, false] rfl rfl (take_ofW HT_.out HW_.out (by kernel_rfl)) (fun _ _ _ h => h) (Or.inl ⟨by rfl, ?_⟩) hHeld ?_ ?_
                    rotate_left
                    · rintro w' ⟨s0, s1, s2, s3, s4⟩
                      go_simp
                      with_reducible rfl
                    rotate_left
                    · simp only [Act.put, List.setIfInBounds_toArray, List.set_cons_zero, List.set_cons_succ, i64_w, i32_w]
                      rfl
                    refine pure_ (i := 9) (N := some 22) (v := ?_) (a' := ?_) #[true, true, true, true, true, true, true, true, true, true, true, false, false, false, false, false, false] rfl rfl (any_of HT_.out (by kernel_rfl)) (fun _ _ _ h => h) (Or.inl ⟨by rfl, ?_⟩) ?_ ?_
                    rotate_left
                    · intro w'
                      go_simp
                      with_reducible rfl
                    rotate_left
                    · simp only [Act.put, List.setIfInBounds_toArray, List.set_cons_zero, List.set_cons_succ, i64_w, i32_w]
                      rfl
                    refine take_ (i := 11) (N := some 24) (v := ?_) (a' := ?_) #[true, true, true, true, true, true, true, true, true, true, true, true, false, false, false, false, false] rfl rfl (take_ofW HT_.out HW_.out (by kernel_rfl)) (fun _ _ _ h => h) (Or.inl ⟨by rfl, ?_⟩) hHeld ?_ ?_
                    rotate_left
                    · rintro w' ⟨s0, s1, s2, s3, s4⟩
                      go_simp
                      with_reducible rfl
                    rotate_left
                    · simp only [Act.put, List.setIfInBounds_toArray, List.set_cons_zero, List.set_cons_succ, i64_w, i32_w]
                      rfl
                    refine pure_ (i := 12) (N := some 25) (v := ?_) (a' := ?_) #[true, true, true, true, true, true, true, true, true, true, true, true, true, false, false, false, false] rfl rfl (any_of HT_.out (by kernel_rfl)) (fun _ _ _ h => h) (Or.inl ⟨by rfl, ?_⟩) ?_ ?_
                    rotate_left
                    · intro w'
                      go_simp
                      with_reducible rfl
                    rotate_left
                    · simp only [Act.put, List.setIfInBounds_toArray, List.set_cons_zero, List.set_cons_succ, i64_w, i32_w]
                      rfl
                    refine join_ (σ := Nat × Nat) 2 #[true, true, true, true, true, true, true, true, true, true, true, true, true, true, true, false, false] (fun s_ => [(6, .pointer (some ⟨s_.1, 0, none⟩)), (7, .pointer (some ⟨s_.2, 0, none⟩))]) (fun s_ w' => (w'.cell? ⟨gb122, 0, none⟩ = some (.int .i64 a1_0) ∧ w'.cell? ⟨gb122, 1, none⟩ = some (.bool true) ∧ w'.cell? ⟨gb122, 2, none⟩ = some (.int .i64 a1_2) ∧ w'.cell? ⟨gb124, 0, none⟩ = some (.int .i64 ((rd_T58 l0 a1_0).f0)) ∧ w'.cell? ⟨gb124, 1, none⟩ = some (.int .i64 ((rd_T58 l0 a1_0).f1))) ∧ (w'.heap[gb122]? = some (.cells #[.int .i64 a1_0, .bool true, .int .i64 a1_2] 48 (0, 0))) ∧ (w'.heap[gb124]? = some (.cells #[.int .i64 ((rd_T58 l0 a1_0).f0), .int .i64 ((rd_T58 l0 a1_0).f1)] 58 (0, 0))) ∧ (w'.heap[s_.1]? = some (.cells #[.int .i64 0, .int .i64 0] 58 (0, 0))) ∧ (w'.heap[s_.2]? = some (.cells #[.int .i64 0, .int .i64 0] 58 (0, 0))) ∧ (w.heap.size ≤ s_.1) ∧ (w.heap.size ≤ s_.1) ∧ (gb122 ≠ s_.1) ∧ (s_.1 ≠ gb122) ∧ (gb124 ≠ s_.1) ∧ (s_.1 ≠ gb124) ∧ (s_.2 ≠ s_.1) ∧ (s_.1 ≠ s_.2) ∧ (w.heap.size ≤ s_.2) ∧ (w.heap.size ≤ s_.2) ∧ (gb122 ≠ s_.2) ∧ (s_.2 ≠ gb122) ∧ (gb124 ≠ s_.2) ∧ (s_.2 ≠ gb124) ∧ (Below w.heap.size w w')) ?_ ?_
                    rotate_left
                    · intro hCont
                      refine two_ (i := 13) (j := 14) (Ni := some 6) (Nj := some 7) #[true, true, true, true, true, true, true, true, true, true, true, true, true, true, false, false, false] #[true, true, true, true, true, true, true, true, true, true, true, true, true, false, true, false, false] rfl rfl rfl rfl (two_of HT_.out (by kernel_rfl)) (by decide) (by decide) (fun K hK => ?_) (fun K hK => ?_)
                      · skip
                        refine box_step ?hg (N := 6) ?hd (cs := #[.int .i64 0, .int .i64 0]) (t := 58) ?hr ?_; (case hd => rfl); (case hg => rfl); (case hr => first | (go_simp; done) | (go_simp; rfl))
                        intro gb125 hg w21 hbox hb
                        have n0_ := Aside0.mk (blk_below (g := gb122) (o := .cells #[.int .i64 a1_0, .bool true, .int .i64 a1_2] 48 (0, 0)) (bx_ BK122.out) hb)
                        have n1_ := Aside0.mk (blk_below (g := gb124) (o := .cells #[.int .i64 ((rd_T58 l0 a1_0).f0), .int .i64 ((rd_T58 l0 a1_0).f1)] 58 (0, 0)) (bx_ BK124.out) hb)
                        have n2_ := Aside0.mk (below_step (hx_ HB.out) hb)
                        have n3_ := Aside0.mk (hbox)
                        have n4_ := Aside0.mk ((by rw [hg]; exact (below_size (hx_ HB.out)) : w.heap.size ≤ gb125))
                        have n5_ := Aside0.mk ((by rw [hg]; exact (below_size (hx_ HB.out)) : w.heap.size ≤ gb125))
                        have n6_ := Aside0.mk ((by rw [hg]; exact Nat.ne_of_lt (blk_lt (g := gb122) (o := .cells #[.int .i64 a1_0, .bool true, .int .i64 a1_2] 48 (0, 0)) (bx_ BK122.out)) : gb122 ≠ gb125))
                        have n7_ := Aside0.mk ((by rw [hg]; exact Nat.ne_of_gt (blk_lt (g := gb122) (o := .cells #[.int .i64 a1_0, .bool true, .int .i64 a1_2] 48 (0, 0)) (bx_ BK122.out)) : gb125 ≠ gb122))
                        have n8_ := Aside0.mk ((by rw [hg]; exact Nat.ne_of_lt (blk_lt (g := gb124) (o := .cells #[.int .i64 ((rd_T58 l0 a1_0).f0), .int .i64 ((rd_T58 l0 a1_0).f1)] 58 (0, 0)) (bx_ BK124.out)) : gb124 ≠ gb125))
                        have n9_ := Aside0.mk ((by rw [hg]; exact Nat.ne_of_gt (blk_lt (g := gb124) (o := .cells #[.int .i64 ((rd_T58 l0 a1_0).f0), .int .i64 ((rd_T58 l0 a1_0).f1)] 58 (0, 0)) (bx_ BK124.out)) : gb125 ≠ gb124))
                        clear BK122
                        clear BK124
                        clear HB
                        have BK122 := n0_
                        have BK124 := n1_
                        have HB := n2_
                        have BK125 := n3_
                        have GW125 := n4_
                        have GE125 := n5_
                        have NB122_125 := n6_
                        have NB125_122 := n7_
                        have NB124_125 := n8_
                        have NB125_124 := n9_
                        clear n0_ n1_ n2_ n3_ n4_ n5_ n6_ n7_ n8_ n9_
                        clear hb hbox hg
                        refine hK.out _ _ ⟨(blk_cell BK122.out 0).trans rfl, (blk_cell BK122.out 1).trans rfl, (blk_cell BK122.out 2).trans rfl, (blk_cell BK124.out 0).trans rfl, (blk_cell BK124.out 1).trans rfl⟩ (fun hHeld => ?_)
                        clear hK K
                        refine norm_ (a' := ?_) ?_ ?_
                        rotate_left
                        · show Act.put _ (some 6) _ = _
                          simp only [Act.put, List.setIfInBounds_toArray, List.set_cons_zero, List.set_cons_succ, i64_w, i32_w]
                          rfl
                        refine one_ (i := 14) (N := some 7) #[true, true, true, true, true, true, true, true, true, true, true, true, true, true, true, false, false] rfl rfl (one_of HT_.out (by kernel_rfl)) (by decide) (fun K hK => ?_)
                        refine box_step ?hg (N := 7) ?hd (cs := #[.int .i64 0, .int .i64 0]) (t := 58) ?hr ?_; (case hd => rfl); (case hg => rfl); (case hr => first | (go_simp; done) | (go_simp; rfl))
                        intro gb126 hg w22 hbox hb
                        have n0_ := Aside0.mk (blk_below (g := gb122) (o := .cells #[.int .i64 a1_0, .bool true, .int .i64 a1_2] 48 (0, 0)) (bx_ BK122.out) hb)
                        have n1_ := Aside0.mk (blk_below (g := gb124) (o := .cells #[.int .i64 ((rd_T58 l0 a1_0).f0), .int .i64 ((rd_T58 l0 a1_0).f1)] 58 (0, 0)) (bx_ BK124.out) hb)
                        have n2_ := Aside0.mk (blk_below (g := gb125) (o := .cells #[.int .i64 0, .int .i64 0] 58 (0, 0)) (bx_ BK125.out) hb)
                        have n3_ := Aside0.mk (below_step (hx_ HB.out) hb)
                        have n4_ := Aside0.mk (hbox)
                        have n5_ := Aside0.mk ((by rw [hg]; exact (below_size (hx_ HB.out)) : w.heap.size ≤ gb126))
                        have n6_ := Aside0.mk ((by rw [hg]; exact (below_size (hx_ HB.out)) : w.heap.size ≤ gb126))
                        have n7_ := Aside0.mk ((by rw [hg]; exact Nat.ne_of_lt (blk_lt (g := gb122) (o := .cells #[.int .i64 a1_0, .bool true, .int .i64 a1_2] 48 (0, 0)) (bx_ BK122.out)) : gb122 ≠ gb126))
                        have n8_ := Aside0.mk ((by rw [hg]; exact Nat.ne_of_gt (blk_lt (g := gb122) (o := .cells #[.int .i64 a1_0, .bool true, .int .i64 a1_2] 48 (0, 0)) (bx_ BK122.out)) : gb126 ≠ gb122))
                        have n9_ := Aside0.mk ((by rw [hg]; exact Nat.ne_of_lt (blk_lt (g := gb124) (o := .cells #[.int .i64 ((rd_T58 l0 a1_0).f0), .int .i64 ((rd_T58 l0 a1_0).f1)] 58 (0, 0)) (bx_ BK124.out)) : gb124 ≠ gb126))
                        have n10_ := Aside0.mk ((by rw [hg]; exact Nat.ne_of_gt (blk_lt (g := gb124) (o := .cells #[.int .i64 ((rd_T58 l0 a1_0).f0), .int .i64 ((rd_T58 l0 a1_0).f1)] 58 (0, 0)) (bx_ BK124.out)) : gb126 ≠ gb124))
                        have n11_ := Aside0.mk ((by rw [hg]; exact Nat.ne_of_lt (blk_lt (g := gb125) (o := .cells #[.int .i64 0, .int .i64 0] 58 (0, 0)) (bx_ BK125.out)) : gb125 ≠ gb126))
                        have n12_ := Aside0.mk ((by rw [hg]; exact Nat.ne_of_gt (blk_lt (g := gb125) (o := .cells #[.int .i64 0, .int .i64 0] 58 (0, 0)) (bx_ BK125.out)) : gb126 ≠ gb125))
                        clear BK122
                        clear BK124
                        clear BK125
                        clear HB
                        have BK122 := n0_
                        have BK124 := n1_
                        have BK125 := n2_
                        have HB := n3_
                        have BK126 := n4_
                        have GW126 := n5_
                        have GE126 := n6_
                        have NB122_126 := n7_
                        have NB126_122 := n8_
                        have NB124_126 := n9_
                        have NB126_124 := n10_
                        have NB125_126 := n11_
                        have NB126_125 := n12_
                        clear n0_ n1_ n2_ n3_ n4_ n5_ n6_ n7_ n8_ n9_ n10_ n11_ n12_
                        clear hb hbox hg
                        refine hK.out _ _ ⟨(blk_cell BK122.out 0).trans rfl, (blk_cell BK122.out 1).trans rfl, (blk_cell BK122.out 2).trans rfl, (blk_cell BK124.out 0).trans rfl, (blk_cell BK124.out 1).trans rfl⟩ (fun hHeld => ?_)
                        clear hK K
                        refine norm_ (a' := ?_) ?_ ?_
                        rotate_left
                        · show Act.put _ (some 7) _ = _
                          simp only [Act.put, List.setIfInBounds_toArray, List.set_cons_zero, List.set_cons_succ, i64_w, i32_w]
                          rfl
                        exact norm_ (by simp only [putAll, Act.put, List.setIfInBounds_toArray, List.set_cons_zero, List.set_cons_succ]) (hCont (gb125, gb126) _ ⟨hHeld, (bx_ BK122.out), (bx_ BK124.out), (bx_ BK125.out), (bx_ BK126.out), GW125.out, GE125.out, NB122_125.out, NB125_122.out, NB124_125.out, NB125_124.out, NB126_125.out, NB125_126.out, GW126.out, GE126.out, NB122_126.out, NB126_122.out, NB124_126.out, NB126_124.out, (hx_ HB.out)⟩)
                      · skip
                        refine box_step ?hg (N := 7) ?hd (cs := #[.int .i64 0, .int .i64 0]) (t := 58) ?hr ?_; (case hd => rfl); (case hg => rfl); (case hr => first | (go_simp; done) | (go_simp; rfl))
                        intro gb126 hg w21 hbox hb
                        have n0_ := Aside0.mk (blk_below (g := gb122) (o := .cells #[.int .i64 a1_0, .bool true, .int .i64 a1_2] 48 (0, 0)) (bx_ BK122.out) hb)
                        have n1_ := Aside0.mk (blk_below (g := gb124) (o := .cells #[.int .i64 ((rd_T58 l0 a1_0).f0), .int .i64 ((rd_T58 l0 a1_0).f1)] 58 (0, 0)) (bx_ BK124.out) hb)
                        have n2_ := Aside0.mk (below_step (hx_ HB.out) hb)
                        have n3_ := Aside0.mk (hbox)
                        have n4_ := Aside0.mk ((by rw [hg]; exact (below_size (hx_ HB.out)) : w.heap.size ≤ gb126))
                        have n5_ := Aside0.mk ((by rw [hg]; exact (below_size (hx_ HB.out)) : w.heap.size ≤ gb126))
                        have n6_ := Aside0.mk ((by rw [hg]; exact Nat.ne_of_lt (blk_lt (g := gb122) (o := .cells #[.int .i64 a1_0, .bool true, .int .i64 a1_2] 48 (0, 0)) (bx_ BK122.out)) : gb122 ≠ gb126))
                        have n7_ := Aside0.mk ((by rw [hg]; exact Nat.ne_of_gt (blk_lt (g := gb122) (o := .cells #[.int .i64 a1_0, .bool true, .int .i64 a1_2] 48 (0, 0)) (bx_ BK122.out)) : gb126 ≠ gb122))
                        have n8_ := Aside0.mk ((by rw [hg]; exact Nat.ne_of_lt (blk_lt (g := gb124) (o := .cells #[.int .i64 ((rd_T58 l0 a1_0).f0), .int .i64 ((rd_T58 l0 a1_0).f1)] 58 (0, 0)) (bx_ BK124.out)) : gb124 ≠ gb126))
                        have n9_ := Aside0.mk ((by rw [hg]; exact Nat.ne_of_gt (blk_lt (g := gb124) (o := .cells #[.int .i64 ((rd_T58 l0 a1_0).f0), .int .i64 ((rd_T58 l0 a1_0).f1)] 58 (0, 0)) (bx_ BK124.out)) : gb126 ≠ gb124))
                        clear BK122
                        clear BK124
                        clear HB
                        have BK122 := n0_
                        have BK124 := n1_
                        have HB := n2_
                        have BK126 := n3_
                        have GW126 := n4_
                        have GE126 := n5_
                        have NB122_126 := n6_
                        have NB126_122 := n7_
                        have NB124_126 := n8_
                        have NB126_124 := n9_
                        clear n0_ n1_ n2_ n3_ n4_ n5_ n6_ n7_ n8_ n9_
                        clear hb hbox hg
                        refine hK.out _ _ ⟨(blk_cell BK122.out 0).trans rfl, (blk_cell BK122.out 1).trans rfl, (blk_cell BK122.out 2).trans rfl, (blk_cell BK124.out 0).trans rfl, (blk_cell BK124.out 1).trans rfl⟩ (fun hHeld => ?_)
                        clear hK K
                        refine norm_ (a' := ?_) ?_ ?_
                        rotate_left
                        · show Act.put _ (some 7) _ = _
                          simp only [Act.put, List.setIfInBounds_toArray, List.set_cons_zero, List.set_cons_succ, i64_w, i32_w]
                          rfl
                        refine one_ (i := 13) (N := some 6) #[true, true, true, true, true, true, true, true, true, true, true, true, true, true, true, false, false] rfl rfl (one_of HT_.out (by kernel_rfl)) (by decide) (fun K hK => ?_)
                        refine box_step ?hg (N := 6) ?hd (cs := #[.int .i64 0, .int .i64 0]) (t := 58) ?hr ?_; (case hd => rfl); (case hg => rfl); (case hr => first | (go_simp; done) | (go_simp; rfl))
                        intro gb125 hg w22 hbox hb
                        have n0_ := Aside0.mk (blk_below (g := gb122) (o := .cells #[.int .i64 a1_0, .bool true, .int .i64 a1_2] 48 (0, 0)) (bx_ BK122.out) hb)
                        have n1_ := Aside0.mk (blk_below (g := gb124) (o := .cells #[.int .i64 ((rd_T58 l0 a1_0).f0), .int .i64 ((rd_T58 l0 a1_0).f1)] 58 (0, 0)) (bx_ BK124.out) hb)
                        have n2_ := Aside0.mk (blk_below (g := gb126) (o := .cells #[.int .i64 0, .int .i64 0] 58 (0, 0)) (bx_ BK126.out) hb)
                        have n3_ := Aside0.mk (below_step (hx_ HB.out) hb)
                        have n4_ := Aside0.mk (hbox)
                        have n5_ := Aside0.mk ((by rw [hg]; exact (below_size (hx_ HB.out)) : w.heap.size ≤ gb125))
                        have n6_ := Aside0.mk ((by rw [hg]; exact (below_size (hx_ HB.out)) : w.heap.size ≤ gb125))
                        have n7_ := Aside0.mk ((by rw [hg]; exact Nat.ne_of_lt (blk_lt (g := gb122) (o := .cells #[.int .i64 a1_0, .bool true, .int .i64 a1_2] 48 (0, 0)) (bx_ BK122.out)) : gb122 ≠ gb125))
                        have n8_ := Aside0.mk ((by rw [hg]; exact Nat.ne_of_gt (blk_lt (g := gb122) (o := .cells #[.int .i64 a1_0, .bool true, .int .i64 a1_2] 48 (0, 0)) (bx_ BK122.out)) : gb125 ≠ gb122))
                        have n9_ := Aside0.mk ((by rw [hg]; exact Nat.ne_of_lt (blk_lt (g := gb124) (o := .cells #[.int .i64 ((rd_T58 l0 a1_0).f0), .int .i64 ((rd_T58 l0 a1_0).f1)] 58 (0, 0)) (bx_ BK124.out)) : gb124 ≠ gb125))
                        have n10_ := Aside0.mk ((by rw [hg]; exact Nat.ne_of_gt (blk_lt (g := gb124) (o := .cells #[.int .i64 ((rd_T58 l0 a1_0).f0), .int .i64 ((rd_T58 l0 a1_0).f1)] 58 (0, 0)) (bx_ BK124.out)) : gb125 ≠ gb124))
                        have n11_ := Aside0.mk ((by rw [hg]; exact Nat.ne_of_lt (blk_lt (g := gb126) (o := .cells #[.int .i64 0, .int .i64 0] 58 (0, 0)) (bx_ BK126.out)) : gb126 ≠ gb125))
                        have n12_ := Aside0.mk ((by rw [hg]; exact Nat.ne_of_gt (blk_lt (g := gb126) (o := .cells #[.int .i64 0, .int .i64 0] 58 (0, 0)) (bx_ BK126.out)) : gb125 ≠ gb126))
                        clear BK122
                        clear BK124
                        clear BK126
                        clear HB
                        have BK122 := n0_
                        have BK124 := n1_
                        have BK126 := n2_
                        have HB := n3_
                        have BK125 := n4_
                        have GW125 := n5_
                        have GE125 := n6_
                        have NB122_125 := n7_
                        have NB125_122 := n8_
                        have NB124_125 := n9_
                        have NB125_124 := n10_
                        have NB126_125 := n11_
                        have NB125_126 := n12_
                        clear n0_ n1_ n2_ n3_ n4_ n5_ n6_ n7_ n8_ n9_ n10_ n11_ n12_
                        clear hb hbox hg
                        refine hK.out _ _ ⟨(blk_cell BK122.out 0).trans rfl, (blk_cell BK122.out 1).trans rfl, (blk_cell BK122.out 2).trans rfl, (blk_cell BK124.out 0).trans rfl, (blk_cell BK124.out 1).trans rfl⟩ (fun hHeld => ?_)
                        clear hK K
                        refine norm_ (a' := ?_) ?_ ?_
                        rotate_left
                        · show Act.put _ (some 6) _ = _
                          simp only [Act.put, List.setIfInBounds_toArray, List.set_cons_zero, List.set_cons_succ, i64_w, i32_w]
                          rfl
                        exact norm_ (by simp only [putAll, Act.put, List.setIfInBounds_toArray, List.set_cons_zero, List.set_cons_succ]) (hCont (gb125, gb126) _ ⟨hHeld, (bx_ BK122.out), (bx_ BK124.out), (bx_ BK125.out), (bx_ BK126.out), GW125.out, GE125.out, NB122_125.out, NB125_122.out, NB124_125.out, NB125_124.out, NB126_125.out, NB125_126.out, GW126.out, GE126.out, NB122_126.out, NB126_122.out, NB124_126.out, NB126_124.out, (hx_ HB.out)⟩)
                    rintro ⟨gb125, gb126⟩ w23 ⟨hS_, h0_, h1_, h2_, h3_, h4_, h5_, h6_, h7_, h8_, h9_, h10_, h11_, h12_, h13_, h14_, h15_, h16_, h17_, h18_⟩
                    have n0_ : Aside0 (w23.heap[gb122]? = some (.cells #[.int .i64 a1_0, .bool true, .int .i64 a1_2] 48 (0, 0))) := ⟨h0_⟩
                    have n1_ : Aside0 (w23.heap[gb124]? = some (.cells #[.int .i64 ((rd_T58 l0 a1_0).f0), .int .i64 ((rd_T58 l0 a1_0).f1)] 58 (0, 0))) := ⟨h1_⟩
                    have n2_ : Aside0 (w23.heap[gb125]? = some (.cells #[.int .i64 0, .int .i64 0] 58 (0, 0))) := ⟨h2_⟩
                    have n3_ : Aside0 (w23.heap[gb126]? = some (.cells #[.int .i64 0, .int .i64 0] 58 (0, 0))) := ⟨h3_⟩
                    have n4_ : Aside0 (w.heap.size ≤ gb125) := ⟨h4_⟩
                    have n5_ : Aside0 (w.heap.size ≤ gb125) := ⟨h5_⟩
                    have n6_ : Aside0 (gb122 ≠ gb125) := ⟨h6_⟩
                    have n7_ : Aside0 (gb125 ≠ gb122) := ⟨h7_⟩
                    have n8_ : Aside0 (gb124 ≠ gb125) := ⟨h8_⟩
                    have n9_ : Aside0 (gb125 ≠ gb124) := ⟨h9_⟩
                    have n10_ : Aside0 (gb126 ≠ gb125) := ⟨h10_⟩
                    have n11_ : Aside0 (gb125 ≠ gb126) := ⟨h11_⟩
                    have n12_ : Aside0 (w.heap.size ≤ gb126) := ⟨h12_⟩
                    have n13_ : Aside0 (w.heap.size ≤ gb126) := ⟨h13_⟩
                    have n14_ : Aside0 (gb122 ≠ gb126) := ⟨h14_⟩
                    have n15_ : Aside0 (gb126 ≠ gb122) := ⟨h15_⟩
                    have n16_ : Aside0 (gb124 ≠ gb126) := ⟨h16_⟩
                    have n17_ : Aside0 (gb126 ≠ gb124) := ⟨h17_⟩
                    have n18_ : Aside0 (Below w.heap.size w w23) := ⟨h18_⟩
                    clear BK122
                    clear BK124
                    clear HB
                    clear h0_ h1_ h2_ h3_ h4_ h5_ h6_ h7_ h8_ h9_ h10_ h11_ h12_ h13_ h14_ h15_ h16_ h17_ h18_
                    have BK122 := n0_
                    have BK124 := n1_
                    have BK125 := n2_
                    have BK126 := n3_
                    have GW125 := n4_
                    have GE125 := n5_
                    have NB122_125 := n6_
                    have NB125_122 := n7_
                    have NB124_125 := n8_
                    have NB125_124 := n9_
                    have NB126_125 := n10_
                    have NB125_126 := n11_
                    have GW126 := n12_
                    have GE126 := n13_
                    have NB122_126 := n14_
                    have NB126_122 := n15_
                    have NB124_126 := n16_
                    have NB126_124 := n17_
                    have HB := n18_
                    clear n0_ n1_ n2_ n3_ n4_ n5_ n6_ n7_ n8_ n9_ n10_ n11_ n12_ n13_ n14_ n15_ n16_ n17_ n18_
                    have hHeld : w23.cell? ⟨gb122, 0, none⟩ = some (.int .i64 a1_0) ∧ w23.cell? ⟨gb122, 1, none⟩ = some (.bool true) ∧ w23.cell? ⟨gb122, 2, none⟩ = some (.int .i64 a1_2) ∧ w23.cell? ⟨gb124, 0, none⟩ = some (.int .i64 ((rd_T58 l0 a1_0).f0)) ∧ w23.cell? ⟨gb124, 1, none⟩ = some (.int .i64 ((rd_T58 l0 a1_0).f1)) := hS_
                    refine norm_ (a' := ?_) ?_ ?_
                    rotate_left
                    · simp only [putAll, Act.put, List.setIfInBounds_toArray, List.set_cons_zero, List.set_cons_succ]
                      rfl
                    refine one_ (i := 15) (N := none) #[true, true, true, true, true, true, true, true, true, true, true, true, true, true, true, true, false] rfl rfl (one_of HT_.out (by kernel_rfl)) (by decide) (fun K hK => ?_)
                    have hs24 : w23.cell? ⟨gb125, 0, none⟩ = some (.int .i64 0) := (blk_cell BK125.out 0).trans rfl
                    have hfs24 := blk_frozen BK125.out 0
                    have hns24_0 := NB122_125.out
                    have hns24_1 := NB124_125.out
                    have hns24_3 := NB126_125.out
                    have hms24_0 := NB125_122.out
                    have hms24_1 := NB125_124.out
                    have hms24_3 := NB125_126.out
                    have hs25 : w23.cell? ⟨gb125, 1, none⟩ = some (.int .i64 0) := (blk_cell BK125.out 1).trans rfl
                    have hfs25 := blk_frozen BK125.out 1
                    have hns25_0 := NB122_125.out
                    have hns25_1 := NB124_125.out
                    have hns25_3 := NB126_125.out
                    have hms25_0 := NB125_122.out
                    have hms25_1 := NB125_124.out
                    have hms25_3 := NB125_126.out
                    refine skip_ (w1 := ?_) (by rfl) rfl ?_ ?_
                    rotate_left
                    · go_simp
                      rfl
                    refine hK.out _ _ ⟨((cell_far (p := ⟨gb125, _, none⟩) NB122_125.out _).trans (((cell_far (p := ⟨gb125, _, none⟩) NB122_125.out _).trans (hHeld.1)))), ((cell_far (p := ⟨gb125, _, none⟩) NB122_125.out _).trans (((cell_far (p := ⟨gb125, _, none⟩) NB122_125.out _).trans (hHeld.2.1)))), ((cell_far (p := ⟨gb125, _, none⟩) NB122_125.out _).trans (((cell_far (p := ⟨gb125, _, none⟩) NB122_125.out _).trans (hHeld.2.2.1)))), ((cell_far (p := ⟨gb125, _, none⟩) NB124_125.out _).trans (((cell_far (p := ⟨gb125, _, none⟩) NB124_125.out _).trans (hHeld.2.2.2.1)))), ((cell_far (p := ⟨gb125, _, none⟩) NB124_125.out _).trans (((cell_far (p := ⟨gb125, _, none⟩) NB124_125.out _).trans (hHeld.2.2.2.2))))⟩ (fun hHeld => ?_)
                    clear hK K
                    refine one_ (i := 16) (N := none) #[true, true, true, true, true, true, true, true, true, true, true, true, true, true, true, true, true] rfl rfl (one_of HT_.out (by kernel_rfl)) (by decide) (fun K hK => ?_)
                    have hs26 : w23.cell? ⟨gb126, 0, none⟩ = some (.int .i64 0) := (blk_cell BK126.out 0).trans rfl
                    have hfs26 := blk_frozen BK126.out 0
                    have hns26_0 := NB122_126.out
                    have hns26_1 := NB124_126.out
                    have hns26_2 := NB125_126.out
                    have hms26_0 := NB126_122.out
                    have hms26_1 := NB126_124.out
                    have hms26_2 := NB126_125.out
                    have hs27 : w23.cell? ⟨gb126, 1, none⟩ = some (.int .i64 0) := (blk_cell BK126.out 1).trans rfl
                    have hfs27 := blk_frozen BK126.out 1
                    have hns27_0 := NB122_126.out
                    have hns27_1 := NB124_126.out
                    have hns27_2 := NB125_126.out
                    have hms27_0 := NB126_122.out
                    have hms27_1 := NB126_124.out
                    have hms27_2 := NB126_125.out
                    refine skip_ (w1 := ?_) (by rfl) rfl ?_ ?_
                    rotate_left
                    · go_simp
                      rfl
                    refine hK.out _ _ ⟨((cell_far (p := ⟨gb126, _, none⟩) NB122_126.out _).trans (((cell_far (p := ⟨gb126, _, none⟩) NB122_126.out _).trans (hHeld.1)))), ((cell_far (p := ⟨gb126, _, none⟩) NB122_126.out _).trans (((cell_far (p := ⟨gb126, _, none⟩) NB122_126.out _).trans (hHeld.2.1)))), ((cell_far (p := ⟨gb126, _, none⟩) NB122_126.out _).trans (((cell_far (p := ⟨gb126, _, none⟩) NB122_126.out _).trans (hHeld.2.2.1)))), ((cell_far (p := ⟨gb126, _, none⟩) NB124_126.out _).trans (((cell_far (p := ⟨gb126, _, none⟩) NB124_126.out _).trans (hHeld.2.2.2.1)))), ((cell_far (p := ⟨gb126, _, none⟩) NB124_126.out _).trans (((cell_far (p := ⟨gb126, _, none⟩) NB124_126.out _).trans (hHeld.2.2.2.2))))⟩ (fun hHeld => ?_)
                    clear hK K
                    refine done_ (done_of HT_.out (by kernel_rfl)) ?_
                    have hnb28 := NB122_125.out
                    have hnc28 := NB125_122.out
                    have hnb29 := NB122_126.out
                    have hnc29 := NB126_122.out
                    have hcz30_0 : w23.cell? ⟨gb122, 0, none⟩ = some (.int .i64 a1_0) := (blk_cell BK122.out 0).trans rfl
                    have hcz30_1 : w23.cell? ⟨gb122, 1, none⟩ = some (.bool true) := (blk_cell BK122.out 1).trans rfl
                    have hcz30_2 : w23.cell? ⟨gb122, 2, none⟩ = some (.int .i64 a1_2) := (blk_cell BK122.out 2).trans rfl
                    have hfz30_0 := blk_frozen BK122.out 0
                    have hfz30_1 := blk_frozen BK122.out 1
                    have hfz30_2 := blk_frozen BK122.out 2
                    try go_wp2
                    have n0_ : Aside0 (((((w23.setCell ⟨gb125, 0, none⟩ (.int .i64 a1_2)).setCell ⟨gb125, 1, none⟩ (.int .i64 ((rd_T58 l0 a1_0).f1))).setCell ⟨gb126, 0, none⟩ (.int .i64 (wrap64 (((rd_T58 l0 a1_0).f0) - a1_2)))).setCell ⟨gb126, 1, none⟩ (.int .i64 ((rd_T58 l0 a1_0).f1))).heap[gb122]? = some (.cells #[.int .i64 a1_0, .bool true, .int .i64 a1_2] 48 (0, 0))) := ⟨bx_ BK122.out⟩
                    have n1_ : Aside0 (((((w23.setCell ⟨gb125, 0, none⟩ (.int .i64 a1_2)).setCell ⟨gb125, 1, none⟩ (.int .i64 ((rd_T58 l0 a1_0).f1))).setCell ⟨gb126, 0, none⟩ (.int .i64 (wrap64 (((rd_T58 l0 a1_0).f0) - a1_2)))).setCell ⟨gb126, 1, none⟩ (.int .i64 ((rd_T58 l0 a1_0).f1))).heap[gb124]? = some (.cells #[.int .i64 ((rd_T58 l0 a1_0).f0), .int .i64 ((rd_T58 l0 a1_0).f1)] 58 (0, 0))) := ⟨bx_ BK124.out⟩
                    have n2_ : Aside0 (((((w23.setCell ⟨gb125, 0, none⟩ (.int .i64 a1_2)).setCell ⟨gb125, 1, none⟩ (.int .i64 ((rd_T58 l0 a1_0).f1))).setCell ⟨gb126, 0, none⟩ (.int .i64 (wrap64 (((rd_T58 l0 a1_0).f0) - a1_2)))).setCell ⟨gb126, 1, none⟩ (.int .i64 ((rd_T58 l0 a1_0).f1))).heap[gb125]? = some (.cells #[.int .i64 a1_2, .int .i64 ((rd_T58 l0 a1_0).f1)] 58 (0, 0))) := ⟨by (with_reducible repeat (first | refine blk_drewN ?_ _ | refine blk_drew ?_ | refine blk_alloc ?_ _)); refine blk_far ?_ NB125_126.out _; (with_reducible repeat (first | refine blk_drewN ?_ _ | refine blk_drew ?_ | refine blk_alloc ?_ _)); refine blk_far ?_ NB125_126.out _; (with_reducible repeat (first | refine blk_drewN ?_ _ | refine blk_drew ?_ | refine blk_alloc ?_ _)); refine blk_put (cs := #[.int .i64 a1_2, .int .i64 0]) ?_ 1 _ rfl; (with_reducible repeat (first | refine blk_drewN ?_ _ | refine blk_drew ?_ | refine blk_alloc ?_ _)); refine blk_put (cs := #[.int .i64 0, .int .i64 0]) ?_ 0 _ rfl; (with_reducible repeat (first | refine blk_drewN ?_ _ | refine blk_drew ?_ | refine blk_alloc ?_ _)); exact BK125.out⟩
                    have n3_ : Aside0 (((((w23.setCell ⟨gb125, 0, none⟩ (.int .i64 a1_2)).setCell ⟨gb125, 1, none⟩ (.int .i64 ((rd_T58 l0 a1_0).f1))).setCell ⟨gb126, 0, none⟩ (.int .i64 (wrap64 (((rd_T58 l0 a1_0).f0) - a1_2)))).setCell ⟨gb126, 1, none⟩ (.int .i64 ((rd_T58 l0 a1_0).f1))).heap[gb126]? = some (.cells #[.int .i64 (wrap64 (((rd_T58 l0 a1_0).f0) - a1_2)), .int .i64 ((rd_T58 l0 a1_0).f1)] 58 (0, 0))) := ⟨by (with_reducible repeat (first | refine blk_drewN ?_ _ | refine blk_drew ?_ | refine blk_alloc ?_ _)); refine blk_put (cs := #[.int .i64 (wrap64 (((rd_T58 l0 a1_0).f0) - a1_2)), .int .i64 0]) ?_ 1 _ rfl; (with_reducible repeat (first | refine blk_drewN ?_ _ | refine blk_drew ?_ | refine blk_alloc ?_ _)); refine blk_put (cs := #[.int .i64 0, .int .i64 0]) ?_ 0 _ rfl; (with_reducible repeat (first | refine blk_drewN ?_ _ | refine blk_drew ?_ | refine blk_alloc ?_ _)); refine blk_far ?_ NB126_125.out _; (with_reducible repeat (first | refine blk_drewN ?_ _ | refine blk_drew ?_ | refine blk_alloc ?_ _)); refine blk_far ?_ NB126_125.out _; (with_reducible repeat (first | refine blk_drewN ?_ _ | refine blk_drew ?_ | refine blk_alloc ?_ _)); exact BK126.out⟩
                    have n4_ : Aside0 (Below w.heap.size w ((((w23.setCell ⟨gb125, 0, none⟩ (.int .i64 a1_2)).setCell ⟨gb125, 1, none⟩ (.int .i64 ((rd_T58 l0 a1_0).f1))).setCell ⟨gb126, 0, none⟩ (.int .i64 (wrap64 (((rd_T58 l0 a1_0).f0) - a1_2)))).setCell ⟨gb126, 1, none⟩ (.int .i64 ((rd_T58 l0 a1_0).f1)))) := ⟨hx_ HB.out⟩
                    (try clear BK122)
                    (try clear BK124)
                    (try clear BK125)
                    (try clear BK126)
                    (try clear HB)
                    generalize ((((w23.setCell ⟨gb125, 0, none⟩ (.int .i64 a1_2)).setCell ⟨gb125, 1, none⟩ (.int .i64 ((rd_T58 l0 a1_0).f1))).setCell ⟨gb126, 0, none⟩ (.int .i64 (wrap64 (((rd_T58 l0 a1_0).f0) - a1_2)))).setCell ⟨gb126, 1, none⟩ (.int .i64 ((rd_T58 l0 a1_0).f1))) = w31 at n0_ n1_ n2_ n3_ n4_ ⊢
                    have BK122 := n0_
                    have BK124 := n1_
                    have BK125 := n2_
                    have BK126 := n3_
                    have HB := n4_
                    clear n0_ n1_ n2_ n3_ n4_
                    have n0_ := Aside0.mk (blk_drew BK122.out)
                    have n1_ := Aside0.mk (blk_drew BK124.out)
                    have n2_ := Aside0.mk (blk_drew BK125.out)
                    have n3_ := Aside0.mk (blk_drew BK126.out)
                    have n4_ := Aside0.mk (below_drew1 HB.out)
                    clear BK122
                    clear BK124
                    clear BK125
                    clear BK126
                    clear HB
                    have BK122 := n0_
                    have BK124 := n1_
                    have BK125 := n2_
                    have BK126 := n3_
                    have HB := n4_
                    clear n0_ n1_ n2_ n3_ n4_
                    refine start_ (n := 15) (S := fun w' => w'.cell? ⟨gb124, 0, none⟩ = some (.int .i64 ((rd_T58 l0 a1_0).f0)) ∧ w'.cell? ⟨gb124, 1, none⟩ = some (.int .i64 ((rd_T58 l0 a1_0).f1)) ∧ w'.cell? ⟨gb122, 0, none⟩ = some (.int .i64 a1_0) ∧ w'.cell? ⟨gb122, 1, none⟩ = some (.bool true) ∧ w'.cell? ⟨gb122, 2, none⟩ = some (.int .i64 a1_2)) (ds := []) #[false, false, false, false, false, false, false, false, false, false, false, false, false, false, false] (by kernel_rfl) rfl rfl ⟨(blk_cell BK124.out 0).trans rfl, (blk_cell BK124.out 1).trans rfl, (blk_cell BK122.out 0).trans rfl, (blk_cell BK122.out 1).trans rfl, (blk_cell BK122.out 2).trans rfl⟩ (fun hHeld => ?_); refine with_tabW spec_l09Cut.tab4 spec_l09Cut.bits4 (fun HT_ HW_ => ?_)
                    generalize w31.drew = w32 at BK122 BK124 BK125 BK126 HB hHeld ⊢
                    refine pure_ (i := 0) (N := some 28) (v := ?_) (a' := ?_) #[true, false, false, false, false, false, false, false, false, false, false, false, false, false, false] rfl rfl (any_of HT_.out (by kernel_rfl)) (fun _ _ _ h => h) (Or.inl ⟨by rfl, ?_⟩) ?_ ?_
                    rotate_left
                    · intro w'
                      go_simp
                      with_reducible rfl
                    rotate_left
                    · simp only [Act.put, List.setIfInBounds_toArray, List.set_cons_zero, List.set_cons_succ, i64_w, i32_w]
                      rfl
                    refine pure_ (i := 2) (N := some 30) (v := ?_) (a' := ?_) #[true, false, true, false, false, false, false, false, false, false, false, false, false, false, false] rfl rfl (any_of HT_.out (by kernel_rfl)) (fun _ _ _ h => h) (Or.inl ⟨by rfl, ?_⟩) ?_ ?_
                    rotate_left
                    · intro w'
                      go_simp
                      with_reducible rfl
                    rotate_left
                    · simp only [Act.put, List.setIfInBounds_toArray, List.set_cons_zero, List.set_cons_succ, i64_w, i32_w]
                      rfl
                    refine pure_ (i := 5) (N := some 33) (v := ?_) (a' := ?_) #[true, false, true, false, false, true, false, false, false, false, false, false, false, false, false] rfl rfl (any_of HT_.out (by kernel_rfl)) (fun _ _ _ h => h) (Or.inl ⟨by rfl, ?_⟩) ?_ ?_
                    rotate_left
                    · intro w'
                      go_simp
                      with_reducible rfl
                    rotate_left
                    · simp only [Act.put, List.setIfInBounds_toArray, List.set_cons_zero, List.set_cons_succ, i64_w, i32_w]
                      rfl
                    refine pure_ (i := 7) (N := some 35) (v := ?_) (a' := ?_) #[true, false, true, false, false, true, false, true, false, false, false, false, false, false, false] rfl rfl (any_of HT_.out (by kernel_rfl)) (fun _ _ _ h => h) (Or.inl ⟨by rfl, ?_⟩) ?_ ?_
                    rotate_left
                    · intro w'
                      go_simp
                      with_reducible rfl
                    rotate_left
                    · simp only [Act.put, List.setIfInBounds_toArray, List.set_cons_zero, List.set_cons_succ, i64_w, i32_w]
                      rfl
                    refine pure_ (i := 9) (N := some 37) (v := ?_) (a' := ?_) #[true, false, true, false, false, true, false, true, false, true, false, false, false, false, false] rfl rfl (any_of HT_.out (by kernel_rfl)) (fun _ _ _ h => h) (Or.inl ⟨by rfl, ?_⟩) ?_ ?_
                    rotate_left
                    · intro w'
                      go_simp
                      with_reducible rfl
                    rotate_left
                    · simp only [Act.put, List.setIfInBounds_toArray, List.set_cons_zero, List.set_cons_succ, i64_w, i32_w]
                      rfl
                    refine take_ (i := 1) (N := some 29) (v := ?_) (a' := ?_) #[true, true, true, false, false, true, false, true, false, true, false, false, false, false, false] rfl rfl (take_ofW HT_.out HW_.out (by kernel_rfl)) (fun _ _ _ h => h) (Or.inl ⟨by rfl, ?_⟩) hHeld ?_ ?_
                    rotate_left
                    · rintro w' ⟨s0, s1, s2, s3, s4⟩
                      go_simp
                      with_reducible rfl
                    rotate_left
                    · simp only [Act.put, List.setIfInBounds_toArray, List.set_cons_zero, List.set_cons_succ, i64_w, i32_w]
                      rfl
                    refine take_ (i := 3) (N := some 31) (v := ?_) (a' := ?_) #[true, true, true, true, false, true, false, true, false, true, false, false, false, false, false] rfl rfl (take_ofW HT_.out HW_.out (by kernel_rfl)) (fun _ _ _ h => h) (Or.inl ⟨by rfl, ?_⟩) hHeld ?_ ?_
                    rotate_left
                    · rintro w' ⟨s0, s1, s2, s3, s4⟩
                      go_simp
                      with_reducible rfl
                    rotate_left
                    · simp only [Act.put, List.setIfInBounds_toArray, List.set_cons_zero, List.set_cons_succ, i64_w, i32_w]
                      rfl
                    refine pure_ (i := 4) (N := some 32) (v := ?_) (a' := ?_) #[true, true, true, true, true, true, false, true, false, true, false, false, false, false, false] rfl rfl (any_of HT_.out (by kernel_rfl)) (fun _ _ _ h => h) (Or.inl ⟨by rfl, ?_⟩) ?_ ?_
                    rotate_left
                    · intro w'
                      go_simp
                      with_reducible rfl
                    rotate_left
                    · simp only [Act.put, List.setIfInBounds_toArray, List.set_cons_zero, List.set_cons_succ, i64_w, i32_w]
                      rfl
                    refine take_ (i := 6) (N := some 34) (v := ?_) (a' := ?_) #[true, true, true, true, true, true, true, true, false, true, false, false, false, false, false] rfl rfl (take_ofW HT_.out HW_.out (by kernel_rfl)) (fun _ _ _ h => h) (Or.inl ⟨by rfl, ?_⟩) hHeld ?_ ?_
                    rotate_left
                    · rintro w' ⟨s0, s1, s2, s3, s4⟩
                      go_simp
                      with_reducible rfl
                    rotate_left
                    · simp only [Act.put, List.setIfInBounds_toArray, List.set_cons_zero, List.set_cons_succ, i64_w, i32_w]
                      rfl
                    refine take_ (i := 8) (N := some 36) (v := ?_) (a' := ?_) #[true, true, true, true, true, true, true, true, true, true, false, false, false, false, false] rfl rfl (take_ofW HT_.out HW_.out (by kernel_rfl)) (fun _ _ _ h => h) (Or.inl ⟨by rfl, ?_⟩) hHeld ?_ ?_
                    rotate_left
                    · rintro w' ⟨s0, s1, s2, s3, s4⟩
                      go_simp
                      with_reducible rfl
                    rotate_left
                    · simp only [Act.put, List.setIfInBounds_toArray, List.set_cons_zero, List.set_cons_succ, i64_w, i32_w]
                      rfl
                    refine take_ (i := 10) (N := some 38) (v := ?_) (a' := ?_) #[true, true, true, true, true, true, true, true, true, true, true, false, false, false, false] rfl rfl (take_ofW HT_.out HW_.out (by kernel_rfl)) (fun _ _ _ h => h) (Or.inl ⟨by rfl, ?_⟩) hHeld ?_ ?_
                    rotate_left
                    · rintro w' ⟨s0, s1, s2, s3, s4⟩
                      go_simp
                      with_reducible rfl
                    rotate_left
                    · simp only [Act.put, List.setIfInBounds_toArray, List.set_cons_zero, List.set_cons_succ, i64_w, i32_w]
                      rfl
                    refine pure_ (i := 11) (N := some 39) (v := ?_) (a' := ?_) #[true, true, true, true, true, true, true, true, true, true, true, true, false, false, false] rfl rfl (any_of HT_.out (by kernel_rfl)) (fun _ _ _ h => h) (Or.inl ⟨by rfl, ?_⟩) ?_ ?_
                    rotate_left
                    · intro w'
                      go_simp
                      with_reducible rfl
                    rotate_left
                    · simp only [Act.put, List.setIfInBounds_toArray, List.set_cons_zero, List.set_cons_succ, i64_w, i32_w]
                      rfl
                    refine pure_ (i := 12) (N := some 40) (v := ?_) (a' := ?_) #[true, true, true, true, true, true, true, true, true, true, true, true, true, false, false] rfl rfl (any_of HT_.out (by kernel_rfl)) (fun _ _ _ h => h) (Or.inl ⟨by rfl, ?_⟩) ?_ ?_
                    rotate_left
                    · intro w'
                      go_simp
                      with_reducible rfl
                    rotate_left
                    · simp only [Act.put, List.setIfInBounds_toArray, List.set_cons_zero, List.set_cons_succ, i64_w, i32_w]
                      rfl
                    refine one_ (i := 13) (N := none) #[true, true, true, true, true, true, true, true, true, true, true, true, true, true, false] rfl rfl (one_of HT_.out (by kernel_rfl)) (by decide) (fun K hK => ?_)
                    have hs33 : w32.cell? ⟨gb125, 0, none⟩ = some (.int .i64 a1_2) := (blk_cell BK125.out 0).trans rfl
                    have hfs33 := blk_frozen BK125.out 0
                    have hns33_0 := NB122_125.out
                    have hns33_1 := NB124_125.out
                    have hns33_3 := NB126_125.out
                    have hms33_0 := NB125_122.out
                    have hms33_1 := NB125_124.out
                    have hms33_3 := NB125_126.out
                    have hs34 : w32.cell? ⟨gb125, 1, none⟩ = some (.int .i64 ((rd_T58 l0 a1_0).f1)) := (blk_cell BK125.out 1).trans rfl
                    have hfs34 := blk_frozen BK125.out 1
                    have hns34_0 := NB122_125.out
                    have hns34_1 := NB124_125.out
                    have hns34_3 := NB126_125.out
                    have hms34_0 := NB125_122.out
                    have hms34_1 := NB125_124.out
                    have hms34_3 := NB125_126.out
                    refine skip_ (w1 := ?_) (by rfl) rfl ?_ ?_
                    rotate_left
                    · go_simp
                      rfl
                    refine hK.out _ _ ⟨((cell_far (p := ⟨gb125, _, none⟩) NB124_125.out _).trans (((cell_far (p := ⟨gb125, _, none⟩) NB124_125.out _).trans (hHeld.1)))), ((cell_far (p := ⟨gb125, _, none⟩) NB124_125.out _).trans (((cell_far (p := ⟨gb125, _, none⟩) NB124_125.out _).trans (hHeld.2.1)))), ((cell_far (p := ⟨gb125, _, none⟩) NB122_125.out _).trans (((cell_far (p := ⟨gb125, _, none⟩) NB122_125.out _).trans (hHeld.2.2.1)))), ((cell_far (p := ⟨gb125, _, none⟩) NB122_125.out _).trans (((cell_far (p := ⟨gb125, _, none⟩) NB122_125.out _).trans (hHeld.2.2.2.1)))), ((cell_far (p := ⟨gb125, _, none⟩) NB122_125.out _).trans (((cell_far (p := ⟨gb125, _, none⟩) NB122_125.out _).trans (hHeld.2.2.2.2))))⟩ (fun hHeld => ?_)
                    clear hK K
                    refine one_ (i := 14) (N := none) #[true, true, true, true, true, true, true, true, true, true, true, true, true, true, true] rfl rfl (one_of HT_.out (by kernel_rfl)) (by decide) (fun K hK => ?_)
                    have hs35 : w32.cell? ⟨gb126, 0, none⟩ = some (.int .i64 (wrap64 (((rd_T58 l0 a1_0).f0) - a1_2))) := (blk_cell BK126.out 0).trans rfl
                    have hfs35 := blk_frozen BK126.out 0
                    have hns35_0 := NB122_126.out
                    have hns35_1 := NB124_126.out
                    have hns35_2 := NB125_126.out
                    have hms35_0 := NB126_122.out
                    have hms35_1 := NB126_124.out
                    have hms35_2 := NB126_125.out
                    have hs36 : w32.cell? ⟨gb126, 1, none⟩ = some (.int .i64 ((rd_T58 l0 a1_0).f1)) := (blk_cell BK126.out 1).trans rfl
                    have hfs36 := blk_frozen BK126.out 1
                    have hns36_0 := NB122_126.out
                    have hns36_1 := NB124_126.out
                    have hns36_2 := NB125_126.out
                    have hms36_0 := NB126_122.out
                    have hms36_1 := NB126_124.out
                    have hms36_2 := NB126_125.out
                    refine skip_ (w1 := ?_) (by rfl) rfl ?_ ?_
                    rotate_left
                    · go_simp
                      rfl
                    refine hK.out _ _ ⟨((cell_far (p := ⟨gb126, _, none⟩) NB124_126.out _).trans (((cell_far (p := ⟨gb126, _, none⟩) NB124_126.out _).trans (hHeld.1)))), ((cell_far (p := ⟨gb126, _, none⟩) NB124_126.out _).trans (((cell_far (p := ⟨gb126, _, none⟩) NB124_126.out _).trans (hHeld.2.1)))), ((cell_far (p := ⟨gb126, _, none⟩) NB122_126.out _).trans (((cell_far (p := ⟨gb126, _, none⟩) NB122_126.out _).trans (hHeld.2.2.1)))), ((cell_far (p := ⟨gb126, _, none⟩) NB122_126.out _).trans (((cell_far (p := ⟨gb126, _, none⟩) NB122_126.out _).trans (hHeld.2.2.2.1)))), ((cell_far (p := ⟨gb126, _, none⟩) NB122_126.out _).trans (((cell_far (p := ⟨gb126, _, none⟩) NB122_126.out _).trans (hHeld.2.2.2.2))))⟩ (fun hHeld => ?_)
                    clear hK K
                    refine done_ (done_of HT_.out (by kernel_rfl)) ?_
                    try go_wp2
                    have n0_ : Aside0 (((((w32.setCell ⟨gb125, 0, none⟩ (.int .i64 ((rd_T58 l0 a1_0).f0))).setCell ⟨gb125, 1, none⟩ (.int .i64 a1_2)).setCell ⟨gb126, 0, none⟩ (.int .i64 ((rd_T58 l0 a1_0).f0))).setCell ⟨gb126, 1, none⟩ (.int .i64 (wrap64 (((rd_T58 l0 a1_0).f1) - a1_2)))).heap[gb122]? = some (.cells #[.int .i64 a1_0, .bool true, .int .i64 a1_2] 48 (0, 0))) := ⟨bx_ BK122.out⟩
                    have n1_ : Aside0 (((((w32.setCell ⟨gb125, 0, none⟩ (.int .i64 ((rd_T58 l0 a1_0).f0))).setCell ⟨gb125, 1, none⟩ (.int .i64 a1_2)).setCell ⟨gb126, 0, none⟩ (.int .i64 ((rd_T58 l0 a1_0).f0))).setCell ⟨gb126, 1, none⟩ (.int .i64 (wrap64 (((rd_T58 l0 a1_0).f1) - a1_2)))).heap[gb124]? = some (.cells #[.int .i64 ((rd_T58 l0 a1_0).f0), .int .i64 ((rd_T58 l0 a1_0).f1)] 58 (0, 0))) := ⟨bx_ BK124.out⟩
                    have n2_ : Aside0 (((((w32.setCell ⟨gb125, 0, none⟩ (.int .i64 ((rd_T58 l0 a1_0).f0))).setCell ⟨gb125, 1, none⟩ (.int .i64 a1_2)).setCell ⟨gb126, 0, none⟩ (.int .i64 ((rd_T58 l0 a1_0).f0))).setCell ⟨gb126, 1, none⟩ (.int .i64 (wrap64 (((rd_T58 l0 a1_0).f1) - a1_2)))).heap[gb125]? = some (.cells #[.int .i64 ((rd_T58 l0 a1_0).f0), .int .i64 a1_2] 58 (0, 0))) := ⟨by (with_reducible repeat (first | refine blk_drewN ?_ _ | refine blk_drew ?_ | refine blk_alloc ?_ _)); refine blk_far ?_ NB125_126.out _; (with_reducible repeat (first | refine blk_drewN ?_ _ | refine blk_drew ?_ | refine blk_alloc ?_ _)); refine blk_far ?_ NB125_126.out _; (with_reducible repeat (first | refine blk_drewN ?_ _ | refine blk_drew ?_ | refine blk_alloc ?_ _)); refine blk_put (cs := #[.int .i64 ((rd_T58 l0 a1_0).f0), .int .i64 ((rd_T58 l0 a1_0).f1)]) ?_ 1 _ rfl; (with_reducible repeat (first | refine blk_drewN ?_ _ | refine blk_drew ?_ | refine blk_alloc ?_ _)); refine blk_put (cs := #[.int .i64 a1_2, .int .i64 ((rd_T58 l0 a1_0).f1)]) ?_ 0 _ rfl; (with_reducible repeat (first | refine blk_drewN ?_ _ | refine blk_drew ?_ | refine blk_alloc ?_ _)); exact BK125.out⟩
                    have n3_ : Aside0 (((((w32.setCell ⟨gb125, 0, none⟩ (.int .i64 ((rd_T58 l0 a1_0).f0))).setCell ⟨gb125, 1, none⟩ (.int .i64 a1_2)).setCell ⟨gb126, 0, none⟩ (.int .i64 ((rd_T58 l0 a1_0).f0))).setCell ⟨gb126, 1, none⟩ (.int .i64 (wrap64 (((rd_T58 l0 a1_0).f1) - a1_2)))).heap[gb126]? = some (.cells #[.int .i64 ((rd_T58 l0 a1_0).f0), .int .i64 (wrap64 (((rd_T58 l0 a1_0).f1) - a1_2))] 58 (0, 0))) := ⟨by (with_reducible repeat (first | refine blk_drewN ?_ _ | refine blk_drew ?_ | refine blk_alloc ?_ _)); refine blk_put (cs := #[.int .i64 ((rd_T58 l0 a1_0).f0), .int .i64 ((rd_T58 l0 a1_0).f1)]) ?_ 1 _ rfl; (with_reducible repeat (first | refine blk_drewN ?_ _ | refine blk_drew ?_ | refine blk_alloc ?_ _)); refine blk_put (cs := #[.int .i64 (wrap64 (((rd_T58 l0 a1_0).f0) - a1_2)), .int .i64 ((rd_T58 l0 a1_0).f1)]) ?_ 0 _ rfl; (with_reducible repeat (first | refine blk_drewN ?_ _ | refine blk_drew ?_ | refine blk_alloc ?_ _)); refine blk_far ?_ NB126_125.out _; (with_reducible repeat (first | refine blk_drewN ?_ _ | refine blk_drew ?_ | refine blk_alloc ?_ _)); refine blk_far ?_ NB126_125.out _; (with_reducible repeat (first | refine blk_drewN ?_ _ | refine blk_drew ?_ | refine blk_alloc ?_ _)); exact BK126.out⟩
                    have n4_ : Aside0 (Below w.heap.size w ((((w32.setCell ⟨gb125, 0, none⟩ (.int .i64 ((rd_T58 l0 a1_0).f0))).setCell ⟨gb125, 1, none⟩ (.int .i64 a1_2)).setCell ⟨gb126, 0, none⟩ (.int .i64 ((rd_T58 l0 a1_0).f0))).setCell ⟨gb126, 1, none⟩ (.int .i64 (wrap64 (((rd_T58 l0 a1_0).f1) - a1_2))))) := ⟨hx_ HB.out⟩
                    (try clear BK122)
                    (try clear BK124)
                    (try clear BK125)
                    (try clear BK126)
                    (try clear HB)
                    generalize ((((w32.setCell ⟨gb125, 0, none⟩ (.int .i64 ((rd_T58 l0 a1_0).f0))).setCell ⟨gb125, 1, none⟩ (.int .i64 a1_2)).setCell ⟨gb126, 0, none⟩ (.int .i64 ((rd_T58 l0 a1_0).f0))).setCell ⟨gb126, 1, none⟩ (.int .i64 (wrap64 (((rd_T58 l0 a1_0).f1) - a1_2)))) = w37 at n0_ n1_ n2_ n3_ n4_ ⊢
                    have BK122 := n0_
                    have BK124 := n1_
                    have BK125 := n2_
                    have BK126 := n3_
                    have HB := n4_
                    clear n0_ n1_ n2_ n3_ n4_
                    have n0_ := Aside0.mk (blk_drew BK122.out)
                    have n1_ := Aside0.mk (blk_drew BK124.out)
                    have n2_ := Aside0.mk (blk_drew BK125.out)
                    have n3_ := Aside0.mk (blk_drew BK126.out)
                    have n4_ := Aside0.mk (below_drew1 HB.out)
                    clear BK122
                    clear BK124
                    clear BK125
                    clear BK126
                    clear HB
                    have BK122 := n0_
                    have BK124 := n1_
                    have BK125 := n2_
                    have BK126 := n3_
                    have HB := n4_
                    clear n0_ n1_ n2_ n3_ n4_
                    have q39 : (a1_0 : Int) ≤ ((l0.length : Int) : Int) := of_decide_eq_true (by first | (with_reducible assumption) | assumption)
                    obtain ⟨i039, hi039, _, hsz39, _⟩ := info_parts info58
                    have hroom39 : l0.length ≤ c0 := HC0.out
                    have hC39 : Kd.C k58 _ (some ad123) l0.length l0 := HR0.out
                    have hcut39 := cut_to (P := Try.prog) 44 58 .i64 Try.underlying44 hi039 (some ad123) l0.length c0 a1_0 (of_decide_eq_true (by first | (with_reducible assumption) | assumption)) q39 hroom39
                    have hr39 := Kd.C_take (m := (a1_0 : Int).toNat) hC39 (by omega)
                    have hy39 : y130.length = (a1_0 : Int).toNat := (by rw [Ny130.out, List.length_take]; omega)
                    rw [← Ny130.out] at hr39
                    rw [← hy39] at hcut39
                    have HR133 := Aside0.mk hr39
                    have HC133 := Aside0.mk (show y130.length ≤ c0 from by omega)
                    clear hr39 hC39 hroom39 hi039 hsz39
                    have KY39 := Aside0.mk hy39
                    clear hy39
                    replace q39 := eq_true q39
                    have q40 : ((ji10) : Int) ≤ ((l0.length : Int) : Int) := of_decide_eq_true (by first | (with_reducible assumption) | assumption)
                    obtain ⟨i040, hi040, _, hsz40, _⟩ := info_parts info58
                    have hroom40 : l0.length ≤ c0 := HC0.out
                    have hC40 : Kd.C k58 _ (some ad123) l0.length l0 := HR0.out
                    have q040 : (0 : Int) ≤ ((ji10) : Int) := of_decide_eq_true (by first | (with_reducible assumption) | assumption)
                    have hcut40 := cut_from (P := Try.prog) 44 58 .i64 Try.underlying44 hi040 2 hsz40 (some ad123) l0.length c0 (ji10) q040 q40
                    have hr40 := Kd.C_drop (m := ((ji10) : Int).toNat) (c := c0) hC40 (by omega) hroom40
                    obtain ⟨A40, hA40⟩ : ∃ A1, A1 = (if c0 = ((ji10) : Int).toNat then (some ad123) else ((some ad123) : Option Addr).map (·.add (((ji10) : Int).toNat * 2))) := ⟨_, rfl⟩
                    obtain ⟨c40, hc40⟩ : ∃ c1, c1 = c0 - ((ji10) : Int).toNat := ⟨_, rfl⟩
                    have hy40 : y143.length = l0.length - ((ji10) : Int).toNat := (by rw [Ny143.out, List.length_drop] <;> omega)
                    rw [show (l0).drop ((ji10) : Int).toNat = y143 from Ny143.out.symm] at hr40
                    replace hr40 : Kd.C k58 _ A40 y143.length y143 := (by rw [hA40]; exact hr40)
                    rw [← hy40, ← hA40, ← hc40] at hcut40
                    have HR146 := Aside0.mk hr40
                    have HC146 := Aside0.mk (show y143.length ≤ c40 from by rw [hy40, hc40]; exact Nat.sub_le_sub_right hroom40 _)
                    clear hr40 hC40 hroom40 hi040 hsz40 hc40
                    have KY40 := Aside0.mk hy40
                    have KA40 := Aside0.mk hA40
                    clear hy40 hA40
                    replace q40 := eq_true q40
                    refine start_ (n := 17) (S := fun w' => w'.cell? ⟨gb122, 0, none⟩ = some (.int .i64 a1_0) ∧ w'.cell? ⟨gb122, 1, none⟩ = some (.bool true) ∧ w'.cell? ⟨gb122, 2, none⟩ = some (.int .i64 a1_2) ∧ w'.cell? ⟨gb125, 0, none⟩ = some (.int .i64 ((rd_T58 l0 a1_0).f0)) ∧ w'.cell? ⟨gb125, 1, none⟩ = some (.int .i64 a1_2) ∧ w'.cell? ⟨gb126, 0, none⟩ = some (.int .i64 ((rd_T58 l0 a1_0).f0)) ∧ w'.cell? ⟨gb126, 1, none⟩ = some (.int .i64 (wrap64 (((rd_T58 l0 a1_0).f1) - a1_2)))) (ds := []) #[false, false, false, false, false, false, false, false, false, false, false, false, false, false, false, false, false] (by kernel_rfl) rfl rfl ⟨(blk_cell BK122.out 0).trans rfl, (blk_cell BK122.out 1).trans rfl, (blk_cell BK122.out 2).trans rfl, (blk_cell BK125.out 0).trans rfl, (blk_cell BK125.out 1).trans rfl, (blk_cell BK126.out 0).trans rfl, (blk_cell BK126.out 1).trans rfl⟩ (fun hHeld => ?_); refine with_tabW spec_l09Cut.tab5 spec_l09Cut.bits5 (fun HT_ HW_ => ?_)
                    generalize w37.drew = w38 at BK122 BK124 BK125 BK126 HB HR133 HR146 hHeld ⊢
                    refine pure_ (i := 1) (N := some 42) (v := ?_) (a' := ?_) #[false, true, false, false, false, false, false, false, false, false, false, false, false, false, false, false, false] rfl rfl (any_of HT_.out (by kernel_rfl)) (fun _ _ _ h => h) (Or.inl ⟨by rfl, ?_⟩) ?_ ?_
                    rotate_left
                    · intro w'
                      go_simp
                      with_reducible rfl
                    rotate_left
                    · simp only [Act.put, List.setIfInBounds_toArray, List.set_cons_zero, List.set_cons_succ, i64_w, i32_w]
                      rfl
                    refine pure_ (i := 2) (N := some 43) (v := ?_) (a' := ?_) #[false, true, true, false, false, false, false, false, false, false, false, false, false, false, false, false, false] rfl rfl (any_of HT_.out (by kernel_rfl)) (fun _ _ _ h => h) (Or.inl ⟨by rfl, ?_⟩) ?_ ?_
                    rotate_left
                    · intro w'
                      go_simp
                      with_reducible rfl
                    rotate_left
                    · simp only [Act.put, List.setIfInBounds_toArray, List.set_cons_zero, List.set_cons_succ, i64_w, i32_w]
                      rfl
                    refine pure_ (i := 10) (N := some 51) (v := ?_) (a' := ?_) #[false, true, true, false, false, false, false, false, false, false, true, false, false, false, false, false, false] rfl rfl (any_of HT_.out (by kernel_rfl)) (fun _ _ _ h => h) (Or.inl ⟨by rfl, ?_⟩) ?_ ?_
                    rotate_left
                    · intro w'
                      go_simp
                      with_reducible rfl
                    rotate_left
                    · simp only [Act.put, List.setIfInBounds_toArray, List.set_cons_zero, List.set_cons_succ, i64_w, i32_w]
                      rfl
                    refine pure_ (i := 11) (N := some 52) (v := ?_) (a' := ?_) #[false, true, true, false, false, false, false, false, false, false, true, true, false, false, false, false, false] rfl rfl (any_of HT_.out (by kernel_rfl)) (fun _ _ _ h => h) (Or.inl ⟨by rfl, ?_⟩) ?_ ?_
                    rotate_left
                    · intro w'
                      go_simp
                      with_reducible rfl
                    rotate_left
                    · simp only [Act.put, List.setIfInBounds_toArray, List.set_cons_zero, List.set_cons_succ, i64_w, i32_w]
                      rfl
                    refine take_ (i := 3) (N := some 44) (v := ?_) (a' := ?_) #[false, true, true, true, false, false, false, false, false, false, true, true, false, false, false, false, false] rfl rfl (take_ofW HT_.out HW_.out (by kernel_rfl)) (fun _ _ _ h => h) (Or.inl ⟨by rfl, ?_⟩) hHeld ?_ ?_
                    rotate_left
                    · rintro w' ⟨s0, s1, s2, s3, s4, s5, s6⟩
                      go_simp
                      with_reducible rfl
                    rotate_left
                    · simp only [Act.put, List.setIfInBounds_toArray, List.set_cons_zero, List.set_cons_succ, i64_w, i32_w]
                      rfl
                    refine pure_ (i := 4) (N := some 45) (v := ?_) (a' := ?_) #[false, true, true, true, true, false, false, false, false, false, true, true, false, false, false, false, false] rfl rfl (any_of HT_.out (by kernel_rfl)) (fun _ _ _ h => h) (Or.inl ⟨by rfl, ?_⟩) ?_ ?_
                    rotate_left
                    · intro w'
                      go_simp
                      with_reducible rfl
                    rotate_left
                    · simp only [Act.put, List.setIfInBounds_toArray, List.set_cons_zero, List.set_cons_succ, i64_w, i32_w]
                      rfl
                    refine take_ (i := 6) (N := some 47) (v := ?_) (a' := ?_) #[false, true, true, true, true, false, true, false, false, false, true, true, false, false, false, false, false] rfl rfl (take_ofW HT_.out HW_.out (by kernel_rfl)) (fun _ _ _ h => h) (Or.inl ⟨by rfl, ?_⟩) hHeld ?_ ?_
                    rotate_left
                    · rintro w' ⟨s0, s1, s2, s3, s4, s5, s6⟩
                      go_simp
                      with_reducible rfl
                    rotate_left
                    · simp only [Act.put, List.setIfInBounds_toArray, List.set_cons_zero, List.set_cons_succ, i64_w, i32_w]
                      rfl
                    refine take_ (i := 7) (N := some 48) (v := ?_) (a' := ?_) #[false, true, true, true, true, false, true, true, false, false, true, true, false, false, false, false, false] rfl rfl (take_ofW HT_.out HW_.out (by kernel_rfl)) (fun _ _ _ h => h) (Or.inl ⟨by rfl, ?_⟩) hHeld ?_ ?_
                    rotate_left
                    · rintro w' ⟨s0, s1, s2, s3, s4, s5, s6⟩
                      go_simp
                      with_reducible rfl
                    rotate_left
                    · simp only [Act.put, List.setIfInBounds_toArray, List.set_cons_zero, List.set_cons_succ, i64_w, i32_w]
                      rfl
                    refine take_ (i := 12) (N := some 53) (v := ?_) (a' := ?_) #[false, true, true, true, true, false, true, true, false, false, true, true, true, false, false, false, false] rfl rfl (take_ofW HT_.out HW_.out (by kernel_rfl)) (fun _ _ _ h => h) (Or.inl ⟨by rfl, ?_⟩) hHeld ?_ ?_
                    rotate_left
                    · rintro w' ⟨s0, s1, s2, s3, s4, s5, s6⟩
                      go_simp
                      with_reducible rfl
                    rotate_left
                    · simp only [Act.put, List.setIfInBounds_toArray, List.set_cons_zero, List.set_cons_succ, i64_w, i32_w]
                      rfl
                    refine pure_ (i := 13) (N := some 54) (v := ?_) (a' := ?_) #[false, true, true, true, true, false, true, true, false, false, true, true, true, true, false, false, false] rfl rfl (any_of HT_.out (by kernel_rfl)) (fun _ _ _ h => h) (Or.inl ⟨by rfl, ?_⟩) ?_ ?_
                    rotate_left
                    · intro w'
                      go_simp
                      with_reducible rfl
                    rotate_left
                    · simp only [Act.put, List.setIfInBounds_toArray, List.set_cons_zero, List.set_cons_succ, i64_w, i32_w]
                      rfl
                    refine pure_ (i := 14) (N := some 55) (v := ?_) (a' := ?_) #[false, true, true, true, true, false, true, true, false, false, true, true, true, true, true, false, false] rfl rfl (any_of HT_.out (by kernel_rfl)) (fun _ _ _ h => h) (Or.inl ⟨by rfl, ?_⟩) ?_ ?_
                    rotate_left
                    · intro w'
                      go_simp
                      with_reducible rfl
                    rotate_left
                    · simp only [Act.put, List.setIfInBounds_toArray, List.set_cons_zero, List.set_cons_succ, i64_w, i32_w]
                      rfl
                    refine join_ (σ := Value × Value × Value) 3 #[true, true, true, true, true, true, true, true, true, false, true, true, true, true, true, false, false] (fun s_ => [(41, s_.1), (46, s_.2.1), (49, s_.2.2)]) (fun s_ w' => (w'.cell? ⟨gb122, 0, none⟩ = some (.int .i64 a1_0) ∧ w'.cell? ⟨gb122, 1, none⟩ = some (.bool true) ∧ w'.cell? ⟨gb122, 2, none⟩ = some (.int .i64 a1_2) ∧ w'.cell? ⟨gb125, 0, none⟩ = some (.int .i64 ((rd_T58 l0 a1_0).f0)) ∧ w'.cell? ⟨gb125, 1, none⟩ = some (.int .i64 a1_2) ∧ w'.cell? ⟨gb126, 0, none⟩ = some (.int .i64 ((rd_T58 l0 a1_0).f0)) ∧ w'.cell? ⟨gb126, 1, none⟩ = some (.int .i64 (wrap64 (((rd_T58 l0 a1_0).f1) - a1_2)))) ∧ (Kd.R k58 58 w' w.heap.size (fun k_ => some k_ ≠ (s_.2.2 : Value).ownBlock ∧ k_ ≠ gb124 ∧ k_ ≠ gb125 ∧ k_ ≠ gb126) s_.2.1 y134) ∧ (Kd.R k58 58 w' w.heap.size (fun k_ => some k_ ≠ (s_.2.1 : Value).ownBlock ∧ k_ ≠ gb124 ∧ k_ ≠ gb125 ∧ k_ ≠ gb126) s_.2.2 y137) ∧ (w'.heap[gb122]? = some (.cells #[.int .i64 a1_0, .bool true, .int .i64 a1_2] 48 (0, 0))) ∧ (w'.heap[gb124]? = some (.cells #[.int .i64 ((rd_T58 l0 a1_0).f0), .int .i64 ((rd_T58 l0 a1_0).f1)] 58 (0, 0))) ∧ (w'.heap[gb125]? = some (.cells #[.int .i64 ((rd_T58 l0 a1_0).f0), .int .i64 a1_2] 58 (0, 0))) ∧ (w'.heap[gb126]? = some (.cells #[.int .i64 ((rd_T58 l0 a1_0).f0), .int .i64 (wrap64 (((rd_T58 l0 a1_0).f1) - a1_2))] 58 (0, 0))) ∧ (Below w.heap.size w w')) ?_ ?_
                    rotate_left
                    · intro hCont
                      refine two_ (i := 0) (j := 8) (Ni := some 41) (Nj := some 49) #[true, true, true, true, true, false, true, true, false, false, true, true, true, true, true, false, false] #[false, true, true, true, true, false, true, true, true, false, true, true, true, true, true, false, false] rfl rfl rfl rfl (two_of HT_.out (by kernel_rfl)) (by decide) (by decide) (fun K hK => ?_) (fun K hK => ?_)
                      · skip
                        refine Kd.R_lit_step k58 _ 58 ?hg (N := 41) ?hd (xs := ([] : List (S58))) (inner := []) (ok := fun _ => True) (okp := fun _ => True) ?hr ?hp (fun _ hk => hk) trivial (Below.refl _ _) (Nat.le_refl _) (by simp) ?_; (case hd => rfl); (case hg => rfl); (case hr => first | (go_simp; done) | (go_simp; rfl)); (case hp => exact (Reps.none _ _))
                        intro v128 w41 ho42 hb hg_ hnew_
                        clear hg_ hnew_
                        (first | rw [← Ny127.out] at ho42 | (simp only [Int.reduceToNat] at ho42; rw [← Ny127.out] at ho42))
                        have n0_ := Aside0.mk (Kd.R_lower (Kd.R_newB (Kd.R_newB (Kd.R_newB ho42 (g := gb124) (o := .cells #[.int .i64 ((rd_T58 l0 a1_0).f0), .int .i64 ((rd_T58 l0 a1_0).f1)] 58 (0, 0)) (bx_ BK124.out)) (g := gb125) (o := .cells #[.int .i64 ((rd_T58 l0 a1_0).f0), .int .i64 a1_2] 58 (0, 0)) (bx_ BK125.out)) (g := gb126) (o := .cells #[.int .i64 ((rd_T58 l0 a1_0).f0), .int .i64 (wrap64 (((rd_T58 l0 a1_0).f1) - a1_2))] 58 (0, 0)) (bx_ BK126.out)) (below_size (hx_ HB.out)))
                        have n1_ := Aside0.mk (blk_below (g := gb122) (o := .cells #[.int .i64 a1_0, .bool true, .int .i64 a1_2] 48 (0, 0)) (bx_ BK122.out) hb)
                        have n2_ := Aside0.mk (blk_below (g := gb124) (o := .cells #[.int .i64 ((rd_T58 l0 a1_0).f0), .int .i64 ((rd_T58 l0 a1_0).f1)] 58 (0, 0)) (bx_ BK124.out) hb)
                        have n3_ := Aside0.mk (blk_below (g := gb125) (o := .cells #[.int .i64 ((rd_T58 l0 a1_0).f0), .int .i64 a1_2] 58 (0, 0)) (bx_ BK125.out) hb)
                        have n4_ := Aside0.mk (blk_below (g := gb126) (o := .cells #[.int .i64 ((rd_T58 l0 a1_0).f0), .int .i64 (wrap64 (((rd_T58 l0 a1_0).f1) - a1_2))] 58 (0, 0)) (bx_ BK126.out) hb)
                        have n5_ := Aside0.mk (below_step (hx_ HB.out) hb)
                        clear BK122
                        clear BK124
                        clear BK125
                        clear BK126
                        clear HB
                        have HO129 := n0_
                        have BK122 := n1_
                        have BK124 := n2_
                        have BK125 := n3_
                        have BK126 := n4_
                        have HB := n5_
                        clear n0_ n1_ n2_ n3_ n4_ n5_
                        clear hb ho42
                        refine hK.out _ _ ⟨(blk_cell BK122.out 0).trans rfl, (blk_cell BK122.out 1).trans rfl, (blk_cell BK122.out 2).trans rfl, (blk_cell BK125.out 0).trans rfl, (blk_cell BK125.out 1).trans rfl, (blk_cell BK126.out 0).trans rfl, (blk_cell BK126.out 1).trans rfl⟩ (fun hHeld => ?_)
                        clear hK K
                        refine norm_ (a' := ?_) ?_ ?_
                        rotate_left
                        · show Act.put _ (some 41) _ = _
                          simp only [Act.put, List.setIfInBounds_toArray, List.set_cons_zero, List.set_cons_succ, i64_w, i32_w]
                          rfl
                        refine two_ (i := 5) (j := 8) (Ni := some 46) (Nj := some 49) #[true, true, true, true, true, true, true, true, false, false, true, true, true, true, true, false, false] #[true, true, true, true, true, false, true, true, true, false, true, true, true, true, true, false, false] rfl rfl rfl rfl (two_of HT_.out (by kernel_rfl)) (by decide) (by decide) (fun K hK => ?_) (fun K hK => ?_)
                        · skip
                          refine Kd.R_append_rows_step k58 (w0 := w) w.heap.size (by rfl) (.tmp 41) (.tmp 45) 44 58 (.agg #[(.int .i64 0), (.int .i64 0)]) 16 rfl Try.underlying44 info58 rfl (by decide) (by omega) v128 y127 y130 _ _ _ (fun k_ => k_ ≠ gb124 ∧ k_ ≠ gb125 ∧ k_ ≠ gb126) (fun _ => False) rfl rfl ?aO ?aR (fun _ _ h => h) (fun _ h => h.elim) ?aF ?aB ?aS ?aL ?_
                          (case aR => repeat (first | exact (Kd.C_below HR133.out HB.out) | (with_reducible refine Kd.C_alloc ?_ _) | (with_reducible refine Kd.C_drewN ?_ _) | (with_reducible refine Kd.C_drew ?_)))
                          (case aB => exact (hx_ HB.out))
                          (case aF => exact (fun k_ hk => ⟨Kd.freshB (g := gb124) (o := .cells #[.int .i64 ((rd_T58 l0 a1_0).f0), .int .i64 ((rd_T58 l0 a1_0).f1)] 58 (0, 0)) (bx_ BK124.out) k_ hk, Kd.freshB (g := gb125) (o := .cells #[.int .i64 ((rd_T58 l0 a1_0).f0), .int .i64 a1_2] 58 (0, 0)) (bx_ BK125.out) k_ hk, Kd.freshB (g := gb126) (o := .cells #[.int .i64 ((rd_T58 l0 a1_0).f0), .int .i64 (wrap64 (((rd_T58 l0 a1_0).f1) - a1_2))] 58 (0, 0)) (bx_ BK126.out) k_ hk⟩))
                          (case aO => exact (by (with_reducible repeat (first | apply Kd.R_alloc | apply Kd.R_drewN | apply Kd.R_drew)); exact Kd.R_mono HO129.out (fun _ hk => ⟨hk.1.1.2, ⟨hk.1.2, hk.2⟩⟩)))
                          (case aS => exact (below_size (hx_ HB.out)))
                          (case aL => have := LMc8.out; omega)
                          intro v135 w43 ho hb hg hat
                          rw [← Ny134.out] at ho
                          have n0_ := Aside0.mk (blk_grown (g := gb122) (o := .cells #[.int .i64 a1_0, .bool true, .int .i64 a1_2] 48 (0, 0)) (bx_ BK122.out) hg (Kd.R_ne HO129.out BK122.out (by decide)))
                          have n1_ := Aside0.mk (blk_grown (g := gb124) (o := .cells #[.int .i64 ((rd_T58 l0 a1_0).f0), .int .i64 ((rd_T58 l0 a1_0).f1)] 58 (0, 0)) (bx_ BK124.out) hg (Kd.R_away HO129.out (fun _ hk => hk.1.1.2)))
                          have n2_ := Aside0.mk (blk_grown (g := gb125) (o := .cells #[.int .i64 ((rd_T58 l0 a1_0).f0), .int .i64 a1_2] 58 (0, 0)) (bx_ BK125.out) hg (Kd.R_away HO129.out (fun _ hk => hk.1.2)))
                          have n3_ := Aside0.mk (blk_grown (g := gb126) (o := .cells #[.int .i64 ((rd_T58 l0 a1_0).f0), .int .i64 (wrap64 (((rd_T58 l0 a1_0).f1) - a1_2))] 58 (0, 0)) (bx_ BK126.out) hg (Kd.R_away HO129.out (fun _ hk => hk.2)))
                          have n4_ := Aside0.mk (hb)
                          have n5_ := Aside0.mk (ho)
                          clear BK122
                          clear BK124
                          clear BK125
                          clear BK126
                          clear HB
                          clear HO129
                          have BK122 := n0_
                          have BK124 := n1_
                          have BK125 := n2_
                          have BK126 := n3_
                          have HB := n4_
                          have HO136 := n5_
                          clear n0_ n1_ n2_ n3_ n4_ n5_
                          clear ho hb hg hat
                          refine hK.out _ _ ⟨(blk_cell BK122.out 0).trans rfl, (blk_cell BK122.out 1).trans rfl, (blk_cell BK122.out 2).trans rfl, (blk_cell BK125.out 0).trans rfl, (blk_cell BK125.out 1).trans rfl, (blk_cell BK126.out 0).trans rfl, (blk_cell BK126.out 1).trans rfl⟩ (fun hHeld => ?_)
                          clear hK K
                          refine norm_ (a' := ?_) ?_ ?_
                          rotate_left
                          · show Act.put _ (some 46) _ = _
                            simp only [Act.put, List.setIfInBounds_toArray, List.set_cons_zero, List.set_cons_succ, i64_w, i32_w]
                            rfl
                          refine one_ (i := 8) (N := some 49) #[true, true, true, true, true, true, true, true, true, false, true, true, true, true, true, false, false] rfl rfl (one_of HT_.out (by kernel_rfl)) (by decide) (fun K hK => ?_)
                          refine Kd.R_lit_step k58 _ 58 ?hg (N := 49) ?hd (xs := ([(⟨(rd_T58 l0 a1_0).f0, a1_2⟩ : S58), (⟨(rd_T58 l0 a1_0).f0, wrap64 (((rd_T58 l0 a1_0).f1) - a1_2)⟩ : S58)] : List (S58))) (inner := [.int .i64 ((rd_T58 l0 a1_0).f0), .int .i64 a1_2, .int .i64 ((rd_T58 l0 a1_0).f0), .int .i64 (wrap64 (((rd_T58 l0 a1_0).f1) - a1_2))]) (ok := fun _ => True) (okp := fun _ => True) ?hr ?hp (fun _ hk => hk) trivial (Below.refl _ _) (Nat.le_refl _) (by simp) ?_; (case hd => rfl); (case hg => rfl); (case hr => first | (go_simp; done) | (go_simp; rfl)); (case hp => exact (Reps.c2 (show Kd.M k58 _ _ _ (⟨(rd_T58 l0 a1_0).f0, a1_2⟩ : S58) [.int .i64 ((rd_T58 l0 a1_0).f0), .int .i64 a1_2] from (k58_mkM _ _ _ (⟨(rd_T58 l0 a1_0).f0, a1_2⟩ : S58) )) (Reps.c2 (show Kd.M k58 _ _ _ (⟨(rd_T58 l0 a1_0).f0, wrap64 (((rd_T58 l0 a1_0).f1) - a1_2)⟩ : S58) [.int .i64 ((rd_T58 l0 a1_0).f0), .int .i64 (wrap64 (((rd_T58 l0 a1_0).f1) - a1_2))] from (k58_mkM _ _ _ (⟨(rd_T58 l0 a1_0).f0, wrap64 (((rd_T58 l0 a1_0).f1) - a1_2)⟩ : S58) )) (Reps.none _ _))))
                          intro v138 w44 ho45 hb hg_ hnew_
                          clear hg_ hnew_
                          (first | rw [← Ny137.out] at ho45 | (simp only [Int.reduceToNat] at ho45; rw [← Ny137.out] at ho45))
                          have n0_ := Aside0.mk (Kd.R_elder' (rx_ HO136.out) (Kd.R_base ho45) hb)
                          have n1_ := Aside0.mk (Kd.R_lower (Kd.R_newB (Kd.R_newB (Kd.R_newB (Kd.R_new' ho45 (Kd.R_lt (rx_ HO136.out))) (g := gb124) (o := .cells #[.int .i64 ((rd_T58 l0 a1_0).f0), .int .i64 ((rd_T58 l0 a1_0).f1)] 58 (0, 0)) (bx_ BK124.out)) (g := gb125) (o := .cells #[.int .i64 ((rd_T58 l0 a1_0).f0), .int .i64 a1_2] 58 (0, 0)) (bx_ BK125.out)) (g := gb126) (o := .cells #[.int .i64 ((rd_T58 l0 a1_0).f0), .int .i64 (wrap64 (((rd_T58 l0 a1_0).f1) - a1_2))] 58 (0, 0)) (bx_ BK126.out)) (below_size (hx_ HB.out)))
                          have n2_ := Aside0.mk (blk_below (g := gb122) (o := .cells #[.int .i64 a1_0, .bool true, .int .i64 a1_2] 48 (0, 0)) (bx_ BK122.out) hb)
                          have n3_ := Aside0.mk (blk_below (g := gb124) (o := .cells #[.int .i64 ((rd_T58 l0 a1_0).f0), .int .i64 ((rd_T58 l0 a1_0).f1)] 58 (0, 0)) (bx_ BK124.out) hb)
                          have n4_ := Aside0.mk (blk_below (g := gb125) (o := .cells #[.int .i64 ((rd_T58 l0 a1_0).f0), .int .i64 a1_2] 58 (0, 0)) (bx_ BK125.out) hb)
                          have n5_ := Aside0.mk (blk_below (g := gb126) (o := .cells #[.int .i64 ((rd_T58 l0 a1_0).f0), .int .i64 (wrap64 (((rd_T58 l0 a1_0).f1) - a1_2))] 58 (0, 0)) (bx_ BK126.out) hb)
                          have n6_ := Aside0.mk (below_step (hx_ HB.out) hb)
                          clear HO136
                          clear BK122
                          clear BK124
                          clear BK125
                          clear BK126
                          clear HB
                          have HO136 := n0_
                          have HO139 := n1_
                          have BK122 := n2_
                          have BK124 := n3_
                          have BK125 := n4_
                          have BK126 := n5_
                          have HB := n6_
                          clear n0_ n1_ n2_ n3_ n4_ n5_ n6_
                          clear hb ho45
                          refine hK.out _ _ ⟨(blk_cell BK122.out 0).trans rfl, (blk_cell BK122.out 1).trans rfl, (blk_cell BK122.out 2).trans rfl, (blk_cell BK125.out 0).trans rfl, (blk_cell BK125.out 1).trans rfl, (blk_cell BK126.out 0).trans rfl, (blk_cell BK126.out 1).trans rfl⟩ (fun hHeld => ?_)
                          clear hK K
                          refine norm_ (a' := ?_) ?_ ?_
                          rotate_left
                          · show Act.put _ (some 49) _ = _
                            simp only [Act.put, List.setIfInBounds_toArray, List.set_cons_zero, List.set_cons_succ, i64_w, i32_w]
                            rfl
                          exact norm_ (by simp only [putAll, Act.put, List.setIfInBounds_toArray, List.set_cons_zero, List.set_cons_succ]) (hCont (v128, v135, v138) _ ⟨hHeld, (by (with_reducible repeat (first | apply Kd.R_alloc | apply Kd.R_drewN | apply Kd.R_drew)); exact Kd.R_mono HO136.out (fun _ hk => ⟨hk.2, ⟨hk.1.1, ⟨hk.1.2.1, hk.1.2.2⟩⟩⟩)), (by (with_reducible repeat (first | apply Kd.R_alloc | apply Kd.R_drewN | apply Kd.R_drew)); exact Kd.R_mono HO139.out (fun _ hk => ⟨hk.1.1.1.2, ⟨hk.1.1.2, ⟨hk.1.2, hk.2⟩⟩⟩)), (bx_ BK122.out), (bx_ BK124.out), (bx_ BK125.out), (bx_ BK126.out), (hx_ HB.out)⟩)
                        · skip
                          refine Kd.R_lit_step k58 _ 58 ?hg (N := 49) ?hd (xs := ([(⟨(rd_T58 l0 a1_0).f0, a1_2⟩ : S58), (⟨(rd_T58 l0 a1_0).f0, wrap64 (((rd_T58 l0 a1_0).f1) - a1_2)⟩ : S58)] : List (S58))) (inner := [.int .i64 ((rd_T58 l0 a1_0).f0), .int .i64 a1_2, .int .i64 ((rd_T58 l0 a1_0).f0), .int .i64 (wrap64 (((rd_T58 l0 a1_0).f1) - a1_2))]) (ok := fun _ => True) (okp := fun _ => True) ?hr ?hp (fun _ hk => hk) trivial (Below.refl _ _) (Nat.le_refl _) (by simp) ?_; (case hd => rfl); (case hg => rfl); (case hr => first | (go_simp; done) | (go_simp; rfl)); (case hp => exact (Reps.c2 (show Kd.M k58 _ _ _ (⟨(rd_T58 l0 a1_0).f0, a1_2⟩ : S58) [.int .i64 ((rd_T58 l0 a1_0).f0), .int .i64 a1_2] from (k58_mkM _ _ _ (⟨(rd_T58 l0 a1_0).f0, a1_2⟩ : S58) )) (Reps.c2 (show Kd.M k58 _ _ _ (⟨(rd_T58 l0 a1_0).f0, wrap64 (((rd_T58 l0 a1_0).f1) - a1_2)⟩ : S58) [.int .i64 ((rd_T58 l0 a1_0).f0), .int .i64 (wrap64 (((rd_T58 l0 a1_0).f1) - a1_2))] from (k58_mkM _ _ _ (⟨(rd_T58 l0 a1_0).f0, wrap64 (((rd_T58 l0 a1_0).f1) - a1_2)⟩ : S58) )) (Reps.none _ _))))
                          intro v138 w43 ho44 hb hg_ hnew_
                          clear hg_ hnew_
                          (first | rw [← Ny137.out] at ho44 | (simp only [Int.reduceToNat] at ho44; rw [← Ny137.out] at ho44))
                          have n0_ := Aside0.mk (Kd.R_elder' (rx_ HO129.out) (Kd.R_base ho44) hb)
                          have n1_ := Aside0.mk (Kd.R_lower (Kd.R_newB (Kd.R_newB (Kd.R_newB (Kd.R_new' ho44 (Kd.R_lt (rx_ HO129.out))) (g := gb124) (o := .cells #[.int .i64 ((rd_T58 l0 a1_0).f0), .int .i64 ((rd_T58 l0 a1_0).f1)] 58 (0, 0)) (bx_ BK124.out)) (g := gb125) (o := .cells #[.int .i64 ((rd_T58 l0 a1_0).f0), .int .i64 a1_2] 58 (0, 0)) (bx_ BK125.out)) (g := gb126) (o := .cells #[.int .i64 ((rd_T58 l0 a1_0).f0), .int .i64 (wrap64 (((rd_T58 l0 a1_0).f1) - a1_2))] 58 (0, 0)) (bx_ BK126.out)) (below_size (hx_ HB.out)))
                          have n2_ := Aside0.mk (blk_below (g := gb122) (o := .cells #[.int .i64 a1_0, .bool true, .int .i64 a1_2] 48 (0, 0)) (bx_ BK122.out) hb)
                          have n3_ := Aside0.mk (blk_below (g := gb124) (o := .cells #[.int .i64 ((rd_T58 l0 a1_0).f0), .int .i64 ((rd_T58 l0 a1_0).f1)] 58 (0, 0)) (bx_ BK124.out) hb)
                          have n4_ := Aside0.mk (blk_below (g := gb125) (o := .cells #[.int .i64 ((rd_T58 l0 a1_0).f0), .int .i64 a1_2] 58 (0, 0)) (bx_ BK125.out) hb)
                          have n5_ := Aside0.mk (blk_below (g := gb126) (o := .cells #[.int .i64 ((rd_T58 l0 a1_0).f0), .int .i64 (wrap64 (((rd_T58 l0 a1_0).f1) - a1_2))] 58 (0, 0)) (bx_ BK126.out) hb)
                          have n6_ := Aside0.mk (below_step (hx_ HB.out) hb)
                          clear HO129
                          clear BK122
                          clear BK124
                          clear BK125
                          clear BK126
                          clear HB
                          have HO129 := n0_
                          have HO139 := n1_
                          have BK122 := n2_
                          have BK124 := n3_
                          have BK125 := n4_
                          have BK126 := n5_
                          have HB := n6_
                          clear n0_ n1_ n2_ n3_ n4_ n5_ n6_
                          clear hb ho44
                          refine hK.out _ _ ⟨(blk_cell BK122.out 0).trans rfl, (blk_cell BK122.out 1).trans rfl, (blk_cell BK122.out 2).trans rfl, (blk_cell BK125.out 0).trans rfl, (blk_cell BK125.out 1).trans rfl, (blk_cell BK126.out 0).trans rfl, (blk_cell BK126.out 1).trans rfl⟩ (fun hHeld => ?_)
                          clear hK K
                          refine norm_ (a' := ?_) ?_ ?_
                          rotate_left
                          · show Act.put _ (some 49) _ = _
                            simp only [Act.put, List.setIfInBounds_toArray, List.set_cons_zero, List.set_cons_succ, i64_w, i32_w]
                            rfl
                          refine one_ (i := 5) (N := some 46) #[true, true, true, true, true, true, true, true, true, false, true, true, true, true, true, false, false] rfl rfl (one_of HT_.out (by kernel_rfl)) (by decide) (fun K hK => ?_)
                          refine Kd.R_append_rows_step k58 (w0 := w) w.heap.size (by rfl) (.tmp 41) (.tmp 45) 44 58 (.agg #[(.int .i64 0), (.int .i64 0)]) 16 rfl Try.underlying44 info58 rfl (by decide) (by omega) v128 y127 y130 _ _ _ (fun k_ => some k_ ≠ (v138 : Value).ownBlock ∧ k_ ≠ gb124 ∧ k_ ≠ gb125 ∧ k_ ≠ gb126) (fun _ => False) rfl rfl ?aO ?aR (fun _ _ h => h) (fun _ h => h.elim) ?aF ?aB ?aS ?aL ?_
                          (case aR => repeat (first | exact (Kd.C_below HR133.out HB.out) | (with_reducible refine Kd.C_alloc ?_ _) | (with_reducible refine Kd.C_drewN ?_ _) | (with_reducible refine Kd.C_drew ?_)))
                          (case aB => exact (hx_ HB.out))
                          (case aF => exact (fun k_ hk => ⟨Kd.fresh' (Kd.R_lt (rx_ HO139.out)) k_ hk, Kd.freshB (g := gb124) (o := .cells #[.int .i64 ((rd_T58 l0 a1_0).f0), .int .i64 ((rd_T58 l0 a1_0).f1)] 58 (0, 0)) (bx_ BK124.out) k_ hk, Kd.freshB (g := gb125) (o := .cells #[.int .i64 ((rd_T58 l0 a1_0).f0), .int .i64 a1_2] 58 (0, 0)) (bx_ BK125.out) k_ hk, Kd.freshB (g := gb126) (o := .cells #[.int .i64 ((rd_T58 l0 a1_0).f0), .int .i64 (wrap64 (((rd_T58 l0 a1_0).f1) - a1_2))] 58 (0, 0)) (bx_ BK126.out) k_ hk⟩))
                          (case aO => exact (by (with_reducible repeat (first | apply Kd.R_alloc | apply Kd.R_drewN | apply Kd.R_drew)); exact Kd.R_mono HO129.out (fun _ hk => ⟨hk.2, ⟨hk.1.1.1.2, ⟨hk.1.1.2, hk.1.2⟩⟩⟩)))
                          (case aS => exact (below_size (hx_ HB.out)))
                          (case aL => have := LMc8.out; omega)
                          intro v135 w45 ho hb hg hat
                          rw [← Ny134.out] at ho
                          have n0_ := Aside0.mk (blk_grown (g := gb122) (o := .cells #[.int .i64 a1_0, .bool true, .int .i64 a1_2] 48 (0, 0)) (bx_ BK122.out) hg (Kd.R_ne HO129.out BK122.out (by decide)))
                          have n1_ := Aside0.mk (blk_grown (g := gb124) (o := .cells #[.int .i64 ((rd_T58 l0 a1_0).f0), .int .i64 ((rd_T58 l0 a1_0).f1)] 58 (0, 0)) (bx_ BK124.out) hg (Kd.R_away HO129.out (fun _ hk => hk.1.1.1.2)))
                          have n2_ := Aside0.mk (blk_grown (g := gb125) (o := .cells #[.int .i64 ((rd_T58 l0 a1_0).f0), .int .i64 a1_2] 58 (0, 0)) (bx_ BK125.out) hg (Kd.R_away HO129.out (fun _ hk => hk.1.1.2)))
                          have n3_ := Aside0.mk (blk_grown (g := gb126) (o := .cells #[.int .i64 ((rd_T58 l0 a1_0).f0), .int .i64 (wrap64 (((rd_T58 l0 a1_0).f1) - a1_2))] 58 (0, 0)) (bx_ BK126.out) hg (Kd.R_away HO129.out (fun _ hk => hk.1.2)))
                          have n4_ := Aside0.mk (Kd.R_after (ok := (fun k_ => k_ ≠ gb124 ∧ k_ ≠ gb125 ∧ k_ ≠ gb126)) (by (with_reducible repeat (first | apply Kd.R_alloc | apply Kd.R_drewN | apply Kd.R_drew)); exact Kd.R_mono HO139.out (fun _ hk => ⟨⟨hk.1.1.2, ⟨hk.1.2, hk.2⟩⟩, hk.1.1.1.2⟩)) hg hat)
                          have n5_ := Aside0.mk (hb)
                          have n6_ := Aside0.mk (ho)
                          clear BK122
                          clear BK124
                          clear BK125
                          clear BK126
                          clear HO139
                          clear HB
                          clear HO129
                          have BK122 := n0_
                          have BK124 := n1_
                          have BK125 := n2_
                          have BK126 := n3_
                          have HO139 := n4_
                          have HB := n5_
                          have HO136 := n6_
                          clear n0_ n1_ n2_ n3_ n4_ n5_ n6_
                          clear ho hb hg hat
                          refine hK.out _ _ ⟨(blk_cell BK122.out 0).trans rfl, (blk_cell BK122.out 1).trans rfl, (blk_cell BK122.out 2).trans rfl, (blk_cell BK125.out 0).trans rfl, (blk_cell BK125.out 1).trans rfl, (blk_cell BK126.out 0).trans rfl, (blk_cell BK126.out 1).trans rfl⟩ (fun hHeld => ?_)
                          clear hK K
                          refine norm_ (a' := ?_) ?_ ?_
                          rotate_left
                          · show Act.put _ (some 46) _ = _
                            simp only [Act.put, List.setIfInBounds_toArray, List.set_cons_zero, List.set_cons_succ, i64_w, i32_w]
                            rfl
                          exact norm_ (by simp only [putAll, Act.put, List.setIfInBounds_toArray, List.set_cons_zero, List.set_cons_succ]) (hCont (v128, v135, v138) _ ⟨hHeld, (rx_ HO136.out), (by (with_reducible repeat (first | apply Kd.R_alloc | apply Kd.R_drewN | apply Kd.R_drew)); exact Kd.R_mono HO139.out (fun _ hk => ⟨hk.2, ⟨hk.1.1, ⟨hk.1.2.1, hk.1.2.2⟩⟩⟩)), (bx_ BK122.out), (bx_ BK124.out), (bx_ BK125.out), (bx_ BK126.out), (hx_ HB.out)⟩)
                      · skip
                        refine Kd.R_lit_step k58 _ 58 ?hg (N := 49) ?hd (xs := ([(⟨(rd_T58 l0 a1_0).f0, a1_2⟩ : S58), (⟨(rd_T58 l0 a1_0).f0, wrap64 (((rd_T58 l0 a1_0).f1) - a1_2)⟩ : S58)] : List (S58))) (inner := [.int .i64 ((rd_T58 l0 a1_0).f0), .int .i64 a1_2, .int .i64 ((rd_T58 l0 a1_0).f0), .int .i64 (wrap64 (((rd_T58 l0 a1_0).f1) - a1_2))]) (ok := fun _ => True) (okp := fun _ => True) ?hr ?hp (fun _ hk => hk) trivial (Below.refl _ _) (Nat.le_refl _) (by simp) ?_; (case hd => rfl); (case hg => rfl); (case hr => first | (go_simp; done) | (go_simp; rfl)); (case hp => exact (Reps.c2 (show Kd.M k58 _ _ _ (⟨(rd_T58 l0 a1_0).f0, a1_2⟩ : S58) [.int .i64 ((rd_T58 l0 a1_0).f0), .int .i64 a1_2] from (k58_mkM _ _ _ (⟨(rd_T58 l0 a1_0).f0, a1_2⟩ : S58) )) (Reps.c2 (show Kd.M k58 _ _ _ (⟨(rd_T58 l0 a1_0).f0, wrap64 (((rd_T58 l0 a1_0).f1) - a1_2)⟩ : S58) [.int .i64 ((rd_T58 l0 a1_0).f0), .int .i64 (wrap64 (((rd_T58 l0 a1_0).f1) - a1_2))] from (k58_mkM _ _ _ (⟨(rd_T58 l0 a1_0).f0, wrap64 (((rd_T58 l0 a1_0).f1) - a1_2)⟩ : S58) )) (Reps.none _ _))))
                        intro v138 w41 ho42 hb hg_ hnew_
                        clear hg_ hnew_
                        (first | rw [← Ny137.out] at ho42 | (simp only [Int.reduceToNat] at ho42; rw [← Ny137.out] at ho42))
                        have n0_ := Aside0.mk (Kd.R_lower (Kd.R_newB (Kd.R_newB (Kd.R_newB ho42 (g := gb124) (o := .cells #[.int .i64 ((rd_T58 l0 a1_0).f0), .int .i64 ((rd_T58 l0 a1_0).f1)] 58 (0, 0)) (bx_ BK124.out)) (g := gb125) (o := .cells #[.int .i64 ((rd_T58 l0 a1_0).f0), .int .i64 a1_2] 58 (0, 0)) (bx_ BK125.out)) (g := gb126) (o := .cells #[.int .i64 ((rd_T58 l0 a1_0).f0), .int .i64 (wrap64 (((rd_T58 l0 a1_0).f1) - a1_2))] 58 (0, 0)) (bx_ BK126.out)) (below_size (hx_ HB.out)))
                        have n1_ := Aside0.mk (blk_below (g := gb122) (o := .cells #[.int .i64 a1_0, .bool true, .int .i64 a1_2] 48 (0, 0)) (bx_ BK122.out) hb)
                        have n2_ := Aside0.mk (blk_below (g := gb124) (o := .cells #[.int .i64 ((rd_T58 l0 a1_0).f0), .int .i64 ((rd_T58 l0 a1_0).f1)] 58 (0, 0)) (bx_ BK124.out) hb)
                        have n3_ := Aside0.mk (blk_below (g := gb125) (o := .cells #[.int .i64 ((rd_T58 l0 a1_0).f0), .int .i64 a1_2] 58 (0, 0)) (bx_ BK125.out) hb)
                        have n4_ := Aside0.mk (blk_below (g := gb126) (o := .cells #[.int .i64 ((rd_T58 l0 a1_0).f0), .int .i64 (wrap64 (((rd_T58 l0 a1_0).f1) - a1_2))] 58 (0, 0)) (bx_ BK126.out) hb)
                        have n5_ := Aside0.mk (below_step (hx_ HB.out) hb)
                        clear BK122
                        clear BK124
                        clear BK125
                        clear BK126
                        clear HB
                        have HO139 := n0_
                        have BK122 := n1_
                        have BK124 := n2_
                        have BK125 := n3_
                        have BK126 := n4_
                        have HB := n5_
                        clear n0_ n1_ n2_ n3_ n4_ n5_
                        clear hb ho42
                        refine hK.out _ _ ⟨(blk_cell BK122.out 0).trans rfl, (blk_cell BK122.out 1).trans rfl, (blk_cell BK122.out 2).trans rfl, (blk_cell BK125.out 0).trans rfl, (blk_cell BK125.out 1).trans rfl, (blk_cell BK126.out 0).trans rfl, (blk_cell BK126.out 1).trans rfl⟩ (fun hHeld => ?_)
                        clear hK K
                        refine norm_ (a' := ?_) ?_ ?_
                        rotate_left
                        · show Act.put _ (some 49) _ = _
                          simp only [Act.put, List.setIfInBounds_toArray, List.set_cons_zero, List.set_cons_succ, i64_w, i32_w]
                          rfl
                        refine one_ (i := 0) (N := some 41) #[true, true, true, true, true, false, true, true, true, false, true, true, true, true, true, false, false] rfl rfl (one_of HT_.out (by kernel_rfl)) (by decide) (fun K hK => ?_)
                        refine Kd.R_lit_step k58 _ 58 ?hg (N := 41) ?hd (xs := ([] : List (S58))) (inner := []) (ok := fun _ => True) (okp := fun _ => True) ?hr ?hp (fun _ hk => hk) trivial (Below.refl _ _) (Nat.le_refl _) (by simp) ?_; (case hd => rfl); (case hg => rfl); (case hr => first | (go_simp; done) | (go_simp; rfl)); (case hp => exact (Reps.none _ _))
                        intro v128 w43 ho44 hb hg_ hnew_
                        clear hg_ hnew_
                        (first | rw [← Ny127.out] at ho44 | (simp only [Int.reduceToNat] at ho44; rw [← Ny127.out] at ho44))
                        have n0_ := Aside0.mk (Kd.R_elder' (rx_ HO139.out) (Kd.R_base ho44) hb)
                        have n1_ := Aside0.mk (Kd.R_lower (Kd.R_newB (Kd.R_newB (Kd.R_newB (Kd.R_new' ho44 (Kd.R_lt (rx_ HO139.out))) (g := gb124) (o := .cells #[.int .i64 ((rd_T58 l0 a1_0).f0), .int .i64 ((rd_T58 l0 a1_0).f1)] 58 (0, 0)) (bx_ BK124.out)) (g := gb125) (o := .cells #[.int .i64 ((rd_T58 l0 a1_0).f0), .int .i64 a1_2] 58 (0, 0)) (bx_ BK125.out)) (g := gb126) (o := .cells #[.int .i64 ((rd_T58 l0 a1_0).f0), .int .i64 (wrap64 (((rd_T58 l0 a1_0).f1) - a1_2))] 58 (0, 0)) (bx_ BK126.out)) (below_size (hx_ HB.out)))
                        have n2_ := Aside0.mk (blk_below (g := gb122) (o := .cells #[.int .i64 a1_0, .bool true, .int .i64 a1_2] 48 (0, 0)) (bx_ BK122.out) hb)
                        have n3_ := Aside0.mk (blk_below (g := gb124) (o := .cells #[.int .i64 ((rd_T58 l0 a1_0).f0), .int .i64 ((rd_T58 l0 a1_0).f1)] 58 (0, 0)) (bx_ BK124.out) hb)
                        have n4_ := Aside0.mk (blk_below (g := gb125) (o := .cells #[.int .i64 ((rd_T58 l0 a1_0).f0), .int .i64 a1_2] 58 (0, 0)) (bx_ BK125.out) hb)
                        have n5_ := Aside0.mk (blk_below (g := gb126) (o := .cells #[.int .i64 ((rd_T58 l0 a1_0).f0), .int .i64 (wrap64 (((rd_T58 l0 a1_0).f1) - a1_2))] 58 (0, 0)) (bx_ BK126.out) hb)
                        have n6_ := Aside0.mk (below_step (hx_ HB.out) hb)
                        clear HO139
                        clear BK122
                        clear BK124
                        clear BK125
                        clear BK126
                        clear HB
                        have HO139 := n0_
                        have HO129 := n1_
                        have BK122 := n2_
                        have BK124 := n3_
                        have BK125 := n4_
                        have BK126 := n5_
                        have HB := n6_
                        clear n0_ n1_ n2_ n3_ n4_ n5_ n6_
                        clear hb ho44
                        refine hK.out _ _ ⟨(blk_cell BK122.out 0).trans rfl, (blk_cell BK122.out 1).trans rfl, (blk_cell BK122.out 2).trans rfl, (blk_cell BK125.out 0).trans rfl, (blk_cell BK125.out 1).trans rfl, (blk_cell BK126.out 0).trans rfl, (blk_cell BK126.out 1).trans rfl⟩ (fun hHeld => ?_)
                        clear hK K
                        refine norm_ (a' := ?_) ?_ ?_
                        rotate_left
                        · show Act.put _ (some 41) _ = _
                          simp only [Act.put, List.setIfInBounds_toArray, List.set_cons_zero, List.set_cons_succ, i64_w, i32_w]
                          rfl
                        refine one_ (i := 5) (N := some 46) #[true, true, true, true, true, true, true, true, true, false, true, true, true, true, true, false, false] rfl rfl (one_of HT_.out (by kernel_rfl)) (by decide) (fun K hK => ?_)
                        refine Kd.R_append_rows_step k58 (w0 := w) w.heap.size (by rfl) (.tmp 41) (.tmp 45) 44 58 (.agg #[(.int .i64 0), (.int .i64 0)]) 16 rfl Try.underlying44 info58 rfl (by decide) (by omega) v128 y127 y130 _ _ _ (fun k_ => some k_ ≠ (v138 : Value).ownBlock ∧ k_ ≠ gb124 ∧ k_ ≠ gb125 ∧ k_ ≠ gb126) (fun _ => False) rfl rfl ?aO ?aR (fun _ _ h => h) (fun _ h => h.elim) ?aF ?aB ?aS ?aL ?_
                        (case aR => repeat (first | exact (Kd.C_below HR133.out HB.out) | (with_reducible refine Kd.C_alloc ?_ _) | (with_reducible refine Kd.C_drewN ?_ _) | (with_reducible refine Kd.C_drew ?_)))
                        (case aB => exact (hx_ HB.out))
                        (case aF => exact (fun k_ hk => ⟨Kd.fresh' (Kd.R_lt (rx_ HO139.out)) k_ hk, Kd.freshB (g := gb124) (o := .cells #[.int .i64 ((rd_T58 l0 a1_0).f0), .int .i64 ((rd_T58 l0 a1_0).f1)] 58 (0, 0)) (bx_ BK124.out) k_ hk, Kd.freshB (g := gb125) (o := .cells #[.int .i64 ((rd_T58 l0 a1_0).f0), .int .i64 a1_2] 58 (0, 0)) (bx_ BK125.out) k_ hk, Kd.freshB (g := gb126) (o := .cells #[.int .i64 ((rd_T58 l0 a1_0).f0), .int .i64 (wrap64 (((rd_T58 l0 a1_0).f1) - a1_2))] 58 (0, 0)) (bx_ BK126.out) k_ hk⟩))
                        (case aO => exact (by (with_reducible repeat (first | apply Kd.R_alloc | apply Kd.R_drewN | apply Kd.R_drew)); exact Kd.R_mono HO129.out (fun _ hk => ⟨hk.1.1.1.2, ⟨hk.1.1.2, ⟨hk.1.2, hk.2⟩⟩⟩)))
                        (case aS => exact (below_size (hx_ HB.out)))
                        (case aL => have := LMc8.out; omega)
                        intro v135 w45 ho hb hg hat
                        rw [← Ny134.out] at ho
                        have n0_ := Aside0.mk (blk_grown (g := gb122) (o := .cells #[.int .i64 a1_0, .bool true, .int .i64 a1_2] 48 (0, 0)) (bx_ BK122.out) hg (Kd.R_ne HO129.out BK122.out (by decide)))
                        have n1_ := Aside0.mk (blk_grown (g := gb124) (o := .cells #[.int .i64 ((rd_T58 l0 a1_0).f0), .int .i64 ((rd_T58 l0 a1_0).f1)] 58 (0, 0)) (bx_ BK124.out) hg (Kd.R_away HO129.out (fun _ hk => hk.1.1.2)))
                        have n2_ := Aside0.mk (blk_grown (g := gb125) (o := .cells #[.int .i64 ((rd_T58 l0 a1_0).f0), .int .i64 a1_2] 58 (0, 0)) (bx_ BK125.out) hg (Kd.R_away HO129.out (fun _ hk => hk.1.2)))
                        have n3_ := Aside0.mk (blk_grown (g := gb126) (o := .cells #[.int .i64 ((rd_T58 l0 a1_0).f0), .int .i64 (wrap64 (((rd_T58 l0 a1_0).f1) - a1_2))] 58 (0, 0)) (bx_ BK126.out) hg (Kd.R_away HO129.out (fun _ hk => hk.2)))
                        have n4_ := Aside0.mk (Kd.R_after (ok := (fun k_ => k_ ≠ gb124 ∧ k_ ≠ gb125 ∧ k_ ≠ gb126)) (by (with_reducible repeat (first | apply Kd.R_alloc | apply Kd.R_drewN | apply Kd.R_drew)); exact Kd.R_mono HO139.out (fun _ hk => ⟨⟨hk.1.1.1.2, ⟨hk.1.1.2, hk.1.2⟩⟩, hk.2⟩)) hg hat)
                        have n5_ := Aside0.mk (hb)
                        have n6_ := Aside0.mk (ho)
                        clear BK122
                        clear BK124
                        clear BK125
                        clear BK126
                        clear HO139
                        clear HB
                        clear HO129
                        have BK122 := n0_
                        have BK124 := n1_
                        have BK125 := n2_
                        have BK126 := n3_
                        have HO139 := n4_
                        have HB := n5_
                        have HO136 := n6_
                        clear n0_ n1_ n2_ n3_ n4_ n5_ n6_
                        clear ho hb hg hat
                        refine hK.out _ _ ⟨(blk_cell BK122.out 0).trans rfl, (blk_cell BK122.out 1).trans rfl, (blk_cell BK122.out 2).trans rfl, (blk_cell BK125.out 0).trans rfl, (blk_cell BK125.out 1).trans rfl, (blk_cell BK126.out 0).trans rfl, (blk_cell BK126.out 1).trans rfl⟩ (fun hHeld => ?_)
                        clear hK K
                        refine norm_ (a' := ?_) ?_ ?_
                        rotate_left
                        · show Act.put _ (some 46) _ = _
                          simp only [Act.put, List.setIfInBounds_toArray, List.set_cons_zero, List.set_cons_succ, i64_w, i32_w]
                          rfl
                        exact norm_ (by simp only [putAll, Act.put, List.setIfInBounds_toArray, List.set_cons_zero, List.set_cons_succ]) (hCont (v128, v135, v138) _ ⟨hHeld, (rx_ HO136.out), (by (with_reducible repeat (first | apply Kd.R_alloc | apply Kd.R_drewN | apply Kd.R_drew)); exact Kd.R_mono HO139.out (fun _ hk => ⟨hk.2, ⟨hk.1.1, ⟨hk.1.2.1, hk.1.2.2⟩⟩⟩)), (bx_ BK122.out), (bx_ BK124.out), (bx_ BK125.out), (bx_ BK126.out), (hx_ HB.out)⟩)
                    rintro ⟨v128, v135, v138⟩ w46 ⟨hS_, h0_, h1_, h2_, h3_, h4_, h5_, h6_⟩
                    have n0_ : Aside0 (Kd.R k58 58 w46 w.heap.size (fun k_ => some k_ ≠ (v138 : Value).ownBlock ∧ k_ ≠ gb124 ∧ k_ ≠ gb125 ∧ k_ ≠ gb126) v135 y134) := ⟨h0_⟩
                    have n1_ : Aside0 (Kd.R k58 58 w46 w.heap.size (fun k_ => some k_ ≠ (v135 : Value).ownBlock ∧ k_ ≠ gb124 ∧ k_ ≠ gb125 ∧ k_ ≠ gb126) v138 y137) := ⟨h1_⟩
                    have n2_ : Aside0 (w46.heap[gb122]? = some (.cells #[.int .i64 a1_0, .bool true, .int .i64 a1_2] 48 (0, 0))) := ⟨h2_⟩
                    have n3_ : Aside0 (w46.heap[gb124]? = some (.cells #[.int .i64 ((rd_T58 l0 a1_0).f0), .int .i64 ((rd_T58 l0 a1_0).f1)] 58 (0, 0))) := ⟨h3_⟩
                    have n4_ : Aside0 (w46.heap[gb125]? = some (.cells #[.int .i64 ((rd_T58 l0 a1_0).f0), .int .i64 a1_2] 58 (0, 0))) := ⟨h4_⟩
                    have n5_ : Aside0 (w46.heap[gb126]? = some (.cells #[.int .i64 ((rd_T58 l0 a1_0).f0), .int .i64 (wrap64 (((rd_T58 l0 a1_0).f1) - a1_2))] 58 (0, 0))) := ⟨h5_⟩
                    have n6_ : Aside0 (Below w.heap.size w w46) := ⟨h6_⟩
                    clear BK122
                    clear BK124
                    clear BK125
                    clear BK126
                    clear HB
                    clear h0_ h1_ h2_ h3_ h4_ h5_ h6_
                    have HO136 := n0_
                    have HO139 := n1_
                    have BK122 := n2_
                    have BK124 := n3_
                    have BK125 := n4_
                    have BK126 := n5_
                    have HB := n6_
                    clear n0_ n1_ n2_ n3_ n4_ n5_ n6_
                    have hHeld : w46.cell? ⟨gb122, 0, none⟩ = some (.int .i64 a1_0) ∧ w46.cell? ⟨gb122, 1, none⟩ = some (.bool true) ∧ w46.cell? ⟨gb122, 2, none⟩ = some (.int .i64 a1_2) ∧ w46.cell? ⟨gb125, 0, none⟩ = some (.int .i64 ((rd_T58 l0 a1_0).f0)) ∧ w46.cell? ⟨gb125, 1, none⟩ = some (.int .i64 a1_2) ∧ w46.cell? ⟨gb126, 0, none⟩ = some (.int .i64 ((rd_T58 l0 a1_0).f0)) ∧ w46.cell? ⟨gb126, 1, none⟩ = some (.int .i64 (wrap64 (((rd_T58 l0 a1_0).f1) - a1_2))) := hS_
                    obtain ⟨Ao48, co48, eo48⟩ := Kd.R_slice HO139.out
                    (first | subst eo48 | (injection eo48 with f1_ f2_ f3_; have f4_ := f1_.symm; have f5_ := f3_.symm; clear f1_ f2_ f3_; subst f4_; subst f5_))
                    refine norm_ (a' := ?_) ?_ ?_
                    rotate_left
                    · simp only [putAll, Act.put, List.setIfInBounds_toArray, List.set_cons_zero, List.set_cons_succ]
                      rfl
                    refine one_ (i := 9) (N := some 50) #[true, true, true, true, true, true, true, true, true, true, true, true, true, true, true, false, false] rfl rfl (one_of HT_.out (by kernel_rfl)) (by decide) (fun K hK => ?_)
                    refine Kd.R_append_rows_step k58 (w0 := w) w.heap.size (by rfl) (.tmp 46) (.tmp 49) 44 58 (.agg #[(.int .i64 0), (.int .i64 0)]) 16 rfl Try.underlying44 info58 rfl (by decide) (by omega) v135 y134 y137 _ _ _ (fun k_ => some k_ ≠ (.slice Ao48 y137.length co48 : Value).ownBlock ∧ k_ ≠ gb124 ∧ k_ ≠ gb125 ∧ k_ ≠ gb126) (fun _ => False) rfl rfl ?aO ?aR (fun _ _ h => h) (fun _ h => h.elim) ?aF ?aB ?aS ?aL ?_
                    (case aR => repeat (first | exact (Kd.R_reads' HO139.out).2.2 | (with_reducible refine Kd.C_alloc ?_ _) | (with_reducible refine Kd.C_drewN ?_ _) | (with_reducible refine Kd.C_drew ?_)))
                    (case aB => exact (hx_ HB.out))
                    (case aF => exact (fun k_ hk => ⟨Kd.fresh' (Kd.R_lt (rx_ HO139.out)) k_ hk, Kd.freshB (g := gb124) (o := .cells #[.int .i64 ((rd_T58 l0 a1_0).f0), .int .i64 ((rd_T58 l0 a1_0).f1)] 58 (0, 0)) (bx_ BK124.out) k_ hk, Kd.freshB (g := gb125) (o := .cells #[.int .i64 ((rd_T58 l0 a1_0).f0), .int .i64 a1_2] 58 (0, 0)) (bx_ BK125.out) k_ hk, Kd.freshB (g := gb126) (o := .cells #[.int .i64 ((rd_T58 l0 a1_0).f0), .int .i64 (wrap64 (((rd_T58 l0 a1_0).f1) - a1_2))] 58 (0, 0)) (bx_ BK126.out) k_ hk⟩))
                    (case aO => exact (rx_ HO136.out))
                    (case aS => exact (below_size (hx_ HB.out)))
                    (case aL => have := LMc9.out; omega)
                    intro v141 w47 ho hb hg hat
                    rw [← Ny140.out] at ho
                    have n0_ := Aside0.mk (blk_grown (g := gb122) (o := .cells #[.int .i64 a1_0, .bool true, .int .i64 a1_2] 48 (0, 0)) (bx_ BK122.out) hg (Kd.R_ne HO136.out BK122.out (by decide)))
                    have n1_ := Aside0.mk (blk_grown (g := gb124) (o := .cells #[.int .i64 ((rd_T58 l0 a1_0).f0), .int .i64 ((rd_T58 l0 a1_0).f1)] 58 (0, 0)) (bx_ BK124.out) hg (Kd.R_away HO136.out (fun _ hk => hk.2.1)))
                    have n2_ := Aside0.mk (blk_grown (g := gb125) (o := .cells #[.int .i64 ((rd_T58 l0 a1_0).f0), .int .i64 a1_2] 58 (0, 0)) (bx_ BK125.out) hg (Kd.R_away HO136.out (fun _ hk => hk.2.2.1)))
                    have n3_ := Aside0.mk (blk_grown (g := gb126) (o := .cells #[.int .i64 ((rd_T58 l0 a1_0).f0), .int .i64 (wrap64 (((rd_T58 l0 a1_0).f1) - a1_2))] 58 (0, 0)) (bx_ BK126.out) hg (Kd.R_away HO136.out (fun _ hk => hk.2.2.2)))
                    have n4_ := Aside0.mk (Kd.R_after (ok := (fun k_ => k_ ≠ gb124 ∧ k_ ≠ gb125 ∧ k_ ≠ gb126)) (by (with_reducible repeat (first | apply Kd.R_alloc | apply Kd.R_drewN | apply Kd.R_drew)); exact Kd.R_mono HO139.out (fun _ hk => ⟨⟨hk.2.1, ⟨hk.2.2.1, hk.2.2.2⟩⟩, hk.1⟩)) hg hat)
                    have n5_ := Aside0.mk (hb)
                    have n6_ := Aside0.mk (ho)
                    clear BK122
                    clear BK124
                    clear BK125
                    clear BK126
                    clear HO139
                    clear HB
                    clear HO136
                    have BK122 := n0_
                    have BK124 := n1_
                    have BK125 := n2_
                    have BK126 := n3_
                    have HO139 := n4_
                    have HB := n5_
                    have HO142 := n6_
                    clear n0_ n1_ n2_ n3_ n4_ n5_ n6_
                    clear ho hb hg hat
                    refine hK.out _ _ ⟨(blk_cell BK122.out 0).trans rfl, (blk_cell BK122.out 1).trans rfl, (blk_cell BK122.out 2).trans rfl, (blk_cell BK125.out 0).trans rfl, (blk_cell BK125.out 1).trans rfl, (blk_cell BK126.out 0).trans rfl, (blk_cell BK126.out 1).trans rfl⟩ (fun hHeld => ?_)
                    clear hK K
                    refine norm_ (a' := ?_) ?_ ?_
                    rotate_left
                    · show Act.put _ (some 50) _ = _
                      simp only [Act.put, List.setIfInBounds_toArray, List.set_cons_zero, List.set_cons_succ, i64_w, i32_w]
                      rfl
                    refine one_ (i := 15) (N := some 56) #[true, true, true, true, true, true, true, true, true, true, true, true, true, true, true, true, false] rfl rfl (one_of HT_.out (by kernel_rfl)) (by decide) (fun K hK => ?_)
                    refine Kd.R_append_rows_step k58 (w0 := w) w.heap.size (by rfl) (.tmp 50) (.tmp 55) 44 58 (.agg #[(.int .i64 0), (.int .i64 0)]) 16 rfl Try.underlying44 info58 rfl (by decide) (by omega) v141 y140 y143 _ _ _ (fun k_ => some k_ ≠ (.slice Ao48 y137.length co48 : Value).ownBlock ∧ k_ ≠ gb124 ∧ k_ ≠ gb125 ∧ k_ ≠ gb126) (fun _ => False) rfl rfl ?aO ?aR (fun _ _ h => h) (fun _ h => h.elim) ?aF ?aB ?aS ?aL ?_
                    (case aR => repeat (first | exact (Kd.C_below HR146.out HB.out) | (with_reducible refine Kd.C_alloc ?_ _) | (with_reducible refine Kd.C_drewN ?_ _) | (with_reducible refine Kd.C_drew ?_)))
                    (case aB => exact (hx_ HB.out))
                    (case aF => exact (fun k_ hk => ⟨Kd.fresh' (Kd.R_lt (rx_ HO139.out)) k_ hk, Kd.freshB (g := gb124) (o := .cells #[.int .i64 ((rd_T58 l0 a1_0).f0), .int .i64 ((rd_T58 l0 a1_0).f1)] 58 (0, 0)) (bx_ BK124.out) k_ hk, Kd.freshB (g := gb125) (o := .cells #[.int .i64 ((rd_T58 l0 a1_0).f0), .int .i64 a1_2] 58 (0, 0)) (bx_ BK125.out) k_ hk, Kd.freshB (g := gb126) (o := .cells #[.int .i64 ((rd_T58 l0 a1_0).f0), .int .i64 (wrap64 (((rd_T58 l0 a1_0).f1) - a1_2))] 58 (0, 0)) (bx_ BK126.out) k_ hk⟩))
                    (case aO => exact (rx_ HO142.out))
                    (case aS => exact (below_size (hx_ HB.out)))
                    (case aL => have := LMc13.out; omega)
                    intro v148 w49 ho hb hg hat
                    rw [← Ny147.out] at ho
                    have n0_ := Aside0.mk (blk_grown (g := gb122) (o := .cells #[.int .i64 a1_0, .bool true, .int .i64 a1_2] 48 (0, 0)) (bx_ BK122.out) hg (Kd.R_ne HO142.out BK122.out (by decide)))
                    have n1_ := Aside0.mk (blk_grown (g := gb124) (o := .cells #[.int .i64 ((rd_T58 l0 a1_0).f0), .int .i64 ((rd_T58 l0 a1_0).f1)] 58 (0, 0)) (bx_ BK124.out) hg (Kd.R_away HO142.out (fun _ hk => hk.2.1)))
                    have n2_ := Aside0.mk (blk_grown (g := gb125) (o := .cells #[.int .i64 ((rd_T58 l0 a1_0).f0), .int .i64 a1_2] 58 (0, 0)) (bx_ BK125.out) hg (Kd.R_away HO142.out (fun _ hk => hk.2.2.1)))
                    have n3_ := Aside0.mk (blk_grown (g := gb126) (o := .cells #[.int .i64 ((rd_T58 l0 a1_0).f0), .int .i64 (wrap64 (((rd_T58 l0 a1_0).f1) - a1_2))] 58 (0, 0)) (bx_ BK126.out) hg (Kd.R_away HO142.out (fun _ hk => hk.2.2.2)))
                    have n4_ := Aside0.mk (Kd.R_after (ok := (fun k_ => k_ ≠ gb124 ∧ k_ ≠ gb125 ∧ k_ ≠ gb126)) (rx_ HO139.out) hg hat)
                    have n5_ := Aside0.mk (hb)
                    have n6_ := Aside0.mk (ho)
                    clear BK122
                    clear BK124
                    clear BK125
                    clear BK126
                    clear HO139
                    clear HB
                    clear HO142
                    have BK122 := n0_
                    have BK124 := n1_
                    have BK125 := n2_
                    have BK126 := n3_
                    have HO139 := n4_
                    have HB := n5_
                    have HO149 := n6_
                    clear n0_ n1_ n2_ n3_ n4_ n5_ n6_
                    clear ho hb hg hat
                    refine hK.out _ _ ⟨(blk_cell BK122.out 0).trans rfl, (blk_cell BK122.out 1).trans rfl, (blk_cell BK122.out 2).trans rfl, (blk_cell BK125.out 0).trans rfl, (blk_cell BK125.out 1).trans rfl, (blk_cell BK126.out 0).trans rfl, (blk_cell BK126.out 1).trans rfl⟩ (fun hHeld => ?_)
                    clear hK K
                    refine norm_ (a' := ?_) ?_ ?_
                    rotate_left
                    · show Act.put _ (some 56) _ = _
                      simp only [Act.put, List.setIfInBounds_toArray, List.set_cons_zero, List.set_cons_succ, i64_w, i32_w]
                      rfl
                    refine pure_ (i := 16) (N := some 4) (v := ?_) (a' := ?_) #[true, true, true, true, true, true, true, true, true, true, true, true, true, true, true, true, true] rfl rfl (any_of HT_.out (by kernel_rfl)) (fun _ _ _ h => h) (Or.inl ⟨by rfl, ?_⟩) ?_ ?_
                    rotate_left
                    · intro w'
                      go_simp
                      with_reducible rfl
                    rotate_left
                    · simp only [Act.put, List.setIfInBounds_toArray, List.set_cons_zero, List.set_cons_succ, i64_w, i32_w]
                      rfl
                    refine done_ (done_of HT_.out (by kernel_rfl)) ?_
                    try go_wp2
                    go_ret
                    exact ⟨_, by first | rfl | (simp [errW_none, errW_some] <;> rfl) | (simp only [← hji10]; first | rfl | (simp [errW_none, errW_some] <;> rfl)) | (simp [*, errW_none, errW_some] <;> rfl), by (with_reducible repeat (first | apply Kd.R_alloc | apply Kd.R_drewN | apply Kd.R_drew)); exact Kd.R_mono HO149.out (fun _ hk => trivial), hx_ HB.out⟩
                  · rw [if_neg c13] at H
                    exact absurd H (by simp)
                · rw [if_neg c12] at H
                  exact absurd H (by simp)
              · rw [if_neg c11] at H
                exact absurd H (by simp)
            · rw [if_neg c9] at H
              exact absurd H (by simp)
          · rw [if_neg c8] at H
            exact absurd H (by simp)
        · rw [if_neg c7] at H
          exact absurd H (by simp)
      · replace c5 := Bool.eq_false_iff.mpr c5
        subst c5
        have H1 : ((some (([] : List (S58)) : List (S58))).bind fun y150 => (if a1_0 ≤ (l0.length : Int) then ((some (l0.take (a1_0 : Int).toNat : List (S58))).bind fun y153 => (if y150.length + y153.length < 8796093022208 then ((some (y150 ++ y153 : List (S58))).bind fun y157 => ((some (([(⟨a1_2, (rd_T58 l0 a1_0).f1⟩ : S58), (⟨wrap64 (((rd_T58 l0 a1_0).f0) - a1_2), (rd_T58 l0 a1_0).f1⟩ : S58)] : List (S58)) : List (S58))).bind fun y160 => (if y157.length + y160.length < 8796093022208 then ((some (y157 ++ y160 : List (S58))).bind fun y163 => (if 0 ≤ (wrap64 (a1_0 + 1)) then (if (wrap64 (a1_0 + 1)) ≤ (l0.length : Int) then ((some (l0.drop ((wrap64 (a1_0 + 1)) : Int).toNat : List (S58))).bind fun y166 => (if y163.length + y166.length < 8796093022208 then (some (y163 ++ y166)) else (none))) else (none)) else (none))) else (none)))) else (none))) else (none))) = some r := by rw [if_neg (show ¬ (false = true) by decide)] at H; exact H
        clear H
        have H := H1
        clear H1
        obtain ⟨y150, hy150⟩ : ∃ y_ : List (S58), y_ = (([] : List (S58))) := ⟨_, rfl⟩
        replace H : (if a1_0 ≤ (l0.length : Int) then ((some (l0.take (a1_0 : Int).toNat : List (S58))).bind fun y153 => (if y150.length + y153.length < 8796093022208 then ((some (y150 ++ y153 : List (S58))).bind fun y157 => ((some (([(⟨a1_2, (rd_T58 l0 a1_0).f1⟩ : S58), (⟨wrap64 (((rd_T58 l0 a1_0).f0) - a1_2), (rd_T58 l0 a1_0).f1⟩ : S58)] : List (S58)) : List (S58))).bind fun y160 => (if y157.length + y160.length < 8796093022208 then ((some (y157 ++ y160 : List (S58))).bind fun y163 => (if 0 ≤ (wrap64 (a1_0 + 1)) then (if (wrap64 (a1_0 + 1)) ≤ (l0.length : Int) then ((some (l0.drop ((wrap64 (a1_0 + 1)) : Int).toNat : List (S58))).bind fun y166 => (if y163.length + y166.length < 8796093022208 then (some (y163 ++ y166)) else (none))) else (none)) else (none))) else (none)))) else (none))) else (none)) = some r := by first | (rw [hy150]; with_reducible exact H) | (have H2_ := (Option.bind_some _ _).symm.trans H; rw [hy150]; with_reducible exact H2_) | (have H2_ := (Option.bind_some _ _).symm.trans H; with_reducible exact H2_) | with_reducible exact H | (rw [hy150]; exact H) | exact H
        have Ny150 := Aside0.mk hy150
        clear hy150
        have c50b0 := eq_true (of_decide_eq_true (by first | (with_reducible assumption) | assumption) : 0 ≤ a1_0)
        by_cases c51 : a1_0 ≤ (l0.length : Int)
        · rw [if_pos c51] at H
          have c51b0 := eq_true c51
          have c51b1 : decide (a1_0 ≤ (l0.length : Int)) = true := decide_eq_true c51
          clear c51
          obtain ⟨y153, hy153⟩ : ∃ y_ : List (S58), y_ = (l0.take (a1_0 : Int).toNat) := ⟨_, rfl⟩
          replace H : (if y150.length + y153.length < 8796093022208 then ((some (y150 ++ y153 : List (S58))).bind fun y157 => ((some (([(⟨a1_2, (rd_T58 l0 a1_0).f1⟩ : S58), (⟨wrap64 (((rd_T58 l0 a1_0).f0) - a1_2), (rd_T58 l0 a1_0).f1⟩ : S58)] : List (S58)) : List (S58))).bind fun y160 => (if y157.length + y160.length < 8796093022208 then ((some (y157 ++ y160 : List (S58))).bind fun y163 => (if 0 ≤ (wrap64 (a1_0 + 1)) then (if (wrap64 (a1_0 + 1)) ≤ (l0.length : Int) then ((some (l0.drop ((wrap64 (a1_0 + 1)) : Int).toNat : List (S58))).bind fun y166 => (if y163.length + y166.length < 8796093022208 then (some (y163 ++ y166)) else (none))) else (none)) else (none))) else (none)))) else (none)) = some r := by first | (rw [hy153]; with_reducible exact H) | (have H2_ := (Option.bind_some _ _).symm.trans H; rw [hy153]; with_reducible exact H2_) | (have H2_ := (Option.bind_some _ _).symm.trans H; with_reducible exact H2_) | with_reducible exact H | (rw [hy153]; exact H) | exact H
          have Ny153 := Aside0.mk hy153
          clear hy153
          by_cases c52 : y150.length + y153.length < 8796093022208
          · rw [if_pos c52] at H
            have LMc52 := Aside0.mk c52
            clear c52
            obtain ⟨y157, hy157⟩ : ∃ y_ : List (S58), y_ = (y150 ++ y153) := ⟨_, rfl⟩
            replace H : ((some (([(⟨a1_2, (rd_T58 l0 a1_0).f1⟩ : S58), (⟨wrap64 (((rd_T58 l0 a1_0).f0) - a1_2), (rd_T58 l0 a1_0).f1⟩ : S58)] : List (S58)) : List (S58))).bind fun y160 => (if y157.length + y160.length < 8796093022208 then ((some (y157 ++ y160 : List (S58))).bind fun y163 => (if 0 ≤ (wrap64 (a1_0 + 1)) then (if (wrap64 (a1_0 + 1)) ≤ (l0.length : Int) then ((some (l0.drop ((wrap64 (a1_0 + 1)) : Int).toNat : List (S58))).bind fun y166 => (if y163.length + y166.length < 8796093022208 then (some (y163 ++ y166)) else (none))) else (none)) else (none))) else (none))) = some r := by first | (rw [hy157]; with_reducible exact H) | (have H2_ := (Option.bind_some _ _).symm.trans H; rw [hy157]; with_reducible exact H2_) | (have H2_ := (Option.bind_some _ _).symm.trans H; with_reducible exact H2_) | with_reducible exact H | (rw [hy157]; exact H) | exact H
            have Ny157 := Aside0.mk hy157
            clear hy157
            obtain ⟨y160, hy160⟩ : ∃ y_ : List (S58), y_ = (([(⟨a1_2, (rd_T58 l0 a1_0).f1⟩ : S58), (⟨wrap64 (((rd_T58 l0 a1_0).f0) - a1_2), (rd_T58 l0 a1_0).f1⟩ : S58)] : List (S58))) := ⟨_, rfl⟩
            replace H : (if y157.length + y160.length < 8796093022208 then ((some (y157 ++ y160 : List (S58))).bind fun y163 => (if 0 ≤ (wrap64 (a1_0 + 1)) then (if (wrap64 (a1_0 + 1)) ≤ (l0.length : Int) then ((some (l0.drop ((wrap64 (a1_0 + 1)) : Int).toNat : List (S58))).bind fun y166 => (if y163.length + y166.length < 8796093022208 then (some (y163 ++ y166)) else (none))) else (none)) else (none))) else (none)) = some r := by first | (rw [hy160]; with_reducible exact H) | (have H2_ := (Option.bind_some _ _).symm.trans H; rw [hy160]; with_reducible exact H2_) | (have H2_ := (Option.bind_some _ _).symm.trans H; with_reducible exact H2_) | with_reducible exact H | (rw [hy160]; exact H) | exact H
            have Ny160 := Aside0.mk hy160
            clear hy160
            by_cases c53 : y157.length + y160.length < 8796093022208
            · rw [if_pos c53] at H
              have LMc53 := Aside0.mk c53
              clear c53
              obtain ⟨y163, hy163⟩ : ∃ y_ : List (S58), y_ = (y157 ++ y160) := ⟨_, rfl⟩
              replace H : (if 0 ≤ (wrap64 (a1_0 + 1)) then (if (wrap64 (a1_0 + 1)) ≤ (l0.length : Int) then ((some (l0.drop ((wrap64 (a1_0 + 1)) : Int).toNat : List (S58))).bind fun y166 => (if y163.length + y166.length < 8796093022208 then (some (y163 ++ y166)) else (none))) else (none)) else (none)) = some r := by first | (rw [hy163]; with_reducible exact H) | (have H2_ := (Option.bind_some _ _).symm.trans H; rw [hy163]; with_reducible exact H2_) | (have H2_ := (Option.bind_some _ _).symm.trans H; with_reducible exact H2_) | with_reducible exact H | (rw [hy163]; exact H) | exact H
              have Ny163 := Aside0.mk hy163
              clear hy163
              obtain ⟨ji54, hji54⟩ : ∃ j_ : Int, (wrap64 (a1_0 + 1)) = j_ := ⟨_, rfl⟩
              replace H : (if 0 ≤ (ji54) then (if (ji54) ≤ (l0.length : Int) then ((some (l0.drop ((ji54) : Int).toNat : List (S58))).bind fun y166 => (if y163.length + y166.length < 8796093022208 then (some (y163 ++ y166)) else (none))) else (none)) else (none)) = some r := by first | (rw [hji54] at H; exact H) | (simp only [hji54] at H ⊢; exact H)
              have hji54w : (IntKind.i64.wrap (a1_0 + 1)) = ji54 := (i64_w _).trans hji54
              by_cases c55 : 0 ≤ (ji54)
              · rw [if_pos c55] at H
                have c55b0 := eq_true c55
                have c55b1 : decide (0 ≤ (ji54)) = true := decide_eq_true c55
                clear c55
                by_cases c56 : (ji54) ≤ (l0.length : Int)
                · rw [if_pos c56] at H
                  have c56b0 := eq_true c56
                  have c56b1 : decide ((ji54) ≤ (l0.length : Int)) = true := decide_eq_true c56
                  clear c56
                  obtain ⟨y166, hy166⟩ : ∃ y_ : List (S58), y_ = (l0.drop ((ji54) : Int).toNat) := ⟨_, rfl⟩
                  replace H : (if y163.length + y166.length < 8796093022208 then (some (y163 ++ y166)) else (none)) = some r := by first | (rw [hy166]; with_reducible exact H) | (have H2_ := (Option.bind_some _ _).symm.trans H; rw [hy166]; with_reducible exact H2_) | (have H2_ := (Option.bind_some _ _).symm.trans H; with_reducible exact H2_) | with_reducible exact H | (rw [hy166]; exact H) | exact H
                  have Ny166 := Aside0.mk hy166
                  clear hy166
                  by_cases c57 : y163.length + y166.length < 8796093022208
                  · rw [if_pos c57] at H
                    have LMc57 := Aside0.mk c57
                    clear c57
                    obtain ⟨y170, hy170⟩ : ∃ y_ : List (S58), y_ = (y163 ++ y166) := ⟨_, rfl⟩
                    replace H : (some y170) = some r := by first | (rw [hy170]; with_reducible exact H) | (have H2_ := (Option.bind_some _ _).symm.trans H; rw [hy170]; with_reducible exact H2_) | (have H2_ := (Option.bind_some _ _).symm.trans H; with_reducible exact H2_) | with_reducible exact H | (rw [hy170]; exact H) | exact H
                    have Ny170 := Aside0.mk hy170
                    clear hy170
                    obtain rfl := Option.some.inj H
                    go_enter Try.func86, Try.ntmps86
                    try go_wp2_with (first | ((with_reducible refine gate_dst (N := 3) rfl ?_); refine box_event ?hg (N := 3) ?hd (cs := #[.int .i64 a1_0, .bool false, .int .i64 a1_2]) (t := 48) ?hr ?_; (case hd => rfl); (case hg => rfl); (case hr => first | (go_simp; done) | (go_simp; rfl)); intro gb122 hg w58 hbox hb; have n0_ := Aside0.mk (below_step (hx_ HB.out) hb); have n1_ := Aside0.mk (hbox); have n2_ := Aside0.mk ((by rw [hg]; exact (below_size (hx_ HB.out)) : w.heap.size ≤ gb122)); have n3_ := Aside0.mk ((by rw [hg]; exact (below_size (hx_ HB.out)) : w.heap.size ≤ gb122)); clear HB; have HB := n0_; have BK122 := n1_; have GW122 := n2_; have GE122 := n3_; clear n0_ n1_ n2_ n3_; clear hb hbox hg; have hcz59_0 : w58.cell? ⟨gb122, 0, none⟩ = some (.int .i64 a1_0) := (blk_cell BK122.out 0).trans rfl; have hcz59_1 : w58.cell? ⟨gb122, 1, none⟩ = some (.bool false) := (blk_cell BK122.out 1).trans rfl; have hcz59_2 : w58.cell? ⟨gb122, 2, none⟩ = some (.int .i64 a1_2) := (blk_cell BK122.out 2).trans rfl; have hfz59_0 := blk_frozen BK122.out 0; have hfz59_1 := blk_frozen BK122.out 1; have hfz59_2 := blk_frozen BK122.out 2; have p123 : 0 ≤ (a1_0 : Int) := of_decide_eq_true (by first | (with_reducible assumption) | assumption); have q123 : a1_0 < (l0.length : Int) := of_decide_eq_true (by first | (with_reducible assumption) | assumption); obtain ⟨ad123, e123, hx123_0, hx123_1⟩ := at_T58 HR0.out a1_0 p123 q123; cases e123; replace hx123_0 := (HB.out.cell (World.block_lt_of_cell? w _ hx123_0)).trans hx123_0; replace hx123_1 := (HB.out.cell (World.block_lt_of_cell? w _ hx123_1)).trans hx123_1; replace p123 := eq_true p123; replace q123 := eq_true q123) | ((with_reducible refine gate_dst (N := 5) rfl ?_); refine box_event ?hg (N := 5) ?hd (cs := #[.int .i64 0, .int .i64 0]) (t := 58) ?hr ?_; (case hd => rfl); (case hg => rfl); (case hr => first | (go_simp; done) | (go_simp; rfl)); intro gb124 hg w60 hbox hb; have n0_ := Aside0.mk (blk_below (g := gb122) (o := .cells #[.int .i64 a1_0, .bool false, .int .i64 a1_2] 48 (0, 0)) (bx_ BK122.out) hb); have n1_ := Aside0.mk (below_step (hx_ HB.out) hb); have n2_ := Aside0.mk (hbox); have n3_ := Aside0.mk ((by rw [hg]; exact (below_size (hx_ HB.out)) : w.heap.size ≤ gb124)); have n4_ := Aside0.mk ((by rw [hg]; exact (below_size (hx_ HB.out)) : w.heap.size ≤ gb124)); have n5_ := Aside0.mk ((by rw [hg]; exact Nat.ne_of_lt (blk_lt (g := gb122) (o := .cells #[.int .i64 a1_0, .bool false, .int .i64 a1_2] 48 (0, 0)) (bx_ BK122.out)) : gb122 ≠ gb124)); have n6_ := Aside0.mk ((by rw [hg]; exact Nat.ne_of_gt (blk_lt (g := gb122) (o := .cells #[.int .i64 a1_0, .bool false, .int .i64 a1_2] 48 (0, 0)) (bx_ BK122.out)) : gb124 ≠ gb122)); clear BK122; clear HB; have BK122 := n0_; have HB := n1_; have BK124 := n2_; have GW124 := n3_; have GE124 := n4_; have NB122_124 := n5_; have NB124_122 := n6_; clear n0_ n1_ n2_ n3_ n4_ n5_ n6_; clear hb hbox hg; have hnb61 := NB124_122.out; have hnc61 := NB122_124.out; have hcz62_0 : w60.cell? ⟨gb124, 0, none⟩ = some (.int .i64 0) := (blk_cell BK124.out 0).trans rfl; have hcz62_1 : w60.cell? ⟨gb124, 1, none⟩ = some (.int .i64 0) := (blk_cell BK124.out 1).trans rfl; have hfz62_0 := blk_frozen BK124.out 0; have hfz62_1 := blk_frozen BK124.out 1))
                    have n0_ : Aside0 (((w60.setCell ⟨gb124, 0, none⟩ (.int .i64 ((rd_T58 l0 a1_0).f0))).setCell ⟨gb124, 1, none⟩ (.int .i64 ((rd_T58 l0 a1_0).f1))).heap[gb122]? = some (.cells #[.int .i64 a1_0, .bool false, .int .i64 a1_2] 48 (0, 0))) := ⟨bx_ BK122.out⟩
                    have n1_ : Aside0 (((w60.setCell ⟨gb124, 0, none⟩ (.int .i64 ((rd_T58 l0 a1_0).f0))).setCell ⟨gb124, 1, none⟩ (.int .i64 ((rd_T58 l0 a1_0).f1))).heap[gb124]? = some (.cells #[.int .i64 ((rd_T58 l0 a1_0).f0), .int .i64 ((rd_T58 l0 a1_0).f1)] 58 (0, 0))) := ⟨by (with_reducible repeat (first | refine blk_drewN ?_ _ | refine blk_drew ?_ | refine blk_alloc ?_ _)); refine blk_put (cs := #[.int .i64 ((rd_T58 l0 a1_0).f0), .int .i64 0]) ?_ 1 _ rfl; (with_reducible repeat (first | refine blk_drewN ?_ _ | refine blk_drew ?_ | refine blk_alloc ?_ _)); refine blk_put (cs := #[.int .i64 0, .int .i64 0]) ?_ 0 _ rfl; (with_reducible repeat (first | refine blk_drewN ?_ _ | refine blk_drew ?_ | refine blk_alloc ?_ _)); exact BK124.out⟩
                    have n2_ : Aside0 (Below w.heap.size w ((w60.setCell ⟨gb124, 0, none⟩ (.int .i64 ((rd_T58 l0 a1_0).f0))).setCell ⟨gb124, 1, none⟩ (.int .i64 ((rd_T58 l0 a1_0).f1)))) := ⟨hx_ HB.out⟩
                    (try clear BK122)
                    (try clear BK124)
                    (try clear HB)
                    generalize ((w60.setCell ⟨gb124, 0, none⟩ (.int .i64 ((rd_T58 l0 a1_0).f0))).setCell ⟨gb124, 1, none⟩ (.int .i64 ((rd_T58 l0 a1_0).f1))) = w63 at n0_ n1_ n2_ ⊢
                    have BK122 := n0_
                    have BK124 := n1_
                    have HB := n2_
                    clear n0_ n1_ n2_
                    have n0_ := Aside0.mk (blk_drew BK122.out)
                    have n1_ := Aside0.mk (blk_drew BK124.out)
                    have n2_ := Aside0.mk (below_drew1 HB.out)
                    clear BK122
                    clear BK124
                    clear HB
                    have BK122 := n0_
                    have BK124 := n1_
                    have HB := n2_
                    clear n0_ n1_ n2_
                    refine start_ (n := 17) (S := fun w' => w'.cell? ⟨gb122, 0, none⟩ = some (.int .i64 a1_0) ∧ w'.cell? ⟨gb122, 1, none⟩ = some (.bool false) ∧ w'.cell? ⟨gb122, 2, none⟩ = some (.int .i64 a1_2) ∧ w'.cell? ⟨gb124, 0, none⟩ = some (.int .i64 ((rd_T58 l0 a1_0).f0)) ∧ w'.cell? ⟨gb124, 1, none⟩ = some (.int .i64 ((rd_T58 l0 a1_0).f1))) (ds := []) #[false, false, false, false, false, false, false, false, false, false, false, false, false, false, false, false, false] (by kernel_rfl) rfl rfl ⟨(blk_cell BK122.out 0).trans rfl, (blk_cell BK122.out 1).trans rfl, (blk_cell BK122.out 2).trans rfl, (blk_cell BK124.out 0).trans rfl, (blk_cell BK124.out 1).trans rfl⟩ (fun hHeld => ?_); refine with_tabW spec_l09Cut.tab2 spec_l09Cut.bits2 (fun HT_ HW_ => ?_)
                    generalize w63.drew = w64 at BK122 BK124 HB hHeld ⊢
                    refine pure_ (i := 0) (N := some 13) (v := ?_) (a' := ?_) #[true, false, false, false, false, false, false, false, false, false, false, false, false, false, false, false, false] rfl rfl (any_of HT_.out (by kernel_rfl)) (fun _ _ _ h => h) (Or.inl ⟨by rfl, ?_⟩) ?_ ?_
                    rotate_left
                    · intro w'
                      go_simp
                      with_reducible rfl
                    rotate_left
                    · simp only [Act.put, List.setIfInBounds_toArray, List.set_cons_zero, List.set_cons_succ, i64_w, i32_w]
                      rfl
                    refine pure_ (i := 2) (N := some 15) (v := ?_) (a' := ?_) #[true, false, true, false, false, false, false, false, false, false, false, false, false, false, false, false, false] rfl rfl (any_of HT_.out (by kernel_rfl)) (fun _ _ _ h => h) (Or.inl ⟨by rfl, ?_⟩) ?_ ?_
                    rotate_left
                    · intro w'
                      go_simp
                      with_reducible rfl
                    rotate_left
                    · simp only [Act.put, List.setIfInBounds_toArray, List.set_cons_zero, List.set_cons_succ, i64_w, i32_w]
                      rfl
                    refine pure_ (i := 5) (N := some 18) (v := ?_) (a' := ?_) #[true, false, true, false, false, true, false, false, false, false, false, false, false, false, false, false, false] rfl rfl (any_of HT_.out (by kernel_rfl)) (fun _ _ _ h => h) (Or.inl ⟨by rfl, ?_⟩) ?_ ?_
                    rotate_left
                    · intro w'
                      go_simp
                      with_reducible rfl
                    rotate_left
                    · simp only [Act.put, List.setIfInBounds_toArray, List.set_cons_zero, List.set_cons_succ, i64_w, i32_w]
                      rfl
                    refine pure_ (i := 7) (N := some 20) (v := ?_) (a' := ?_) #[true, false, true, false, false, true, false, true, false, false, false, false, false, false, false, false, false] rfl rfl (any_of HT_.out (by kernel_rfl)) (fun _ _ _ h => h) (Or.inl ⟨by rfl, ?_⟩) ?_ ?_
                    rotate_left
                    · intro w'
                      go_simp
                      with_reducible rfl
                    rotate_left
                    · simp only [Act.put, List.setIfInBounds_toArray, List.set_cons_zero, List.set_cons_succ, i64_w, i32_w]
                      rfl
                    refine pure_ (i := 10) (N := some 23) (v := ?_) (a' := ?_) #[true, false, true, false, false, true, false, true, false, false, true, false, false, false, false, false, false] rfl rfl (any_of HT_.out (by kernel_rfl)) (fun _ _ _ h => h) (Or.inl ⟨by rfl, ?_⟩) ?_ ?_
                    rotate_left
                    · intro w'
                      go_simp
                      with_reducible rfl
                    rotate_left
                    · simp only [Act.put, List.setIfInBounds_toArray, List.set_cons_zero, List.set_cons_succ, i64_w, i32_w]
                      rfl
                    refine take_ (i := 1) (N := some 14) (v := ?_) (a' := ?_) #[true, true, true, false, false, true, false, true, false, false, true, false, false, false, false, false, false] rfl rfl (take_ofW HT_.out HW_.out (by kernel_rfl)) (fun _ _ _ h => h) (Or.inl ⟨by rfl, ?_⟩) hHeld ?_ ?_
                    rotate_left
                    · rintro w' ⟨s0, s1, s2, s3, s4⟩
                      go_simp
                      with_reducible rfl
                    rotate_left
                    · simp only [Act.put, List.setIfInBounds_toArray, List.set_cons_zero, List.set_cons_succ, i64_w, i32_w]
                      rfl
                    refine take_ (i := 3) (N := some 16) (v := ?_) (a' := ?_) #[true, true, true, true, false, true, false, true, false, false, true, false, false, false, false, false, false] rfl rfl (take_ofW HT_.out HW_.out (by kernel_rfl)) (fun _ _ _ h => h) (Or.inl ⟨by rfl, ?_⟩) hHeld ?_ ?_
                    rotate_left
                    · rintro w' ⟨s0, s1, s2, s3, s4⟩
                      go_simp
                      with_reducible rfl
                    rotate_left
                    · simp only [Act.put, List.setIfInBounds_toArray, List.set_cons_zero, List.set_cons_succ, i64_w, i32_w]
                      rfl
                    refine pure_ (i := 4) (N := some 17) (v := ?_) (a' := ?_) #[true, true, true, true, true, true, false, true, false, false, true, false, false, false, false, false, false] rfl rfl (any_of HT_.out (by kernel_rfl)) (fun _ _ _ h => h) (Or.inl ⟨by rfl, ?_⟩) ?_ ?_
                    rotate_left
                    · intro w'
                      go_simp
                      with_reducible rfl
                    rotate_left
                    · simp only [Act.put, List.setIfInBounds_toArray, List.set_cons_zero, List.set_cons_succ, i64_w, i32_w]
                      rfl
                    refine take_ (i := 6) (N := some 19) (v := ?_) (a' := ?_) #[true, true, true, true, true, true, true, true, false, false, true, false, false, false, false, false, false] rfl rfl (take_ofW HT_.out HW_.out (by kernel_rfl)) (fun _ _ _ h => h) (Or.inl ⟨by rfl, ?_⟩) hHeld ?_ ?_
                    rotate_left
                    · rintro w' ⟨s0, s1, s2, s3, s4⟩
                      go_simp
                      with_reducible rfl
                    rotate_left
                    · simp only [Act.put, List.setIfInBounds_toArray, List.set_cons_zero, List.set_cons_succ, i64_w, i32_w]
                      rfl
                    refine take_ (i := 8) (N := some 21) (v := ?_) (a' := ?_) #[true, true, true, true, true, true, true, true, true, false, true, false, false, false, false, false, false] rfl rfl (take_ofW HT_.out HW_.out (by kernel_rfl)) (fun _ _ _ h => h) (Or.inl ⟨by rfl, ?_⟩) hHeld ?_ ?_
                    rotate_left
                    · rintro w' ⟨s0, s1, s2, s3, s4⟩
                      go_simp
                      with_reducible rfl
                    rotate_left
                    · simp only [Act.put, List.setIfInBounds_toArray, List.set_cons_zero, List.set_cons_succ, i64_w, i32_w]
                      rfl
                    refine pure_ (i := 9) (N := some 22) (v := ?_) (a' := ?_) #[true, true, true, true, true, true, true, true, true, true, true, false, false, false, false, false, false] rfl rfl (any_of HT_.out (by kernel_rfl)) (fun _ _ _ h => h) (Or.inl ⟨by rfl, ?_⟩) ?_ ?_
                    rotate_left
                    · intro w'
                      go_simp
                      with_reducible rfl
                    rotate_left
                    · simp only [Act.put, List.setIfInBounds_toArray, List.set_cons_zero, List.set_cons_succ, i64_w, i32_w]
                      rfl
                    refine take_ (i := 11) (N := some 24) (v := ?_) (a' := ?_) #[true, true, true, true, true, true, true, true, true, true, true, true, false, false, false, false, false] rfl rfl (take_ofW HT_.out HW_.out (by kernel_rfl)) (fun _ _ _ h => h) (Or.inl ⟨by rfl, ?_⟩) hHeld ?_ ?_
                    rotate_left
                    · rintro w' ⟨s0, s1, s2, s3, s4⟩
                      go_simp
                      with_reducible rfl
                    rotate_left
                    · simp only [Act.put, List.setIfInBounds_toArray, List.set_cons_zero, List.set_cons_succ, i64_w, i32_w]
                      rfl
                    refine pure_ (i := 12) (N := some 25) (v := ?_) (a' := ?_) #[true, true, true, true, true, true, true, true, true, true, true, true, true, false, false, false, false] rfl rfl (any_of HT_.out (by kernel_rfl)) (fun _ _ _ h => h) (Or.inl ⟨by rfl, ?_⟩) ?_ ?_
                    rotate_left
                    · intro w'
                      go_simp
                      with_reducible rfl
                    rotate_left
                    · simp only [Act.put, List.setIfInBounds_toArray, List.set_cons_zero, List.set_cons_succ, i64_w, i32_w]
                      rfl
                    refine join_ (σ := Nat × Nat) 2 #[true, true, true, true, true, true, true, true, true, true, true, true, true, true, true, false, false] (fun s_ => [(6, .pointer (some ⟨s_.1, 0, none⟩)), (7, .pointer (some ⟨s_.2, 0, none⟩))]) (fun s_ w' => (w'.cell? ⟨gb122, 0, none⟩ = some (.int .i64 a1_0) ∧ w'.cell? ⟨gb122, 1, none⟩ = some (.bool false) ∧ w'.cell? ⟨gb122, 2, none⟩ = some (.int .i64 a1_2) ∧ w'.cell? ⟨gb124, 0, none⟩ = some (.int .i64 ((rd_T58 l0 a1_0).f0)) ∧ w'.cell? ⟨gb124, 1, none⟩ = some (.int .i64 ((rd_T58 l0 a1_0).f1))) ∧ (w'.heap[gb122]? = some (.cells #[.int .i64 a1_0, .bool false, .int .i64 a1_2] 48 (0, 0))) ∧ (w'.heap[gb124]? = some (.cells #[.int .i64 ((rd_T58 l0 a1_0).f0), .int .i64 ((rd_T58 l0 a1_0).f1)] 58 (0, 0))) ∧ (w'.heap[s_.1]? = some (.cells #[.int .i64 0, .int .i64 0] 58 (0, 0))) ∧ (w'.heap[s_.2]? = some (.cells #[.int .i64 0, .int .i64 0] 58 (0, 0))) ∧ (w.heap.size ≤ s_.1) ∧ (w.heap.size ≤ s_.1) ∧ (gb122 ≠ s_.1) ∧ (s_.1 ≠ gb122) ∧ (gb124 ≠ s_.1) ∧ (s_.1 ≠ gb124) ∧ (s_.2 ≠ s_.1) ∧ (s_.1 ≠ s_.2) ∧ (w.heap.size ≤ s_.2) ∧ (w.heap.size ≤ s_.2) ∧ (gb122 ≠ s_.2) ∧ (s_.2 ≠ gb122) ∧ (gb124 ≠ s_.2) ∧ (s_.2 ≠ gb124) ∧ (Below w.heap.size w w')) ?_ ?_
                    rotate_left
                    · intro hCont
                      refine two_ (i := 13) (j := 14) (Ni := some 6) (Nj := some 7) #[true, true, true, true, true, true, true, true, true, true, true, true, true, true, false, false, false] #[true, true, true, true, true, true, true, true, true, true, true, true, true, false, true, false, false] rfl rfl rfl rfl (two_of HT_.out (by kernel_rfl)) (by decide) (by decide) (fun K hK => ?_) (fun K hK => ?_)
                      · skip
                        refine box_step ?hg (N := 6) ?hd (cs := #[.int .i64 0, .int .i64 0]) (t := 58) ?hr ?_; (case hd => rfl); (case hg => rfl); (case hr => first | (go_simp; done) | (go_simp; rfl))
                        intro gb125 hg w65 hbox hb
                        have n0_ := Aside0.mk (blk_below (g := gb122) (o := .cells #[.int .i64 a1_0, .bool false, .int .i64 a1_2] 48 (0, 0)) (bx_ BK122.out) hb)
                        have n1_ := Aside0.mk (blk_below (g := gb124) (o := .cells #[.int .i64 ((rd_T58 l0 a1_0).f0), .int .i64 ((rd_T58 l0 a1_0).f1)] 58 (0, 0)) (bx_ BK124.out) hb)
                        have n2_ := Aside0.mk (below_step (hx_ HB.out) hb)
                        have n3_ := Aside0.mk (hbox)
                        have n4_ := Aside0.mk ((by rw [hg]; exact (below_size (hx_ HB.out)) : w.heap.size ≤ gb125))
                        have n5_ := Aside0.mk ((by rw [hg]; exact (below_size (hx_ HB.out)) : w.heap.size ≤ gb125))
                        have n6_ := Aside0.mk ((by rw [hg]; exact Nat.ne_of_lt (blk_lt (g := gb122) (o := .cells #[.int .i64 a1_0, .bool false, .int .i64 a1_2] 48 (0, 0)) (bx_ BK122.out)) : gb122 ≠ gb125))
                        have n7_ := Aside0.mk ((by rw [hg]; exact Nat.ne_of_gt (blk_lt (g := gb122) (o := .cells #[.int .i64 a1_0, .bool false, .int .i64 a1_2] 48 (0, 0)) (bx_ BK122.out)) : gb125 ≠ gb122))
                        have n8_ := Aside0.mk ((by rw [hg]; exact Nat.ne_of_lt (blk_lt (g := gb124) (o := .cells #[.int .i64 ((rd_T58 l0 a1_0).f0), .int .i64 ((rd_T58 l0 a1_0).f1)] 58 (0, 0)) (bx_ BK124.out)) : gb124 ≠ gb125))
                        have n9_ := Aside0.mk ((by rw [hg]; exact Nat.ne_of_gt (blk_lt (g := gb124) (o := .cells #[.int .i64 ((rd_T58 l0 a1_0).f0), .int .i64 ((rd_T58 l0 a1_0).f1)] 58 (0, 0)) (bx_ BK124.out)) : gb125 ≠ gb124))
                        clear BK122
                        clear BK124
                        clear HB
                        have BK122 := n0_
                        have BK124 := n1_
                        have HB := n2_
                        have BK125 := n3_
                        have GW125 := n4_
                        have GE125 := n5_
                        have NB122_125 := n6_
                        have NB125_122 := n7_
                        have NB124_125 := n8_
                        have NB125_124 := n9_
                        clear n0_ n1_ n2_ n3_ n4_ n5_ n6_ n7_ n8_ n9_
                        clear hb hbox hg
                        refine hK.out _ _ ⟨(blk_cell BK122.out 0).trans rfl, (blk_cell BK122.out 1).trans rfl, (blk_cell BK122.out 2).trans rfl, (blk_cell BK124.out 0).trans rfl, (blk_cell BK124.out 1).trans rfl⟩ (fun hHeld => ?_)
                        clear hK K
                        refine norm_ (a' := ?_) ?_ ?_
                        rotate_left
                        · show Act.put _ (some 6) _ = _
                          simp only [Act.put, List.setIfInBounds_toArray, List.set_cons_zero, List.set_cons_succ, i64_w, i32_w]
                          rfl
                        refine one_ (i := 14) (N := some 7) #[true, true, true, true, true, true, true, true, true, true, true, true, true, true, true, false, false] rfl rfl (one_of HT_.out (by kernel_rfl)) (by decide) (fun K hK => ?_)
                        refine box_step ?hg (N := 7) ?hd (cs := #[.int .i64 0, .int .i64 0]) (t := 58) ?hr ?_; (case hd => rfl); (case hg => rfl); (case hr => first | (go_simp; done) | (go_simp; rfl))
                        intro gb126 hg w66 hbox hb
                        have n0_ := Aside0.mk (blk_below (g := gb122) (o := .cells #[.int .i64 a1_0, .bool false, .int .i64 a1_2] 48 (0, 0)) (bx_ BK122.out) hb)
                        have n1_ := Aside0.mk (blk_below (g := gb124) (o := .cells #[.int .i64 ((rd_T58 l0 a1_0).f0), .int .i64 ((rd_T58 l0 a1_0).f1)] 58 (0, 0)) (bx_ BK124.out) hb)
                        have n2_ := Aside0.mk (blk_below (g := gb125) (o := .cells #[.int .i64 0, .int .i64 0] 58 (0, 0)) (bx_ BK125.out) hb)
                        have n3_ := Aside0.mk (below_step (hx_ HB.out) hb)
                        have n4_ := Aside0.mk (hbox)
                        have n5_ := Aside0.mk ((by rw [hg]; exact (below_size (hx_ HB.out)) : w.heap.size ≤ gb126))
                        have n6_ := Aside0.mk ((by rw [hg]; exact (below_size (hx_ HB.out)) : w.heap.size ≤ gb126))
                        have n7_ := Aside0.mk ((by rw [hg]; exact Nat.ne_of_lt (blk_lt (g := gb122) (o := .cells #[.int .i64 a1_0, .bool false, .int .i64 a1_2] 48 (0, 0)) (bx_ BK122.out)) : gb122 ≠ gb126))
                        have n8_ := Aside0.mk ((by rw [hg]; exact Nat.ne_of_gt (blk_lt (g := gb122) (o := .cells #[.int .i64 a1_0, .bool false, .int .i64 a1_2] 48 (0, 0)) (bx_ BK122.out)) : gb126 ≠ gb122))
                        have n9_ := Aside0.mk ((by rw [hg]; exact Nat.ne_of_lt (blk_lt (g := gb124) (o := .cells #[.int .i64 ((rd_T58 l0 a1_0).f0), .int .i64 ((rd_T58 l0 a1_0).f1)] 58 (0, 0)) (bx_ BK124.out)) : gb124 ≠ gb126))
                        have n10_ := Aside0.mk ((by rw [hg]; exact Nat.ne_of_gt (blk_lt (g := gb124) (o := .cells #[.int .i64 ((rd_T58 l0 a1_0).f0), .int .i64 ((rd_T58 l0 a1_0).f1)] 58 (0, 0)) (bx_ BK124.out)) : gb126 ≠ gb124))
                        have n11_ := Aside0.mk ((by rw [hg]; exact Nat.ne_of_lt (blk_lt (g := gb125) (o := .cells #[.int .i64 0, .int .i64 0] 58 (0, 0)) (bx_ BK125.out)) : gb125 ≠ gb126))
                        have n12_ := Aside0.mk ((by rw [hg]; exact Nat.ne_of_gt (blk_lt (g := gb125) (o := .cells #[.int .i64 0, .int .i64 0] 58 (0, 0)) (bx_ BK125.out)) : gb126 ≠ gb125))
                        clear BK122
                        clear BK124
                        clear BK125
                        clear HB
                        have BK122 := n0_
                        have BK124 := n1_
                        have BK125 := n2_
                        have HB := n3_
                        have BK126 := n4_
                        have GW126 := n5_
                        have GE126 := n6_
                        have NB122_126 := n7_
                        have NB126_122 := n8_
                        have NB124_126 := n9_
                        have NB126_124 := n10_
                        have NB125_126 := n11_
                        have NB126_125 := n12_
                        clear n0_ n1_ n2_ n3_ n4_ n5_ n6_ n7_ n8_ n9_ n10_ n11_ n12_
                        clear hb hbox hg
                        refine hK.out _ _ ⟨(blk_cell BK122.out 0).trans rfl, (blk_cell BK122.out 1).trans rfl, (blk_cell BK122.out 2).trans rfl, (blk_cell BK124.out 0).trans rfl, (blk_cell BK124.out 1).trans rfl⟩ (fun hHeld => ?_)
                        clear hK K
                        refine norm_ (a' := ?_) ?_ ?_
                        rotate_left
                        · show Act.put _ (some 7) _ = _
                          simp only [Act.put, List.setIfInBounds_toArray, List.set_cons_zero, List.set_cons_succ, i64_w, i32_w]
                          rfl
                        exact norm_ (by simp only [putAll, Act.put, List.setIfInBounds_toArray, List.set_cons_zero, List.set_cons_succ]) (hCont (gb125, gb126) _ ⟨hHeld, (bx_ BK122.out), (bx_ BK124.out), (bx_ BK125.out), (bx_ BK126.out), GW125.out, GE125.out, NB122_125.out, NB125_122.out, NB124_125.out, NB125_124.out, NB126_125.out, NB125_126.out, GW126.out, GE126.out, NB122_126.out, NB126_122.out, NB124_126.out, NB126_124.out, (hx_ HB.out)⟩)
                      · skip
                        refine box_step ?hg (N := 7) ?hd (cs := #[.int .i64 0, .int .i64 0]) (t := 58) ?hr ?_; (case hd => rfl); (case hg => rfl); (case hr => first | (go_simp; done) | (go_simp; rfl))
                        intro gb126 hg w65 hbox hb
                        have n0_ := Aside0.mk (blk_below (g := gb122) (o := .cells #[.int .i64 a1_0, .bool false, .int .i64 a1_2] 48 (0, 0)) (bx_ BK122.out) hb)
                        have n1_ := Aside0.mk (blk_below (g := gb124) (o := .cells #[.int .i64 ((rd_T58 l0 a1_0).f0), .int .i64 ((rd_T58 l0 a1_0).f1)] 58 (0, 0)) (bx_ BK124.out) hb)
                        have n2_ := Aside0.mk (below_step (hx_ HB.out) hb)
                        have n3_ := Aside0.mk (hbox)
                        have n4_ := Aside0.mk ((by rw [hg]; exact (below_size (hx_ HB.out)) : w.heap.size ≤ gb126))
                        have n5_ := Aside0.mk ((by rw [hg]; exact (below_size (hx_ HB.out)) : w.heap.size ≤ gb126))
                        have n6_ := Aside0.mk ((by rw [hg]; exact Nat.ne_of_lt (blk_lt (g := gb122) (o := .cells #[.int .i64 a1_0, .bool false, .int .i64 a1_2] 48 (0, 0)) (bx_ BK122.out)) : gb122 ≠ gb126))
                        have n7_ := Aside0.mk ((by rw [hg]; exact Nat.ne_of_gt (blk_lt (g := gb122) (o := .cells #[.int .i64 a1_0, .bool false, .int .i64 a1_2] 48 (0, 0)) (bx_ BK122.out)) : gb126 ≠ gb122))
                        have n8_ := Aside0.mk ((by rw [hg]; exact Nat.ne_of_lt (blk_lt (g := gb124) (o := .cells #[.int .i64 ((rd_T58 l0 a1_0).f0), .int .i64 ((rd_T58 l0 a1_0).f1)] 58 (0, 0)) (bx_ BK124.out)) : gb124 ≠ gb126))
                        have n9_ := Aside0.mk ((by rw [hg]; exact Nat.ne_of_gt (blk_lt (g := gb124) (o := .cells #[.int .i64 ((rd_T58 l0 a1_0).f0), .int .i64 ((rd_T58 l0 a1_0).f1)] 58 (0, 0)) (bx_ BK124.out)) : gb126 ≠ gb124))
                        clear BK122
                        clear BK124
                        clear HB
                        have BK122 := n0_
                        have BK124 := n1_
                        have HB := n2_
                        have BK126 := n3_
                        have GW126 := n4_
                        have GE126 := n5_
                        have NB122_126 := n6_
                        have NB126_122 := n7_
                        have NB124_126 := n8_
                        have NB126_124 := n9_
                        clear n0_ n1_ n2_ n3_ n4_ n5_ n6_ n7_ n8_ n9_
                        clear hb hbox hg
                        refine hK.out _ _ ⟨(blk_cell BK122.out 0).trans rfl, (blk_cell BK122.out 1).trans rfl, (blk_cell BK122.out 2).trans rfl, (blk_cell BK124.out 0).trans rfl, (blk_cell BK124.out 1).trans rfl⟩ (fun hHeld => ?_)
                        clear hK K
                        refine norm_ (a' := ?_) ?_ ?_
                        rotate_left
                        · show Act.put _ (some 7) _ = _
                          simp only [Act.put, List.setIfInBounds_toArray, List.set_cons_zero, List.set_cons_succ, i64_w, i32_w]
                          rfl
                        refine one_ (i := 13) (N := some 6) #[true, true, true, true, true, true, true, true, true, true, true, true, true, true, true, false, false] rfl rfl (one_of HT_.out (by kernel_rfl)) (by decide) (fun K hK => ?_)
                        refine box_step ?hg (N := 6) ?hd (cs := #[.int .i64 0, .int .i64 0]) (t := 58) ?hr ?_; (case hd => rfl); (case hg => rfl); (case hr => first | (go_simp; done) | (go_simp; rfl))
                        intro gb125 hg w66 hbox hb
                        have n0_ := Aside0.mk (blk_below (g := gb122) (o := .cells #[.int .i64 a1_0, .bool false, .int .i64 a1_2] 48 (0, 0)) (bx_ BK122.out) hb)
                        have n1_ := Aside0.mk (blk_below (g := gb124) (o := .cells #[.int .i64 ((rd_T58 l0 a1_0).f0), .int .i64 ((rd_T58 l0 a1_0).f1)] 58 (0, 0)) (bx_ BK124.out) hb)
                        have n2_ := Aside0.mk (blk_below (g := gb126) (o := .cells #[.int .i64 0, .int .i64 0] 58 (0, 0)) (bx_ BK126.out) hb)
                        have n3_ := Aside0.mk (below_step (hx_ HB.out) hb)
                        have n4_ := Aside0.mk (hbox)
                        have n5_ := Aside0.mk ((by rw [hg]; exact (below_size (hx_ HB.out)) : w.heap.size ≤ gb125))
                        have n6_ := Aside0.mk ((by rw [hg]; exact (below_size (hx_ HB.out)) : w.heap.size ≤ gb125))
                        have n7_ := Aside0.mk ((by rw [hg]; exact Nat.ne_of_lt (blk_lt (g := gb122) (o := .cells #[.int .i64 a1_0, .bool false, .int .i64 a1_2] 48 (0, 0)) (bx_ BK122.out)) : gb122 ≠ gb125))
                        have n8_ := Aside0.mk ((by rw [hg]; exact Nat.ne_of_gt (blk_lt (g := gb122) (o := .cells #[.int .i64 a1_0, .bool false, .int .i64 a1_2] 48 (0, 0)) (bx_ BK122.out)) : gb125 ≠ gb122))
                        have n9_ := Aside0.mk ((by rw [hg]; exact Nat.ne_of_lt (blk_lt (g := gb124) (o := .cells #[.int .i64 ((rd_T58 l0 a1_0).f0), .int .i64 ((rd_T58 l0 a1_0).f1)] 58 (0, 0)) (bx_ BK124.out)) : gb124 ≠ gb125))
                        have n10_ := Aside0.mk ((by rw [hg]; exact Nat.ne_of_gt (blk_lt (g := gb124) (o := .cells #[.int .i64 ((rd_T58 l0 a1_0).f0), .int .i64 ((rd_T58 l0 a1_0).f1)] 58 (0, 0)) (bx_ BK124.out)) : gb125 ≠ gb124))
                        have n11_ := Aside0.mk ((by rw [hg]; exact Nat.ne_of_lt (blk_lt (g := gb126) (o := .cells #[.int .i64 0, .int .i64 0] 58 (0, 0)) (bx_ BK126.out)) : gb126 ≠ gb125))
                        have n12_ := Aside0.mk ((by rw [hg]; exact Nat.ne_of_gt (blk_lt (g := gb126) (o := .cells #[.int .i64 0, .int .i64 0] 58 (0, 0)) (bx_ BK126.out)) : gb125 ≠ gb126))
                        clear BK122
                        clear BK124
                        clear BK126
                        clear HB
                        have BK122 := n0_
                        have BK124 := n1_
                        have BK126 := n2_
                        have HB := n3_
                        have BK125 := n4_
                        have GW125 := n5_
                        have GE125 := n6_
                        have NB122_125 := n7_
                        have NB125_122 := n8_
                        have NB124_125 := n9_
                        have NB125_124 := n10_
                        have NB126_125 := n11_
                        have NB125_126 := n12_
                        clear n0_ n1_ n2_ n3_ n4_ n5_ n6_ n7_ n8_ n9_ n10_ n11_ n12_
                        clear hb hbox hg
                        refine hK.out _ _ ⟨(blk_cell BK122.out 0).trans rfl, (blk_cell BK122.out 1).trans rfl, (blk_cell BK122.out 2).trans rfl, (blk_cell BK124.out 0).trans rfl, (blk_cell BK124.out 1).trans rfl⟩ (fun hHeld => ?_)
                        clear hK K
                        refine norm_ (a' := ?_) ?_ ?_
                        rotate_left
                        · show Act.put _ (some 6) _ = _
                          simp only [Act.put, List.setIfInBounds_toArray, List.set_cons_zero, List.set_cons_succ, i64_w, i32_w]
                          rfl
                        exact norm_ (by simp only [putAll, Act.put, List.setIfInBounds_toArray, List.set_cons_zero, List.set_cons_succ]) (hCont (gb125, gb126) _ ⟨hHeld, (bx_ BK122.out), (bx_ BK124.out), (bx_ BK125.out), (bx_ BK126.out), GW125.out, GE125.out, NB122_125.out, NB125_122.out, NB124_125.out, NB125_124.out, NB126_125.out, NB125_126.out, GW126.out, GE126.out, NB122_126.out, NB126_122.out, NB124_126.out, NB126_124.out, (hx_ HB.out)⟩)
                    rintro ⟨gb125, gb126⟩ w67 ⟨hS_, h0_, h1_, h2_, h3_, h4_, h5_, h6_, h7_, h8_, h9_, h10_, h11_, h12_, h13_, h14_, h15_, h16_, h17_, h18_⟩
                    have n0_ : Aside0 (w67.heap[gb122]? = some (.cells #[.int .i64 a1_0, .bool false, .int .i64 a1_2] 48 (0, 0))) := ⟨h0_⟩
                    have n1_ : Aside0 (w67.heap[gb124]? = some (.cells #[.int .i64 ((rd_T58 l0 a1_0).f0), .int .i64 ((rd_T58 l0 a1_0).f1)] 58 (0, 0))) := ⟨h1_⟩
                    have n2_ : Aside0 (w67.heap[gb125]? = some (.cells #[.int .i64 0, .int .i64 0] 58 (0, 0))) := ⟨h2_⟩
                    have n3_ : Aside0 (w67.heap[gb126]? = some (.cells #[.int .i64 0, .int .i64 0] 58 (0, 0))) := ⟨h3_⟩
                    have n4_ : Aside0 (w.heap.size ≤ gb125) := ⟨h4_⟩
                    have n5_ : Aside0 (w.heap.size ≤ gb125) := ⟨h5_⟩
                    have n6_ : Aside0 (gb122 ≠ gb125) := ⟨h6_⟩
                    have n7_ : Aside0 (gb125 ≠ gb122) := ⟨h7_⟩
                    have n8_ : Aside0 (gb124 ≠ gb125) := ⟨h8_⟩
                    have n9_ : Aside0 (gb125 ≠ gb124) := ⟨h9_⟩
                    have n10_ : Aside0 (gb126 ≠ gb125) := ⟨h10_⟩
                    have n11_ : Aside0 (gb125 ≠ gb126) := ⟨h11_⟩
                    have n12_ : Aside0 (w.heap.size ≤ gb126) := ⟨h12_⟩
                    have n13_ : Aside0 (w.heap.size ≤ gb126) := ⟨h13_⟩
                    have n14_ : Aside0 (gb122 ≠ gb126) := ⟨h14_⟩
                    have n15_ : Aside0 (gb126 ≠ gb122) := ⟨h15_⟩
                    have n16_ : Aside0 (gb124 ≠ gb126) := ⟨h16_⟩
                    have n17_ : Aside0 (gb126 ≠ gb124) := ⟨h17_⟩
                    have n18_ : Aside0 (Below w.heap.size w w67) := ⟨h18_⟩
                    clear BK122
                    clear BK124
                    clear HB
                    clear h0_ h1_ h2_ h3_ h4_ h5_ h6_ h7_ h8_ h9_ h10_ h11_ h12_ h13_ h14_ h15_ h16_ h17_ h18_
                    have BK122 := n0_
                    have BK124 := n1_
                    have BK125 := n2_
                    have BK126 := n3_
                    have GW125 := n4_
                    have GE125 := n5_
                    have NB122_125 := n6_
                    have NB125_122 := n7_
                    have NB124_125 := n8_
                    have NB125_124 := n9_
                    have NB126_125 := n10_
                    have NB125_126 := n11_
                    have GW126 := n12_
                    have GE126 := n13_
                    have NB122_126 := n14_
                    have NB126_122 := n15_
                    have NB124_126 := n16_
                    have NB126_124 := n17_
                    have HB := n18_
                    clear n0_ n1_ n2_ n3_ n4_ n5_ n6_ n7_ n8_ n9_ n10_ n11_ n12_ n13_ n14_ n15_ n16_ n17_ n18_
                    have hHeld : w67.cell? ⟨gb122, 0, none⟩ = some (.int .i64 a1_0) ∧ w67.cell? ⟨gb122, 1, none⟩ = some (.bool false) ∧ w67.cell? ⟨gb122, 2, none⟩ = some (.int .i64 a1_2) ∧ w67.cell? ⟨gb124, 0, none⟩ = some (.int .i64 ((rd_T58 l0 a1_0).f0)) ∧ w67.cell? ⟨gb124, 1, none⟩ = some (.int .i64 ((rd_T58 l0 a1_0).f1)) := hS_
                    refine norm_ (a' := ?_) ?_ ?_
                    rotate_left
                    · simp only [putAll, Act.put, List.setIfInBounds_toArray, List.set_cons_zero, List.set_cons_succ]
                      rfl
                    refine one_ (i := 15) (N := none) #[true, true, true, true, true, true, true, true, true, true, true, true, true, true, true, true, false] rfl rfl (one_of HT_.out (by kernel_rfl)) (by decide) (fun K hK => ?_)
                    have hs68 : w67.cell? ⟨gb125, 0, none⟩ = some (.int .i64 0) := (blk_cell BK125.out 0).trans rfl
                    have hfs68 := blk_frozen BK125.out 0
                    have hns68_0 := NB122_125.out
                    have hns68_1 := NB124_125.out
                    have hns68_3 := NB126_125.out
                    have hms68_0 := NB125_122.out
                    have hms68_1 := NB125_124.out
                    have hms68_3 := NB125_126.out
                    have hs69 : w67.cell? ⟨gb125, 1, none⟩ = some (.int .i64 0) := (blk_cell BK125.out 1).trans rfl
                    have hfs69 := blk_frozen BK125.out 1
                    have hns69_0 := NB122_125.out
                    have hns69_1 := NB124_125.out
                    have hns69_3 := NB126_125.out
                    have hms69_0 := NB125_122.out
                    have hms69_1 := NB125_124.out
                    have hms69_3 := NB125_126.out
                    refine skip_ (w1 := ?_) (by rfl) rfl ?_ ?_
                    rotate_left
                    · go_simp
                      rfl
                    refine hK.out _ _ ⟨((cell_far (p := ⟨gb125, _, none⟩) NB122_125.out _).trans (((cell_far (p := ⟨gb125, _, none⟩) NB122_125.out _).trans (hHeld.1)))), ((cell_far (p := ⟨gb125, _, none⟩) NB122_125.out _).trans (((cell_far (p := ⟨gb125, _, none⟩) NB122_125.out _).trans (hHeld.2.1)))), ((cell_far (p := ⟨gb125, _, none⟩) NB122_125.out _).trans (((cell_far (p := ⟨gb125, _, none⟩) NB122_125.out _).trans (hHeld.2.2.1)))), ((cell_far (p := ⟨gb125, _, none⟩) NB124_125.out _).trans (((cell_far (p := ⟨gb125, _, none⟩) NB124_125.out _).trans (hHeld.2.2.2.1)))), ((cell_far (p := ⟨gb125, _, none⟩) NB124_125.out _).trans (((cell_far (p := ⟨gb125, _, none⟩) NB124_125.out _).trans (hHeld.2.2.2.2))))⟩ (fun hHeld => ?_)
                    clear hK K
                    refine one_ (i := 16) (N := none) #[true, true, true, true, true, true, true, true, true, true, true, true, true, true, true, true, true] rfl rfl (one_of HT_.out (by kernel_rfl)) (by decide) (fun K hK => ?_)
                    have hs70 : w67.cell? ⟨gb126, 0, none⟩ = some (.int .i64 0) := (blk_cell BK126.out 0).trans rfl
                    have hfs70 := blk_frozen BK126.out 0
                    have hns70_0 := NB122_126.out
                    have hns70_1 := NB124_126.out
                    have hns70_2 := NB125_126.out
                    have hms70_0 := NB126_122.out
                    have hms70_1 := NB126_124.out
                    have hms70_2 := NB126_125.out
                    have hs71 : w67.cell? ⟨gb126, 1, none⟩ = some (.int .i64 0) := (blk_cell BK126.out 1).trans rfl
                    have hfs71 := blk_frozen BK126.out 1
                    have hns71_0 := NB122_126.out
                    have hns71_1 := NB124_126.out
                    have hns71_2 := NB125_126.out
                    have hms71_0 := NB126_122.out
                    have hms71_1 := NB126_124.out
                    have hms71_2 := NB126_125.out
                    refine skip_ (w1 := ?_) (by rfl) rfl ?_ ?_
                    rotate_left
                    · go_simp
                      rfl
                    refine hK.out _ _ ⟨((cell_far (p := ⟨gb126, _, none⟩) NB122_126.out _).trans (((cell_far (p := ⟨gb126, _, none⟩) NB122_126.out _).trans (hHeld.1)))), ((cell_far (p := ⟨gb126, _, none⟩) NB122_126.out _).trans (((cell_far (p := ⟨gb126, _, none⟩) NB122_126.out _).trans (hHeld.2.1)))), ((cell_far (p := ⟨gb126, _, none⟩) NB122_126.out _).trans (((cell_far (p := ⟨gb126, _, none⟩) NB122_126.out _).trans (hHeld.2.2.1)))), ((cell_far (p := ⟨gb126, _, none⟩) NB124_126.out _).trans (((cell_far (p := ⟨gb126, _, none⟩) NB124_126.out _).trans (hHeld.2.2.2.1)))), ((cell_far (p := ⟨gb126, _, none⟩) NB124_126.out _).trans (((cell_far (p := ⟨gb126, _, none⟩) NB124_126.out _).trans (hHeld.2.2.2.2))))⟩ (fun hHeld => ?_)
                    clear hK K
                    refine done_ (done_of HT_.out (by kernel_rfl)) ?_
                    have hnb72 := NB122_125.out
                    have hnc72 := NB125_122.out
                    have hnb73 := NB122_126.out
                    have hnc73 := NB126_122.out
                    have hcz74_0 : w67.cell? ⟨gb122, 0, none⟩ = some (.int .i64 a1_0) := (blk_cell BK122.out 0).trans rfl
                    have hcz74_1 : w67.cell? ⟨gb122, 1, none⟩ = some (.bool false) := (blk_cell BK122.out 1).trans rfl
                    have hcz74_2 : w67.cell? ⟨gb122, 2, none⟩ = some (.int .i64 a1_2) := (blk_cell BK122.out 2).trans rfl
                    have hfz74_0 := blk_frozen BK122.out 0
                    have hfz74_1 := blk_frozen BK122.out 1
                    have hfz74_2 := blk_frozen BK122.out 2
                    try go_wp2
                    have n0_ : Aside0 (((((w67.setCell ⟨gb125, 0, none⟩ (.int .i64 a1_2)).setCell ⟨gb125, 1, none⟩ (.int .i64 ((rd_T58 l0 a1_0).f1))).setCell ⟨gb126, 0, none⟩ (.int .i64 (wrap64 (((rd_T58 l0 a1_0).f0) - a1_2)))).setCell ⟨gb126, 1, none⟩ (.int .i64 ((rd_T58 l0 a1_0).f1))).heap[gb122]? = some (.cells #[.int .i64 a1_0, .bool false, .int .i64 a1_2] 48 (0, 0))) := ⟨bx_ BK122.out⟩
                    have n1_ : Aside0 (((((w67.setCell ⟨gb125, 0, none⟩ (.int .i64 a1_2)).setCell ⟨gb125, 1, none⟩ (.int .i64 ((rd_T58 l0 a1_0).f1))).setCell ⟨gb126, 0, none⟩ (.int .i64 (wrap64 (((rd_T58 l0 a1_0).f0) - a1_2)))).setCell ⟨gb126, 1, none⟩ (.int .i64 ((rd_T58 l0 a1_0).f1))).heap[gb124]? = some (.cells #[.int .i64 ((rd_T58 l0 a1_0).f0), .int .i64 ((rd_T58 l0 a1_0).f1)] 58 (0, 0))) := ⟨bx_ BK124.out⟩
                    have n2_ : Aside0 (((((w67.setCell ⟨gb125, 0, none⟩ (.int .i64 a1_2)).setCell ⟨gb125, 1, none⟩ (.int .i64 ((rd_T58 l0 a1_0).f1))).setCell ⟨gb126, 0, none⟩ (.int .i64 (wrap64 (((rd_T58 l0 a1_0).f0) - a1_2)))).setCell ⟨gb126, 1, none⟩ (.int .i64 ((rd_T58 l0 a1_0).f1))).heap[gb125]? = some (.cells #[.int .i64 a1_2, .int .i64 ((rd_T58 l0 a1_0).f1)] 58 (0, 0))) := ⟨by (with_reducible repeat (first | refine blk_drewN ?_ _ | refine blk_drew ?_ | refine blk_alloc ?_ _)); refine blk_far ?_ NB125_126.out _; (with_reducible repeat (first | refine blk_drewN ?_ _ | refine blk_drew ?_ | refine blk_alloc ?_ _)); refine blk_far ?_ NB125_126.out _; (with_reducible repeat (first | refine blk_drewN ?_ _ | refine blk_drew ?_ | refine blk_alloc ?_ _)); refine blk_put (cs := #[.int .i64 a1_2, .int .i64 0]) ?_ 1 _ rfl; (with_reducible repeat (first | refine blk_drewN ?_ _ | refine blk_drew ?_ | refine blk_alloc ?_ _)); refine blk_put (cs := #[.int .i64 0, .int .i64 0]) ?_ 0 _ rfl; (with_reducible repeat (first | refine blk_drewN ?_ _ | refine blk_drew ?_ | refine blk_alloc ?_ _)); exact BK125.out⟩
                    have n3_ : Aside0 (((((w67.setCell ⟨gb125, 0, none⟩ (.int .i64 a1_2)).setCell ⟨gb125, 1, none⟩ (.int .i64 ((rd_T58 l0 a1_0).f1))).setCell ⟨gb126, 0, none⟩ (.int .i64 (wrap64 (((rd_T58 l0 a1_0).f0) - a1_2)))).setCell ⟨gb126, 1, none⟩ (.int .i64 ((rd_T58 l0 a1_0).f1))).heap[gb126]? = some (.cells #[.int .i64 (wrap64 (((rd_T58 l0 a1_0).f0) - a1_2)), .int .i64 ((rd_T58 l0 a1_0).f1)] 58 (0, 0))) := ⟨by (with_reducible repeat (first | refine blk_drewN ?_ _ | refine blk_drew ?_ | refine blk_alloc ?_ _)); refine blk_put (cs := #[.int .i64 (wrap64 (((rd_T58 l0 a1_0).f0) - a1_2)), .int .i64 0]) ?_ 1 _ rfl; (with_reducible repeat (first | refine blk_drewN ?_ _ | refine blk_drew ?_ | refine blk_alloc ?_ _)); refine blk_put (cs := #[.int .i64 0, .int .i64 0]) ?_ 0 _ rfl; (with_reducible repeat (first | refine blk_drewN ?_ _ | refine blk_drew ?_ | refine blk_alloc ?_ _)); refine blk_far ?_ NB126_125.out _; (with_reducible repeat (first | refine blk_drewN ?_ _ | refine blk_drew ?_ | refine blk_alloc ?_ _)); refine blk_far ?_ NB126_125.out _; (with_reducible repeat (first | refine blk_drewN ?_ _ | refine blk_drew ?_ | refine blk_alloc ?_ _)); exact BK126.out⟩
                    have n4_ : Aside0 (Below w.heap.size w ((((w67.setCell ⟨gb125, 0, none⟩ (.int .i64 a1_2)).setCell ⟨gb125, 1, none⟩ (.int .i64 ((rd_T58 l0 a1_0).f1))).setCell ⟨gb126, 0, none⟩ (.int .i64 (wrap64 (((rd_T58 l0 a1_0).f0) - a1_2)))).setCell ⟨gb126, 1, none⟩ (.int .i64 ((rd_T58 l0 a1_0).f1)))) := ⟨hx_ HB.out⟩
                    (try clear BK122)
                    (try clear BK124)
                    (try clear BK125)
                    (try clear BK126)
                    (try clear HB)
                    generalize ((((w67.setCell ⟨gb125, 0, none⟩ (.int .i64 a1_2)).setCell ⟨gb125, 1, none⟩ (.int .i64 ((rd_T58 l0 a1_0).f1))).setCell ⟨gb126, 0, none⟩ (.int .i64 (wrap64 (((rd_T58 l0 a1_0).f0) - a1_2)))).setCell ⟨gb126, 1, none⟩ (.int .i64 ((rd_T58 l0 a1_0).f1))) = w75 at n0_ n1_ n2_ n3_ n4_ ⊢
                    have BK122 := n0_
                    have BK124 := n1_
                    have BK125 := n2_
                    have BK126 := n3_
                    have HB := n4_
                    clear n0_ n1_ n2_ n3_ n4_
                    have n0_ := Aside0.mk (blk_drew BK122.out)
                    have n1_ := Aside0.mk (blk_drew BK124.out)
                    have n2_ := Aside0.mk (blk_drew BK125.out)
                    have n3_ := Aside0.mk (blk_drew BK126.out)
                    have n4_ := Aside0.mk (below_drew1 HB.out)
                    clear BK122
                    clear BK124
                    clear BK125
                    clear BK126
                    clear HB
                    have BK122 := n0_
                    have BK124 := n1_
                    have BK125 := n2_
                    have BK126 := n3_
                    have HB := n4_
                    clear n0_ n1_ n2_ n3_ n4_
                    have q77 : (a1_0 : Int) ≤ ((l0.length : Int) : Int) := of_decide_eq_true (by first | (with_reducible assumption) | assumption)
                    obtain ⟨i077, hi077, _, hsz77, _⟩ := info_parts info58
                    have hroom77 : l0.length ≤ c0 := HC0.out
                    have hC77 : Kd.C k58 _ (some ad123) l0.length l0 := HR0.out
                    have hcut77 := cut_to (P := Try.prog) 44 58 .i64 Try.underlying44 hi077 (some ad123) l0.length c0 a1_0 (of_decide_eq_true (by first | (with_reducible assumption) | assumption)) q77 hroom77
                    have hr77 := Kd.C_take (m := (a1_0 : Int).toNat) hC77 (by omega)
                    have hy77 : y153.length = (a1_0 : Int).toNat := (by rw [Ny153.out, List.length_take]; omega)
                    rw [← Ny153.out] at hr77
                    rw [← hy77] at hcut77
                    have HR156 := Aside0.mk hr77
                    have HC156 := Aside0.mk (show y153.length ≤ c0 from by omega)
                    clear hr77 hC77 hroom77 hi077 hsz77
                    have KY77 := Aside0.mk hy77
                    clear hy77
                    replace q77 := eq_true q77
                    have q78 : ((ji54) : Int) ≤ ((l0.length : Int) : Int) := of_decide_eq_true (by first | (with_reducible assumption) | assumption)
                    obtain ⟨i078, hi078, _, hsz78, _⟩ := info_parts info58
                    have hroom78 : l0.length ≤ c0 := HC0.out
                    have hC78 : Kd.C k58 _ (some ad123) l0.length l0 := HR0.out
                    have q078 : (0 : Int) ≤ ((ji54) : Int) := of_decide_eq_true (by first | (with_reducible assumption) | assumption)
                    have hcut78 := cut_from (P := Try.prog) 44 58 .i64 Try.underlying44 hi078 2 hsz78 (some ad123) l0.length c0 (ji54) q078 q78
                    have hr78 := Kd.C_drop (m := ((ji54) : Int).toNat) (c := c0) hC78 (by omega) hroom78
                    obtain ⟨A78, hA78⟩ : ∃ A1, A1 = (if c0 = ((ji54) : Int).toNat then (some ad123) else ((some ad123) : Option Addr).map (·.add (((ji54) : Int).toNat * 2))) := ⟨_, rfl⟩
                    obtain ⟨c78, hc78⟩ : ∃ c1, c1 = c0 - ((ji54) : Int).toNat := ⟨_, rfl⟩
                    have hy78 : y166.length = l0.length - ((ji54) : Int).toNat := (by rw [Ny166.out, List.length_drop] <;> omega)
                    rw [show (l0).drop ((ji54) : Int).toNat = y166 from Ny166.out.symm] at hr78
                    replace hr78 : Kd.C k58 _ A78 y166.length y166 := (by rw [hA78]; exact hr78)
                    rw [← hy78, ← hA78, ← hc78] at hcut78
                    have HR169 := Aside0.mk hr78
                    have HC169 := Aside0.mk (show y166.length ≤ c78 from by rw [hy78, hc78]; exact Nat.sub_le_sub_right hroom78 _)
                    clear hr78 hC78 hroom78 hi078 hsz78 hc78
                    have KY78 := Aside0.mk hy78
                    have KA78 := Aside0.mk hA78
                    clear hy78 hA78
                    replace q78 := eq_true q78
                    refine start_ (n := 17) (S := fun w' => w'.cell? ⟨gb122, 0, none⟩ = some (.int .i64 a1_0) ∧ w'.cell? ⟨gb122, 1, none⟩ = some (.bool false) ∧ w'.cell? ⟨gb122, 2, none⟩ = some (.int .i64 a1_2) ∧ w'.cell? ⟨gb125, 0, none⟩ = some (.int .i64 a1_2) ∧ w'.cell? ⟨gb125, 1, none⟩ = some (.int .i64 ((rd_T58 l0 a1_0).f1)) ∧ w'.cell? ⟨gb126, 0, none⟩ = some (.int .i64 (wrap64 (((rd_T58 l0 a1_0).f0) - a1_2))) ∧ w'.cell? ⟨gb126, 1, none⟩ = some (.int .i64 ((rd_T58 l0 a1_0).f1))) (ds := []) #[false, false, false, false, false, false, false, false, false, false, false, false, false, false, false, false, false] (by kernel_rfl) rfl rfl ⟨(blk_cell BK122.out 0).trans rfl, (blk_cell BK122.out 1).trans rfl, (blk_cell BK122.out 2).trans rfl, (blk_cell BK125.out 0).trans rfl, (blk_cell BK125.out 1).trans rfl, (blk_cell BK126.out 0).trans rfl, (blk_cell BK126.out 1).trans rfl⟩ (fun hHeld => ?_); refine with_tabW spec_l09Cut.tab5 spec_l09Cut.bits5 (fun HT_ HW_ => ?_)
                    generalize w75.drew = w76 at BK122 BK124 BK125 BK126 HB HR156 HR169 hHeld ⊢
                    refine pure_ (i := 1) (N := some 42) (v := ?_) (a' := ?_) #[false, true, false, false, false, false, false, false, false, false, false, false, false, false, false, false, false] rfl rfl (any_of HT_.out (by kernel_rfl)) (fun _ _ _ h => h) (Or.inl ⟨by rfl, ?_⟩) ?_ ?_
                    rotate_left
                    · intro w'
                      go_simp
                      with_reducible rfl
                    rotate_left
                    · simp only [Act.put, List.setIfInBounds_toArray, List.set_cons_zero, List.set_cons_succ, i64_w, i32_w]
                      rfl
                    refine pure_ (i := 2) (N := some 43) (v := ?_) (a' := ?_) #[false, true, true, false, false, false, false, false, false, false, false, false, false, false, false, false, false] rfl rfl (any_of HT_.out (by kernel_rfl)) (fun _ _ _ h => h) (Or.inl ⟨by rfl, ?_⟩) ?_ ?_
                    rotate_left
                    · intro w'
                      go_simp
                      with_reducible rfl
                    rotate_left
                    · simp only [Act.put, List.setIfInBounds_toArray, List.set_cons_zero, List.set_cons_succ, i64_w, i32_w]
                      rfl
                    refine pure_ (i := 10) (N := some 51) (v := ?_) (a' := ?_) #[false, true, true, false, false, false, false, false, false, false, true, false, false, false, false, false, false] rfl rfl (any_of HT_.out (by kernel_rfl)) (fun _ _ _ h => h) (Or.inl ⟨by rfl, ?_⟩) ?_ ?_
                    rotate_left
                    · intro w'
                      go_simp
                      with_reducible rfl
                    rotate_left
                    · simp only [Act.put, List.setIfInBounds_toArray, List.set_cons_zero, List.set_cons_succ, i64_w, i32_w]
                      rfl
                    refine pure_ (i := 11) (N := some 52) (v := ?_) (a' := ?_) #[false, true, true, false, false, false, false, false, false, false, true, true, false, false, false, false, false] rfl rfl (any_of HT_.out (by kernel_rfl)) (fun _ _ _ h => h) (Or.inl ⟨by rfl, ?_⟩) ?_ ?_
                    rotate_left
                    · intro w'
                      go_simp
                      with_reducible rfl
                    rotate_left
                    · simp only [Act.put, List.setIfInBounds_toArray, List.set_cons_zero, List.set_cons_succ, i64_w, i32_w]
                      rfl
                    refine take_ (i := 3) (N := some 44) (v := ?_) (a' := ?_) #[false, true, true, true, false, false, false, false, false, false, true, true, false, false, false, false, false] rfl rfl (take_ofW HT_.out HW_.out (by kernel_rfl)) (fun _ _ _ h => h) (Or.inl ⟨by rfl, ?_⟩) hHeld ?_ ?_
                    rotate_left
                    · rintro w' ⟨s0, s1, s2, s3, s4, s5, s6⟩
                      go_simp
                      with_reducible rfl
                    rotate_left
                    · simp only [Act.put, List.setIfInBounds_toArray, List.set_cons_zero, List.set_cons_succ, i64_w, i32_w]
                      rfl
                    refine pure_ (i := 4) (N := some 45) (v := ?_) (a' := ?_) #[false, true, true, true, true, false, false, false, false, false, true, true, false, false, false, false, false] rfl rfl (any_of HT_.out (by kernel_rfl)) (fun _ _ _ h => h) (Or.inl ⟨by rfl, ?_⟩) ?_ ?_
                    rotate_left
                    · intro w'
                      go_simp
                      with_reducible rfl
                    rotate_left
                    · simp only [Act.put, List.setIfInBounds_toArray, List.set_cons_zero, List.set_cons_succ, i64_w, i32_w]
                      rfl
                    refine take_ (i := 6) (N := some 47) (v := ?_) (a' := ?_) #[false, true, true, true, true, false, true, false, false, false, true, true, false, false, false, false, false] rfl rfl (take_ofW HT_.out HW_.out (by kernel_rfl)) (fun _ _ _ h => h) (Or.inl ⟨by rfl, ?_⟩) hHeld ?_ ?_
                    rotate_left
                    · rintro w' ⟨s0, s1, s2, s3, s4, s5, s6⟩
                      go_simp
                      with_reducible rfl
                    rotate_left
                    · simp only [Act.put, List.setIfInBounds_toArray, List.set_cons_zero, List.set_cons_succ, i64_w, i32_w]
                      rfl
                    refine take_ (i := 7) (N := some 48) (v := ?_) (a' := ?_) #[false, true, true, true, true, false, true, true, false, false, true, true, false, false, false, false, false] rfl rfl (take_ofW HT_.out HW_.out (by kernel_rfl)) (fun _ _ _ h => h) (Or.inl ⟨by rfl, ?_⟩) hHeld ?_ ?_
                    rotate_left
                    · rintro w' ⟨s0, s1, s2, s3, s4, s5, s6⟩
                      go_simp
                      with_reducible rfl
                    rotate_left
                    · simp only [Act.put, List.setIfInBounds_toArray, List.set_cons_zero, List.set_cons_succ, i64_w, i32_w]
                      rfl
                    refine take_ (i := 12) (N := some 53) (v := ?_) (a' := ?_) #[false, true, true, true, true, false, true, true, false, false, true, true, true, false, false, false, false] rfl rfl (take_ofW HT_.out HW_.out (by kernel_rfl)) (fun _ _ _ h => h) (Or.inl ⟨by rfl, ?_⟩) hHeld ?_ ?_
                    rotate_left
                    · rintro w' ⟨s0, s1, s2, s3, s4, s5, s6⟩
                      go_simp
                      with_reducible rfl
                    rotate_left
                    · simp only [Act.put, List.setIfInBounds_toArray, List.set_cons_zero, List.set_cons_succ, i64_w, i32_w]
                      rfl
                    refine pure_ (i := 13) (N := some 54) (v := ?_) (a' := ?_) #[false, true, true, true, true, false, true, true, false, false, true, true, true, true, false, false, false] rfl rfl (any_of HT_.out (by kernel_rfl)) (fun _ _ _ h => h) (Or.inl ⟨by rfl, ?_⟩) ?_ ?_
                    rotate_left
                    · intro w'
                      go_simp
                      with_reducible rfl
                    rotate_left
                    · simp only [Act.put, List.setIfInBounds_toArray, List.set_cons_zero, List.set_cons_succ, i64_w, i32_w]
                      rfl
                    refine pure_ (i := 14) (N := some 55) (v := ?_) (a' := ?_) #[false, true, true, true, true, false, true, true, false, false, true, true, true, true, true, false, false] rfl rfl (any_of HT_.out (by kernel_rfl)) (fun _ _ _ h => h) (Or.inl ⟨by rfl, ?_⟩) ?_ ?_
                    rotate_left
                    · intro w'
                      go_simp
                      with_reducible rfl
                    rotate_left
                    · simp only [Act.put, List.setIfInBounds_toArray, List.set_cons_zero, List.set_cons_succ, i64_w, i32_w]
                      rfl
                    refine join_ (σ := Value × Value × Value) 3 #[true, true, true, true, true, true, true, true, true, false, true, true, true, true, true, false, false] (fun s_ => [(41, s_.1), (46, s_.2.1), (49, s_.2.2)]) (fun s_ w' => (w'.cell? ⟨gb122, 0, none⟩ = some (.int .i64 a1_0) ∧ w'.cell? ⟨gb122, 1, none⟩ = some (.bool false) ∧ w'.cell? ⟨gb122, 2, none⟩ = some (.int .i64 a1_2) ∧ w'.cell? ⟨gb125, 0, none⟩ = some (.int .i64 a1_2) ∧ w'.cell? ⟨gb125, 1, none⟩ = some (.int .i64 ((rd_T58 l0 a1_0).f1)) ∧ w'.cell? ⟨gb126, 0, none⟩ = some (.int .i64 (wrap64 (((rd_T58 l0 a1_0).f0) - a1_2))) ∧ w'.cell? ⟨gb126, 1, none⟩ = some (.int .i64 ((rd_T58 l0 a1_0).f1))) ∧ (Kd.R k58 58 w' w.heap.size (fun k_ => some k_ ≠ (s_.2.2 : Value).ownBlock ∧ k_ ≠ gb124 ∧ k_ ≠ gb125 ∧ k_ ≠ gb126) s_.2.1 y157) ∧ (Kd.R k58 58 w' w.heap.size (fun k_ => some k_ ≠ (s_.2.1 : Value).ownBlock ∧ k_ ≠ gb124 ∧ k_ ≠ gb125 ∧ k_ ≠ gb126) s_.2.2 y160) ∧ (w'.heap[gb122]? = some (.cells #[.int .i64 a1_0, .bool false, .int .i64 a1_2] 48 (0, 0))) ∧ (w'.heap[gb124]? = some (.cells #[.int .i64 ((rd_T58 l0 a1_0).f0), .int .i64 ((rd_T58 l0 a1_0).f1)] 58 (0, 0))) ∧ (w'.heap[gb125]? = some (.cells #[.int .i64 a1_2, .int .i64 ((rd_T58 l0 a1_0).f1)] 58 (0, 0))) ∧ (w'.heap[gb126]? = some (.cells #[.int .i64 (wrap64 (((rd_T58 l0 a1_0).f0) - a1_2)), .int .i64 ((rd_T58 l0 a1_0).f1)] 58 (0, 0))) ∧ (Below w.heap.size w w')) ?_ ?_
                    rotate_left
                    · intro hCont
                      refine two_ (i := 0) (j := 8) (Ni := some 41) (Nj := some 49) #[true, true, true, true, true, false, true, true, false, false, true, true, true, true, true, false, false] #[false, true, true, true, true, false, true, true, true, false, true, true, true, true, true, false, false] rfl rfl rfl rfl (two_of HT_.out (by kernel_rfl)) (by decide) (by decide) (fun K hK => ?_) (fun K hK => ?_)
                      · skip
                        refine Kd.R_lit_step k58 _ 58 ?hg (N := 41) ?hd (xs := ([] : List (S58))) (inner := []) (ok := fun _ => True) (okp := fun _ => True) ?hr ?hp (fun _ hk => hk) trivial (Below.refl _ _) (Nat.le_refl _) (by simp) ?_; (case hd => rfl); (case hg => rfl); (case hr => first | (go_simp; done) | (go_simp; rfl)); (case hp => exact (Reps.none _ _))
                        intro v151 w79 ho80 hb hg_ hnew_
                        clear hg_ hnew_
                        (first | rw [← Ny150.out] at ho80 | (simp only [Int.reduceToNat] at ho80; rw [← Ny150.out] at ho80))
                        have n0_ := Aside0.mk (Kd.R_lower (Kd.R_newB (Kd.R_newB (Kd.R_newB ho80 (g := gb124) (o := .cells #[.int .i64 ((rd_T58 l0 a1_0).f0), .int .i64 ((rd_T58 l0 a1_0).f1)] 58 (0, 0)) (bx_ BK124.out)) (g := gb125) (o := .cells #[.int .i64 a1_2, .int .i64 ((rd_T58 l0 a1_0).f1)] 58 (0, 0)) (bx_ BK125.out)) (g := gb126) (o := .cells #[.int .i64 (wrap64 (((rd_T58 l0 a1_0).f0) - a1_2)), .int .i64 ((rd_T58 l0 a1_0).f1)] 58 (0, 0)) (bx_ BK126.out)) (below_size (hx_ HB.out)))
                        have n1_ := Aside0.mk (blk_below (g := gb122) (o := .cells #[.int .i64 a1_0, .bool false, .int .i64 a1_2] 48 (0, 0)) (bx_ BK122.out) hb)
                        have n2_ := Aside0.mk (blk_below (g := gb124) (o := .cells #[.int .i64 ((rd_T58 l0 a1_0).f0), .int .i64 ((rd_T58 l0 a1_0).f1)] 58 (0, 0)) (bx_ BK124.out) hb)
                        have n3_ := Aside0.mk (blk_below (g := gb125) (o := .cells #[.int .i64 a1_2, .int .i64 ((rd_T58 l0 a1_0).f1)] 58 (0, 0)) (bx_ BK125.out) hb)
                        have n4_ := Aside0.mk (blk_below (g := gb126) (o := .cells #[.int .i64 (wrap64 (((rd_T58 l0 a1_0).f0) - a1_2)), .int .i64 ((rd_T58 l0 a1_0).f1)] 58 (0, 0)) (bx_ BK126.out) hb)
                        have n5_ := Aside0.mk (below_step (hx_ HB.out) hb)
                        clear BK122
                        clear BK124
                        clear BK125
                        clear BK126
                        clear HB
                        have HO152 := n0_
                        have BK122 := n1_
                        have BK124 := n2_
                        have BK125 := n3_
                        have BK126 := n4_
                        have HB := n5_
                        clear n0_ n1_ n2_ n3_ n4_ n5_
                        clear hb ho80
                        refine hK.out _ _ ⟨(blk_cell BK122.out 0).trans rfl, (blk_cell BK122.out 1).trans rfl, (blk_cell BK122.out 2).trans rfl, (blk_cell BK125.out 0).trans rfl, (blk_cell BK125.out 1).trans rfl, (blk_cell BK126.out 0).trans rfl, (blk_cell BK126.out 1).trans rfl⟩ (fun hHeld => ?_)
                        clear hK K
                        refine norm_ (a' := ?_) ?_ ?_
                        rotate_left
                        · show Act.put _ (some 41) _ = _
                          simp only [Act.put, List.setIfInBounds_toArray, List.set_cons_zero, List.set_cons_succ, i64_w, i32_w]
                          rfl
                        refine two_ (i := 5) (j := 8) (Ni := some 46) (Nj := some 49) #[true, true, true, true, true, true, true, true, false, false, true, true, true, true, true, false, false] #[true, true, true, true, true, false, true, true, true, false, true, true, true, true, true, false, false] rfl rfl rfl rfl (two_of HT_.out (by kernel_rfl)) (by decide) (by decide) (fun K hK => ?_) (fun K hK => ?_)
                        · skip
                          refine Kd.R_append_rows_step k58 (w0 := w) w.heap.size (by rfl) (.tmp 41) (.tmp 45) 44 58 (.agg #[(.int .i64 0), (.int .i64 0)]) 16 rfl Try.underlying44 info58 rfl (by decide) (by omega) v151 y150 y153 _ _ _ (fun k_ => k_ ≠ gb124 ∧ k_ ≠ gb125 ∧ k_ ≠ gb126) (fun _ => False) rfl rfl ?aO ?aR (fun _ _ h => h) (fun _ h => h.elim) ?aF ?aB ?aS ?aL ?_
                          (case aR => repeat (first | exact (Kd.C_below HR156.out HB.out) | (with_reducible refine Kd.C_alloc ?_ _) | (with_reducible refine Kd.C_drewN ?_ _) | (with_reducible refine Kd.C_drew ?_)))
                          (case aB => exact (hx_ HB.out))
                          (case aF => exact (fun k_ hk => ⟨Kd.freshB (g := gb124) (o := .cells #[.int .i64 ((rd_T58 l0 a1_0).f0), .int .i64 ((rd_T58 l0 a1_0).f1)] 58 (0, 0)) (bx_ BK124.out) k_ hk, Kd.freshB (g := gb125) (o := .cells #[.int .i64 a1_2, .int .i64 ((rd_T58 l0 a1_0).f1)] 58 (0, 0)) (bx_ BK125.out) k_ hk, Kd.freshB (g := gb126) (o := .cells #[.int .i64 (wrap64 (((rd_T58 l0 a1_0).f0) - a1_2)), .int .i64 ((rd_T58 l0 a1_0).f1)] 58 (0, 0)) (bx_ BK126.out) k_ hk⟩))
                          (case aO => exact (by (with_reducible repeat (first | apply Kd.R_alloc | apply Kd.R_drewN | apply Kd.R_drew)); exact Kd.R_mono HO152.out (fun _ hk => ⟨hk.1.1.2, ⟨hk.1.2, hk.2⟩⟩)))
                          (case aS => exact (below_size (hx_ HB.out)))
                          (case aL => have := LMc52.out; omega)
                          intro v158 w81 ho hb hg hat
                          rw [← Ny157.out] at ho
                          have n0_ := Aside0.mk (blk_grown (g := gb122) (o := .cells #[.int .i64 a1_0, .bool false, .int .i64 a1_2] 48 (0, 0)) (bx_ BK122.out) hg (Kd.R_ne HO152.out BK122.out (by decide)))
                          have n1_ := Aside0.mk (blk_grown (g := gb124) (o := .cells #[.int .i64 ((rd_T58 l0 a1_0).f0), .int .i64 ((rd_T58 l0 a1_0).f1)] 58 (0, 0)) (bx_ BK124.out) hg (Kd.R_away HO152.out (fun _ hk => hk.1.1.2)))
                          have n2_ := Aside0.mk (blk_grown (g := gb125) (o := .cells #[.int .i64 a1_2, .int .i64 ((rd_T58 l0 a1_0).f1)] 58 (0, 0)) (bx_ BK125.out) hg (Kd.R_away HO152.out (fun _ hk => hk.1.2)))
                          have n3_ := Aside0.mk (blk_grown (g := gb126) (o := .cells #[.int .i64 (wrap64 (((rd_T58 l0 a1_0).f0) - a1_2)), .int .i64 ((rd_T58 l0 a1_0).f1)] 58 (0, 0)) (bx_ BK126.out) hg (Kd.R_away HO152.out (fun _ hk => hk.2)))
                          have n4_ := Aside0.mk (hb)
                          have n5_ := Aside0.mk (ho)
                          clear BK122
                          clear BK124
                          clear BK125
                          clear BK126
                          clear HB
                          clear HO152
                          have BK122 := n0_
                          have BK124 := n1_
                          have BK125 := n2_
                          have BK126 := n3_
                          have HB := n4_
                          have HO159 := n5_
                          clear n0_ n1_ n2_ n3_ n4_ n5_
                          clear ho hb hg hat
                          refine hK.out _ _ ⟨(blk_cell BK122.out 0).trans rfl, (blk_cell BK122.out 1).trans rfl, (blk_cell BK122.out 2).trans rfl, (blk_cell BK125.out 0).trans rfl, (blk_cell BK125.out 1).trans rfl, (blk_cell BK126.out 0).trans rfl, (blk_cell BK126.out 1).trans rfl⟩ (fun hHeld => ?_)
                          clear hK K
                          refine norm_ (a' := ?_) ?_ ?_
                          rotate_left
                          · show Act.put _ (some 46) _ = _
                            simp only [Act.put, List.setIfInBounds_toArray, List.set_cons_zero, List.set_cons_succ, i64_w, i32_w]
                            rfl
                          refine one_ (i := 8) (N := some 49) #[true, true, true, true, true, true, true, true, true, false, true, true, true, true, true, false, false] rfl rfl (one_of HT_.out (by kernel_rfl)) (by decide) (fun K hK => ?_)
                          refine Kd.R_lit_step k58 _ 58 ?hg (N := 49) ?hd (xs := ([(⟨a1_2, (rd_T58 l0 a1_0).f1⟩ : S58), (⟨wrap64 (((rd_T58 l0 a1_0).f0) - a1_2), (rd_T58 l0 a1_0).f1⟩ : S58)] : List (S58))) (inner := [.int .i64 a1_2, .int .i64 ((rd_T58 l0 a1_0).f1), .int .i64 (wrap64 (((rd_T58 l0 a1_0).f0) - a1_2)), .int .i64 ((rd_T58 l0 a1_0).f1)]) (ok := fun _ => True) (okp := fun _ => True) ?hr ?hp (fun _ hk => hk) trivial (Below.refl _ _) (Nat.le_refl _) (by simp) ?_; (case hd => rfl); (case hg => rfl); (case hr => first | (go_simp; done) | (go_simp; rfl)); (case hp => exact (Reps.c2 (show Kd.M k58 _ _ _ (⟨a1_2, (rd_T58 l0 a1_0).f1⟩ : S58) [.int .i64 a1_2, .int .i64 ((rd_T58 l0 a1_0).f1)] from (k58_mkM _ _ _ (⟨a1_2, (rd_T58 l0 a1_0).f1⟩ : S58) )) (Reps.c2 (show Kd.M k58 _ _ _ (⟨wrap64 (((rd_T58 l0 a1_0).f0) - a1_2), (rd_T58 l0 a1_0).f1⟩ : S58) [.int .i64 (wrap64 (((rd_T58 l0 a1_0).f0) - a1_2)), .int .i64 ((rd_T58 l0 a1_0).f1)] from (k58_mkM _ _ _ (⟨wrap64 (((rd_T58 l0 a1_0).f0) - a1_2), (rd_T58 l0 a1_0).f1⟩ : S58) )) (Reps.none _ _))))
                          intro v161 w82 ho83 hb hg_ hnew_
                          clear hg_ hnew_
                          (first | rw [← Ny160.out] at ho83 | (simp only [Int.reduceToNat] at ho83; rw [← Ny160.out] at ho83))
                          have n0_ := Aside0.mk (Kd.R_elder' (rx_ HO159.out) (Kd.R_base ho83) hb)
                          have n1_ := Aside0.mk (Kd.R_lower (Kd.R_newB (Kd.R_newB (Kd.R_newB (Kd.R_new' ho83 (Kd.R_lt (rx_ HO159.out))) (g := gb124) (o := .cells #[.int .i64 ((rd_T58 l0 a1_0).f0), .int .i64 ((rd_T58 l0 a1_0).f1)] 58 (0, 0)) (bx_ BK124.out)) (g := gb125) (o := .cells #[.int .i64 a1_2, .int .i64 ((rd_T58 l0 a1_0).f1)] 58 (0, 0)) (bx_ BK125.out)) (g := gb126) (o := .cells #[.int .i64 (wrap64 (((rd_T58 l0 a1_0).f0) - a1_2)), .int .i64 ((rd_T58 l0 a1_0).f1)] 58 (0, 0)) (bx_ BK126.out)) (below_size (hx_ HB.out)))
                          have n2_ := Aside0.mk (blk_below (g := gb122) (o := .cells #[.int .i64 a1_0, .bool false, .int .i64 a1_2] 48 (0, 0)) (bx_ BK122.out) hb)
                          have n3_ := Aside0.mk (blk_below (g := gb124) (o := .cells #[.int .i64 ((rd_T58 l0 a1_0).f0), .int .i64 ((rd_T58 l0 a1_0).f1)] 58 (0, 0)) (bx_ BK124.out) hb)
                          have n4_ := Aside0.mk (blk_below (g := gb125) (o := .cells #[.int .i64 a1_2, .int .i64 ((rd_T58 l0 a1_0).f1)] 58 (0, 0)) (bx_ BK125.out) hb)
                          have n5_ := Aside0.mk (blk_below (g := gb126) (o := .cells #[.int .i64 (wrap64 (((rd_T58 l0 a1_0).f0) - a1_2)), .int .i64 ((rd_T58 l0 a1_0).f1)] 58 (0, 0)) (bx_ BK126.out) hb)
                          have n6_ := Aside0.mk (below_step (hx_ HB.out) hb)
                          clear HO159
                          clear BK122
                          clear BK124
                          clear BK125
                          clear BK126
                          clear HB
                          have HO159 := n0_
                          have HO162 := n1_
                          have BK122 := n2_
                          have BK124 := n3_
                          have BK125 := n4_
                          have BK126 := n5_
                          have HB := n6_
                          clear n0_ n1_ n2_ n3_ n4_ n5_ n6_
                          clear hb ho83
                          refine hK.out _ _ ⟨(blk_cell BK122.out 0).trans rfl, (blk_cell BK122.out 1).trans rfl, (blk_cell BK122.out 2).trans rfl, (blk_cell BK125.out 0).trans rfl, (blk_cell BK125.out 1).trans rfl, (blk_cell BK126.out 0).trans rfl, (blk_cell BK126.out 1).trans rfl⟩ (fun hHeld => ?_)
                          clear hK K
                          refine norm_ (a' := ?_) ?_ ?_
                          rotate_left
                          · show Act.put _ (some 49) _ = _
                            simp only [Act.put, List.setIfInBounds_toArray, List.set_cons_zero, List.set_cons_succ, i64_w, i32_w]
                            rfl
                          exact norm_ (by simp only [putAll, Act.put, List.setIfInBounds_toArray, List.set_cons_zero, List.set_cons_succ]) (hCont (v151, v158, v161) _ ⟨hHeld, (by (with_reducible repeat (first | apply Kd.R_alloc | apply Kd.R_drewN | apply Kd.R_drew)); exact Kd.R_mono HO159.out (fun _ hk => ⟨hk.2, ⟨hk.1.1, ⟨hk.1.2.1, hk.1.2.2⟩⟩⟩)), (by (with_reducible repeat (first | apply Kd.R_alloc | apply Kd.R_drewN | apply Kd.R_drew)); exact Kd.R_mono HO162.out (fun _ hk => ⟨hk.1.1.1.2, ⟨hk.1.1.2, ⟨hk.1.2, hk.2⟩⟩⟩)), (bx_ BK122.out), (bx_ BK124.out), (bx_ BK125.out), (bx_ BK126.out), (hx_ HB.out)⟩)
                        · skip
                          refine Kd.R_lit_step k58 _ 58 ?hg (N := 49) ?hd (xs := ([(⟨a1_2, (rd_T58 l0 a1_0).f1⟩ : S58), (⟨wrap64 (((rd_T58 l0 a1_0).f0) - a1_2), (rd_T58 l0 a1_0).f1⟩ : S58)] : List (S58))) (inner := [.int .i64 a1_2, .int .i64 ((rd_T58 l0 a1_0).f1), .int .i64 (wrap64 (((rd_T58 l0 a1_0).f0) - a1_2)), .int .i64 ((rd_T58 l0 a1_0).f1)]) (ok := fun _ => True) (okp := fun _ => True) ?hr ?hp (fun _ hk => hk) trivial (Below.refl _ _) (Nat.le_refl _) (by simp) ?_; (case hd => rfl); (case hg => rfl); (case hr => first | (go_simp; done) | (go_simp; rfl)); (case hp => exact (Reps.c2 (show Kd.M k58 _ _ _ (⟨a1_2, (rd_T58 l0 a1_0).f1⟩ : S58) [.int .i64 a1_2, .int .i64 ((rd_T58 l0 a1_0).f1)] from (k58_mkM _ _ _ (⟨a1_2, (rd_T58 l0 a1_0).f1⟩ : S58) )) (Reps.c2 (show Kd.M k58 _ _ _ (⟨wrap64 (((rd_T58 l0 a1_0).f0) - a1_2), (rd_T58 l0 a1_0).f1⟩ : S58) [.int .i64 (wrap64 (((rd_T58 l0 a1_0).f0) - a1_2)), .int .i64 ((rd_T58 l0 a1_0).f1)] from (k58_mkM _ _ _ (⟨wrap64 (((rd_T58 l0 a1_0).f0) - a1_2), (rd_T58 l0 a1_0).f1⟩ : S58) )) (Reps.none _ _))))
                          intro v161 w81 ho82 hb hg_ hnew_
                          clear hg_ hnew_
                          (first | rw [← Ny160.out] at ho82 | (simp only [Int.reduceToNat] at ho82; rw [← Ny160.out] at ho82))
                          have n0_ := Aside0.mk (Kd.R_elder' (rx_ HO152.out) (Kd.R_base ho82) hb)
                          have n1_ := Aside0.mk (Kd.R_lower (Kd.R_newB (Kd.R_newB (Kd.R_newB (Kd.R_new' ho82 (Kd.R_lt (rx_ HO152.out))) (g := gb124) (o := .cells #[.int .i64 ((rd_T58 l0 a1_0).f0), .int .i64 ((rd_T58 l0 a1_0).f1)] 58 (0, 0)) (bx_ BK124.out)) (g := gb125) (o := .cells #[.int .i64 a1_2, .int .i64 ((rd_T58 l0 a1_0).f1)] 58 (0, 0)) (bx_ BK125.out)) (g := gb126) (o := .cells #[.int .i64 (wrap64 (((rd_T58 l0 a1_0).f0) - a1_2)), .int .i64 ((rd_T58 l0 a1_0).f1)] 58 (0, 0)) (bx_ BK126.out)) (below_size (hx_ HB.out)))
                          have n2_ := Aside0.mk (blk_below (g := gb122) (o := .cells #[.int .i64 a1_0, .bool false, .int .i64 a1_2] 48 (0, 0)) (bx_ BK122.out) hb)
                          have n3_ := Aside0.mk (blk_below (g := gb124) (o := .cells #[.int .i64 ((rd_T58 l0 a1_0).f0), .int .i64 ((rd_T58 l0 a1_0).f1)] 58 (0, 0)) (bx_ BK124.out) hb)
                          have n4_ := Aside0.mk (blk_below (g := gb125) (o := .cells #[.int .i64 a1_2, .int .i64 ((rd_T58 l0 a1_0).f1)] 58 (0, 0)) (bx_ BK125.out) hb)
                          have n5_ := Aside0.mk (blk_below (g := gb126) (o := .cells #[.int .i64 (wrap64 (((rd_T58 l0 a1_0).f0) - a1_2)), .int .i64 ((rd_T58 l0 a1_0).f1)] 58 (0, 0)) (bx_ BK126.out) hb)
                          have n6_ := Aside0.mk (below_step (hx_ HB.out) hb)
                          clear HO152
                          clear BK122
                          clear BK124
                          clear BK125
                          clear BK126
                          clear HB
                          have HO152 := n0_
                          have HO162 := n1_
                          have BK122 := n2_
                          have BK124 := n3_
                          have BK125 := n4_
                          have BK126 := n5_
                          have HB := n6_
                          clear n0_ n1_ n2_ n3_ n4_ n5_ n6_
                          clear hb ho82
                          refine hK.out _ _ ⟨(blk_cell BK122.out 0).trans rfl, (blk_cell BK122.out 1).trans rfl, (blk_cell BK122.out 2).trans rfl, (blk_cell BK125.out 0).trans rfl, (blk_cell BK125.out 1).trans rfl, (blk_cell BK126.out 0).trans rfl, (blk_cell BK126.out 1).trans rfl⟩ (fun hHeld => ?_)
                          clear hK K
                          refine norm_ (a' := ?_) ?_ ?_
                          rotate_left
                          · show Act.put _ (some 49) _ = _
                            simp only [Act.put, List.setIfInBounds_toArray, List.set_cons_zero, List.set_cons_succ, i64_w, i32_w]
                            rfl
                          refine one_ (i := 5) (N := some 46) #[true, true, true, true, true, true, true, true, true, false, true, true, true, true, true, false, false] rfl rfl (one_of HT_.out (by kernel_rfl)) (by decide) (fun K hK => ?_)
                          refine Kd.R_append_rows_step k58 (w0 := w) w.heap.size (by rfl) (.tmp 41) (.tmp 45) 44 58 (.agg #[(.int .i64 0), (.int .i64 0)]) 16 rfl Try.underlying44 info58 rfl (by decide) (by omega) v151 y150 y153 _ _ _ (fun k_ => some k_ ≠ (v161 : Value).ownBlock ∧ k_ ≠ gb124 ∧ k_ ≠ gb125 ∧ k_ ≠ gb126) (fun _ => False) rfl rfl ?aO ?aR (fun _ _ h => h) (fun _ h => h.elim) ?aF ?aB ?aS ?aL ?_
                          (case aR => repeat (first | exact (Kd.C_below HR156.out HB.out) | (with_reducible refine Kd.C_alloc ?_ _) | (with_reducible refine Kd.C_drewN ?_ _) | (with_reducible refine Kd.C_drew ?_)))
                          (case aB => exact (hx_ HB.out))
                          (case aF => exact (fun k_ hk => ⟨Kd.fresh' (Kd.R_lt (rx_ HO162.out)) k_ hk, Kd.freshB (g := gb124) (o := .cells #[.int .i64 ((rd_T58 l0 a1_0).f0), .int .i64 ((rd_T58 l0 a1_0).f1)] 58 (0, 0)) (bx_ BK124.out) k_ hk, Kd.freshB (g := gb125) (o := .cells #[.int .i64 a1_2, .int .i64 ((rd_T58 l0 a1_0).f1)] 58 (0, 0)) (bx_ BK125.out) k_ hk, Kd.freshB (g := gb126) (o := .cells #[.int .i64 (wrap64 (((rd_T58 l0 a1_0).f0) - a1_2)), .int .i64 ((rd_T58 l0 a1_0).f1)] 58 (0, 0)) (bx_ BK126.out) k_ hk⟩))
                          (case aO => exact (by (with_reducible repeat (first | apply Kd.R_alloc | apply Kd.R_drewN | apply Kd.R_drew)); exact Kd.R_mono HO152.out (fun _ hk => ⟨hk.2, ⟨hk.1.1.1.2, ⟨hk.1.1.2, hk.1.2⟩⟩⟩)))
                          (case aS => exact (below_size (hx_ HB.out)))
                          (case aL => have := LMc52.out; omega)
                          intro v158 w83 ho hb hg hat
                          rw [← Ny157.out] at ho
                          have n0_ := Aside0.mk (blk_grown (g := gb122) (o := .cells #[.int .i64 a1_0, .bool false, .int .i64 a1_2] 48 (0, 0)) (bx_ BK122.out) hg (Kd.R_ne HO152.out BK122.out (by decide)))
                          have n1_ := Aside0.mk (blk_grown (g := gb124) (o := .cells #[.int .i64 ((rd_T58 l0 a1_0).f0), .int .i64 ((rd_T58 l0 a1_0).f1)] 58 (0, 0)) (bx_ BK124.out) hg (Kd.R_away HO152.out (fun _ hk => hk.1.1.1.2)))
                          have n2_ := Aside0.mk (blk_grown (g := gb125) (o := .cells #[.int .i64 a1_2, .int .i64 ((rd_T58 l0 a1_0).f1)] 58 (0, 0)) (bx_ BK125.out) hg (Kd.R_away HO152.out (fun _ hk => hk.1.1.2)))
                          have n3_ := Aside0.mk (blk_grown (g := gb126) (o := .cells #[.int .i64 (wrap64 (((rd_T58 l0 a1_0).f0) - a1_2)), .int .i64 ((rd_T58 l0 a1_0).f1)] 58 (0, 0)) (bx_ BK126.out) hg (Kd.R_away HO152.out (fun _ hk => hk.1.2)))
                          have n4_ := Aside0.mk (Kd.R_after (ok := (fun k_ => k_ ≠ gb124 ∧ k_ ≠ gb125 ∧ k_ ≠ gb126)) (by (with_reducible repeat (first | apply Kd.R_alloc | apply Kd.R_drewN | apply Kd.R_drew)); exact Kd.R_mono HO162.out (fun _ hk => ⟨⟨hk.1.1.2, ⟨hk.1.2, hk.2⟩⟩, hk.1.1.1.2⟩)) hg hat)
                          have n5_ := Aside0.mk (hb)
                          have n6_ := Aside0.mk (ho)
                          clear BK122
                          clear BK124
                          clear BK125
                          clear BK126
                          clear HO162
                          clear HB
                          clear HO152
                          have BK122 := n0_
                          have BK124 := n1_
                          have BK125 := n2_
                          have BK126 := n3_
                          have HO162 := n4_
                          have HB := n5_
                          have HO159 := n6_
                          clear n0_ n1_ n2_ n3_ n4_ n5_ n6_
                          clear ho hb hg hat
                          refine hK.out _ _ ⟨(blk_cell BK122.out 0).trans rfl, (blk_cell BK122.out 1).trans rfl, (blk_cell BK122.out 2).trans rfl, (blk_cell BK125.out 0).trans rfl, (blk_cell BK125.out 1).trans rfl, (blk_cell BK126.out 0).trans rfl, (blk_cell BK126.out 1).trans rfl⟩ (fun hHeld => ?_)
                          clear hK K
                          refine norm_ (a' := ?_) ?_ ?_
                          rotate_left
                          · show Act.put _ (some 46) _ = _
                            simp only [Act.put, List.setIfInBounds_toArray, List.set_cons_zero, List.set_cons_succ, i64_w, i32_w]
                            rfl
                          exact norm_ (by simp only [putAll, Act.put, List.setIfInBounds_toArray, List.set_cons_zero, List.set_cons_succ]) (hCont (v151, v158, v161) _ ⟨hHeld, (rx_ HO159.out), (by (with_reducible repeat (first | apply Kd.R_alloc | apply Kd.R_drewN | apply Kd.R_drew)); exact Kd.R_mono HO162.out (fun _ hk => ⟨hk.2, ⟨hk.1.1, ⟨hk.1.2.1, hk.1.2.2⟩⟩⟩)), (bx_ BK122.out), (bx_ BK124.out), (bx_ BK125.out), (bx_ BK126.out), (hx_ HB.out)⟩)
                      · skip
                        refine Kd.R_lit_step k58 _ 58 ?hg (N := 49) ?hd (xs := ([(⟨a1_2, (rd_T58 l0 a1_0).f1⟩ : S58), (⟨wrap64 (((rd_T58 l0 a1_0).f0) - a1_2), (rd_T58 l0 a1_0).f1⟩ : S58)] : List (S58))) (inner := [.int .i64 a1_2, .int .i64 ((rd_T58 l0 a1_0).f1), .int .i64 (wrap64 (((rd_T58 l0 a1_0).f0) - a1_2)), .int .i64 ((rd_T58 l0 a1_0).f1)]) (ok := fun _ => True) (okp := fun _ => True) ?hr ?hp (fun _ hk => hk) trivial (Below.refl _ _) (Nat.le_refl _) (by simp) ?_; (case hd => rfl); (case hg => rfl); (case hr => first | (go_simp; done) | (go_simp; rfl)); (case hp => exact (Reps.c2 (show Kd.M k58 _ _ _ (⟨a1_2, (rd_T58 l0 a1_0).f1⟩ : S58) [.int .i64 a1_2, .int .i64 ((rd_T58 l0 a1_0).f1)] from (k58_mkM _ _ _ (⟨a1_2, (rd_T58 l0 a1_0).f1⟩ : S58) )) (Reps.c2 (show Kd.M k58 _ _ _ (⟨wrap64 (((rd_T58 l0 a1_0).f0) - a1_2), (rd_T58 l0 a1_0).f1⟩ : S58) [.int .i64 (wrap64 (((rd_T58 l0 a1_0).f0) - a1_2)), .int .i64 ((rd_T58 l0 a1_0).f1)] from (k58_mkM _ _ _ (⟨wrap64 (((rd_T58 l0 a1_0).f0) - a1_2), (rd_T58 l0 a1_0).f1⟩ : S58) )) (Reps.none _ _))))
                        intro v161 w79 ho80 hb hg_ hnew_
                        clear hg_ hnew_
                        (first | rw [← Ny160.out] at ho80 | (simp only [Int.reduceToNat] at ho80; rw [← Ny160.out] at ho80))
                        have n0_ := Aside0.mk (Kd.R_lower (Kd.R_newB (Kd.R_newB (Kd.R_newB ho80 (g := gb124) (o := .cells #[.int .i64 ((rd_T58 l0 a1_0).f0), .int .i64 ((rd_T58 l0 a1_0).f1)] 58 (0, 0)) (bx_ BK124.out)) (g := gb125) (o := .cells #[.int .i64 a1_2, .int .i64 ((rd_T58 l0 a1_0).f1)] 58 (0, 0)) (bx_ BK125.out)) (g := gb126) (o := .cells #[.int .i64 (wrap64 (((rd_T58 l0 a1_0).f0) - a1_2)), .int .i64 ((rd_T58 l0 a1_0).f1)] 58 (0, 0)) (bx_ BK126.out)) (below_size (hx_ HB.out)))
                        have n1_ := Aside0.mk (blk_below (g := gb122) (o := .cells #[.int .i64 a1_0, .bool false, .int .i64 a1_2] 48 (0, 0)) (bx_ BK122.out) hb)
                        have n2_ := Aside0.mk (blk_below (g := gb124) (o := .cells #[.int .i64 ((rd_T58 l0 a1_0).f0), .int .i64 ((rd_T58 l0 a1_0).f1)] 58 (0, 0)) (bx_ BK124.out) hb)
                        have n3_ := Aside0.mk (blk_below (g := gb125) (o := .cells #[.int .i64 a1_2, .int .i64 ((rd_T58 l0 a1_0).f1)] 58 (0, 0)) (bx_ BK125.out) hb)
                        have n4_ := Aside0.mk (blk_below (g := gb126) (o := .cells #[.int .i64 (wrap64 (((rd_T58 l0 a1_0).f0) - a1_2)), .int .i64 ((rd_T58 l0 a1_0).f1)] 58 (0, 0)) (bx_ BK126.out) hb)
                        have n5_ := Aside0.mk (below_step (hx_ HB.out) hb)
                        clear BK122
                        clear BK124
                        clear BK125
                        clear BK126
                        clear HB
                        have HO162 := n0_
                        have BK122 := n1_
                        have BK124 := n2_
                        have BK125 := n3_
                        have BK126 := n4_
                        have HB := n5_
                        clear n0_ n1_ n2_ n3_ n4_ n5_
                        clear hb ho80
                        refine hK.out _ _ ⟨(blk_cell BK122.out 0).trans rfl, (blk_cell BK122.out 1).trans rfl, (blk_cell BK122.out 2).trans rfl, (blk_cell BK125.out 0).trans rfl, (blk_cell BK125.out 1).trans rfl, (blk_cell BK126.out 0).trans rfl, (blk_cell BK126.out 1).trans rfl⟩ (fun hHeld => ?_)
                        clear hK K
                        refine norm_ (a' := ?_) ?_ ?_
                        rotate_left
                        · show Act.put _ (some 49) _ = _
                          simp only [Act.put, List.setIfInBounds_toArray, List.set_cons_zero, List.set_cons_succ, i64_w, i32_w]
                          rfl
                        refine one_ (i := 0) (N := some 41) #[true, true, true, true, true, false, true, true, true, false, true, true, true, true, true, false, false] rfl rfl (one_of HT_.out (by kernel_rfl)) (by decide) (fun K hK => ?_)
                        refine Kd.R_lit_step k58 _ 58 ?hg (N := 41) ?hd (xs := ([] : List (S58))) (inner := []) (ok := fun _ => True) (okp := fun _ => True) ?hr ?hp (fun _ hk => hk) trivial (Below.refl _ _) (Nat.le_refl _) (by simp) ?_; (case hd => rfl); (case hg => rfl); (case hr => first | (go_simp; done) | (go_simp; rfl)); (case hp => exact (Reps.none _ _))
                        intro v151 w81 ho82 hb hg_ hnew_
                        clear hg_ hnew_
                        (first | rw [← Ny150.out] at ho82 | (simp only [Int.reduceToNat] at ho82; rw [← Ny150.out] at ho82))
                        have n0_ := Aside0.mk (Kd.R_elder' (rx_ HO162.out) (Kd.R_base ho82) hb)
                        have n1_ := Aside0.mk (Kd.R_lower (Kd.R_newB (Kd.R_newB (Kd.R_newB (Kd.R_new' ho82 (Kd.R_lt (rx_ HO162.out))) (g := gb124) (o := .cells #[.int .i64 ((rd_T58 l0 a1_0).f0), .int .i64 ((rd_T58 l0 a1_0).f1)] 58 (0, 0)) (bx_ BK124.out)) (g := gb125) (o := .cells #[.int .i64 a1_2, .int .i64 ((rd_T58 l0 a1_0).f1)] 58 (0, 0)) (bx_ BK125.out)) (g := gb126) (o := .cells #[.int .i64 (wrap64 (((rd_T58 l0 a1_0).f0) - a1_2)), .int .i64 ((rd_T58 l0 a1_0).f1)] 58 (0, 0)) (bx_ BK126.out)) (below_size (hx_ HB.out)))
                        have n2_ := Aside0.mk (blk_below (g := gb122) (o := .cells #[.int .i64 a1_0, .bool false, .int .i64 a1_2] 48 (0, 0)) (bx_ BK122.out) hb)
                        have n3_ := Aside0.mk (blk_below (g := gb124) (o := .cells #[.int .i64 ((rd_T58 l0 a1_0).f0), .int .i64 ((rd_T58 l0 a1_0).f1)] 58 (0, 0)) (bx_ BK124.out) hb)
                        have n4_ := Aside0.mk (blk_below (g := gb125) (o := .cells #[.int .i64 a1_2, .int .i64 ((rd_T58 l0 a1_0).f1)] 58 (0, 0)) (bx_ BK125.out) hb)
                        have n5_ := Aside0.mk (blk_below (g := gb126) (o := .cells #[.int .i64 (wrap64 (((rd_T58 l0 a1_0).f0) - a1_2)), .int .i64 ((rd_T58 l0 a1_0).f1)] 58 (0, 0)) (bx_ BK126.out) hb)
                        have n6_ := Aside0.mk (below_step (hx_ HB.out) hb)
                        clear HO162
                        clear BK122
                        clear BK124
                        clear BK125
                        clear BK126
                        clear HB
                        have HO162 := n0_
                        have HO152 := n1_
                        have BK122 := n2_
                        have BK124 := n3_
                        have BK125 := n4_
                        have BK126 := n5_
                        have HB := n6_
                        clear n0_ n1_ n2_ n3_ n4_ n5_ n6_
                        clear hb ho82
                        refine hK.out _ _ ⟨(blk_cell BK122.out 0).trans rfl, (blk_cell BK122.out 1).trans rfl, (blk_cell BK122.out 2).trans rfl, (blk_cell BK125.out 0).trans rfl, (blk_cell BK125.out 1).trans rfl, (blk_cell BK126.out 0).trans rfl, (blk_cell BK126.out 1).trans rfl⟩ (fun hHeld => ?_)
                        clear hK K
                        refine norm_ (a' := ?_) ?_ ?_
                        rotate_left
                        · show Act.put _ (some 41) _ = _
                          simp only [Act.put, List.setIfInBounds_toArray, List.set_cons_zero, List.set_cons_succ, i64_w, i32_w]
                          rfl
                        refine one_ (i := 5) (N := some 46) #[true, true, true, true, true, true, true, true, true, false, true, true, true, true, true, false, false] rfl rfl (one_of HT_.out (by kernel_rfl)) (by decide) (fun K hK => ?_)
                        refine Kd.R_append_rows_step k58 (w0 := w) w.heap.size (by rfl) (.tmp 41) (.tmp 45) 44 58 (.agg #[(.int .i64 0), (.int .i64 0)]) 16 rfl Try.underlying44 info58 rfl (by decide) (by omega) v151 y150 y153 _ _ _ (fun k_ => some k_ ≠ (v161 : Value).ownBlock ∧ k_ ≠ gb124 ∧ k_ ≠ gb125 ∧ k_ ≠ gb126) (fun _ => False) rfl rfl ?aO ?aR (fun _ _ h => h) (fun _ h => h.elim) ?aF ?aB ?aS ?aL ?_
                        (case aR => repeat (first | exact (Kd.C_below HR156.out HB.out) | (with_reducible refine Kd.C_alloc ?_ _) | (with_reducible refine Kd.C_drewN ?_ _) | (with_reducible refine Kd.C_drew ?_)))
                        (case aB => exact (hx_ HB.out))
                        (case aF => exact (fun k_ hk => ⟨Kd.fresh' (Kd.R_lt (rx_ HO162.out)) k_ hk, Kd.freshB (g := gb124) (o := .cells #[.int .i64 ((rd_T58 l0 a1_0).f0), .int .i64 ((rd_T58 l0 a1_0).f1)] 58 (0, 0)) (bx_ BK124.out) k_ hk, Kd.freshB (g := gb125) (o := .cells #[.int .i64 a1_2, .int .i64 ((rd_T58 l0 a1_0).f1)] 58 (0, 0)) (bx_ BK125.out) k_ hk, Kd.freshB (g := gb126) (o := .cells #[.int .i64 (wrap64 (((rd_T58 l0 a1_0).f0) - a1_2)), .int .i64 ((rd_T58 l0 a1_0).f1)] 58 (0, 0)) (bx_ BK126.out) k_ hk⟩))
                        (case aO => exact (by (with_reducible repeat (first | apply Kd.R_alloc | apply Kd.R_drewN | apply Kd.R_drew)); exact Kd.R_mono HO152.out (fun _ hk => ⟨hk.1.1.1.2, ⟨hk.1.1.2, ⟨hk.1.2, hk.2⟩⟩⟩)))
                        (case aS => exact (below_size (hx_ HB.out)))
                        (case aL => have := LMc52.out; omega)
                        intro v158 w83 ho hb hg hat
                        rw [← Ny157.out] at ho
                        have n0_ := Aside0.mk (blk_grown (g := gb122) (o := .cells #[.int .i64 a1_0, .bool false, .int .i64 a1_2] 48 (0, 0)) (bx_ BK122.out) hg (Kd.R_ne HO152.out BK122.out (by decide)))
                        have n1_ := Aside0.mk (blk_grown (g := gb124) (o := .cells #[.int .i64 ((rd_T58 l0 a1_0).f0), .int .i64 ((rd_T58 l0 a1_0).f1)] 58 (0, 0)) (bx_ BK124.out) hg (Kd.R_away HO152.out (fun _ hk => hk.1.1.2)))
                        have n2_ := Aside0.mk (blk_grown (g := gb125) (o := .cells #[.int .i64 a1_2, .int .i64 ((rd_T58 l0 a1_0).f1)] 58 (0, 0)) (bx_ BK125.out) hg (Kd.R_away HO152.out (fun _ hk => hk.1.2)))
                        have n3_ := Aside0.mk (blk_grown (g := gb126) (o := .cells #[.int .i64 (wrap64 (((rd_T58 l0 a1_0).f0) - a1_2)), .int .i64 ((rd_T58 l0 a1_0).f1)] 58 (0, 0)) (bx_ BK126.out) hg (Kd.R_away HO152.out (fun _ hk => hk.2)))
                        have n4_ := Aside0.mk (Kd.R_after (ok := (fun k_ => k_ ≠ gb124 ∧ k_ ≠ gb125 ∧ k_ ≠ gb126)) (by (with_reducible repeat (first | apply Kd.R_alloc | apply Kd.R_drewN | apply Kd.R_drew)); exact Kd.R_mono HO162.out (fun _ hk => ⟨⟨hk.1.1.1.2, ⟨hk.1.1.2, hk.1.2⟩⟩, hk.2⟩)) hg hat)
                        have n5_ := Aside0.mk (hb)
                        have n6_ := Aside0.mk (ho)
                        clear BK122
                        clear BK124
                        clear BK125
                        clear BK126
                        clear HO162
                        clear HB
                        clear HO152
                        have BK122 := n0_
                        have BK124 := n1_
                        have BK125 := n2_
                        have BK126 := n3_
                        have HO162 := n4_
                        have HB := n5_
                        have HO159 := n6_
                        clear n0_ n1_ n2_ n3_ n4_ n5_ n6_
                        clear ho hb hg hat
                        refine hK.out _ _ ⟨(blk_cell BK122.out 0).trans rfl, (blk_cell BK122.out 1).trans rfl, (blk_cell BK122.out 2).trans rfl, (blk_cell BK125.out 0).trans rfl, (blk_cell BK125.out 1).trans rfl, (blk_cell BK126.out 0).trans rfl, (blk_cell BK126.out 1).trans rfl⟩ (fun hHeld => ?_)
                        clear hK K
                        refine norm_ (a' := ?_) ?_ ?_
                        rotate_left
                        · show Act.put _ (some 46) _ = _
                          simp only [Act.put, List.setIfInBounds_toArray, List.set_cons_zero, List.set_cons_succ, i64_w, i32_w]
                          rfl
                        exact norm_ (by simp only [putAll, Act.put, List.setIfInBounds_toArray, List.set_cons_zero, List.set_cons_succ]) (hCont (v151, v158, v161) _ ⟨hHeld, (rx_ HO159.out), (by (with_reducible repeat (first | apply Kd.R_alloc | apply Kd.R_drewN | apply Kd.R_drew)); exact Kd.R_mono HO162.out (fun _ hk => ⟨hk.2, ⟨hk.1.1, ⟨hk.1.2.1, hk.1.2.2⟩⟩⟩)), (bx_ BK122.out), (bx_ BK124.out), (bx_ BK125.out), (bx_ BK126.out), (hx_ HB.out)⟩)
                    rintro ⟨v151, v158, v161⟩ w84 ⟨hS_, h0_, h1_, h2_, h3_, h4_, h5_, h6_⟩
                    have n0_ : Aside0 (Kd.R k58 58 w84 w.heap.size (fun k_ => some k_ ≠ (v161 : Value).ownBlock ∧ k_ ≠ gb124 ∧ k_ ≠ gb125 ∧ k_ ≠ gb126) v158 y157) := ⟨h0_⟩
                    have n1_ : Aside0 (Kd.R k58 58 w84 w.heap.size (fun k_ => some k_ ≠ (v158 : Value).ownBlock ∧ k_ ≠ gb124 ∧ k_ ≠ gb125 ∧ k_ ≠ gb126) v161 y160) := ⟨h1_⟩
                    have n2_ : Aside0 (w84.heap[gb122]? = some (.cells #[.int .i64 a1_0, .bool false, .int .i64 a1_2] 48 (0, 0))) := ⟨h2_⟩
                    have n3_ : Aside0 (w84.heap[gb124]? = some (.cells #[.int .i64 ((rd_T58 l0 a1_0).f0), .int .i64 ((rd_T58 l0 a1_0).f1)] 58 (0, 0))) := ⟨h3_⟩
                    have n4_ : Aside0 (w84.heap[gb125]? = some (.cells #[.int .i64 a1_2, .int .i64 ((rd_T58 l0 a1_0).f1)] 58 (0, 0))) := ⟨h4_⟩
                    have n5_ : Aside0 (w84.heap[gb126]? = some (.cells #[.int .i64 (wrap64 (((rd_T58 l0 a1_0).f0) - a1_2)), .int .i64 ((rd_T58 l0 a1_0).f1)] 58 (0, 0))) := ⟨h5_⟩
                    have n6_ : Aside0 (Below w.heap.size w w84) := ⟨h6_⟩
                    clear BK122
                    clear BK124
                    clear BK125
                    clear BK126
                    clear HB
                    clear h0_ h1_ h2_ h3_ h4_ h5_ h6_
                    have HO159 := n0_
                    have HO162 := n1_
                    have BK122 := n2_
                    have BK124 := n3_
                    have BK125 := n4_
                    have BK126 := n5_
                    have HB := n6_
                    clear n0_ n1_ n2_ n3_ n4_ n5_ n6_
                    have hHeld : w84.cell? ⟨gb122, 0, none⟩ = some (.int .i64 a1_0) ∧ w84.cell? ⟨gb122, 1, none⟩ = some (.bool false) ∧ w84.cell? ⟨gb122, 2, none⟩ = some (.int .i64 a1_2) ∧ w84.cell? ⟨gb125, 0, none⟩ = some (.int .i64 a1_2) ∧ w84.cell? ⟨gb125, 1, none⟩ = some (.int .i64 ((rd_T58 l0 a1_0).f1)) ∧ w84.cell? ⟨gb126, 0, none⟩ = some (.int .i64 (wrap64 (((rd_T58 l0 a1_0).f0) - a1_2))) ∧ w84.cell? ⟨gb126, 1, none⟩ = some (.int .i64 ((rd_T58 l0 a1_0).f1)) := hS_
                    obtain ⟨Ao86, co86, eo86⟩ := Kd.R_slice HO162.out
                    (first | subst eo86 | (injection eo86 with f1_ f2_ f3_; have f4_ := f1_.symm; have f5_ := f3_.symm; clear f1_ f2_ f3_; subst f4_; subst f5_))
                    refine norm_ (a' := ?_) ?_ ?_
                    rotate_left
                    · simp only [putAll, Act.put, List.setIfInBounds_toArray, List.set_cons_zero, List.set_cons_succ]
                      rfl
                    refine one_ (i := 9) (N := some 50) #[true, true, true, true, true, true, true, true, true, true, true, true, true, true, true, false, false] rfl rfl (one_of HT_.out (by kernel_rfl)) (by decide) (fun K hK => ?_)
                    refine Kd.R_append_rows_step k58 (w0 := w) w.heap.size (by rfl) (.tmp 46) (.tmp 49) 44 58 (.agg #[(.int .i64 0), (.int .i64 0)]) 16 rfl Try.underlying44 info58 rfl (by decide) (by omega) v158 y157 y160 _ _ _ (fun k_ => some k_ ≠ (.slice Ao86 y160.length co86 : Value).ownBlock ∧ k_ ≠ gb124 ∧ k_ ≠ gb125 ∧ k_ ≠ gb126) (fun _ => False) rfl rfl ?aO ?aR (fun _ _ h => h) (fun _ h => h.elim) ?aF ?aB ?aS ?aL ?_
                    (case aR => repeat (first | exact (Kd.R_reads' HO162.out).2.2 | (with_reducible refine Kd.C_alloc ?_ _) | (with_reducible refine Kd.C_drewN ?_ _) | (with_reducible refine Kd.C_drew ?_)))
                    (case aB => exact (hx_ HB.out))
                    (case aF => exact (fun k_ hk => ⟨Kd.fresh' (Kd.R_lt (rx_ HO162.out)) k_ hk, Kd.freshB (g := gb124) (o := .cells #[.int .i64 ((rd_T58 l0 a1_0).f0), .int .i64 ((rd_T58 l0 a1_0).f1)] 58 (0, 0)) (bx_ BK124.out) k_ hk, Kd.freshB (g := gb125) (o := .cells #[.int .i64 a1_2, .int .i64 ((rd_T58 l0 a1_0).f1)] 58 (0, 0)) (bx_ BK125.out) k_ hk, Kd.freshB (g := gb126) (o := .cells #[.int .i64 (wrap64 (((rd_T58 l0 a1_0).f0) - a1_2)), .int .i64 ((rd_T58 l0 a1_0).f1)] 58 (0, 0)) (bx_ BK126.out) k_ hk⟩))
                    (case aO => exact (rx_ HO159.out))
                    (case aS => exact (below_size (hx_ HB.out)))
                    (case aL => have := LMc53.out; omega)
                    intro v164 w85 ho hb hg hat
                    rw [← Ny163.out] at ho
                    have n0_ := Aside0.mk (blk_grown (g := gb122) (o := .cells #[.int .i64 a1_0, .bool false, .int .i64 a1_2] 48 (0, 0)) (bx_ BK122.out) hg (Kd.R_ne HO159.out BK122.out (by decide)))
                    have n1_ := Aside0.mk (blk_grown (g := gb124) (o := .cells #[.int .i64 ((rd_T58 l0 a1_0).f0), .int .i64 ((rd_T58 l0 a1_0).f1)] 58 (0, 0)) (bx_ BK124.out) hg (Kd.R_away HO159.out (fun _ hk => hk.2.1)))
                    have n2_ := Aside0.mk (blk_grown (g := gb125) (o := .cells #[.int .i64 a1_2, .int .i64 ((rd_T58 l0 a1_0).f1)] 58 (0, 0)) (bx_ BK125.out) hg (Kd.R_away HO159.out (fun _ hk => hk.2.2.1)))
                    have n3_ := Aside0.mk (blk_grown (g := gb126) (o := .cells #[.int .i64 (wrap64 (((rd_T58 l0 a1_0).f0) - a1_2)), .int .i64 ((rd_T58 l0 a1_0).f1)] 58 (0, 0)) (bx_ BK126.out) hg (Kd.R_away HO159.out (fun _ hk => hk.2.2.2)))
                    have n4_ := Aside0.mk (Kd.R_after (ok := (fun k_ => k_ ≠ gb124 ∧ k_ ≠ gb125 ∧ k_ ≠ gb126)) (by (with_reducible repeat (first | apply Kd.R_alloc | apply Kd.R_drewN | apply Kd.R_drew)); exact Kd.R_mono HO162.out (fun _ hk => ⟨⟨hk.2.1, ⟨hk.2.2.1, hk.2.2.2⟩⟩, hk.1⟩)) hg hat)
                    have n5_ := Aside0.mk (hb)
                    have n6_ := Aside0.mk (ho)
                    clear BK122
                    clear BK124
                    clear BK125
                    clear BK126
                    clear HO162
                    clear HB
                    clear HO159
                    have BK122 := n0_
                    have BK124 := n1_
                    have BK125 := n2_
                    have BK126 := n3_
                    have HO162 := n4_
                    have HB := n5_
                    have HO165 := n6_
                    clear n0_ n1_ n2_ n3_ n4_ n5_ n6_
                    clear ho hb hg hat
                    refine hK.out _ _ ⟨(blk_cell BK122.out 0).trans rfl, (blk_cell BK122.out 1).trans rfl, (blk_cell BK122.out 2).trans rfl, (blk_cell BK125.out 0).trans rfl, (blk_cell BK125.out 1).trans rfl, (blk_cell BK126.out 0).trans rfl, (blk_cell BK126.out 1).trans rfl⟩ (fun hHeld => ?_)
                    clear hK K
                    refine norm_ (a' := ?_) ?_ ?_
                    rotate_left
                    · show Act.put _ (some 50) _ = _
                      simp only [Act.put, List.setIfInBounds_toArray, List.set_cons_zero, List.set_cons_succ, i64_w, i32_w]
                      rfl
                    refine one_ (i := 15) (N := some 56) #[true, true, true, true, true, true, true, true, true, true, true, true, true, true, true, true, false] rfl rfl (one_of HT_.out (by kernel_rfl)) (by decide) (fun K hK => ?_)
                    refine Kd.R_append_rows_step k58 (w0 := w) w.heap.size (by rfl) (.tmp 50) (.tmp 55) 44 58 (.agg #[(.int .i64 0), (.int .i64 0)]) 16 rfl Try.underlying44 info58 rfl (by decide) (by omega) v164 y163 y166 _ _ _ (fun k_ => some k_ ≠ (.slice Ao86 y160.length co86 : Value).ownBlock ∧ k_ ≠ gb124 ∧ k_ ≠ gb125 ∧ k_ ≠ gb126) (fun _ => False) rfl rfl ?aO ?aR (fun _ _ h => h) (fun _ h => h.elim) ?aF ?aB ?aS ?aL ?_
                    (case aR => repeat (first | exact (Kd.C_below HR169.out HB.out) | (with_reducible refine Kd.C_alloc ?_ _) | (with_reducible refine Kd.C_drewN ?_ _) | (with_reducible refine Kd.C_drew ?_)))
                    (case aB => exact (hx_ HB.out))
                    (case aF => exact (fun k_ hk => ⟨Kd.fresh' (Kd.R_lt (rx_ HO162.out)) k_ hk, Kd.freshB (g := gb124) (o := .cells #[.int .i64 ((rd_T58 l0 a1_0).f0), .int .i64 ((rd_T58 l0 a1_0).f1)] 58 (0, 0)) (bx_ BK124.out) k_ hk, Kd.freshB (g := gb125) (o := .cells #[.int .i64 a1_2, .int .i64 ((rd_T58 l0 a1_0).f1)] 58 (0, 0)) (bx_ BK125.out) k_ hk, Kd.freshB (g := gb126) (o := .cells #[.int .i64 (wrap64 (((rd_T58 l0 a1_0).f0) - a1_2)), .int .i64 ((rd_T58 l0 a1_0).f1)] 58 (0, 0)) (bx_ BK126.out) k_ hk⟩))
                    (case aO => exact (rx_ HO165.out))
                    (case aS => exact (below_size (hx_ HB.out)))
                    (case aL => have := LMc57.out; omega)
                    intro v171 w87 ho hb hg hat
                    rw [← Ny170.out] at ho
                    have n0_ := Aside0.mk (blk_grown (g := gb122) (o := .cells #[.int .i64 a1_0, .bool false, .int .i64 a1_2] 48 (0, 0)) (bx_ BK122.out) hg (Kd.R_ne HO165.out BK122.out (by decide)))
                    have n1_ := Aside0.mk (blk_grown (g := gb124) (o := .cells #[.int .i64 ((rd_T58 l0 a1_0).f0), .int .i64 ((rd_T58 l0 a1_0).f1)] 58 (0, 0)) (bx_ BK124.out) hg (Kd.R_away HO165.out (fun _ hk => hk.2.1)))
                    have n2_ := Aside0.mk (blk_grown (g := gb125) (o := .cells #[.int .i64 a1_2, .int .i64 ((rd_T58 l0 a1_0).f1)] 58 (0, 0)) (bx_ BK125.out) hg (Kd.R_away HO165.out (fun _ hk => hk.2.2.1)))
                    have n3_ := Aside0.mk (blk_grown (g := gb126) (o := .cells #[.int .i64 (wrap64 (((rd_T58 l0 a1_0).f0) - a1_2)), .int .i64 ((rd_T58 l0 a1_0).f1)] 58 (0, 0)) (bx_ BK126.out) hg (Kd.R_away HO165.out (fun _ hk => hk.2.2.2)))
                    have n4_ := Aside0.mk (Kd.R_after (ok := (fun k_ => k_ ≠ gb124 ∧ k_ ≠ gb125 ∧ k_ ≠ gb126)) (rx_ HO162.out) hg hat)
                    have n5_ := Aside0.mk (hb)
                    have n6_ := Aside0.mk (ho)
                    clear BK122
                    clear BK124
                    clear BK125
                    clear BK126
                    clear HO162
                    clear HB
                    clear HO165
                    have BK122 := n0_
                    have BK124 := n1_
                    have BK125 := n2_
                    have BK126 := n3_
                    have HO162 := n4_
                    have HB := n5_
                    have HO172 := n6_
                    clear n0_ n1_ n2_ n3_ n4_ n5_ n6_
                    clear ho hb hg hat
                    refine hK.out _ _ ⟨(blk_cell BK122.out 0).trans rfl, (blk_cell BK122.out 1).trans rfl, (blk_cell BK122.out 2).trans rfl, (blk_cell BK125.out 0).trans rfl, (blk_cell BK125.out 1).trans rfl, (blk_cell BK126.out 0).trans rfl, (blk_cell BK126.out 1).trans rfl⟩ (fun hHeld => ?_)
                    clear hK K
                    refine norm_ (a' := ?_) ?_ ?_
                    rotate_left
                    · show Act.put _ (some 56) _ = _
                      simp only [Act.put, List.setIfInBounds_toArray, List.set_cons_zero, List.set_cons_succ, i64_w, i32_w]
                      rfl
                    refine pure_ (i := 16) (N := some 4) (v := ?_) (a' := ?_) #[true, true, true, true, true, true, true, true, true, true, true, true, true, true, true, true, true] rfl rfl (any_of HT_.out (by kernel_rfl)) (fun _ _ _ h => h) (Or.inl ⟨by rfl, ?_⟩) ?_ ?_
                    rotate_left
                    · intro w'
                      go_simp
                      with_reducible rfl
                    rotate_left
                    · simp only [Act.put, List.setIfInBounds_toArray, List.set_cons_zero, List.set_cons_succ, i64_w, i32_w]
                      rfl
                    refine done_ (done_of HT_.out (by kernel_rfl)) ?_
                    try go_wp2
                    go_ret
                    exact ⟨_, by first | rfl | (simp [errW_none, errW_some] <;> rfl) | (simp only [← hji54]; first | rfl | (simp [errW_none, errW_some] <;> rfl)) | (simp [*, errW_none, errW_some] <;> rfl), by (with_reducible repeat (first | apply Kd.R_alloc | apply Kd.R_drewN | apply Kd.R_drew)); exact Kd.R_mono HO172.out (fun _ hk => trivial), hx_ HB.out⟩
                  · rw [if_neg c57] at H
                    exact absurd H (by simp)
                · rw [if_neg c56] at H
                  exact absurd H (by simp)
              · rw [if_neg c55] at H
                exact absurd H (by simp)
            · rw [if_neg c53] at H
              exact absurd H (by simp)
          · rw [if_neg c52] at H
            exact absurd H (by simp)
        · rw [if_neg c51] at H
          exact absurd H (by simp)
    · rw [if_neg c4] at H
      exact absurd H (by simp)
  · rw [if_neg c3] at H
    exact absurd H (by simp)

end Go.Proofs.Ytaapnjhgkbjdkaa.PFnExactRunCuts
