-- Written by wip/inject.py: a contract of each function that the law reaches; those of the stand-ins are proved in this seat's Hand texts
import Derived.Test.YthapadejldlmfaaPFnCutsx0
namespace Go.Proofs.Ythapadejldlmfaa.PFnCuts
open Go.RowKit Go.Proofs.YthapadejldlmfaaW.PrintWords Go.Proofs.YthapadejldlmfaaW.PrintLast Go.Proofs.YthapadejldlmfaaW.PrintMore
attribute [local go_sem] max2_int min2_int max_two min_two max_three min_three max_four min_four   -- for this text's walks alone
set_option linter.unusedVariables false
set_option linter.unusedSimpArgs false

/-! ### spec_l09Cut: function 168 -/
def spec_l09Cut.f (l0 : List (S77)) (a1_0 : Int) (a1_1 : Bool) (a1_2 : Int) : Option ((List (S77))) := if 0 ≤ a1_0 then (if a1_0 < (l0.length : Int) then (if a1_1 = true then ((some (([] : List (S77)) : List (S77))).bind fun y176 => (if a1_0 ≤ (l0.length : Int) then ((some (l0.take (a1_0 : Int).toNat : List (S77))).bind fun y179 => (if y176.length + y179.length < 8796093022208 then ((some (y176 ++ y179 : List (S77))).bind fun y183 => ((some (([(⟨(rd_T77 l0 a1_0).f0, a1_2⟩ : S77), (⟨(rd_T77 l0 a1_0).f0, wrap64 (((rd_T77 l0 a1_0).f1) - a1_2)⟩ : S77)] : List (S77)) : List (S77))).bind fun y186 => (if y183.length + y186.length < 8796093022208 then ((some (y183 ++ y186 : List (S77))).bind fun y189 => (if 0 ≤ (wrap64 (a1_0 + 1)) then (if (wrap64 (a1_0 + 1)) ≤ (l0.length : Int) then ((some (l0.drop ((wrap64 (a1_0 + 1)) : Int).toNat : List (S77))).bind fun y192 => (if y189.length + y192.length < 8796093022208 then (some (y189 ++ y192)) else (none))) else (none)) else (none))) else (none)))) else (none))) else (none))) else ((some (([] : List (S77)) : List (S77))).bind fun y199 => (if a1_0 ≤ (l0.length : Int) then ((some (l0.take (a1_0 : Int).toNat : List (S77))).bind fun y202 => (if y199.length + y202.length < 8796093022208 then ((some (y199 ++ y202 : List (S77))).bind fun y206 => ((some (([(⟨a1_2, (rd_T77 l0 a1_0).f1⟩ : S77), (⟨wrap64 (((rd_T77 l0 a1_0).f0) - a1_2), (rd_T77 l0 a1_0).f1⟩ : S77)] : List (S77)) : List (S77))).bind fun y209 => (if y206.length + y209.length < 8796093022208 then ((some (y206 ++ y209 : List (S77))).bind fun y212 => (if 0 ≤ (wrap64 (a1_0 + 1)) then (if (wrap64 (a1_0 + 1)) ≤ (l0.length : Int) then ((some (l0.drop ((wrap64 (a1_0 + 1)) : Int).toNat : List (S77))).bind fun y215 => (if y212.length + y215.length < 8796093022208 then (some (y212 ++ y215)) else (none))) else (none)) else (none))) else (none)))) else (none))) else (none)))) else (none)) else (none)
def spec_l09Cut.T2 : Bool × List (List Nat × List Nat) := (true, [([], []), ([0], [0]), ([], []), ([2], [2]), ([1, 3], [1, 3]), ([], []), ([5], [5]), ([], []), ([7], [7]), ([6, 8], [6, 8]), ([], []), ([10], [10]), ([9, 11], [9, 11]), ([], []), ([], []), ([13, 4, 0, 1, 2, 3, 4, 13, 14], [4, 13]), ([14, 12, 15, 0, 1, 2, 3, 4, 5, 6, 7, 8, 9, 10, 11, 12, 13, 14, 15], [12, 14])])
def spec_l09Cut.B2 : List Nat := [0, 1, 0, 4, 15, 0, 32, 0, 128, 480, 0, 1024, 4064, 0, 0, 24607, 65535]
theorem spec_l09Cut.tab2 : rtab .any (opsOf Try.f168 2) = spec_l09Cut.T2 := by kernel_rfl
theorem spec_l09Cut.bits2 : waitsOk spec_l09Cut.T2.2 spec_l09Cut.B2 = true := by kernel_rfl
def spec_l09Cut.T4 : Bool × List (List Nat × List Nat) := (true, [([], []), ([0], [0]), ([], []), ([2], [2]), ([1, 3], [1, 3]), ([], []), ([5], [5]), ([], []), ([7], [7]), ([], []), ([9], [9]), ([8, 10], [8, 10]), ([6, 11], [6, 11]), ([4, 0, 1, 2, 3, 4], [4]), ([12, 13, 0, 1, 2, 3, 4, 5, 6, 7, 8, 9, 10, 11, 12, 13], [12])])
def spec_l09Cut.B4 : List Nat := [0, 1, 0, 4, 15, 0, 32, 0, 128, 0, 512, 1920, 4064, 31, 16383]
theorem spec_l09Cut.tab4 : rtab .any (opsOf Try.f168 4) = spec_l09Cut.T4 := by kernel_rfl
theorem spec_l09Cut.bits4 : waitsOk spec_l09Cut.T4.2 spec_l09Cut.B4 = true := by kernel_rfl
def spec_l09Cut.T5 : Bool × List (List Nat × List Nat) := (true, [([], []), ([], []), ([], []), ([2], [2]), ([1, 3], [1, 3]), ([0, 4], [0, 4]), ([], []), ([], []), ([6, 7], [6, 7]), ([5, 8, 5], [5, 8]), ([], []), ([], []), ([11], [11]), ([12], [12]), ([10, 13], [10, 13]), ([9, 14, 9], [9, 14]), ([15, 15, 0, 1, 2, 3, 4, 5, 6, 7, 8, 9, 10, 11, 12, 13, 14, 15], [15])])
def spec_l09Cut.B5 : List Nat := [0, 0, 0, 4, 14, 31, 0, 0, 192, 511, 0, 0, 2048, 6144, 15360, 32767, 65535]
theorem spec_l09Cut.tab5 : rtab .any (opsOf Try.f168 5) = spec_l09Cut.T5 := by kernel_rfl
theorem spec_l09Cut.bits5 : waitsOk spec_l09Cut.T5.2 spec_l09Cut.B5 = true := by kernel_rfl
set_option maxHeartbeats 8000000 in
set_option maxRecDepth 100000 in
theorem spec_l09Cut.calls (A0 : Option Addr) (c0 : Nat) (l0 : List (S77)) (a1_0 : Int) (a1_1 : Bool) (a1_2 : Int) (r : List (S77)) (w : World) (hr0 : Kd.C k77 w A0 l0.length l0) (hc0 : l0.length ≤ c0) (h : spec_l09Cut.f l0 a1_0 a1_1 a1_2 = some r) :
  Calls Try.prog 168 #[.slice A0 l0.length c0, .agg #[.int .i64 a1_0, .bool a1_1, .int .i64 a1_2]] w fun e w' => ∃ v0_ : Value, e = .returned (v0_) ∧ Kd.R k77 77 w' w.heap.size (fun _ => True) v0_ r ∧ Below w.heap.size w w' := by
 have hu85 := Try.underlying85
 have hu77 := Try.underlying77
 have HR0 := Aside0.mk hr0
 have HC0 := Aside0.mk hc0
 clear hr0 hc0
 have HB := Aside0.mk (Below.refl w.heap.size w)
 have H : (if 0 ≤ a1_0 then (if a1_0 < (l0.length : Int) then (if a1_1 = true then ((some (([] : List (S77)) : List (S77))).bind fun y176 => (if a1_0 ≤ (l0.length : Int) then ((some (l0.take (a1_0 : Int).toNat : List (S77))).bind fun y179 => (if y176.length + y179.length < 8796093022208 then ((some (y176 ++ y179 : List (S77))).bind fun y183 => ((some (([(⟨(rd_T77 l0 a1_0).f0, a1_2⟩ : S77), (⟨(rd_T77 l0 a1_0).f0, wrap64 (((rd_T77 l0 a1_0).f1) - a1_2)⟩ : S77)] : List (S77)) : List (S77))).bind fun y186 => (if y183.length + y186.length < 8796093022208 then ((some (y183 ++ y186 : List (S77))).bind fun y189 => (if 0 ≤ (wrap64 (a1_0 + 1)) then (if (wrap64 (a1_0 + 1)) ≤ (l0.length : Int) then ((some (l0.drop ((wrap64 (a1_0 + 1)) : Int).toNat : List (S77))).bind fun y192 => (if y189.length + y192.length < 8796093022208 then (some (y189 ++ y192)) else (none))) else (none)) else (none))) else (none)))) else (none))) else (none))) else ((some (([] : List (S77)) : List (S77))).bind fun y199 => (if a1_0 ≤ (l0.length : Int) then ((some (l0.take (a1_0 : Int).toNat : List (S77))).bind fun y202 => (if y199.length + y202.length < 8796093022208 then ((some (y199 ++ y202 : List (S77))).bind fun y206 => ((some (([(⟨a1_2, (rd_T77 l0 a1_0).f1⟩ : S77), (⟨wrap64 (((rd_T77 l0 a1_0).f0) - a1_2), (rd_T77 l0 a1_0).f1⟩ : S77)] : List (S77)) : List (S77))).bind fun y209 => (if y206.length + y209.length < 8796093022208 then ((some (y206 ++ y209 : List (S77))).bind fun y212 => (if 0 ≤ (wrap64 (a1_0 + 1)) then (if (wrap64 (a1_0 + 1)) ≤ (l0.length : Int) then ((some (l0.drop ((wrap64 (a1_0 + 1)) : Int).toNat : List (S77))).bind fun y215 => (if y212.length + y215.length < 8796093022208 then (some (y212 ++ y215)) else (none))) else (none)) else (none))) else (none)))) else (none))) else (none)))) else (none)) else (none)) = some r := h
 clear h
 by_cases c3 : 0 ≤ a1_0
 ·rw [if_pos c3] at H
  have c3b0 : decide (0 ≤ a1_0) = true := decide_eq_true c3
  clear c3
  by_cases c4 : a1_0 < (l0.length : Int)
  ·rw [if_pos c4] at H
   have c4b0 : decide (a1_0 < (l0.length : Int)) = true := decide_eq_true c4
   clear c4
   by_cases c5 : a1_1 = true
   ·subst c5
    have H1 : ((some (([] : List (S77)) : List (S77))).bind fun y176 => (if a1_0 ≤ (l0.length : Int) then ((some (l0.take (a1_0 : Int).toNat : List (S77))).bind fun y179 => (if y176.length + y179.length < 8796093022208 then ((some (y176 ++ y179 : List (S77))).bind fun y183 => ((some (([(⟨(rd_T77 l0 a1_0).f0, a1_2⟩ : S77), (⟨(rd_T77 l0 a1_0).f0, wrap64 (((rd_T77 l0 a1_0).f1) - a1_2)⟩ : S77)] : List (S77)) : List (S77))).bind fun y186 => (if y183.length + y186.length < 8796093022208 then ((some (y183 ++ y186 : List (S77))).bind fun y189 => (if 0 ≤ (wrap64 (a1_0 + 1)) then (if (wrap64 (a1_0 + 1)) ≤ (l0.length : Int) then ((some (l0.drop ((wrap64 (a1_0 + 1)) : Int).toNat : List (S77))).bind fun y192 => (if y189.length + y192.length < 8796093022208 then (some (y189 ++ y192)) else (none))) else (none)) else (none))) else (none)))) else (none))) else (none))) = some r := by rw [if_pos rfl] at H; exact H
    clear H
    have H := H1
    clear H1
    obtain ⟨y176, hy176⟩ : ∃ y_ : List (S77), y_ = (([] : List (S77))) := ⟨_, rfl⟩
    replace H : (if a1_0 ≤ (l0.length : Int) then ((some (l0.take (a1_0 : Int).toNat : List (S77))).bind fun y179 => (if y176.length + y179.length < 8796093022208 then ((some (y176 ++ y179 : List (S77))).bind fun y183 => ((some (([(⟨(rd_T77 l0 a1_0).f0, a1_2⟩ : S77), (⟨(rd_T77 l0 a1_0).f0, wrap64 (((rd_T77 l0 a1_0).f1) - a1_2)⟩ : S77)] : List (S77)) : List (S77))).bind fun y186 => (if y183.length + y186.length < 8796093022208 then ((some (y183 ++ y186 : List (S77))).bind fun y189 => (if 0 ≤ (wrap64 (a1_0 + 1)) then (if (wrap64 (a1_0 + 1)) ≤ (l0.length : Int) then ((some (l0.drop ((wrap64 (a1_0 + 1)) : Int).toNat : List (S77))).bind fun y192 => (if y189.length + y192.length < 8796093022208 then (some (y189 ++ y192)) else (none))) else (none)) else (none))) else (none)))) else (none))) else (none)) = some r := by first | (rw [hy176]; with_reducible exact H) | (have H2_ := (Option.bind_some _ _).symm.trans H; rw [hy176]; with_reducible exact H2_) | (have H2_ := (Option.bind_some _ _).symm.trans H; with_reducible exact H2_) | with_reducible exact H | (rw [hy176]; exact H) | exact H
    have Ny176 := Aside0.mk hy176
    clear hy176
    have c6b0 := eq_true (of_decide_eq_true (by first | (with_reducible assumption) | assumption) : 0 ≤ a1_0)
    by_cases c7 : a1_0 ≤ (l0.length : Int)
    ·rw [if_pos c7] at H
     have c7b0 := eq_true c7
     have c7b1 : decide (a1_0 ≤ (l0.length : Int)) = true := decide_eq_true c7
     clear c7
     obtain ⟨y179, hy179⟩ : ∃ y_ : List (S77), y_ = (l0.take (a1_0 : Int).toNat) := ⟨_, rfl⟩
     replace H : (if y176.length + y179.length < 8796093022208 then ((some (y176 ++ y179 : List (S77))).bind fun y183 => ((some (([(⟨(rd_T77 l0 a1_0).f0, a1_2⟩ : S77), (⟨(rd_T77 l0 a1_0).f0, wrap64 (((rd_T77 l0 a1_0).f1) - a1_2)⟩ : S77)] : List (S77)) : List (S77))).bind fun y186 => (if y183.length + y186.length < 8796093022208 then ((some (y183 ++ y186 : List (S77))).bind fun y189 => (if 0 ≤ (wrap64 (a1_0 + 1)) then (if (wrap64 (a1_0 + 1)) ≤ (l0.length : Int) then ((some (l0.drop ((wrap64 (a1_0 + 1)) : Int).toNat : List (S77))).bind fun y192 => (if y189.length + y192.length < 8796093022208 then (some (y189 ++ y192)) else (none))) else (none)) else (none))) else (none)))) else (none)) = some r := by first | (rw [hy179]; with_reducible exact H) | (have H2_ := (Option.bind_some _ _).symm.trans H; rw [hy179]; with_reducible exact H2_) | (have H2_ := (Option.bind_some _ _).symm.trans H; with_reducible exact H2_) | with_reducible exact H | (rw [hy179]; exact H) | exact H
     have Ny179 := Aside0.mk hy179
     clear hy179
     by_cases c8 : y176.length + y179.length < 8796093022208
     ·rw [if_pos c8] at H
      have LMc8 := Aside0.mk c8
      clear c8
      obtain ⟨y183, hy183⟩ : ∃ y_ : List (S77), y_ = (y176 ++ y179) := ⟨_, rfl⟩
      replace H : ((some (([(⟨(rd_T77 l0 a1_0).f0, a1_2⟩ : S77), (⟨(rd_T77 l0 a1_0).f0, wrap64 (((rd_T77 l0 a1_0).f1) - a1_2)⟩ : S77)] : List (S77)) : List (S77))).bind fun y186 => (if y183.length + y186.length < 8796093022208 then ((some (y183 ++ y186 : List (S77))).bind fun y189 => (if 0 ≤ (wrap64 (a1_0 + 1)) then (if (wrap64 (a1_0 + 1)) ≤ (l0.length : Int) then ((some (l0.drop ((wrap64 (a1_0 + 1)) : Int).toNat : List (S77))).bind fun y192 => (if y189.length + y192.length < 8796093022208 then (some (y189 ++ y192)) else (none))) else (none)) else (none))) else (none))) = some r := by first | (rw [hy183]; with_reducible exact H) | (have H2_ := (Option.bind_some _ _).symm.trans H; rw [hy183]; with_reducible exact H2_) | (have H2_ := (Option.bind_some _ _).symm.trans H; with_reducible exact H2_) | with_reducible exact H | (rw [hy183]; exact H) | exact H
      have Ny183 := Aside0.mk hy183
      clear hy183
      obtain ⟨y186, hy186⟩ : ∃ y_ : List (S77), y_ = (([(⟨(rd_T77 l0 a1_0).f0, a1_2⟩ : S77), (⟨(rd_T77 l0 a1_0).f0, wrap64 (((rd_T77 l0 a1_0).f1) - a1_2)⟩ : S77)] : List (S77))) := ⟨_, rfl⟩
      replace H : (if y183.length + y186.length < 8796093022208 then ((some (y183 ++ y186 : List (S77))).bind fun y189 => (if 0 ≤ (wrap64 (a1_0 + 1)) then (if (wrap64 (a1_0 + 1)) ≤ (l0.length : Int) then ((some (l0.drop ((wrap64 (a1_0 + 1)) : Int).toNat : List (S77))).bind fun y192 => (if y189.length + y192.length < 8796093022208 then (some (y189 ++ y192)) else (none))) else (none)) else (none))) else (none)) = some r := by first | (rw [hy186]; with_reducible exact H) | (have H2_ := (Option.bind_some _ _).symm.trans H; rw [hy186]; with_reducible exact H2_) | (have H2_ := (Option.bind_some _ _).symm.trans H; with_reducible exact H2_) | with_reducible exact H | (rw [hy186]; exact H) | exact H
      have Ny186 := Aside0.mk hy186
      clear hy186
      by_cases c9 : y183.length + y186.length < 8796093022208
      ·rw [if_pos c9] at H
       have LMc9 := Aside0.mk c9
       clear c9
       obtain ⟨y189, hy189⟩ : ∃ y_ : List (S77), y_ = (y183 ++ y186) := ⟨_, rfl⟩
       replace H : (if 0 ≤ (wrap64 (a1_0 + 1)) then (if (wrap64 (a1_0 + 1)) ≤ (l0.length : Int) then ((some (l0.drop ((wrap64 (a1_0 + 1)) : Int).toNat : List (S77))).bind fun y192 => (if y189.length + y192.length < 8796093022208 then (some (y189 ++ y192)) else (none))) else (none)) else (none)) = some r := by first | (rw [hy189]; with_reducible exact H) | (have H2_ := (Option.bind_some _ _).symm.trans H; rw [hy189]; with_reducible exact H2_) | (have H2_ := (Option.bind_some _ _).symm.trans H; with_reducible exact H2_) | with_reducible exact H | (rw [hy189]; exact H) | exact H
       have Ny189 := Aside0.mk hy189
       clear hy189
       obtain ⟨ji10, hji10⟩ : ∃ j_ : Int, (wrap64 (a1_0 + 1)) = j_ := ⟨_, rfl⟩
       replace H : (if 0 ≤ (ji10) then (if (ji10) ≤ (l0.length : Int) then ((some (l0.drop ((ji10) : Int).toNat : List (S77))).bind fun y192 => (if y189.length + y192.length < 8796093022208 then (some (y189 ++ y192)) else (none))) else (none)) else (none)) = some r := by first | (rw [hji10] at H; exact H) | (simp only [hji10] at H ⊢; exact H)
       have hji10w : (IntKind.i64.wrap (a1_0 + 1)) = ji10 := (i64_w _).trans hji10
       by_cases c11 : 0 ≤ (ji10)
       ·rw [if_pos c11] at H
        have c11b0 := eq_true c11
        have c11b1 : decide (0 ≤ (ji10)) = true := decide_eq_true c11
        clear c11
        by_cases c12 : (ji10) ≤ (l0.length : Int)
        ·rw [if_pos c12] at H
         have c12b0 := eq_true c12
         have c12b1 : decide ((ji10) ≤ (l0.length : Int)) = true := decide_eq_true c12
         clear c12
         obtain ⟨y192, hy192⟩ : ∃ y_ : List (S77), y_ = (l0.drop ((ji10) : Int).toNat) := ⟨_, rfl⟩
         replace H : (if y189.length + y192.length < 8796093022208 then (some (y189 ++ y192)) else (none)) = some r := by first | (rw [hy192]; with_reducible exact H) | (have H2_ := (Option.bind_some _ _).symm.trans H; rw [hy192]; with_reducible exact H2_) | (have H2_ := (Option.bind_some _ _).symm.trans H; with_reducible exact H2_) | with_reducible exact H | (rw [hy192]; exact H) | exact H
         have Ny192 := Aside0.mk hy192
         clear hy192
         by_cases c13 : y189.length + y192.length < 8796093022208
         ·rw [if_pos c13] at H
          have LMc13 := Aside0.mk c13
          clear c13
          obtain ⟨y196, hy196⟩ : ∃ y_ : List (S77), y_ = (y189 ++ y192) := ⟨_, rfl⟩
          replace H : (some y196) = some r := by first | (rw [hy196]; with_reducible exact H) | (have H2_ := (Option.bind_some _ _).symm.trans H; rw [hy196]; with_reducible exact H2_) | (have H2_ := (Option.bind_some _ _).symm.trans H; with_reducible exact H2_) | with_reducible exact H | (rw [hy196]; exact H) | exact H
          have Ny196 := Aside0.mk hy196
          clear hy196
          obtain rfl := Option.some.inj H
          go_enter Try.func168, Try.ntmps168
          try go_wp2_with (first | ((with_reducible refine gate_dst (N := 3) rfl ?_); refine box_event ?hg (N := 3) ?hd (cs := #[.int .i64 a1_0, .bool true, .int .i64 a1_2]) (t := 85) ?hr ?_; (case hd => rfl); (case hg => rfl); (case hr => first | (go_simp; done) | (go_simp; rfl)); intro gb171 hg w14 hbox hb; have n0_ := Aside0.mk (below_step (hx_ HB.out) hb); have n1_ := Aside0.mk (hbox); have n2_ := Aside0.mk ((by rw [hg]; exact (below_size (hx_ HB.out)) : w.heap.size ≤ gb171)); have n3_ := Aside0.mk ((by rw [hg]; exact (below_size (hx_ HB.out)) : w.heap.size ≤ gb171)); clear HB; have HB := n0_; have BK171 := n1_; have GW171 := n2_; have GE171 := n3_; clear n0_ n1_ n2_ n3_; clear hb hbox hg; have hcz15_0 : w14.cell? ⟨gb171, 0, none⟩ = some (.int .i64 a1_0) := (blk_cell BK171.out 0).trans rfl; have hcz15_1 : w14.cell? ⟨gb171, 1, none⟩ = some (.bool true) := (blk_cell BK171.out 1).trans rfl; have hcz15_2 : w14.cell? ⟨gb171, 2, none⟩ = some (.int .i64 a1_2) := (blk_cell BK171.out 2).trans rfl; have hfz15_0 := blk_frozen BK171.out 0; have hfz15_1 := blk_frozen BK171.out 1; have hfz15_2 := blk_frozen BK171.out 2; have p172 : 0 ≤ (a1_0 : Int) := of_decide_eq_true (by first | (with_reducible assumption) | assumption); have q172 : a1_0 < (l0.length : Int) := of_decide_eq_true (by first | (with_reducible assumption) | assumption); obtain ⟨ad172, e172, hx172_0, hx172_1⟩ := at_T77 HR0.out a1_0 p172 q172; cases e172; replace hx172_0 := (HB.out.cell (World.block_lt_of_cell? w _ hx172_0)).trans hx172_0; replace hx172_1 := (HB.out.cell (World.block_lt_of_cell? w _ hx172_1)).trans hx172_1; replace p172 := eq_true p172; replace q172 := eq_true q172) | ((with_reducible refine gate_dst (N := 5) rfl ?_); refine box_event ?hg (N := 5) ?hd (cs := #[.int .i64 0, .int .i64 0]) (t := 77) ?hr ?_; (case hd => rfl); (case hg => rfl); (case hr => first | (go_simp; done) | (go_simp; rfl)); intro gb173 hg w16 hbox hb; have n0_ := Aside0.mk (blk_below (g := gb171) (o := .cells #[.int .i64 a1_0, .bool true, .int .i64 a1_2] 85 (0, 0)) (bx_ BK171.out) hb); have n1_ := Aside0.mk (below_step (hx_ HB.out) hb); have n2_ := Aside0.mk (hbox); have n3_ := Aside0.mk ((by rw [hg]; exact (below_size (hx_ HB.out)) : w.heap.size ≤ gb173)); have n4_ := Aside0.mk ((by rw [hg]; exact (below_size (hx_ HB.out)) : w.heap.size ≤ gb173)); have n5_ := Aside0.mk ((by rw [hg]; exact Nat.ne_of_lt (blk_lt (g := gb171) (o := .cells #[.int .i64 a1_0, .bool true, .int .i64 a1_2] 85 (0, 0)) (bx_ BK171.out)) : gb171 ≠ gb173)); have n6_ := Aside0.mk ((by rw [hg]; exact Nat.ne_of_gt (blk_lt (g := gb171) (o := .cells #[.int .i64 a1_0, .bool true, .int .i64 a1_2] 85 (0, 0)) (bx_ BK171.out)) : gb173 ≠ gb171)); clear BK171; clear HB; have BK171 := n0_; have HB := n1_; have BK173 := n2_; have GW173 := n3_; have GE173 := n4_; have NB171_173 := n5_; have NB173_171 := n6_; clear n0_ n1_ n2_ n3_ n4_ n5_ n6_; clear hb hbox hg; have hnb17 := NB173_171.out; have hnc17 := NB171_173.out; have hcz18_0 : w16.cell? ⟨gb173, 0, none⟩ = some (.int .i64 0) := (blk_cell BK173.out 0).trans rfl; have hcz18_1 : w16.cell? ⟨gb173, 1, none⟩ = some (.int .i64 0) := (blk_cell BK173.out 1).trans rfl; have hfz18_0 := blk_frozen BK173.out 0; have hfz18_1 := blk_frozen BK173.out 1))
          have n0_ : Aside0 (((w16.setCell ⟨gb173, 0, none⟩ (.int .i64 ((rd_T77 l0 a1_0).f0))).setCell ⟨gb173, 1, none⟩ (.int .i64 ((rd_T77 l0 a1_0).f1))).heap[gb171]? = some (.cells #[.int .i64 a1_0, .bool true, .int .i64 a1_2] 85 (0, 0))) := ⟨bx_ BK171.out⟩
          have n1_ : Aside0 (((w16.setCell ⟨gb173, 0, none⟩ (.int .i64 ((rd_T77 l0 a1_0).f0))).setCell ⟨gb173, 1, none⟩ (.int .i64 ((rd_T77 l0 a1_0).f1))).heap[gb173]? = some (.cells #[.int .i64 ((rd_T77 l0 a1_0).f0), .int .i64 ((rd_T77 l0 a1_0).f1)] 77 (0, 0))) := ⟨by (with_reducible repeat (first | refine blk_drewN ?_ _ | refine blk_drew ?_ | refine blk_alloc ?_ _)); refine blk_put (cs := #[.int .i64 ((rd_T77 l0 a1_0).f0), .int .i64 0]) ?_ 1 _ rfl; (with_reducible repeat (first | refine blk_drewN ?_ _ | refine blk_drew ?_ | refine blk_alloc ?_ _)); refine blk_put (cs := #[.int .i64 0, .int .i64 0]) ?_ 0 _ rfl; (with_reducible repeat (first | refine blk_drewN ?_ _ | refine blk_drew ?_ | refine blk_alloc ?_ _)); exact BK173.out⟩
          have n2_ : Aside0 (Below w.heap.size w ((w16.setCell ⟨gb173, 0, none⟩ (.int .i64 ((rd_T77 l0 a1_0).f0))).setCell ⟨gb173, 1, none⟩ (.int .i64 ((rd_T77 l0 a1_0).f1)))) := ⟨hx_ HB.out⟩
          (try clear BK171)
          (try clear BK173)
          (try clear HB)
          generalize ((w16.setCell ⟨gb173, 0, none⟩ (.int .i64 ((rd_T77 l0 a1_0).f0))).setCell ⟨gb173, 1, none⟩ (.int .i64 ((rd_T77 l0 a1_0).f1))) = w19 at n0_ n1_ n2_ ⊢
          have BK171 := n0_
          have BK173 := n1_
          have HB := n2_
          clear n0_ n1_ n2_
          have n0_ := Aside0.mk (blk_drew BK171.out)
          have n1_ := Aside0.mk (blk_drew BK173.out)
          have n2_ := Aside0.mk (below_drew1 HB.out)
          clear BK171
          clear BK173
          clear HB
          have BK171 := n0_
          have BK173 := n1_
          have HB := n2_
          clear n0_ n1_ n2_
          refine start_ (n := 17) (S := fun w' => w'.cell? ⟨gb171, 0, none⟩ = some (.int .i64 a1_0) ∧ w'.cell? ⟨gb171, 1, none⟩ = some (.bool true) ∧ w'.cell? ⟨gb171, 2, none⟩ = some (.int .i64 a1_2) ∧ w'.cell? ⟨gb173, 0, none⟩ = some (.int .i64 ((rd_T77 l0 a1_0).f0)) ∧ w'.cell? ⟨gb173, 1, none⟩ = some (.int .i64 ((rd_T77 l0 a1_0).f1))) (ds := []) #[false, false, false, false, false, false, false, false, false, false, false, false, false, false, false, false, false] (by kernel_rfl) rfl rfl ⟨(blk_cell BK171.out 0).trans rfl, (blk_cell BK171.out 1).trans rfl, (blk_cell BK171.out 2).trans rfl, (blk_cell BK173.out 0).trans rfl, (blk_cell BK173.out 1).trans rfl⟩ (fun hHeld => ?_); refine with_tabW spec_l09Cut.tab2 spec_l09Cut.bits2 (fun HT_ HW_ => ?_)
          generalize w19.drew = w20 at BK171 BK173 HB hHeld ⊢
          refine pure_ (i := 0) (N := some 13) (v := ?_) (a' := ?_) #[true, false, false, false, false, false, false, false, false, false, false, false, false, false, false, false, false] rfl rfl (any_of HT_.out (by kernel_rfl)) (fun _ _ _ h => h) (Or.inl ⟨by rfl, ?_⟩) ?_ ?_
          rotate_left
          ·intro w'
           go_simp
           with_reducible rfl
          rotate_left
          ·simp only [Act.put, List.setIfInBounds_toArray, List.set_cons_zero, List.set_cons_succ, i64_w, i32_w]
           rfl
          refine pure_ (i := 2) (N := some 15) (v := ?_) (a' := ?_) #[true, false, true, false, false, false, false, false, false, false, false, false, false, false, false, false, false] rfl rfl (any_of HT_.out (by kernel_rfl)) (fun _ _ _ h => h) (Or.inl ⟨by rfl, ?_⟩) ?_ ?_
          rotate_left
          ·intro w'
           go_simp
           with_reducible rfl
          rotate_left
          ·simp only [Act.put, List.setIfInBounds_toArray, List.set_cons_zero, List.set_cons_succ, i64_w, i32_w]
           rfl
          refine pure_ (i := 5) (N := some 18) (v := ?_) (a' := ?_) #[true, false, true, false, false, true, false, false, false, false, false, false, false, false, false, false, false] rfl rfl (any_of HT_.out (by kernel_rfl)) (fun _ _ _ h => h) (Or.inl ⟨by rfl, ?_⟩) ?_ ?_
          rotate_left
          ·intro w'
           go_simp
           with_reducible rfl
          rotate_left
          ·simp only [Act.put, List.setIfInBounds_toArray, List.set_cons_zero, List.set_cons_succ, i64_w, i32_w]
           rfl
          refine pure_ (i := 7) (N := some 20) (v := ?_) (a' := ?_) #[true, false, true, false, false, true, false, true, false, false, false, false, false, false, false, false, false] rfl rfl (any_of HT_.out (by kernel_rfl)) (fun _ _ _ h => h) (Or.inl ⟨by rfl, ?_⟩) ?_ ?_
          rotate_left
          ·intro w'
           go_simp
           with_reducible rfl
          rotate_left
          ·simp only [Act.put, List.setIfInBounds_toArray, List.set_cons_zero, List.set_cons_succ, i64_w, i32_w]
           rfl
          refine pure_ (i := 10) (N := some 23) (v := ?_) (a' := ?_) #[true, false, true, false, false, true, false, true, false, false, true, false, false, false, false, false, false] rfl rfl (any_of HT_.out (by kernel_rfl)) (fun _ _ _ h => h) (Or.inl ⟨by rfl, ?_⟩) ?_ ?_
          rotate_left
          ·intro w'
           go_simp
           with_reducible rfl
          rotate_left
          ·simp only [Act.put, List.setIfInBounds_toArray, List.set_cons_zero, List.set_cons_succ, i64_w, i32_w]
           rfl
          refine take_ (i := 1) (N := some 14) (v := ?_) (a' := ?_) #[true, true, true, false, false, true, false, true, false, false, true, false, false, false, false, false, false] rfl rfl (take_ofW HT_.out HW_.out (by kernel_rfl)) (fun _ _ _ h => h) (Or.inl ⟨by rfl, ?_⟩) hHeld ?_ ?_
          rotate_left
          ·rintro w' ⟨s0, s1, s2, s3, s4⟩
           go_simp
           with_reducible rfl
          rotate_left
          ·simp only [Act.put, List.setIfInBounds_toArray, List.set_cons_zero, List.set_cons_succ, i64_w, i32_w]
           rfl
          refine take_ (i := 3) (N := some 16) (v := ?_) (a' := ?_) #[true, true, true, true, false, true, false, true, false, false, true, false, false, false, false, false, false] rfl rfl (take_ofW HT_.out HW_.out (by kernel_rfl)) (fun _ _ _ h => h) (Or.inl ⟨by rfl, ?_⟩) hHeld ?_ ?_
          rotate_left
          ·rintro w' ⟨s0, s1, s2, s3, s4⟩
           go_simp
           with_reducible rfl
          rotate_left
          ·simp only [Act.put, List.setIfInBounds_toArray, List.set_cons_zero, List.set_cons_succ, i64_w, i32_w]
           rfl
          refine pure_ (i := 4) (N := some 17) (v := ?_) (a' := ?_) #[true, true, true, true, true, true, false, true, false, false, true, false, false, false, false, false, false] rfl rfl (any_of HT_.out (by kernel_rfl)) (fun _ _ _ h => h) (Or.inl ⟨by rfl, ?_⟩) ?_ ?_
          rotate_left
          ·intro w'
           go_simp
           with_reducible rfl
          rotate_left
          ·simp only [Act.put, List.setIfInBounds_toArray, List.set_cons_zero, List.set_cons_succ, i64_w, i32_w]
           rfl
          refine take_ (i := 6) (N := some 19) (v := ?_) (a' := ?_) #[true, true, true, true, true, true, true, true, false, false, true, false, false, false, false, false, false] rfl rfl (take_ofW HT_.out HW_.out (by kernel_rfl)) (fun _ _ _ h => h) (Or.inl ⟨by rfl, ?_⟩) hHeld ?_ ?_
          rotate_left
          ·rintro w' ⟨s0, s1, s2, s3, s4⟩
           go_simp
           with_reducible rfl
          rotate_left
          ·simp only [Act.put, List.setIfInBounds_toArray, List.set_cons_zero, List.set_cons_succ, i64_w, i32_w]
           rfl
          refine take_ (i := 8) (N := some 21) (v := ?_) (a' := ?_) #[true, true, true, true, true, true, true, true, true, false, true, false, false, false, false, false, false] rfl rfl (take_ofW HT_.out HW_.out (by kernel_rfl)) (fun _ _ _ h => h) (Or.inl ⟨by rfl, ?_⟩) hHeld ?_ ?_
          rotate_left
          ·rintro w' ⟨s0, s1, s2, s3, s4⟩
           go_simp
           with_reducible rfl
          rotate_left
          ·simp only [Act.put, List.setIfInBounds_toArray, List.set_cons_zero, List.set_cons_succ, i64_w, i32_w]
           rfl
          refine pure_ (i := 9) (N := some 22) (v := ?_) (a' := ?_) #[true, true, true, true, true, true, true, true, true, true, true, false, false, false, false, false, false] rfl rfl (any_of HT_.out (by kernel_rfl)) (fun _ _ _ h => h) (Or.inl ⟨by rfl, ?_⟩) ?_ ?_
          rotate_left
          ·intro w'
           go_simp
           with_reducible rfl
          rotate_left
          ·simp only [Act.put, List.setIfInBounds_toArray, List.set_cons_zero, List.set_cons_succ, i64_w, i32_w]
           rfl
          refine take_ (i := 11) (N := some 24) (v := ?_) (a' := ?_) #[true, true, true, true, true, true, true, true, true, true, true, true, false, false, false, false, false] rfl rfl (take_ofW HT_.out HW_.out (by kernel_rfl)) (fun _ _ _ h => h) (Or.inl ⟨by rfl, ?_⟩) hHeld ?_ ?_
          rotate_left
          ·rintro w' ⟨s0, s1, s2, s3, s4⟩
           go_simp
           with_reducible rfl
          rotate_left
          ·simp only [Act.put, List.setIfInBounds_toArray, List.set_cons_zero, List.set_cons_succ, i64_w, i32_w]
           rfl
          refine pure_ (i := 12) (N := some 25) (v := ?_) (a' := ?_) #[true, true, true, true, true, true, true, true, true, true, true, true, true, false, false, false, false] rfl rfl (any_of HT_.out (by kernel_rfl)) (fun _ _ _ h => h) (Or.inl ⟨by rfl, ?_⟩) ?_ ?_
          rotate_left
          ·intro w'
           go_simp
           with_reducible rfl
          rotate_left
          ·simp only [Act.put, List.setIfInBounds_toArray, List.set_cons_zero, List.set_cons_succ, i64_w, i32_w]
           rfl
          refine join_ (σ := Nat × Nat) 2 #[true, true, true, true, true, true, true, true, true, true, true, true, true, true, true, false, false] (fun s_ => [(6, .pointer (some ⟨s_.1, 0, none⟩)), (7, .pointer (some ⟨s_.2, 0, none⟩))]) (fun s_ w' => (w'.cell? ⟨gb171, 0, none⟩ = some (.int .i64 a1_0) ∧ w'.cell? ⟨gb171, 1, none⟩ = some (.bool true) ∧ w'.cell? ⟨gb171, 2, none⟩ = some (.int .i64 a1_2) ∧ w'.cell? ⟨gb173, 0, none⟩ = some (.int .i64 ((rd_T77 l0 a1_0).f0)) ∧ w'.cell? ⟨gb173, 1, none⟩ = some (.int .i64 ((rd_T77 l0 a1_0).f1))) ∧ (w'.heap[gb171]? = some (.cells #[.int .i64 a1_0, .bool true, .int .i64 a1_2] 85 (0, 0))) ∧ (w'.heap[gb173]? = some (.cells #[.int .i64 ((rd_T77 l0 a1_0).f0), .int .i64 ((rd_T77 l0 a1_0).f1)] 77 (0, 0))) ∧ (w'.heap[s_.1]? = some (.cells #[.int .i64 0, .int .i64 0] 77 (0, 0))) ∧ (w'.heap[s_.2]? = some (.cells #[.int .i64 0, .int .i64 0] 77 (0, 0))) ∧ (w.heap.size ≤ s_.1) ∧ (w.heap.size ≤ s_.1) ∧ (gb171 ≠ s_.1) ∧ (s_.1 ≠ gb171) ∧ (gb173 ≠ s_.1) ∧ (s_.1 ≠ gb173) ∧ (s_.2 ≠ s_.1) ∧ (s_.1 ≠ s_.2) ∧ (w.heap.size ≤ s_.2) ∧ (w.heap.size ≤ s_.2) ∧ (gb171 ≠ s_.2) ∧ (s_.2 ≠ gb171) ∧ (gb173 ≠ s_.2) ∧ (s_.2 ≠ gb173) ∧ (Below w.heap.size w w')) ?_ ?_
          rotate_left
          ·intro hCont
           refine two_ (i := 13) (j := 14) (Ni := some 6) (Nj := some 7) #[true, true, true, true, true, true, true, true, true, true, true, true, true, true, false, false, false] #[true, true, true, true, true, true, true, true, true, true, true, true, true, false, true, false, false] rfl rfl rfl rfl (two_of HT_.out (by kernel_rfl)) (by decide) (by decide) (fun K hK => ?_) (fun K hK => ?_)
           ·skip
            refine box_step ?hg (N := 6) ?hd (cs := #[.int .i64 0, .int .i64 0]) (t := 77) ?hr ?_; (case hd => rfl); (case hg => rfl); (case hr => first | (go_simp; done) | (go_simp; rfl))
            intro gb174 hg w21 hbox hb
            have n0_ := Aside0.mk (blk_below (g := gb171) (o := .cells #[.int .i64 a1_0, .bool true, .int .i64 a1_2] 85 (0, 0)) (bx_ BK171.out) hb)
            have n1_ := Aside0.mk (blk_below (g := gb173) (o := .cells #[.int .i64 ((rd_T77 l0 a1_0).f0), .int .i64 ((rd_T77 l0 a1_0).f1)] 77 (0, 0)) (bx_ BK173.out) hb)
            have n2_ := Aside0.mk (below_step (hx_ HB.out) hb)
            have n3_ := Aside0.mk (hbox)
            have n4_ := Aside0.mk ((by rw [hg]; exact (below_size (hx_ HB.out)) : w.heap.size ≤ gb174))
            have n5_ := Aside0.mk ((by rw [hg]; exact (below_size (hx_ HB.out)) : w.heap.size ≤ gb174))
            have n6_ := Aside0.mk ((by rw [hg]; exact Nat.ne_of_lt (blk_lt (g := gb171) (o := .cells #[.int .i64 a1_0, .bool true, .int .i64 a1_2] 85 (0, 0)) (bx_ BK171.out)) : gb171 ≠ gb174))
            have n7_ := Aside0.mk ((by rw [hg]; exact Nat.ne_of_gt (blk_lt (g := gb171) (o := .cells #[.int .i64 a1_0, .bool true, .int .i64 a1_2] 85 (0, 0)) (bx_ BK171.out)) : gb174 ≠ gb171))
            have n8_ := Aside0.mk ((by rw [hg]; exact Nat.ne_of_lt (blk_lt (g := gb173) (o := .cells #[.int .i64 ((rd_T77 l0 a1_0).f0), .int .i64 ((rd_T77 l0 a1_0).f1)] 77 (0, 0)) (bx_ BK173.out)) : gb173 ≠ gb174))
            have n9_ := Aside0.mk ((by rw [hg]; exact Nat.ne_of_gt (blk_lt (g := gb173) (o := .cells #[.int .i64 ((rd_T77 l0 a1_0).f0), .int .i64 ((rd_T77 l0 a1_0).f1)] 77 (0, 0)) (bx_ BK173.out)) : gb174 ≠ gb173))
            clear BK171
            clear BK173
            clear HB
            have BK171 := n0_
            have BK173 := n1_
            have HB := n2_
            have BK174 := n3_
            have GW174 := n4_
            have GE174 := n5_
            have NB171_174 := n6_
            have NB174_171 := n7_
            have NB173_174 := n8_
            have NB174_173 := n9_
            clear n0_ n1_ n2_ n3_ n4_ n5_ n6_ n7_ n8_ n9_
            clear hb hbox hg
            refine hK.out _ _ ⟨(blk_cell BK171.out 0).trans rfl, (blk_cell BK171.out 1).trans rfl, (blk_cell BK171.out 2).trans rfl, (blk_cell BK173.out 0).trans rfl, (blk_cell BK173.out 1).trans rfl⟩ (fun hHeld => ?_)
            clear hK K
            refine norm_ (a' := ?_) ?_ ?_
            rotate_left
            ·show Act.put _ (some 6) _ = _
             simp only [Act.put, List.setIfInBounds_toArray, List.set_cons_zero, List.set_cons_succ, i64_w, i32_w]
             rfl
            refine one_ (i := 14) (N := some 7) #[true, true, true, true, true, true, true, true, true, true, true, true, true, true, true, false, false] rfl rfl (one_of HT_.out (by kernel_rfl)) (by decide) (fun K hK => ?_)
            refine box_step ?hg (N := 7) ?hd (cs := #[.int .i64 0, .int .i64 0]) (t := 77) ?hr ?_; (case hd => rfl); (case hg => rfl); (case hr => first | (go_simp; done) | (go_simp; rfl))
            intro gb175 hg w22 hbox hb
            have n0_ := Aside0.mk (blk_below (g := gb171) (o := .cells #[.int .i64 a1_0, .bool true, .int .i64 a1_2] 85 (0, 0)) (bx_ BK171.out) hb)
            have n1_ := Aside0.mk (blk_below (g := gb173) (o := .cells #[.int .i64 ((rd_T77 l0 a1_0).f0), .int .i64 ((rd_T77 l0 a1_0).f1)] 77 (0, 0)) (bx_ BK173.out) hb)
            have n2_ := Aside0.mk (blk_below (g := gb174) (o := .cells #[.int .i64 0, .int .i64 0] 77 (0, 0)) (bx_ BK174.out) hb)
            have n3_ := Aside0.mk (below_step (hx_ HB.out) hb)
            have n4_ := Aside0.mk (hbox)
            have n5_ := Aside0.mk ((by rw [hg]; exact (below_size (hx_ HB.out)) : w.heap.size ≤ gb175))
            have n6_ := Aside0.mk ((by rw [hg]; exact (below_size (hx_ HB.out)) : w.heap.size ≤ gb175))
            have n7_ := Aside0.mk ((by rw [hg]; exact Nat.ne_of_lt (blk_lt (g := gb171) (o := .cells #[.int .i64 a1_0, .bool true, .int .i64 a1_2] 85 (0, 0)) (bx_ BK171.out)) : gb171 ≠ gb175))
            have n8_ := Aside0.mk ((by rw [hg]; exact Nat.ne_of_gt (blk_lt (g := gb171) (o := .cells #[.int .i64 a1_0, .bool true, .int .i64 a1_2] 85 (0, 0)) (bx_ BK171.out)) : gb175 ≠ gb171))
            have n9_ := Aside0.mk ((by rw [hg]; exact Nat.ne_of_lt (blk_lt (g := gb173) (o := .cells #[.int .i64 ((rd_T77 l0 a1_0).f0), .int .i64 ((rd_T77 l0 a1_0).f1)] 77 (0, 0)) (bx_ BK173.out)) : gb173 ≠ gb175))
            have n10_ := Aside0.mk ((by rw [hg]; exact Nat.ne_of_gt (blk_lt (g := gb173) (o := .cells #[.int .i64 ((rd_T77 l0 a1_0).f0), .int .i64 ((rd_T77 l0 a1_0).f1)] 77 (0, 0)) (bx_ BK173.out)) : gb175 ≠ gb173))
            have n11_ := Aside0.mk ((by rw [hg]; exact Nat.ne_of_lt (blk_lt (g := gb174) (o := .cells #[.int .i64 0, .int .i64 0] 77 (0, 0)) (bx_ BK174.out)) : gb174 ≠ gb175))
            have n12_ := Aside0.mk ((by rw [hg]; exact Nat.ne_of_gt (blk_lt (g := gb174) (o := .cells #[.int .i64 0, .int .i64 0] 77 (0, 0)) (bx_ BK174.out)) : gb175 ≠ gb174))
            clear BK171
            clear BK173
            clear BK174
            clear HB
            have BK171 := n0_
            have BK173 := n1_
            have BK174 := n2_
            have HB := n3_
            have BK175 := n4_
            have GW175 := n5_
            have GE175 := n6_
            have NB171_175 := n7_
            have NB175_171 := n8_
            have NB173_175 := n9_
            have NB175_173 := n10_
            have NB174_175 := n11_
            have NB175_174 := n12_
            clear n0_ n1_ n2_ n3_ n4_ n5_ n6_ n7_ n8_ n9_ n10_ n11_ n12_
            clear hb hbox hg
            refine hK.out _ _ ⟨(blk_cell BK171.out 0).trans rfl, (blk_cell BK171.out 1).trans rfl, (blk_cell BK171.out 2).trans rfl, (blk_cell BK173.out 0).trans rfl, (blk_cell BK173.out 1).trans rfl⟩ (fun hHeld => ?_)
            clear hK K
            refine norm_ (a' := ?_) ?_ ?_
            rotate_left
            ·show Act.put _ (some 7) _ = _
             simp only [Act.put, List.setIfInBounds_toArray, List.set_cons_zero, List.set_cons_succ, i64_w, i32_w]
             rfl
            exact norm_ (by simp only [putAll, Act.put, List.setIfInBounds_toArray, List.set_cons_zero, List.set_cons_succ]) (hCont (gb174, gb175) _ ⟨hHeld, (bx_ BK171.out), (bx_ BK173.out), (bx_ BK174.out), (bx_ BK175.out), GW174.out, GE174.out, NB171_174.out, NB174_171.out, NB173_174.out, NB174_173.out, NB175_174.out, NB174_175.out, GW175.out, GE175.out, NB171_175.out, NB175_171.out, NB173_175.out, NB175_173.out, (hx_ HB.out)⟩)
           ·skip
            refine box_step ?hg (N := 7) ?hd (cs := #[.int .i64 0, .int .i64 0]) (t := 77) ?hr ?_; (case hd => rfl); (case hg => rfl); (case hr => first | (go_simp; done) | (go_simp; rfl))
            intro gb175 hg w21 hbox hb
            have n0_ := Aside0.mk (blk_below (g := gb171) (o := .cells #[.int .i64 a1_0, .bool true, .int .i64 a1_2] 85 (0, 0)) (bx_ BK171.out) hb)
            have n1_ := Aside0.mk (blk_below (g := gb173) (o := .cells #[.int .i64 ((rd_T77 l0 a1_0).f0), .int .i64 ((rd_T77 l0 a1_0).f1)] 77 (0, 0)) (bx_ BK173.out) hb)
            have n2_ := Aside0.mk (below_step (hx_ HB.out) hb)
            have n3_ := Aside0.mk (hbox)
            have n4_ := Aside0.mk ((by rw [hg]; exact (below_size (hx_ HB.out)) : w.heap.size ≤ gb175))
            have n5_ := Aside0.mk ((by rw [hg]; exact (below_size (hx_ HB.out)) : w.heap.size ≤ gb175))
            have n6_ := Aside0.mk ((by rw [hg]; exact Nat.ne_of_lt (blk_lt (g := gb171) (o := .cells #[.int .i64 a1_0, .bool true, .int .i64 a1_2] 85 (0, 0)) (bx_ BK171.out)) : gb171 ≠ gb175))
            have n7_ := Aside0.mk ((by rw [hg]; exact Nat.ne_of_gt (blk_lt (g := gb171) (o := .cells #[.int .i64 a1_0, .bool true, .int .i64 a1_2] 85 (0, 0)) (bx_ BK171.out)) : gb175 ≠ gb171))
            have n8_ := Aside0.mk ((by rw [hg]; exact Nat.ne_of_lt (blk_lt (g := gb173) (o := .cells #[.int .i64 ((rd_T77 l0 a1_0).f0), .int .i64 ((rd_T77 l0 a1_0).f1)] 77 (0, 0)) (bx_ BK173.out)) : gb173 ≠ gb175))
            have n9_ := Aside0.mk ((by rw [hg]; exact Nat.ne_of_gt (blk_lt (g := gb173) (o := .cells #[.int .i64 ((rd_T77 l0 a1_0).f0), .int .i64 ((rd_T77 l0 a1_0).f1)] 77 (0, 0)) (bx_ BK173.out)) : gb175 ≠ gb173))
            clear BK171
            clear BK173
            clear HB
            have BK171 := n0_
            have BK173 := n1_
            have HB := n2_
            have BK175 := n3_
            have GW175 := n4_
            have GE175 := n5_
            have NB171_175 := n6_
            have NB175_171 := n7_
            have NB173_175 := n8_
            have NB175_173 := n9_
            clear n0_ n1_ n2_ n3_ n4_ n5_ n6_ n7_ n8_ n9_
            clear hb hbox hg
            refine hK.out _ _ ⟨(blk_cell BK171.out 0).trans rfl, (blk_cell BK171.out 1).trans rfl, (blk_cell BK171.out 2).trans rfl, (blk_cell BK173.out 0).trans rfl, (blk_cell BK173.out 1).trans rfl⟩ (fun hHeld => ?_)
            clear hK K
            refine norm_ (a' := ?_) ?_ ?_
            rotate_left
            ·show Act.put _ (some 7) _ = _
             simp only [Act.put, List.setIfInBounds_toArray, List.set_cons_zero, List.set_cons_succ, i64_w, i32_w]
             rfl
            refine one_ (i := 13) (N := some 6) #[true, true, true, true, true, true, true, true, true, true, true, true, true, true, true, false, false] rfl rfl (one_of HT_.out (by kernel_rfl)) (by decide) (fun K hK => ?_)
            refine box_step ?hg (N := 6) ?hd (cs := #[.int .i64 0, .int .i64 0]) (t := 77) ?hr ?_; (case hd => rfl); (case hg => rfl); (case hr => first | (go_simp; done) | (go_simp; rfl))
            intro gb174 hg w22 hbox hb
            have n0_ := Aside0.mk (blk_below (g := gb171) (o := .cells #[.int .i64 a1_0, .bool true, .int .i64 a1_2] 85 (0, 0)) (bx_ BK171.out) hb)
            have n1_ := Aside0.mk (blk_below (g := gb173) (o := .cells #[.int .i64 ((rd_T77 l0 a1_0).f0), .int .i64 ((rd_T77 l0 a1_0).f1)] 77 (0, 0)) (bx_ BK173.out) hb)
            have n2_ := Aside0.mk (blk_below (g := gb175) (o := .cells #[.int .i64 0, .int .i64 0] 77 (0, 0)) (bx_ BK175.out) hb)
            have n3_ := Aside0.mk (below_step (hx_ HB.out) hb)
            have n4_ := Aside0.mk (hbox)
            have n5_ := Aside0.mk ((by rw [hg]; exact (below_size (hx_ HB.out)) : w.heap.size ≤ gb174))
            have n6_ := Aside0.mk ((by rw [hg]; exact (below_size (hx_ HB.out)) : w.heap.size ≤ gb174))
            have n7_ := Aside0.mk ((by rw [hg]; exact Nat.ne_of_lt (blk_lt (g := gb171) (o := .cells #[.int .i64 a1_0, .bool true, .int .i64 a1_2] 85 (0, 0)) (bx_ BK171.out)) : gb171 ≠ gb174))
            have n8_ := Aside0.mk ((by rw [hg]; exact Nat.ne_of_gt (blk_lt (g := gb171) (o := .cells #[.int .i64 a1_0, .bool true, .int .i64 a1_2] 85 (0, 0)) (bx_ BK171.out)) : gb174 ≠ gb171))
            have n9_ := Aside0.mk ((by rw [hg]; exact Nat.ne_of_lt (blk_lt (g := gb173) (o := .cells #[.int .i64 ((rd_T77 l0 a1_0).f0), .int .i64 ((rd_T77 l0 a1_0).f1)] 77 (0, 0)) (bx_ BK173.out)) : gb173 ≠ gb174))
            have n10_ := Aside0.mk ((by rw [hg]; exact Nat.ne_of_gt (blk_lt (g := gb173) (o := .cells #[.int .i64 ((rd_T77 l0 a1_0).f0), .int .i64 ((rd_T77 l0 a1_0).f1)] 77 (0, 0)) (bx_ BK173.out)) : gb174 ≠ gb173))
            have n11_ := Aside0.mk ((by rw [hg]; exact Nat.ne_of_lt (blk_lt (g := gb175) (o := .cells #[.int .i64 0, .int .i64 0] 77 (0, 0)) (bx_ BK175.out)) : gb175 ≠ gb174))
            have n12_ := Aside0.mk ((by rw [hg]; exact Nat.ne_of_gt (blk_lt (g := gb175) (o := .cells #[.int .i64 0, .int .i64 0] 77 (0, 0)) (bx_ BK175.out)) : gb174 ≠ gb175))
            clear BK171
            clear BK173
            clear BK175
            clear HB
            have BK171 := n0_
            have BK173 := n1_
            have BK175 := n2_
            have HB := n3_
            have BK174 := n4_
            have GW174 := n5_
            have GE174 := n6_
            have NB171_174 := n7_
            have NB174_171 := n8_
            have NB173_174 := n9_
            have NB174_173 := n10_
            have NB175_174 := n11_
            have NB174_175 := n12_
            clear n0_ n1_ n2_ n3_ n4_ n5_ n6_ n7_ n8_ n9_ n10_ n11_ n12_
            clear hb hbox hg
            refine hK.out _ _ ⟨(blk_cell BK171.out 0).trans rfl, (blk_cell BK171.out 1).trans rfl, (blk_cell BK171.out 2).trans rfl, (blk_cell BK173.out 0).trans rfl, (blk_cell BK173.out 1).trans rfl⟩ (fun hHeld => ?_)
            clear hK K
            refine norm_ (a' := ?_) ?_ ?_
            rotate_left
            ·show Act.put _ (some 6) _ = _
             simp only [Act.put, List.setIfInBounds_toArray, List.set_cons_zero, List.set_cons_succ, i64_w, i32_w]
             rfl
            exact norm_ (by simp only [putAll, Act.put, List.setIfInBounds_toArray, List.set_cons_zero, List.set_cons_succ]) (hCont (gb174, gb175) _ ⟨hHeld, (bx_ BK171.out), (bx_ BK173.out), (bx_ BK174.out), (bx_ BK175.out), GW174.out, GE174.out, NB171_174.out, NB174_171.out, NB173_174.out, NB174_173.out, NB175_174.out, NB174_175.out, GW175.out, GE175.out, NB171_175.out, NB175_171.out, NB173_175.out, NB175_173.out, (hx_ HB.out)⟩)
          rintro ⟨gb174, gb175⟩ w23 ⟨hS_, h0_, h1_, h2_, h3_, h4_, h5_, h6_, h7_, h8_, h9_, h10_, h11_, h12_, h13_, h14_, h15_, h16_, h17_, h18_⟩
          have n0_ : Aside0 (w23.heap[gb171]? = some (.cells #[.int .i64 a1_0, .bool true, .int .i64 a1_2] 85 (0, 0))) := ⟨h0_⟩
          have n1_ : Aside0 (w23.heap[gb173]? = some (.cells #[.int .i64 ((rd_T77 l0 a1_0).f0), .int .i64 ((rd_T77 l0 a1_0).f1)] 77 (0, 0))) := ⟨h1_⟩
          have n2_ : Aside0 (w23.heap[gb174]? = some (.cells #[.int .i64 0, .int .i64 0] 77 (0, 0))) := ⟨h2_⟩
          have n3_ : Aside0 (w23.heap[gb175]? = some (.cells #[.int .i64 0, .int .i64 0] 77 (0, 0))) := ⟨h3_⟩
          have n4_ : Aside0 (w.heap.size ≤ gb174) := ⟨h4_⟩
          have n5_ : Aside0 (w.heap.size ≤ gb174) := ⟨h5_⟩
          have n6_ : Aside0 (gb171 ≠ gb174) := ⟨h6_⟩
          have n7_ : Aside0 (gb174 ≠ gb171) := ⟨h7_⟩
          have n8_ : Aside0 (gb173 ≠ gb174) := ⟨h8_⟩
          have n9_ : Aside0 (gb174 ≠ gb173) := ⟨h9_⟩
          have n10_ : Aside0 (gb175 ≠ gb174) := ⟨h10_⟩
          have n11_ : Aside0 (gb174 ≠ gb175) := ⟨h11_⟩
          have n12_ : Aside0 (w.heap.size ≤ gb175) := ⟨h12_⟩
          have n13_ : Aside0 (w.heap.size ≤ gb175) := ⟨h13_⟩
          have n14_ : Aside0 (gb171 ≠ gb175) := ⟨h14_⟩
          have n15_ : Aside0 (gb175 ≠ gb171) := ⟨h15_⟩
          have n16_ : Aside0 (gb173 ≠ gb175) := ⟨h16_⟩
          have n17_ : Aside0 (gb175 ≠ gb173) := ⟨h17_⟩
          have n18_ : Aside0 (Below w.heap.size w w23) := ⟨h18_⟩
          clear BK171
          clear BK173
          clear HB
          clear h0_ h1_ h2_ h3_ h4_ h5_ h6_ h7_ h8_ h9_ h10_ h11_ h12_ h13_ h14_ h15_ h16_ h17_ h18_
          have BK171 := n0_
          have BK173 := n1_
          have BK174 := n2_
          have BK175 := n3_
          have GW174 := n4_
          have GE174 := n5_
          have NB171_174 := n6_
          have NB174_171 := n7_
          have NB173_174 := n8_
          have NB174_173 := n9_
          have NB175_174 := n10_
          have NB174_175 := n11_
          have GW175 := n12_
          have GE175 := n13_
          have NB171_175 := n14_
          have NB175_171 := n15_
          have NB173_175 := n16_
          have NB175_173 := n17_
          have HB := n18_
          clear n0_ n1_ n2_ n3_ n4_ n5_ n6_ n7_ n8_ n9_ n10_ n11_ n12_ n13_ n14_ n15_ n16_ n17_ n18_
          have hHeld : w23.cell? ⟨gb171, 0, none⟩ = some (.int .i64 a1_0) ∧ w23.cell? ⟨gb171, 1, none⟩ = some (.bool true) ∧ w23.cell? ⟨gb171, 2, none⟩ = some (.int .i64 a1_2) ∧ w23.cell? ⟨gb173, 0, none⟩ = some (.int .i64 ((rd_T77 l0 a1_0).f0)) ∧ w23.cell? ⟨gb173, 1, none⟩ = some (.int .i64 ((rd_T77 l0 a1_0).f1)) := hS_
          refine norm_ (a' := ?_) ?_ ?_
          rotate_left
          ·simp only [putAll, Act.put, List.setIfInBounds_toArray, List.set_cons_zero, List.set_cons_succ]
           rfl
          refine one_ (i := 15) (N := none) #[true, true, true, true, true, true, true, true, true, true, true, true, true, true, true, true, false] rfl rfl (one_of HT_.out (by kernel_rfl)) (by decide) (fun K hK => ?_)
          have hs24 : w23.cell? ⟨gb174, 0, none⟩ = some (.int .i64 0) := (blk_cell BK174.out 0).trans rfl
          have hfs24 := blk_frozen BK174.out 0
          have hns24_0 := NB171_174.out
          have hns24_1 := NB173_174.out
          have hns24_3 := NB175_174.out
          have hms24_0 := NB174_171.out
          have hms24_1 := NB174_173.out
          have hms24_3 := NB174_175.out
          have hs25 : w23.cell? ⟨gb174, 1, none⟩ = some (.int .i64 0) := (blk_cell BK174.out 1).trans rfl
          have hfs25 := blk_frozen BK174.out 1
          have hns25_0 := NB171_174.out
          have hns25_1 := NB173_174.out
          have hns25_3 := NB175_174.out
          have hms25_0 := NB174_171.out
          have hms25_1 := NB174_173.out
          have hms25_3 := NB174_175.out
          refine skip_ (w1 := ?_) (by rfl) rfl ?_ ?_
          rotate_left
          ·go_simp
           rfl
          refine hK.out _ _ ⟨((cell_far (p := ⟨gb174, _, none⟩) NB171_174.out _).trans (((cell_far (p := ⟨gb174, _, none⟩) NB171_174.out _).trans (hHeld.1)))), ((cell_far (p := ⟨gb174, _, none⟩) NB171_174.out _).trans (((cell_far (p := ⟨gb174, _, none⟩) NB171_174.out _).trans (hHeld.2.1)))), ((cell_far (p := ⟨gb174, _, none⟩) NB171_174.out _).trans (((cell_far (p := ⟨gb174, _, none⟩) NB171_174.out _).trans (hHeld.2.2.1)))), ((cell_far (p := ⟨gb174, _, none⟩) NB173_174.out _).trans (((cell_far (p := ⟨gb174, _, none⟩) NB173_174.out _).trans (hHeld.2.2.2.1)))), ((cell_far (p := ⟨gb174, _, none⟩) NB173_174.out _).trans (((cell_far (p := ⟨gb174, _, none⟩) NB173_174.out _).trans (hHeld.2.2.2.2))))⟩ (fun hHeld => ?_)
          clear hK K
          refine one_ (i := 16) (N := none) #[true, true, true, true, true, true, true, true, true, true, true, true, true, true, true, true, true] rfl rfl (one_of HT_.out (by kernel_rfl)) (by decide) (fun K hK => ?_)
          have hs26 : w23.cell? ⟨gb175, 0, none⟩ = some (.int .i64 0) := (blk_cell BK175.out 0).trans rfl
          have hfs26 := blk_frozen BK175.out 0
          have hns26_0 := NB171_175.out
          have hns26_1 := NB173_175.out
          have hns26_2 := NB174_175.out
          have hms26_0 := NB175_171.out
          have hms26_1 := NB175_173.out
          have hms26_2 := NB175_174.out
          have hs27 : w23.cell? ⟨gb175, 1, none⟩ = some (.int .i64 0) := (blk_cell BK175.out 1).trans rfl
          have hfs27 := blk_frozen BK175.out 1
          have hns27_0 := NB171_175.out
          have hns27_1 := NB173_175.out
          have hns27_2 := NB174_175.out
          have hms27_0 := NB175_171.out
          have hms27_1 := NB175_173.out
          have hms27_2 := NB175_174.out
          refine skip_ (w1 := ?_) (by rfl) rfl ?_ ?_
          rotate_left
          ·go_simp
           rfl
          refine hK.out _ _ ⟨((cell_far (p := ⟨gb175, _, none⟩) NB171_175.out _).trans (((cell_far (p := ⟨gb175, _, none⟩) NB171_175.out _).trans (hHeld.1)))), ((cell_far (p := ⟨gb175, _, none⟩) NB171_175.out _).trans (((cell_far (p := ⟨gb175, _, none⟩) NB171_175.out _).trans (hHeld.2.1)))), ((cell_far (p := ⟨gb175, _, none⟩) NB171_175.out _).trans (((cell_far (p := ⟨gb175, _, none⟩) NB171_175.out _).trans (hHeld.2.2.1)))), ((cell_far (p := ⟨gb175, _, none⟩) NB173_175.out _).trans (((cell_far (p := ⟨gb175, _, none⟩) NB173_175.out _).trans (hHeld.2.2.2.1)))), ((cell_far (p := ⟨gb175, _, none⟩) NB173_175.out _).trans (((cell_far (p := ⟨gb175, _, none⟩) NB173_175.out _).trans (hHeld.2.2.2.2))))⟩ (fun hHeld => ?_)
          clear hK K
          refine done_ (done_of HT_.out (by kernel_rfl)) ?_
          have hnb28 := NB171_174.out
          have hnc28 := NB174_171.out
          have hnb29 := NB171_175.out
          have hnc29 := NB175_171.out
          have hcz30_0 : w23.cell? ⟨gb171, 0, none⟩ = some (.int .i64 a1_0) := (blk_cell BK171.out 0).trans rfl
          have hcz30_1 : w23.cell? ⟨gb171, 1, none⟩ = some (.bool true) := (blk_cell BK171.out 1).trans rfl
          have hcz30_2 : w23.cell? ⟨gb171, 2, none⟩ = some (.int .i64 a1_2) := (blk_cell BK171.out 2).trans rfl
          have hfz30_0 := blk_frozen BK171.out 0
          have hfz30_1 := blk_frozen BK171.out 1
          have hfz30_2 := blk_frozen BK171.out 2
          try go_wp2
          have n0_ : Aside0 (((((w23.setCell ⟨gb174, 0, none⟩ (.int .i64 a1_2)).setCell ⟨gb174, 1, none⟩ (.int .i64 ((rd_T77 l0 a1_0).f1))).setCell ⟨gb175, 0, none⟩ (.int .i64 (wrap64 (((rd_T77 l0 a1_0).f0) - a1_2)))).setCell ⟨gb175, 1, none⟩ (.int .i64 ((rd_T77 l0 a1_0).f1))).heap[gb171]? = some (.cells #[.int .i64 a1_0, .bool true, .int .i64 a1_2] 85 (0, 0))) := ⟨bx_ BK171.out⟩
          have n1_ : Aside0 (((((w23.setCell ⟨gb174, 0, none⟩ (.int .i64 a1_2)).setCell ⟨gb174, 1, none⟩ (.int .i64 ((rd_T77 l0 a1_0).f1))).setCell ⟨gb175, 0, none⟩ (.int .i64 (wrap64 (((rd_T77 l0 a1_0).f0) - a1_2)))).setCell ⟨gb175, 1, none⟩ (.int .i64 ((rd_T77 l0 a1_0).f1))).heap[gb173]? = some (.cells #[.int .i64 ((rd_T77 l0 a1_0).f0), .int .i64 ((rd_T77 l0 a1_0).f1)] 77 (0, 0))) := ⟨bx_ BK173.out⟩
          have n2_ : Aside0 (((((w23.setCell ⟨gb174, 0, none⟩ (.int .i64 a1_2)).setCell ⟨gb174, 1, none⟩ (.int .i64 ((rd_T77 l0 a1_0).f1))).setCell ⟨gb175, 0, none⟩ (.int .i64 (wrap64 (((rd_T77 l0 a1_0).f0) - a1_2)))).setCell ⟨gb175, 1, none⟩ (.int .i64 ((rd_T77 l0 a1_0).f1))).heap[gb174]? = some (.cells #[.int .i64 a1_2, .int .i64 ((rd_T77 l0 a1_0).f1)] 77 (0, 0))) := ⟨by (with_reducible repeat (first | refine blk_drewN ?_ _ | refine blk_drew ?_ | refine blk_alloc ?_ _)); refine blk_far ?_ NB174_175.out _; (with_reducible repeat (first | refine blk_drewN ?_ _ | refine blk_drew ?_ | refine blk_alloc ?_ _)); refine blk_far ?_ NB174_175.out _; (with_reducible repeat (first | refine blk_drewN ?_ _ | refine blk_drew ?_ | refine blk_alloc ?_ _)); refine blk_put (cs := #[.int .i64 a1_2, .int .i64 0]) ?_ 1 _ rfl; (with_reducible repeat (first | refine blk_drewN ?_ _ | refine blk_drew ?_ | refine blk_alloc ?_ _)); refine blk_put (cs := #[.int .i64 0, .int .i64 0]) ?_ 0 _ rfl; (with_reducible repeat (first | refine blk_drewN ?_ _ | refine blk_drew ?_ | refine blk_alloc ?_ _)); exact BK174.out⟩
          have n3_ : Aside0 (((((w23.setCell ⟨gb174, 0, none⟩ (.int .i64 a1_2)).setCell ⟨gb174, 1, none⟩ (.int .i64 ((rd_T77 l0 a1_0).f1))).setCell ⟨gb175, 0, none⟩ (.int .i64 (wrap64 (((rd_T77 l0 a1_0).f0) - a1_2)))).setCell ⟨gb175, 1, none⟩ (.int .i64 ((rd_T77 l0 a1_0).f1))).heap[gb175]? = some (.cells #[.int .i64 (wrap64 (((rd_T77 l0 a1_0).f0) - a1_2)), .int .i64 ((rd_T77 l0 a1_0).f1)] 77 (0, 0))) := ⟨by (with_reducible repeat (first | refine blk_drewN ?_ _ | refine blk_drew ?_ | refine blk_alloc ?_ _)); refine blk_put (cs := #[.int .i64 (wrap64 (((rd_T77 l0 a1_0).f0) - a1_2)), .int .i64 0]) ?_ 1 _ rfl; (with_reducible repeat (first | refine blk_drewN ?_ _ | refine blk_drew ?_ | refine blk_alloc ?_ _)); refine blk_put (cs := #[.int .i64 0, .int .i64 0]) ?_ 0 _ rfl; (with_reducible repeat (first | refine blk_drewN ?_ _ | refine blk_drew ?_ | refine blk_alloc ?_ _)); refine blk_far ?_ NB175_174.out _; (with_reducible repeat (first | refine blk_drewN ?_ _ | refine blk_drew ?_ | refine blk_alloc ?_ _)); refine blk_far ?_ NB175_174.out _; (with_reducible repeat (first | refine blk_drewN ?_ _ | refine blk_drew ?_ | refine blk_alloc ?_ _)); exact BK175.out⟩
          have n4_ : Aside0 (Below w.heap.size w ((((w23.setCell ⟨gb174, 0, none⟩ (.int .i64 a1_2)).setCell ⟨gb174, 1, none⟩ (.int .i64 ((rd_T77 l0 a1_0).f1))).setCell ⟨gb175, 0, none⟩ (.int .i64 (wrap64 (((rd_T77 l0 a1_0).f0) - a1_2)))).setCell ⟨gb175, 1, none⟩ (.int .i64 ((rd_T77 l0 a1_0).f1)))) := ⟨hx_ HB.out⟩
          (try clear BK171)
          (try clear BK173)
          (try clear BK174)
          (try clear BK175)
          (try clear HB)
          generalize ((((w23.setCell ⟨gb174, 0, none⟩ (.int .i64 a1_2)).setCell ⟨gb174, 1, none⟩ (.int .i64 ((rd_T77 l0 a1_0).f1))).setCell ⟨gb175, 0, none⟩ (.int .i64 (wrap64 (((rd_T77 l0 a1_0).f0) - a1_2)))).setCell ⟨gb175, 1, none⟩ (.int .i64 ((rd_T77 l0 a1_0).f1))) = w31 at n0_ n1_ n2_ n3_ n4_ ⊢
          have BK171 := n0_
          have BK173 := n1_
          have BK174 := n2_
          have BK175 := n3_
          have HB := n4_
          clear n0_ n1_ n2_ n3_ n4_
          have n0_ := Aside0.mk (blk_drew BK171.out)
          have n1_ := Aside0.mk (blk_drew BK173.out)
          have n2_ := Aside0.mk (blk_drew BK174.out)
          have n3_ := Aside0.mk (blk_drew BK175.out)
          have n4_ := Aside0.mk (below_drew1 HB.out)
          clear BK171
          clear BK173
          clear BK174
          clear BK175
          clear HB
          have BK171 := n0_
          have BK173 := n1_
          have BK174 := n2_
          have BK175 := n3_
          have HB := n4_
          clear n0_ n1_ n2_ n3_ n4_
          refine start_ (n := 15) (S := fun w' => w'.cell? ⟨gb173, 0, none⟩ = some (.int .i64 ((rd_T77 l0 a1_0).f0)) ∧ w'.cell? ⟨gb173, 1, none⟩ = some (.int .i64 ((rd_T77 l0 a1_0).f1)) ∧ w'.cell? ⟨gb171, 0, none⟩ = some (.int .i64 a1_0) ∧ w'.cell? ⟨gb171, 1, none⟩ = some (.bool true) ∧ w'.cell? ⟨gb171, 2, none⟩ = some (.int .i64 a1_2)) (ds := []) #[false, false, false, false, false, false, false, false, false, false, false, false, false, false, false] (by kernel_rfl) rfl rfl ⟨(blk_cell BK173.out 0).trans rfl, (blk_cell BK173.out 1).trans rfl, (blk_cell BK171.out 0).trans rfl, (blk_cell BK171.out 1).trans rfl, (blk_cell BK171.out 2).trans rfl⟩ (fun hHeld => ?_); refine with_tabW spec_l09Cut.tab4 spec_l09Cut.bits4 (fun HT_ HW_ => ?_)
          generalize w31.drew = w32 at BK171 BK173 BK174 BK175 HB hHeld ⊢
          refine pure_ (i := 0) (N := some 28) (v := ?_) (a' := ?_) #[true, false, false, false, false, false, false, false, false, false, false, false, false, false, false] rfl rfl (any_of HT_.out (by kernel_rfl)) (fun _ _ _ h => h) (Or.inl ⟨by rfl, ?_⟩) ?_ ?_
          rotate_left
          ·intro w'
           go_simp
           with_reducible rfl
          rotate_left
          ·simp only [Act.put, List.setIfInBounds_toArray, List.set_cons_zero, List.set_cons_succ, i64_w, i32_w]
           rfl
          refine pure_ (i := 2) (N := some 30) (v := ?_) (a' := ?_) #[true, false, true, false, false, false, false, false, false, false, false, false, false, false, false] rfl rfl (any_of HT_.out (by kernel_rfl)) (fun _ _ _ h => h) (Or.inl ⟨by rfl, ?_⟩) ?_ ?_
          rotate_left
          ·intro w'
           go_simp
           with_reducible rfl
          rotate_left
          ·simp only [Act.put, List.setIfInBounds_toArray, List.set_cons_zero, List.set_cons_succ, i64_w, i32_w]
           rfl
          refine pure_ (i := 5) (N := some 33) (v := ?_) (a' := ?_) #[true, false, true, false, false, true, false, false, false, false, false, false, false, false, false] rfl rfl (any_of HT_.out (by kernel_rfl)) (fun _ _ _ h => h) (Or.inl ⟨by rfl, ?_⟩) ?_ ?_
          rotate_left
          ·intro w'
           go_simp
           with_reducible rfl
          rotate_left
          ·simp only [Act.put, List.setIfInBounds_toArray, List.set_cons_zero, List.set_cons_succ, i64_w, i32_w]
           rfl
          refine pure_ (i := 7) (N := some 35) (v := ?_) (a' := ?_) #[true, false, true, false, false, true, false, true, false, false, false, false, false, false, false] rfl rfl (any_of HT_.out (by kernel_rfl)) (fun _ _ _ h => h) (Or.inl ⟨by rfl, ?_⟩) ?_ ?_
          rotate_left
          ·intro w'
           go_simp
           with_reducible rfl
          rotate_left
          ·simp only [Act.put, List.setIfInBounds_toArray, List.set_cons_zero, List.set_cons_succ, i64_w, i32_w]
           rfl
          refine pure_ (i := 9) (N := some 37) (v := ?_) (a' := ?_) #[true, false, true, false, false, true, false, true, false, true, false, false, false, false, false] rfl rfl (any_of HT_.out (by kernel_rfl)) (fun _ _ _ h => h) (Or.inl ⟨by rfl, ?_⟩) ?_ ?_
          rotate_left
          ·intro w'
           go_simp
           with_reducible rfl
          rotate_left
          ·simp only [Act.put, List.setIfInBounds_toArray, List.set_cons_zero, List.set_cons_succ, i64_w, i32_w]
           rfl
          refine take_ (i := 1) (N := some 29) (v := ?_) (a' := ?_) #[true, true, true, false, false, true, false, true, false, true, false, false, false, false, false] rfl rfl (take_ofW HT_.out HW_.out (by kernel_rfl)) (fun _ _ _ h => h) (Or.inl ⟨by rfl, ?_⟩) hHeld ?_ ?_
          rotate_left
          ·rintro w' ⟨s0, s1, s2, s3, s4⟩
           go_simp
           with_reducible rfl
          rotate_left
          ·simp only [Act.put, List.setIfInBounds_toArray, List.set_cons_zero, List.set_cons_succ, i64_w, i32_w]
           rfl
          refine take_ (i := 3) (N := some 31) (v := ?_) (a' := ?_) #[true, true, true, true, false, true, false, true, false, true, false, false, false, false, false] rfl rfl (take_ofW HT_.out HW_.out (by kernel_rfl)) (fun _ _ _ h => h) (Or.inl ⟨by rfl, ?_⟩) hHeld ?_ ?_
          rotate_left
          ·rintro w' ⟨s0, s1, s2, s3, s4⟩
           go_simp
           with_reducible rfl
          rotate_left
          ·simp only [Act.put, List.setIfInBounds_toArray, List.set_cons_zero, List.set_cons_succ, i64_w, i32_w]
           rfl
          refine pure_ (i := 4) (N := some 32) (v := ?_) (a' := ?_) #[true, true, true, true, true, true, false, true, false, true, false, false, false, false, false] rfl rfl (any_of HT_.out (by kernel_rfl)) (fun _ _ _ h => h) (Or.inl ⟨by rfl, ?_⟩) ?_ ?_
          rotate_left
          ·intro w'
           go_simp
           with_reducible rfl
          rotate_left
          ·simp only [Act.put, List.setIfInBounds_toArray, List.set_cons_zero, List.set_cons_succ, i64_w, i32_w]
           rfl
          refine take_ (i := 6) (N := some 34) (v := ?_) (a' := ?_) #[true, true, true, true, true, true, true, true, false, true, false, false, false, false, false] rfl rfl (take_ofW HT_.out HW_.out (by kernel_rfl)) (fun _ _ _ h => h) (Or.inl ⟨by rfl, ?_⟩) hHeld ?_ ?_
          rotate_left
          ·rintro w' ⟨s0, s1, s2, s3, s4⟩
           go_simp
           with_reducible rfl
          rotate_left
          ·simp only [Act.put, List.setIfInBounds_toArray, List.set_cons_zero, List.set_cons_succ, i64_w, i32_w]
           rfl
          refine take_ (i := 8) (N := some 36) (v := ?_) (a' := ?_) #[true, true, true, true, true, true, true, true, true, true, false, false, false, false, false] rfl rfl (take_ofW HT_.out HW_.out (by kernel_rfl)) (fun _ _ _ h => h) (Or.inl ⟨by rfl, ?_⟩) hHeld ?_ ?_
          rotate_left
          ·rintro w' ⟨s0, s1, s2, s3, s4⟩
           go_simp
           with_reducible rfl
          rotate_left
          ·simp only [Act.put, List.setIfInBounds_toArray, List.set_cons_zero, List.set_cons_succ, i64_w, i32_w]
           rfl
          refine take_ (i := 10) (N := some 38) (v := ?_) (a' := ?_) #[true, true, true, true, true, true, true, true, true, true, true, false, false, false, false] rfl rfl (take_ofW HT_.out HW_.out (by kernel_rfl)) (fun _ _ _ h => h) (Or.inl ⟨by rfl, ?_⟩) hHeld ?_ ?_
          rotate_left
          ·rintro w' ⟨s0, s1, s2, s3, s4⟩
           go_simp
           with_reducible rfl
          rotate_left
          ·simp only [Act.put, List.setIfInBounds_toArray, List.set_cons_zero, List.set_cons_succ, i64_w, i32_w]
           rfl
          refine pure_ (i := 11) (N := some 39) (v := ?_) (a' := ?_) #[true, true, true, true, true, true, true, true, true, true, true, true, false, false, false] rfl rfl (any_of HT_.out (by kernel_rfl)) (fun _ _ _ h => h) (Or.inl ⟨by rfl, ?_⟩) ?_ ?_
          rotate_left
          ·intro w'
           go_simp
           with_reducible rfl
          rotate_left
          ·simp only [Act.put, List.setIfInBounds_toArray, List.set_cons_zero, List.set_cons_succ, i64_w, i32_w]
           rfl
          refine pure_ (i := 12) (N := some 40) (v := ?_) (a' := ?_) #[true, true, true, true, true, true, true, true, true, true, true, true, true, false, false] rfl rfl (any_of HT_.out (by kernel_rfl)) (fun _ _ _ h => h) (Or.inl ⟨by rfl, ?_⟩) ?_ ?_
          rotate_left
          ·intro w'
           go_simp
           with_reducible rfl
          rotate_left
          ·simp only [Act.put, List.setIfInBounds_toArray, List.set_cons_zero, List.set_cons_succ, i64_w, i32_w]
           rfl
          refine one_ (i := 13) (N := none) #[true, true, true, true, true, true, true, true, true, true, true, true, true, true, false] rfl rfl (one_of HT_.out (by kernel_rfl)) (by decide) (fun K hK => ?_)
          have hs33 : w32.cell? ⟨gb174, 0, none⟩ = some (.int .i64 a1_2) := (blk_cell BK174.out 0).trans rfl
          have hfs33 := blk_frozen BK174.out 0
          have hns33_0 := NB171_174.out
          have hns33_1 := NB173_174.out
          have hns33_3 := NB175_174.out
          have hms33_0 := NB174_171.out
          have hms33_1 := NB174_173.out
          have hms33_3 := NB174_175.out
          have hs34 : w32.cell? ⟨gb174, 1, none⟩ = some (.int .i64 ((rd_T77 l0 a1_0).f1)) := (blk_cell BK174.out 1).trans rfl
          have hfs34 := blk_frozen BK174.out 1
          have hns34_0 := NB171_174.out
          have hns34_1 := NB173_174.out
          have hns34_3 := NB175_174.out
          have hms34_0 := NB174_171.out
          have hms34_1 := NB174_173.out
          have hms34_3 := NB174_175.out
          refine skip_ (w1 := ?_) (by rfl) rfl ?_ ?_
          rotate_left
          ·go_simp
           rfl
          refine hK.out _ _ ⟨((cell_far (p := ⟨gb174, _, none⟩) NB173_174.out _).trans (((cell_far (p := ⟨gb174, _, none⟩) NB173_174.out _).trans (hHeld.1)))), ((cell_far (p := ⟨gb174, _, none⟩) NB173_174.out _).trans (((cell_far (p := ⟨gb174, _, none⟩) NB173_174.out _).trans (hHeld.2.1)))), ((cell_far (p := ⟨gb174, _, none⟩) NB171_174.out _).trans (((cell_far (p := ⟨gb174, _, none⟩) NB171_174.out _).trans (hHeld.2.2.1)))), ((cell_far (p := ⟨gb174, _, none⟩) NB171_174.out _).trans (((cell_far (p := ⟨gb174, _, none⟩) NB171_174.out _).trans (hHeld.2.2.2.1)))), ((cell_far (p := ⟨gb174, _, none⟩) NB171_174.out _).trans (((cell_far (p := ⟨gb174, _, none⟩) NB171_174.out _).trans (hHeld.2.2.2.2))))⟩ (fun hHeld => ?_)
          clear hK K
          refine one_ (i := 14) (N := none) #[true, true, true, true, true, true, true, true, true, true, true, true, true, true, true] rfl rfl (one_of HT_.out (by kernel_rfl)) (by decide) (fun K hK => ?_)
          have hs35 : w32.cell? ⟨gb175, 0, none⟩ = some (.int .i64 (wrap64 (((rd_T77 l0 a1_0).f0) - a1_2))) := (blk_cell BK175.out 0).trans rfl
          have hfs35 := blk_frozen BK175.out 0
          have hns35_0 := NB171_175.out
          have hns35_1 := NB173_175.out
          have hns35_2 := NB174_175.out
          have hms35_0 := NB175_171.out
          have hms35_1 := NB175_173.out
          have hms35_2 := NB175_174.out
          have hs36 : w32.cell? ⟨gb175, 1, none⟩ = some (.int .i64 ((rd_T77 l0 a1_0).f1)) := (blk_cell BK175.out 1).trans rfl
          have hfs36 := blk_frozen BK175.out 1
          have hns36_0 := NB171_175.out
          have hns36_1 := NB173_175.out
          have hns36_2 := NB174_175.out
          have hms36_0 := NB175_171.out
          have hms36_1 := NB175_173.out
          have hms36_2 := NB175_174.out
          refine skip_ (w1 := ?_) (by rfl) rfl ?_ ?_
          rotate_left
          ·go_simp
           rfl
          refine hK.out _ _ ⟨((cell_far (p := ⟨gb175, _, none⟩) NB173_175.out _).trans (((cell_far (p := ⟨gb175, _, none⟩) NB173_175.out _).trans (hHeld.1)))), ((cell_far (p := ⟨gb175, _, none⟩) NB173_175.out _).trans (((cell_far (p := ⟨gb175, _, none⟩) NB173_175.out _).trans (hHeld.2.1)))), ((cell_far (p := ⟨gb175, _, none⟩) NB171_175.out _).trans (((cell_far (p := ⟨gb175, _, none⟩) NB171_175.out _).trans (hHeld.2.2.1)))), ((cell_far (p := ⟨gb175, _, none⟩) NB171_175.out _).trans (((cell_far (p := ⟨gb175, _, none⟩) NB171_175.out _).trans (hHeld.2.2.2.1)))), ((cell_far (p := ⟨gb175, _, none⟩) NB171_175.out _).trans (((cell_far (p := ⟨gb175, _, none⟩) NB171_175.out _).trans (hHeld.2.2.2.2))))⟩ (fun hHeld => ?_)
          clear hK K
          refine done_ (done_of HT_.out (by kernel_rfl)) ?_
          try go_wp2
          have n0_ : Aside0 (((((w32.setCell ⟨gb174, 0, none⟩ (.int .i64 ((rd_T77 l0 a1_0).f0))).setCell ⟨gb174, 1, none⟩ (.int .i64 a1_2)).setCell ⟨gb175, 0, none⟩ (.int .i64 ((rd_T77 l0 a1_0).f0))).setCell ⟨gb175, 1, none⟩ (.int .i64 (wrap64 (((rd_T77 l0 a1_0).f1) - a1_2)))).heap[gb171]? = some (.cells #[.int .i64 a1_0, .bool true, .int .i64 a1_2] 85 (0, 0))) := ⟨bx_ BK171.out⟩
          have n1_ : Aside0 (((((w32.setCell ⟨gb174, 0, none⟩ (.int .i64 ((rd_T77 l0 a1_0).f0))).setCell ⟨gb174, 1, none⟩ (.int .i64 a1_2)).setCell ⟨gb175, 0, none⟩ (.int .i64 ((rd_T77 l0 a1_0).f0))).setCell ⟨gb175, 1, none⟩ (.int .i64 (wrap64 (((rd_T77 l0 a1_0).f1) - a1_2)))).heap[gb173]? = some (.cells #[.int .i64 ((rd_T77 l0 a1_0).f0), .int .i64 ((rd_T77 l0 a1_0).f1)] 77 (0, 0))) := ⟨bx_ BK173.out⟩
          have n2_ : Aside0 (((((w32.setCell ⟨gb174, 0, none⟩ (.int .i64 ((rd_T77 l0 a1_0).f0))).setCell ⟨gb174, 1, none⟩ (.int .i64 a1_2)).setCell ⟨gb175, 0, none⟩ (.int .i64 ((rd_T77 l0 a1_0).f0))).setCell ⟨gb175, 1, none⟩ (.int .i64 (wrap64 (((rd_T77 l0 a1_0).f1) - a1_2)))).heap[gb174]? = some (.cells #[.int .i64 ((rd_T77 l0 a1_0).f0), .int .i64 a1_2] 77 (0, 0))) := ⟨by (with_reducible repeat (first | refine blk_drewN ?_ _ | refine blk_drew ?_ | refine blk_alloc ?_ _)); refine blk_far ?_ NB174_175.out _; (with_reducible repeat (first | refine blk_drewN ?_ _ | refine blk_drew ?_ | refine blk_alloc ?_ _)); refine blk_far ?_ NB174_175.out _; (with_reducible repeat (first | refine blk_drewN ?_ _ | refine blk_drew ?_ | refine blk_alloc ?_ _)); refine blk_put (cs := #[.int .i64 ((rd_T77 l0 a1_0).f0), .int .i64 ((rd_T77 l0 a1_0).f1)]) ?_ 1 _ rfl; (with_reducible repeat (first | refine blk_drewN ?_ _ | refine blk_drew ?_ | refine blk_alloc ?_ _)); refine blk_put (cs := #[.int .i64 a1_2, .int .i64 ((rd_T77 l0 a1_0).f1)]) ?_ 0 _ rfl; (with_reducible repeat (first | refine blk_drewN ?_ _ | refine blk_drew ?_ | refine blk_alloc ?_ _)); exact BK174.out⟩
          have n3_ : Aside0 (((((w32.setCell ⟨gb174, 0, none⟩ (.int .i64 ((rd_T77 l0 a1_0).f0))).setCell ⟨gb174, 1, none⟩ (.int .i64 a1_2)).setCell ⟨gb175, 0, none⟩ (.int .i64 ((rd_T77 l0 a1_0).f0))).setCell ⟨gb175, 1, none⟩ (.int .i64 (wrap64 (((rd_T77 l0 a1_0).f1) - a1_2)))).heap[gb175]? = some (.cells #[.int .i64 ((rd_T77 l0 a1_0).f0), .int .i64 (wrap64 (((rd_T77 l0 a1_0).f1) - a1_2))] 77 (0, 0))) := ⟨by (with_reducible repeat (first | refine blk_drewN ?_ _ | refine blk_drew ?_ | refine blk_alloc ?_ _)); refine blk_put (cs := #[.int .i64 ((rd_T77 l0 a1_0).f0), .int .i64 ((rd_T77 l0 a1_0).f1)]) ?_ 1 _ rfl; (with_reducible repeat (first | refine blk_drewN ?_ _ | refine blk_drew ?_ | refine blk_alloc ?_ _)); refine blk_put (cs := #[.int .i64 (wrap64 (((rd_T77 l0 a1_0).f0) - a1_2)), .int .i64 ((rd_T77 l0 a1_0).f1)]) ?_ 0 _ rfl; (with_reducible repeat (first | refine blk_drewN ?_ _ | refine blk_drew ?_ | refine blk_alloc ?_ _)); refine blk_far ?_ NB175_174.out _; (with_reducible repeat (first | refine blk_drewN ?_ _ | refine blk_drew ?_ | refine blk_alloc ?_ _)); refine blk_far ?_ NB175_174.out _; (with_reducible repeat (first | refine blk_drewN ?_ _ | refine blk_drew ?_ | refine blk_alloc ?_ _)); exact BK175.out⟩
          have n4_ : Aside0 (Below w.heap.size w ((((w32.setCell ⟨gb174, 0, none⟩ (.int .i64 ((rd_T77 l0 a1_0).f0))).setCell ⟨gb174, 1, none⟩ (.int .i64 a1_2)).setCell ⟨gb175, 0, none⟩ (.int .i64 ((rd_T77 l0 a1_0).f0))).setCell ⟨gb175, 1, none⟩ (.int .i64 (wrap64 (((rd_T77 l0 a1_0).f1) - a1_2))))) := ⟨hx_ HB.out⟩
          (try clear BK171)
          (try clear BK173)
          (try clear BK174)
          (try clear BK175)
          (try clear HB)
          generalize ((((w32.setCell ⟨gb174, 0, none⟩ (.int .i64 ((rd_T77 l0 a1_0).f0))).setCell ⟨gb174, 1, none⟩ (.int .i64 a1_2)).setCell ⟨gb175, 0, none⟩ (.int .i64 ((rd_T77 l0 a1_0).f0))).setCell ⟨gb175, 1, none⟩ (.int .i64 (wrap64 (((rd_T77 l0 a1_0).f1) - a1_2)))) = w37 at n0_ n1_ n2_ n3_ n4_ ⊢
          have BK171 := n0_
          have BK173 := n1_
          have BK174 := n2_
          have BK175 := n3_
          have HB := n4_
          clear n0_ n1_ n2_ n3_ n4_
          have n0_ := Aside0.mk (blk_drew BK171.out)
          have n1_ := Aside0.mk (blk_drew BK173.out)
          have n2_ := Aside0.mk (blk_drew BK174.out)
          have n3_ := Aside0.mk (blk_drew BK175.out)
          have n4_ := Aside0.mk (below_drew1 HB.out)
          clear BK171
          clear BK173
          clear BK174
          clear BK175
          clear HB
          have BK171 := n0_
          have BK173 := n1_
          have BK174 := n2_
          have BK175 := n3_
          have HB := n4_
          clear n0_ n1_ n2_ n3_ n4_
          have q39 : (a1_0 : Int) ≤ ((l0.length : Int) : Int) := of_decide_eq_true (by first | (with_reducible assumption) | assumption)
          obtain ⟨i039, hi039, _, hsz39, _⟩ := info_parts info77
          have hroom39 : l0.length ≤ c0 := HC0.out
          have hC39 : Kd.C k77 _ (some ad172) l0.length l0 := HR0.out
          have hcut39 := cut_to (P := Try.prog) 81 77 .i64 Try.underlying81 hi039 (some ad172) l0.length c0 a1_0 (of_decide_eq_true (by first | (with_reducible assumption) | assumption)) q39 hroom39
          have hr39 := Kd.C_take (m := (a1_0 : Int).toNat) hC39 (by omega)
          have hy39 : y179.length = (a1_0 : Int).toNat := (by rw [Ny179.out, List.length_take]; omega)
          rw [← Ny179.out] at hr39
          rw [← hy39] at hcut39
          have HR182 := Aside0.mk hr39
          have HC182 := Aside0.mk (show y179.length ≤ c0 from by omega)
          clear hr39 hC39 hroom39 hi039 hsz39
          have KY39 := Aside0.mk hy39
          clear hy39
          replace q39 := eq_true q39
          have q40 : ((ji10) : Int) ≤ ((l0.length : Int) : Int) := of_decide_eq_true (by first | (with_reducible assumption) | assumption)
          obtain ⟨i040, hi040, _, hsz40, _⟩ := info_parts info77
          have hroom40 : l0.length ≤ c0 := HC0.out
          have hC40 : Kd.C k77 _ (some ad172) l0.length l0 := HR0.out
          have q040 : (0 : Int) ≤ ((ji10) : Int) := of_decide_eq_true (by first | (with_reducible assumption) | assumption)
          have hcut40 := cut_from (P := Try.prog) 81 77 .i64 Try.underlying81 hi040 2 hsz40 (some ad172) l0.length c0 (ji10) q040 q40
          have hr40 := Kd.C_drop (m := ((ji10) : Int).toNat) (c := c0) hC40 (by omega) hroom40
          obtain ⟨A40, hA40⟩ : ∃ A1, A1 = (if c0 = ((ji10) : Int).toNat then (some ad172) else ((some ad172) : Option Addr).map (·.add (((ji10) : Int).toNat * 2))) := ⟨_, rfl⟩
          obtain ⟨c40, hc40⟩ : ∃ c1, c1 = c0 - ((ji10) : Int).toNat := ⟨_, rfl⟩
          have hy40 : y192.length = l0.length - ((ji10) : Int).toNat := (by rw [Ny192.out, List.length_drop] <;> omega)
          rw [show (l0).drop ((ji10) : Int).toNat = y192 from Ny192.out.symm] at hr40
          replace hr40 : Kd.C k77 _ A40 y192.length y192 := (by rw [hA40]; exact hr40)
          rw [← hy40, ← hA40, ← hc40] at hcut40
          have HR195 := Aside0.mk hr40
          have HC195 := Aside0.mk (show y192.length ≤ c40 from by rw [hy40, hc40]; exact Nat.sub_le_sub_right hroom40 _)
          clear hr40 hC40 hroom40 hi040 hsz40 hc40
          have KY40 := Aside0.mk hy40
          have KA40 := Aside0.mk hA40
          clear hy40 hA40
          replace q40 := eq_true q40
          refine start_ (n := 17) (S := fun w' => w'.cell? ⟨gb171, 0, none⟩ = some (.int .i64 a1_0) ∧ w'.cell? ⟨gb171, 1, none⟩ = some (.bool true) ∧ w'.cell? ⟨gb171, 2, none⟩ = some (.int .i64 a1_2) ∧ w'.cell? ⟨gb174, 0, none⟩ = some (.int .i64 ((rd_T77 l0 a1_0).f0)) ∧ w'.cell? ⟨gb174, 1, none⟩ = some (.int .i64 a1_2) ∧ w'.cell? ⟨gb175, 0, none⟩ = some (.int .i64 ((rd_T77 l0 a1_0).f0)) ∧ w'.cell? ⟨gb175, 1, none⟩ = some (.int .i64 (wrap64 (((rd_T77 l0 a1_0).f1) - a1_2)))) (ds := []) #[false, false, false, false, false, false, false, false, false, false, false, false, false, false, false, false, false] (by kernel_rfl) rfl rfl ⟨(blk_cell BK171.out 0).trans rfl, (blk_cell BK171.out 1).trans rfl, (blk_cell BK171.out 2).trans rfl, (blk_cell BK174.out 0).trans rfl, (blk_cell BK174.out 1).trans rfl, (blk_cell BK175.out 0).trans rfl, (blk_cell BK175.out 1).trans rfl⟩ (fun hHeld => ?_); refine with_tabW spec_l09Cut.tab5 spec_l09Cut.bits5 (fun HT_ HW_ => ?_)
          generalize w37.drew = w38 at BK171 BK173 BK174 BK175 HB HR182 HR195 hHeld ⊢
          refine pure_ (i := 1) (N := some 42) (v := ?_) (a' := ?_) #[false, true, false, false, false, false, false, false, false, false, false, false, false, false, false, false, false] rfl rfl (any_of HT_.out (by kernel_rfl)) (fun _ _ _ h => h) (Or.inl ⟨by rfl, ?_⟩) ?_ ?_
          rotate_left
          ·intro w'
           go_simp
           with_reducible rfl
          rotate_left
          ·simp only [Act.put, List.setIfInBounds_toArray, List.set_cons_zero, List.set_cons_succ, i64_w, i32_w]
           rfl
          refine pure_ (i := 2) (N := some 43) (v := ?_) (a' := ?_) #[false, true, true, false, false, false, false, false, false, false, false, false, false, false, false, false, false] rfl rfl (any_of HT_.out (by kernel_rfl)) (fun _ _ _ h => h) (Or.inl ⟨by rfl, ?_⟩) ?_ ?_
          rotate_left
          ·intro w'
           go_simp
           with_reducible rfl
          rotate_left
          ·simp only [Act.put, List.setIfInBounds_toArray, List.set_cons_zero, List.set_cons_succ, i64_w, i32_w]
           rfl
          refine pure_ (i := 10) (N := some 51) (v := ?_) (a' := ?_) #[false, true, true, false, false, false, false, false, false, false, true, false, false, false, false, false, false] rfl rfl (any_of HT_.out (by kernel_rfl)) (fun _ _ _ h => h) (Or.inl ⟨by rfl, ?_⟩) ?_ ?_
          rotate_left
          ·intro w'
           go_simp
           with_reducible rfl
          rotate_left
          ·simp only [Act.put, List.setIfInBounds_toArray, List.set_cons_zero, List.set_cons_succ, i64_w, i32_w]
           rfl
          refine pure_ (i := 11) (N := some 52) (v := ?_) (a' := ?_) #[false, true, true, false, false, false, false, false, false, false, true, true, false, false, false, false, false] rfl rfl (any_of HT_.out (by kernel_rfl)) (fun _ _ _ h => h) (Or.inl ⟨by rfl, ?_⟩) ?_ ?_
          rotate_left
          ·intro w'
           go_simp
           with_reducible rfl
          rotate_left
          ·simp only [Act.put, List.setIfInBounds_toArray, List.set_cons_zero, List.set_cons_succ, i64_w, i32_w]
           rfl
          refine take_ (i := 3) (N := some 44) (v := ?_) (a' := ?_) #[false, true, true, true, false, false, false, false, false, false, true, true, false, false, false, false, false] rfl rfl (take_ofW HT_.out HW_.out (by kernel_rfl)) (fun _ _ _ h => h) (Or.inl ⟨by rfl, ?_⟩) hHeld ?_ ?_
          rotate_left
          ·rintro w' ⟨s0, s1, s2, s3, s4, s5, s6⟩
           go_simp
           with_reducible rfl
          rotate_left
          ·simp only [Act.put, List.setIfInBounds_toArray, List.set_cons_zero, List.set_cons_succ, i64_w, i32_w]
           rfl
          refine pure_ (i := 4) (N := some 45) (v := ?_) (a' := ?_) #[false, true, true, true, true, false, false, false, false, false, true, true, false, false, false, false, false] rfl rfl (any_of HT_.out (by kernel_rfl)) (fun _ _ _ h => h) (Or.inl ⟨by rfl, ?_⟩) ?_ ?_
          rotate_left
          ·intro w'
           go_simp
           with_reducible rfl
          rotate_left
          ·simp only [Act.put, List.setIfInBounds_toArray, List.set_cons_zero, List.set_cons_succ, i64_w, i32_w]
           rfl
          refine take_ (i := 6) (N := some 47) (v := ?_) (a' := ?_) #[false, true, true, true, true, false, true, false, false, false, true, true, false, false, false, false, false] rfl rfl (take_ofW HT_.out HW_.out (by kernel_rfl)) (fun _ _ _ h => h) (Or.inl ⟨by rfl, ?_⟩) hHeld ?_ ?_
          rotate_left
          ·rintro w' ⟨s0, s1, s2, s3, s4, s5, s6⟩
           go_simp
           with_reducible rfl
          rotate_left
          ·simp only [Act.put, List.setIfInBounds_toArray, List.set_cons_zero, List.set_cons_succ, i64_w, i32_w]
           rfl
          refine take_ (i := 7) (N := some 48) (v := ?_) (a' := ?_) #[false, true, true, true, true, false, true, true, false, false, true, true, false, false, false, false, false] rfl rfl (take_ofW HT_.out HW_.out (by kernel_rfl)) (fun _ _ _ h => h) (Or.inl ⟨by rfl, ?_⟩) hHeld ?_ ?_
          rotate_left
          ·rintro w' ⟨s0, s1, s2, s3, s4, s5, s6⟩
           go_simp
           with_reducible rfl
          rotate_left
          ·simp only [Act.put, List.setIfInBounds_toArray, List.set_cons_zero, List.set_cons_succ, i64_w, i32_w]
           rfl
          refine take_ (i := 12) (N := some 53) (v := ?_) (a' := ?_) #[false, true, true, true, true, false, true, true, false, false, true, true, true, false, false, false, false] rfl rfl (take_ofW HT_.out HW_.out (by kernel_rfl)) (fun _ _ _ h => h) (Or.inl ⟨by rfl, ?_⟩) hHeld ?_ ?_
          rotate_left
          ·rintro w' ⟨s0, s1, s2, s3, s4, s5, s6⟩
           go_simp
           with_reducible rfl
          rotate_left
          ·simp only [Act.put, List.setIfInBounds_toArray, List.set_cons_zero, List.set_cons_succ, i64_w, i32_w]
           rfl
          refine pure_ (i := 13) (N := some 54) (v := ?_) (a' := ?_) #[false, true, true, true, true, false, true, true, false, false, true, true, true, true, false, false, false] rfl rfl (any_of HT_.out (by kernel_rfl)) (fun _ _ _ h => h) (Or.inl ⟨by rfl, ?_⟩) ?_ ?_
          rotate_left
          ·intro w'
           go_simp
           with_reducible rfl
          rotate_left
          ·simp only [Act.put, List.setIfInBounds_toArray, List.set_cons_zero, List.set_cons_succ, i64_w, i32_w]
           rfl
          refine pure_ (i := 14) (N := some 55) (v := ?_) (a' := ?_) #[false, true, true, true, true, false, true, true, false, false, true, true, true, true, true, false, false] rfl rfl (any_of HT_.out (by kernel_rfl)) (fun _ _ _ h => h) (Or.inl ⟨by rfl, ?_⟩) ?_ ?_
          rotate_left
          ·intro w'
           go_simp
           with_reducible rfl
          rotate_left
          ·simp only [Act.put, List.setIfInBounds_toArray, List.set_cons_zero, List.set_cons_succ, i64_w, i32_w]
           rfl
          refine join_ (σ := Value × Value × Value) 3 #[true, true, true, true, true, true, true, true, true, false, true, true, true, true, true, false, false] (fun s_ => [(41, s_.1), (46, s_.2.1), (49, s_.2.2)]) (fun s_ w' => (w'.cell? ⟨gb171, 0, none⟩ = some (.int .i64 a1_0) ∧ w'.cell? ⟨gb171, 1, none⟩ = some (.bool true) ∧ w'.cell? ⟨gb171, 2, none⟩ = some (.int .i64 a1_2) ∧ w'.cell? ⟨gb174, 0, none⟩ = some (.int .i64 ((rd_T77 l0 a1_0).f0)) ∧ w'.cell? ⟨gb174, 1, none⟩ = some (.int .i64 a1_2) ∧ w'.cell? ⟨gb175, 0, none⟩ = some (.int .i64 ((rd_T77 l0 a1_0).f0)) ∧ w'.cell? ⟨gb175, 1, none⟩ = some (.int .i64 (wrap64 (((rd_T77 l0 a1_0).f1) - a1_2)))) ∧ (Kd.R k77 77 w' w.heap.size (fun k_ => some k_ ≠ (s_.2.2 : Value).ownBlock ∧ k_ ≠ gb173 ∧ k_ ≠ gb174 ∧ k_ ≠ gb175) s_.2.1 y183) ∧ (Kd.R k77 77 w' w.heap.size (fun k_ => some k_ ≠ (s_.2.1 : Value).ownBlock ∧ k_ ≠ gb173 ∧ k_ ≠ gb174 ∧ k_ ≠ gb175) s_.2.2 y186) ∧ (w'.heap[gb171]? = some (.cells #[.int .i64 a1_0, .bool true, .int .i64 a1_2] 85 (0, 0))) ∧ (w'.heap[gb173]? = some (.cells #[.int .i64 ((rd_T77 l0 a1_0).f0), .int .i64 ((rd_T77 l0 a1_0).f1)] 77 (0, 0))) ∧ (w'.heap[gb174]? = some (.cells #[.int .i64 ((rd_T77 l0 a1_0).f0), .int .i64 a1_2] 77 (0, 0))) ∧ (w'.heap[gb175]? = some (.cells #[.int .i64 ((rd_T77 l0 a1_0).f0), .int .i64 (wrap64 (((rd_T77 l0 a1_0).f1) - a1_2))] 77 (0, 0))) ∧ (Below w.heap.size w w')) ?_ ?_
          rotate_left
          ·intro hCont
           refine two_ (i := 0) (j := 8) (Ni := some 41) (Nj := some 49) #[true, true, true, true, true, false, true, true, false, false, true, true, true, true, true, false, false] #[false, true, true, true, true, false, true, true, true, false, true, true, true, true, true, false, false] rfl rfl rfl rfl (two_of HT_.out (by kernel_rfl)) (by decide) (by decide) (fun K hK => ?_) (fun K hK => ?_)
           ·skip
            refine Kd.R_lit_step k77 _ 77 ?hg (N := 41) ?hd (xs := ([] : List (S77))) (inner := []) (ok := fun _ => True) (okp := fun _ => True) ?hr ?hp (fun _ hk => hk) trivial (Below.refl _ _) (Nat.le_refl _) (by simp) ?_; (case hd => rfl); (case hg => rfl); (case hr => first | (go_simp; done) | (go_simp; rfl)); (case hp => exact (Reps.none _ _))
            intro v177 w41 ho42 hb hg_ hnew_
            clear hg_ hnew_
            (first | rw [← Ny176.out] at ho42 | (simp only [Int.reduceToNat] at ho42; rw [← Ny176.out] at ho42))
            have n0_ := Aside0.mk (Kd.R_lower (Kd.R_newB (Kd.R_newB (Kd.R_newB ho42 (g := gb173) (o := .cells #[.int .i64 ((rd_T77 l0 a1_0).f0), .int .i64 ((rd_T77 l0 a1_0).f1)] 77 (0, 0)) (bx_ BK173.out)) (g := gb174) (o := .cells #[.int .i64 ((rd_T77 l0 a1_0).f0), .int .i64 a1_2] 77 (0, 0)) (bx_ BK174.out)) (g := gb175) (o := .cells #[.int .i64 ((rd_T77 l0 a1_0).f0), .int .i64 (wrap64 (((rd_T77 l0 a1_0).f1) - a1_2))] 77 (0, 0)) (bx_ BK175.out)) (below_size (hx_ HB.out)))
            have n1_ := Aside0.mk (blk_below (g := gb171) (o := .cells #[.int .i64 a1_0, .bool true, .int .i64 a1_2] 85 (0, 0)) (bx_ BK171.out) hb)
            have n2_ := Aside0.mk (blk_below (g := gb173) (o := .cells #[.int .i64 ((rd_T77 l0 a1_0).f0), .int .i64 ((rd_T77 l0 a1_0).f1)] 77 (0, 0)) (bx_ BK173.out) hb)
            have n3_ := Aside0.mk (blk_below (g := gb174) (o := .cells #[.int .i64 ((rd_T77 l0 a1_0).f0), .int .i64 a1_2] 77 (0, 0)) (bx_ BK174.out) hb)
            have n4_ := Aside0.mk (blk_below (g := gb175) (o := .cells #[.int .i64 ((rd_T77 l0 a1_0).f0), .int .i64 (wrap64 (((rd_T77 l0 a1_0).f1) - a1_2))] 77 (0, 0)) (bx_ BK175.out) hb)
            have n5_ := Aside0.mk (below_step (hx_ HB.out) hb)
            clear BK171
            clear BK173
            clear BK174
            clear BK175
            clear HB
            have HO178 := n0_
            have BK171 := n1_
            have BK173 := n2_
            have BK174 := n3_
            have BK175 := n4_
            have HB := n5_
            clear n0_ n1_ n2_ n3_ n4_ n5_
            clear hb ho42
            refine hK.out _ _ ⟨(blk_cell BK171.out 0).trans rfl, (blk_cell BK171.out 1).trans rfl, (blk_cell BK171.out 2).trans rfl, (blk_cell BK174.out 0).trans rfl, (blk_cell BK174.out 1).trans rfl, (blk_cell BK175.out 0).trans rfl, (blk_cell BK175.out 1).trans rfl⟩ (fun hHeld => ?_)
            clear hK K
            refine norm_ (a' := ?_) ?_ ?_
            rotate_left
            ·show Act.put _ (some 41) _ = _
             simp only [Act.put, List.setIfInBounds_toArray, List.set_cons_zero, List.set_cons_succ, i64_w, i32_w]
             rfl
            refine two_ (i := 5) (j := 8) (Ni := some 46) (Nj := some 49) #[true, true, true, true, true, true, true, true, false, false, true, true, true, true, true, false, false] #[true, true, true, true, true, false, true, true, true, false, true, true, true, true, true, false, false] rfl rfl rfl rfl (two_of HT_.out (by kernel_rfl)) (by decide) (by decide) (fun K hK => ?_) (fun K hK => ?_)
            ·skip
             refine Kd.R_append_rows_step k77 (w0 := w) w.heap.size (by rfl) (.tmp 41) (.tmp 45) 81 77 (.agg #[(.int .i64 0), (.int .i64 0)]) 16 rfl Try.underlying81 info77 rfl (by decide) (by omega) v177 y176 y179 _ _ _ (fun k_ => k_ ≠ gb173 ∧ k_ ≠ gb174 ∧ k_ ≠ gb175) (fun _ => False) rfl rfl ?aO ?aR (fun _ _ h => h) (fun _ h => h.elim) ?aF ?aB ?aS ?aL ?_
             (case aR => repeat (first | exact (Kd.C_below HR182.out HB.out) | (with_reducible refine Kd.C_alloc ?_ _) | (with_reducible refine Kd.C_drewN ?_ _) | (with_reducible refine Kd.C_drew ?_)))
             (case aB => exact (hx_ HB.out))
             (case aF => exact (fun k_ hk => ⟨Kd.freshB (g := gb173) (o := .cells #[.int .i64 ((rd_T77 l0 a1_0).f0), .int .i64 ((rd_T77 l0 a1_0).f1)] 77 (0, 0)) (bx_ BK173.out) k_ hk, Kd.freshB (g := gb174) (o := .cells #[.int .i64 ((rd_T77 l0 a1_0).f0), .int .i64 a1_2] 77 (0, 0)) (bx_ BK174.out) k_ hk, Kd.freshB (g := gb175) (o := .cells #[.int .i64 ((rd_T77 l0 a1_0).f0), .int .i64 (wrap64 (((rd_T77 l0 a1_0).f1) - a1_2))] 77 (0, 0)) (bx_ BK175.out) k_ hk⟩))
             (case aO => exact (by (with_reducible repeat (first | apply Kd.R_alloc | apply Kd.R_drewN | apply Kd.R_drew)); exact Kd.R_mono HO178.out (fun _ hk => ⟨hk.1.1.2, ⟨hk.1.2, hk.2⟩⟩)))
             (case aS => exact (below_size (hx_ HB.out)))
             (case aL => have := LMc8.out; omega)
             intro v184 w43 ho hb hg hat
             rw [← Ny183.out] at ho
             have n0_ := Aside0.mk (blk_grown (g := gb171) (o := .cells #[.int .i64 a1_0, .bool true, .int .i64 a1_2] 85 (0, 0)) (bx_ BK171.out) hg (Kd.R_ne HO178.out BK171.out (by decide)))
             have n1_ := Aside0.mk (blk_grown (g := gb173) (o := .cells #[.int .i64 ((rd_T77 l0 a1_0).f0), .int .i64 ((rd_T77 l0 a1_0).f1)] 77 (0, 0)) (bx_ BK173.out) hg (Kd.R_away HO178.out (fun _ hk => hk.1.1.2)))
             have n2_ := Aside0.mk (blk_grown (g := gb174) (o := .cells #[.int .i64 ((rd_T77 l0 a1_0).f0), .int .i64 a1_2] 77 (0, 0)) (bx_ BK174.out) hg (Kd.R_away HO178.out (fun _ hk => hk.1.2)))
             have n3_ := Aside0.mk (blk_grown (g := gb175) (o := .cells #[.int .i64 ((rd_T77 l0 a1_0).f0), .int .i64 (wrap64 (((rd_T77 l0 a1_0).f1) - a1_2))] 77 (0, 0)) (bx_ BK175.out) hg (Kd.R_away HO178.out (fun _ hk => hk.2)))
             have n4_ := Aside0.mk (hb)
             have n5_ := Aside0.mk (ho)
             clear BK171
             clear BK173
             clear BK174
             clear BK175
             clear HB
             clear HO178
             have BK171 := n0_
             have BK173 := n1_
             have BK174 := n2_
             have BK175 := n3_
             have HB := n4_
             have HO185 := n5_
             clear n0_ n1_ n2_ n3_ n4_ n5_
             clear ho hb hg hat
             refine hK.out _ _ ⟨(blk_cell BK171.out 0).trans rfl, (blk_cell BK171.out 1).trans rfl, (blk_cell BK171.out 2).trans rfl, (blk_cell BK174.out 0).trans rfl, (blk_cell BK174.out 1).trans rfl, (blk_cell BK175.out 0).trans rfl, (blk_cell BK175.out 1).trans rfl⟩ (fun hHeld => ?_)
             clear hK K
             refine norm_ (a' := ?_) ?_ ?_
             rotate_left
             ·show Act.put _ (some 46) _ = _
              simp only [Act.put, List.setIfInBounds_toArray, List.set_cons_zero, List.set_cons_succ, i64_w, i32_w]
              rfl
             refine one_ (i := 8) (N := some 49) #[true, true, true, true, true, true, true, true, true, false, true, true, true, true, true, false, false] rfl rfl (one_of HT_.out (by kernel_rfl)) (by decide) (fun K hK => ?_)
             refine Kd.R_lit_step k77 _ 77 ?hg (N := 49) ?hd (xs := ([(⟨(rd_T77 l0 a1_0).f0, a1_2⟩ : S77), (⟨(rd_T77 l0 a1_0).f0, wrap64 (((rd_T77 l0 a1_0).f1) - a1_2)⟩ : S77)] : List (S77))) (inner := [.int .i64 ((rd_T77 l0 a1_0).f0), .int .i64 a1_2, .int .i64 ((rd_T77 l0 a1_0).f0), .int .i64 (wrap64 (((rd_T77 l0 a1_0).f1) - a1_2))]) (ok := fun _ => True) (okp := fun _ => True) ?hr ?hp (fun _ hk => hk) trivial (Below.refl _ _) (Nat.le_refl _) (by simp) ?_; (case hd => rfl); (case hg => rfl); (case hr => first | (go_simp; done) | (go_simp; rfl)); (case hp => exact (Reps.c2 (show Kd.M k77 _ _ _ (⟨(rd_T77 l0 a1_0).f0, a1_2⟩ : S77) [.int .i64 ((rd_T77 l0 a1_0).f0), .int .i64 a1_2] from (k77_mkM _ _ _ (⟨(rd_T77 l0 a1_0).f0, a1_2⟩ : S77) )) (Reps.c2 (show Kd.M k77 _ _ _ (⟨(rd_T77 l0 a1_0).f0, wrap64 (((rd_T77 l0 a1_0).f1) - a1_2)⟩ : S77) [.int .i64 ((rd_T77 l0 a1_0).f0), .int .i64 (wrap64 (((rd_T77 l0 a1_0).f1) - a1_2))] from (k77_mkM _ _ _ (⟨(rd_T77 l0 a1_0).f0, wrap64 (((rd_T77 l0 a1_0).f1) - a1_2)⟩ : S77) )) (Reps.none _ _))))
             intro v187 w44 ho45 hb hg_ hnew_
             clear hg_ hnew_
             (first | rw [← Ny186.out] at ho45 | (simp only [Int.reduceToNat] at ho45; rw [← Ny186.out] at ho45))
             have n0_ := Aside0.mk (Kd.R_elder' (rx_ HO185.out) (Kd.R_base ho45) hb)
             have n1_ := Aside0.mk (Kd.R_lower (Kd.R_newB (Kd.R_newB (Kd.R_newB (Kd.R_new' ho45 (Kd.R_lt (rx_ HO185.out))) (g := gb173) (o := .cells #[.int .i64 ((rd_T77 l0 a1_0).f0), .int .i64 ((rd_T77 l0 a1_0).f1)] 77 (0, 0)) (bx_ BK173.out)) (g := gb174) (o := .cells #[.int .i64 ((rd_T77 l0 a1_0).f0), .int .i64 a1_2] 77 (0, 0)) (bx_ BK174.out)) (g := gb175) (o := .cells #[.int .i64 ((rd_T77 l0 a1_0).f0), .int .i64 (wrap64 (((rd_T77 l0 a1_0).f1) - a1_2))] 77 (0, 0)) (bx_ BK175.out)) (below_size (hx_ HB.out)))
             have n2_ := Aside0.mk (blk_below (g := gb171) (o := .cells #[.int .i64 a1_0, .bool true, .int .i64 a1_2] 85 (0, 0)) (bx_ BK171.out) hb)
             have n3_ := Aside0.mk (blk_below (g := gb173) (o := .cells #[.int .i64 ((rd_T77 l0 a1_0).f0), .int .i64 ((rd_T77 l0 a1_0).f1)] 77 (0, 0)) (bx_ BK173.out) hb)
             have n4_ := Aside0.mk (blk_below (g := gb174) (o := .cells #[.int .i64 ((rd_T77 l0 a1_0).f0), .int .i64 a1_2] 77 (0, 0)) (bx_ BK174.out) hb)
             have n5_ := Aside0.mk (blk_below (g := gb175) (o := .cells #[.int .i64 ((rd_T77 l0 a1_0).f0), .int .i64 (wrap64 (((rd_T77 l0 a1_0).f1) - a1_2))] 77 (0, 0)) (bx_ BK175.out) hb)
             have n6_ := Aside0.mk (below_step (hx_ HB.out) hb)
             clear HO185
             clear BK171
             clear BK173
             clear BK174
             clear BK175
             clear HB
             have HO185 := n0_
             have HO188 := n1_
             have BK171 := n2_
             have BK173 := n3_
             have BK174 := n4_
             have BK175 := n5_
             have HB := n6_
             clear n0_ n1_ n2_ n3_ n4_ n5_ n6_
             clear hb ho45
             refine hK.out _ _ ⟨(blk_cell BK171.out 0).trans rfl, (blk_cell BK171.out 1).trans rfl, (blk_cell BK171.out 2).trans rfl, (blk_cell BK174.out 0).trans rfl, (blk_cell BK174.out 1).trans rfl, (blk_cell BK175.out 0).trans rfl, (blk_cell BK175.out 1).trans rfl⟩ (fun hHeld => ?_)
             clear hK K
             refine norm_ (a' := ?_) ?_ ?_
             rotate_left
             ·show Act.put _ (some 49) _ = _
              simp only [Act.put, List.setIfInBounds_toArray, List.set_cons_zero, List.set_cons_succ, i64_w, i32_w]
              rfl
             exact norm_ (by simp only [putAll, Act.put, List.setIfInBounds_toArray, List.set_cons_zero, List.set_cons_succ]) (hCont (v177, v184, v187) _ ⟨hHeld, (by (with_reducible repeat (first | apply Kd.R_alloc | apply Kd.R_drewN | apply Kd.R_drew)); exact Kd.R_mono HO185.out (fun _ hk => ⟨hk.2, ⟨hk.1.1, ⟨hk.1.2.1, hk.1.2.2⟩⟩⟩)), (by (with_reducible repeat (first | apply Kd.R_alloc | apply Kd.R_drewN | apply Kd.R_drew)); exact Kd.R_mono HO188.out (fun _ hk => ⟨hk.1.1.1.2, ⟨hk.1.1.2, ⟨hk.1.2, hk.2⟩⟩⟩)), (bx_ BK171.out), (bx_ BK173.out), (bx_ BK174.out), (bx_ BK175.out), (hx_ HB.out)⟩)
            ·skip
             refine Kd.R_lit_step k77 _ 77 ?hg (N := 49) ?hd (xs := ([(⟨(rd_T77 l0 a1_0).f0, a1_2⟩ : S77), (⟨(rd_T77 l0 a1_0).f0, wrap64 (((rd_T77 l0 a1_0).f1) - a1_2)⟩ : S77)] : List (S77))) (inner := [.int .i64 ((rd_T77 l0 a1_0).f0), .int .i64 a1_2, .int .i64 ((rd_T77 l0 a1_0).f0), .int .i64 (wrap64 (((rd_T77 l0 a1_0).f1) - a1_2))]) (ok := fun _ => True) (okp := fun _ => True) ?hr ?hp (fun _ hk => hk) trivial (Below.refl _ _) (Nat.le_refl _) (by simp) ?_; (case hd => rfl); (case hg => rfl); (case hr => first | (go_simp; done) | (go_simp; rfl)); (case hp => exact (Reps.c2 (show Kd.M k77 _ _ _ (⟨(rd_T77 l0 a1_0).f0, a1_2⟩ : S77) [.int .i64 ((rd_T77 l0 a1_0).f0), .int .i64 a1_2] from (k77_mkM _ _ _ (⟨(rd_T77 l0 a1_0).f0, a1_2⟩ : S77) )) (Reps.c2 (show Kd.M k77 _ _ _ (⟨(rd_T77 l0 a1_0).f0, wrap64 (((rd_T77 l0 a1_0).f1) - a1_2)⟩ : S77) [.int .i64 ((rd_T77 l0 a1_0).f0), .int .i64 (wrap64 (((rd_T77 l0 a1_0).f1) - a1_2))] from (k77_mkM _ _ _ (⟨(rd_T77 l0 a1_0).f0, wrap64 (((rd_T77 l0 a1_0).f1) - a1_2)⟩ : S77) )) (Reps.none _ _))))
             intro v187 w43 ho44 hb hg_ hnew_
             clear hg_ hnew_
             (first | rw [← Ny186.out] at ho44 | (simp only [Int.reduceToNat] at ho44; rw [← Ny186.out] at ho44))
             have n0_ := Aside0.mk (Kd.R_elder' (rx_ HO178.out) (Kd.R_base ho44) hb)
             have n1_ := Aside0.mk (Kd.R_lower (Kd.R_newB (Kd.R_newB (Kd.R_newB (Kd.R_new' ho44 (Kd.R_lt (rx_ HO178.out))) (g := gb173) (o := .cells #[.int .i64 ((rd_T77 l0 a1_0).f0), .int .i64 ((rd_T77 l0 a1_0).f1)] 77 (0, 0)) (bx_ BK173.out)) (g := gb174) (o := .cells #[.int .i64 ((rd_T77 l0 a1_0).f0), .int .i64 a1_2] 77 (0, 0)) (bx_ BK174.out)) (g := gb175) (o := .cells #[.int .i64 ((rd_T77 l0 a1_0).f0), .int .i64 (wrap64 (((rd_T77 l0 a1_0).f1) - a1_2))] 77 (0, 0)) (bx_ BK175.out)) (below_size (hx_ HB.out)))
             have n2_ := Aside0.mk (blk_below (g := gb171) (o := .cells #[.int .i64 a1_0, .bool true, .int .i64 a1_2] 85 (0, 0)) (bx_ BK171.out) hb)
             have n3_ := Aside0.mk (blk_below (g := gb173) (o := .cells #[.int .i64 ((rd_T77 l0 a1_0).f0), .int .i64 ((rd_T77 l0 a1_0).f1)] 77 (0, 0)) (bx_ BK173.out) hb)
             have n4_ := Aside0.mk (blk_below (g := gb174) (o := .cells #[.int .i64 ((rd_T77 l0 a1_0).f0), .int .i64 a1_2] 77 (0, 0)) (bx_ BK174.out) hb)
             have n5_ := Aside0.mk (blk_below (g := gb175) (o := .cells #[.int .i64 ((rd_T77 l0 a1_0).f0), .int .i64 (wrap64 (((rd_T77 l0 a1_0).f1) - a1_2))] 77 (0, 0)) (bx_ BK175.out) hb)
             have n6_ := Aside0.mk (below_step (hx_ HB.out) hb)
             clear HO178
             clear BK171
             clear BK173
             clear BK174
             clear BK175
             clear HB
             have HO178 := n0_
             have HO188 := n1_
             have BK171 := n2_
             have BK173 := n3_
             have BK174 := n4_
             have BK175 := n5_
             have HB := n6_
             clear n0_ n1_ n2_ n3_ n4_ n5_ n6_
             clear hb ho44
             refine hK.out _ _ ⟨(blk_cell BK171.out 0).trans rfl, (blk_cell BK171.out 1).trans rfl, (blk_cell BK171.out 2).trans rfl, (blk_cell BK174.out 0).trans rfl, (blk_cell BK174.out 1).trans rfl, (blk_cell BK175.out 0).trans rfl, (blk_cell BK175.out 1).trans rfl⟩ (fun hHeld => ?_)
             clear hK K
             refine norm_ (a' := ?_) ?_ ?_
             rotate_left
             ·show Act.put _ (some 49) _ = _
              simp only [Act.put, List.setIfInBounds_toArray, List.set_cons_zero, List.set_cons_succ, i64_w, i32_w]
              rfl
             refine one_ (i := 5) (N := some 46) #[true, true, true, true, true, true, true, true, true, false, true, true, true, true, true, false, false] rfl rfl (one_of HT_.out (by kernel_rfl)) (by decide) (fun K hK => ?_)
             refine Kd.R_append_rows_step k77 (w0 := w) w.heap.size (by rfl) (.tmp 41) (.tmp 45) 81 77 (.agg #[(.int .i64 0), (.int .i64 0)]) 16 rfl Try.underlying81 info77 rfl (by decide) (by omega) v177 y176 y179 _ _ _ (fun k_ => some k_ ≠ (v187 : Value).ownBlock ∧ k_ ≠ gb173 ∧ k_ ≠ gb174 ∧ k_ ≠ gb175) (fun _ => False) rfl rfl ?aO ?aR (fun _ _ h => h) (fun _ h => h.elim) ?aF ?aB ?aS ?aL ?_
             (case aR => repeat (first | exact (Kd.C_below HR182.out HB.out) | (with_reducible refine Kd.C_alloc ?_ _) | (with_reducible refine Kd.C_drewN ?_ _) | (with_reducible refine Kd.C_drew ?_)))
             (case aB => exact (hx_ HB.out))
             (case aF => exact (fun k_ hk => ⟨Kd.fresh' (Kd.R_lt (rx_ HO188.out)) k_ hk, Kd.freshB (g := gb173) (o := .cells #[.int .i64 ((rd_T77 l0 a1_0).f0), .int .i64 ((rd_T77 l0 a1_0).f1)] 77 (0, 0)) (bx_ BK173.out) k_ hk, Kd.freshB (g := gb174) (o := .cells #[.int .i64 ((rd_T77 l0 a1_0).f0), .int .i64 a1_2] 77 (0, 0)) (bx_ BK174.out) k_ hk, Kd.freshB (g := gb175) (o := .cells #[.int .i64 ((rd_T77 l0 a1_0).f0), .int .i64 (wrap64 (((rd_T77 l0 a1_0).f1) - a1_2))] 77 (0, 0)) (bx_ BK175.out) k_ hk⟩))
             (case aO => exact (by (with_reducible repeat (first | apply Kd.R_alloc | apply Kd.R_drewN | apply Kd.R_drew)); exact Kd.R_mono HO178.out (fun _ hk => ⟨hk.2, ⟨hk.1.1.1.2, ⟨hk.1.1.2, hk.1.2⟩⟩⟩)))
             (case aS => exact (below_size (hx_ HB.out)))
             (case aL => have := LMc8.out; omega)
             intro v184 w45 ho hb hg hat
             rw [← Ny183.out] at ho
             have n0_ := Aside0.mk (blk_grown (g := gb171) (o := .cells #[.int .i64 a1_0, .bool true, .int .i64 a1_2] 85 (0, 0)) (bx_ BK171.out) hg (Kd.R_ne HO178.out BK171.out (by decide)))
             have n1_ := Aside0.mk (blk_grown (g := gb173) (o := .cells #[.int .i64 ((rd_T77 l0 a1_0).f0), .int .i64 ((rd_T77 l0 a1_0).f1)] 77 (0, 0)) (bx_ BK173.out) hg (Kd.R_away HO178.out (fun _ hk => hk.1.1.1.2)))
             have n2_ := Aside0.mk (blk_grown (g := gb174) (o := .cells #[.int .i64 ((rd_T77 l0 a1_0).f0), .int .i64 a1_2] 77 (0, 0)) (bx_ BK174.out) hg (Kd.R_away HO178.out (fun _ hk => hk.1.1.2)))
             have n3_ := Aside0.mk (blk_grown (g := gb175) (o := .cells #[.int .i64 ((rd_T77 l0 a1_0).f0), .int .i64 (wrap64 (((rd_T77 l0 a1_0).f1) - a1_2))] 77 (0, 0)) (bx_ BK175.out) hg (Kd.R_away HO178.out (fun _ hk => hk.1.2)))
             have n4_ := Aside0.mk (Kd.R_after (ok := (fun k_ => k_ ≠ gb173 ∧ k_ ≠ gb174 ∧ k_ ≠ gb175)) (by (with_reducible repeat (first | apply Kd.R_alloc | apply Kd.R_drewN | apply Kd.R_drew)); exact Kd.R_mono HO188.out (fun _ hk => ⟨⟨hk.1.1.2, ⟨hk.1.2, hk.2⟩⟩, hk.1.1.1.2⟩)) hg hat)
             have n5_ := Aside0.mk (hb)
             have n6_ := Aside0.mk (ho)
             clear BK171
             clear BK173
             clear BK174
             clear BK175
             clear HO188
             clear HB
             clear HO178
             have BK171 := n0_
             have BK173 := n1_
             have BK174 := n2_
             have BK175 := n3_
             have HO188 := n4_
             have HB := n5_
             have HO185 := n6_
             clear n0_ n1_ n2_ n3_ n4_ n5_ n6_
             clear ho hb hg hat
             refine hK.out _ _ ⟨(blk_cell BK171.out 0).trans rfl, (blk_cell BK171.out 1).trans rfl, (blk_cell BK171.out 2).trans rfl, (blk_cell BK174.out 0).trans rfl, (blk_cell BK174.out 1).trans rfl, (blk_cell BK175.out 0).trans rfl, (blk_cell BK175.out 1).trans rfl⟩ (fun hHeld => ?_)
             clear hK K
             refine norm_ (a' := ?_) ?_ ?_
             rotate_left
             ·show Act.put _ (some 46) _ = _
              simp only [Act.put, List.setIfInBounds_toArray, List.set_cons_zero, List.set_cons_succ, i64_w, i32_w]
              rfl
             exact norm_ (by simp only [putAll, Act.put, List.setIfInBounds_toArray, List.set_cons_zero, List.set_cons_succ]) (hCont (v177, v184, v187) _ ⟨hHeld, (rx_ HO185.out), (by (with_reducible repeat (first | apply Kd.R_alloc | apply Kd.R_drewN | apply Kd.R_drew)); exact Kd.R_mono HO188.out (fun _ hk => ⟨hk.2, ⟨hk.1.1, ⟨hk.1.2.1, hk.1.2.2⟩⟩⟩)), (bx_ BK171.out), (bx_ BK173.out), (bx_ BK174.out), (bx_ BK175.out), (hx_ HB.out)⟩)
           ·skip
            refine Kd.R_lit_step k77 _ 77 ?hg (N := 49) ?hd (xs := ([(⟨(rd_T77 l0 a1_0).f0, a1_2⟩ : S77), (⟨(rd_T77 l0 a1_0).f0, wrap64 (((rd_T77 l0 a1_0).f1) - a1_2)⟩ : S77)] : List (S77))) (inner := [.int .i64 ((rd_T77 l0 a1_0).f0), .int .i64 a1_2, .int .i64 ((rd_T77 l0 a1_0).f0), .int .i64 (wrap64 (((rd_T77 l0 a1_0).f1) - a1_2))]) (ok := fun _ => True) (okp := fun _ => True) ?hr ?hp (fun _ hk => hk) trivial (Below.refl _ _) (Nat.le_refl _) (by simp) ?_; (case hd => rfl); (case hg => rfl); (case hr => first | (go_simp; done) | (go_simp; rfl)); (case hp => exact (Reps.c2 (show Kd.M k77 _ _ _ (⟨(rd_T77 l0 a1_0).f0, a1_2⟩ : S77) [.int .i64 ((rd_T77 l0 a1_0).f0), .int .i64 a1_2] from (k77_mkM _ _ _ (⟨(rd_T77 l0 a1_0).f0, a1_2⟩ : S77) )) (Reps.c2 (show Kd.M k77 _ _ _ (⟨(rd_T77 l0 a1_0).f0, wrap64 (((rd_T77 l0 a1_0).f1) - a1_2)⟩ : S77) [.int .i64 ((rd_T77 l0 a1_0).f0), .int .i64 (wrap64 (((rd_T77 l0 a1_0).f1) - a1_2))] from (k77_mkM _ _ _ (⟨(rd_T77 l0 a1_0).f0, wrap64 (((rd_T77 l0 a1_0).f1) - a1_2)⟩ : S77) )) (Reps.none _ _))))
            intro v187 w41 ho42 hb hg_ hnew_
            clear hg_ hnew_
            (first | rw [← Ny186.out] at ho42 | (simp only [Int.reduceToNat] at ho42; rw [← Ny186.out] at ho42))
            have n0_ := Aside0.mk (Kd.R_lower (Kd.R_newB (Kd.R_newB (Kd.R_newB ho42 (g := gb173) (o := .cells #[.int .i64 ((rd_T77 l0 a1_0).f0), .int .i64 ((rd_T77 l0 a1_0).f1)] 77 (0, 0)) (bx_ BK173.out)) (g := gb174) (o := .cells #[.int .i64 ((rd_T77 l0 a1_0).f0), .int .i64 a1_2] 77 (0, 0)) (bx_ BK174.out)) (g := gb175) (o := .cells #[.int .i64 ((rd_T77 l0 a1_0).f0), .int .i64 (wrap64 (((rd_T77 l0 a1_0).f1) - a1_2))] 77 (0, 0)) (bx_ BK175.out)) (below_size (hx_ HB.out)))
            have n1_ := Aside0.mk (blk_below (g := gb171) (o := .cells #[.int .i64 a1_0, .bool true, .int .i64 a1_2] 85 (0, 0)) (bx_ BK171.out) hb)
            have n2_ := Aside0.mk (blk_below (g := gb173) (o := .cells #[.int .i64 ((rd_T77 l0 a1_0).f0), .int .i64 ((rd_T77 l0 a1_0).f1)] 77 (0, 0)) (bx_ BK173.out) hb)
            have n3_ := Aside0.mk (blk_below (g := gb174) (o := .cells #[.int .i64 ((rd_T77 l0 a1_0).f0), .int .i64 a1_2] 77 (0, 0)) (bx_ BK174.out) hb)
            have n4_ := Aside0.mk (blk_below (g := gb175) (o := .cells #[.int .i64 ((rd_T77 l0 a1_0).f0), .int .i64 (wrap64 (((rd_T77 l0 a1_0).f1) - a1_2))] 77 (0, 0)) (bx_ BK175.out) hb)
            have n5_ := Aside0.mk (below_step (hx_ HB.out) hb)
            clear BK171
            clear BK173
            clear BK174
            clear BK175
            clear HB
            have HO188 := n0_
            have BK171 := n1_
            have BK173 := n2_
            have BK174 := n3_
            have BK175 := n4_
            have HB := n5_
            clear n0_ n1_ n2_ n3_ n4_ n5_
            clear hb ho42
            refine hK.out _ _ ⟨(blk_cell BK171.out 0).trans rfl, (blk_cell BK171.out 1).trans rfl, (blk_cell BK171.out 2).trans rfl, (blk_cell BK174.out 0).trans rfl, (blk_cell BK174.out 1).trans rfl, (blk_cell BK175.out 0).trans rfl, (blk_cell BK175.out 1).trans rfl⟩ (fun hHeld => ?_)
            clear hK K
            refine norm_ (a' := ?_) ?_ ?_
            rotate_left
            ·show Act.put _ (some 49) _ = _
             simp only [Act.put, List.setIfInBounds_toArray, List.set_cons_zero, List.set_cons_succ, i64_w, i32_w]
             rfl
            refine one_ (i := 0) (N := some 41) #[true, true, true, true, true, false, true, true, true, false, true, true, true, true, true, false, false] rfl rfl (one_of HT_.out (by kernel_rfl)) (by decide) (fun K hK => ?_)
            refine Kd.R_lit_step k77 _ 77 ?hg (N := 41) ?hd (xs := ([] : List (S77))) (inner := []) (ok := fun _ => True) (okp := fun _ => True) ?hr ?hp (fun _ hk => hk) trivial (Below.refl _ _) (Nat.le_refl _) (by simp) ?_; (case hd => rfl); (case hg => rfl); (case hr => first | (go_simp; done) | (go_simp; rfl)); (case hp => exact (Reps.none _ _))
            intro v177 w43 ho44 hb hg_ hnew_
            clear hg_ hnew_
            (first | rw [← Ny176.out] at ho44 | (simp only [Int.reduceToNat] at ho44; rw [← Ny176.out] at ho44))
            have n0_ := Aside0.mk (Kd.R_elder' (rx_ HO188.out) (Kd.R_base ho44) hb)
            have n1_ := Aside0.mk (Kd.R_lower (Kd.R_newB (Kd.R_newB (Kd.R_newB (Kd.R_new' ho44 (Kd.R_lt (rx_ HO188.out))) (g := gb173) (o := .cells #[.int .i64 ((rd_T77 l0 a1_0).f0), .int .i64 ((rd_T77 l0 a1_0).f1)] 77 (0, 0)) (bx_ BK173.out)) (g := gb174) (o := .cells #[.int .i64 ((rd_T77 l0 a1_0).f0), .int .i64 a1_2] 77 (0, 0)) (bx_ BK174.out)) (g := gb175) (o := .cells #[.int .i64 ((rd_T77 l0 a1_0).f0), .int .i64 (wrap64 (((rd_T77 l0 a1_0).f1) - a1_2))] 77 (0, 0)) (bx_ BK175.out)) (below_size (hx_ HB.out)))
            have n2_ := Aside0.mk (blk_below (g := gb171) (o := .cells #[.int .i64 a1_0, .bool true, .int .i64 a1_2] 85 (0, 0)) (bx_ BK171.out) hb)
            have n3_ := Aside0.mk (blk_below (g := gb173) (o := .cells #[.int .i64 ((rd_T77 l0 a1_0).f0), .int .i64 ((rd_T77 l0 a1_0).f1)] 77 (0, 0)) (bx_ BK173.out) hb)
            have n4_ := Aside0.mk (blk_below (g := gb174) (o := .cells #[.int .i64 ((rd_T77 l0 a1_0).f0), .int .i64 a1_2] 77 (0, 0)) (bx_ BK174.out) hb)
            have n5_ := Aside0.mk (blk_below (g := gb175) (o := .cells #[.int .i64 ((rd_T77 l0 a1_0).f0), .int .i64 (wrap64 (((rd_T77 l0 a1_0).f1) - a1_2))] 77 (0, 0)) (bx_ BK175.out) hb)
            have n6_ := Aside0.mk (below_step (hx_ HB.out) hb)
            clear HO188
            clear BK171
            clear BK173
            clear BK174
            clear BK175
            clear HB
            have HO188 := n0_
            have HO178 := n1_
            have BK171 := n2_
            have BK173 := n3_
            have BK174 := n4_
            have BK175 := n5_
            have HB := n6_
            clear n0_ n1_ n2_ n3_ n4_ n5_ n6_
            clear hb ho44
            refine hK.out _ _ ⟨(blk_cell BK171.out 0).trans rfl, (blk_cell BK171.out 1).trans rfl, (blk_cell BK171.out 2).trans rfl, (blk_cell BK174.out 0).trans rfl, (blk_cell BK174.out 1).trans rfl, (blk_cell BK175.out 0).trans rfl, (blk_cell BK175.out 1).trans rfl⟩ (fun hHeld => ?_)
            clear hK K
            refine norm_ (a' := ?_) ?_ ?_
            rotate_left
            ·show Act.put _ (some 41) _ = _
             simp only [Act.put, List.setIfInBounds_toArray, List.set_cons_zero, List.set_cons_succ, i64_w, i32_w]
             rfl
            refine one_ (i := 5) (N := some 46) #[true, true, true, true, true, true, true, true, true, false, true, true, true, true, true, false, false] rfl rfl (one_of HT_.out (by kernel_rfl)) (by decide) (fun K hK => ?_)
            refine Kd.R_append_rows_step k77 (w0 := w) w.heap.size (by rfl) (.tmp 41) (.tmp 45) 81 77 (.agg #[(.int .i64 0), (.int .i64 0)]) 16 rfl Try.underlying81 info77 rfl (by decide) (by omega) v177 y176 y179 _ _ _ (fun k_ => some k_ ≠ (v187 : Value).ownBlock ∧ k_ ≠ gb173 ∧ k_ ≠ gb174 ∧ k_ ≠ gb175) (fun _ => False) rfl rfl ?aO ?aR (fun _ _ h => h) (fun _ h => h.elim) ?aF ?aB ?aS ?aL ?_
            (case aR => repeat (first | exact (Kd.C_below HR182.out HB.out) | (with_reducible refine Kd.C_alloc ?_ _) | (with_reducible refine Kd.C_drewN ?_ _) | (with_reducible refine Kd.C_drew ?_)))
            (case aB => exact (hx_ HB.out))
            (case aF => exact (fun k_ hk => ⟨Kd.fresh' (Kd.R_lt (rx_ HO188.out)) k_ hk, Kd.freshB (g := gb173) (o := .cells #[.int .i64 ((rd_T77 l0 a1_0).f0), .int .i64 ((rd_T77 l0 a1_0).f1)] 77 (0, 0)) (bx_ BK173.out) k_ hk, Kd.freshB (g := gb174) (o := .cells #[.int .i64 ((rd_T77 l0 a1_0).f0), .int .i64 a1_2] 77 (0, 0)) (bx_ BK174.out) k_ hk, Kd.freshB (g := gb175) (o := .cells #[.int .i64 ((rd_T77 l0 a1_0).f0), .int .i64 (wrap64 (((rd_T77 l0 a1_0).f1) - a1_2))] 77 (0, 0)) (bx_ BK175.out) k_ hk⟩))
            (case aO => exact (by (with_reducible repeat (first | apply Kd.R_alloc | apply Kd.R_drewN | apply Kd.R_drew)); exact Kd.R_mono HO178.out (fun _ hk => ⟨hk.1.1.1.2, ⟨hk.1.1.2, ⟨hk.1.2, hk.2⟩⟩⟩)))
            (case aS => exact (below_size (hx_ HB.out)))
            (case aL => have := LMc8.out; omega)
            intro v184 w45 ho hb hg hat
            rw [← Ny183.out] at ho
            have n0_ := Aside0.mk (blk_grown (g := gb171) (o := .cells #[.int .i64 a1_0, .bool true, .int .i64 a1_2] 85 (0, 0)) (bx_ BK171.out) hg (Kd.R_ne HO178.out BK171.out (by decide)))
            have n1_ := Aside0.mk (blk_grown (g := gb173) (o := .cells #[.int .i64 ((rd_T77 l0 a1_0).f0), .int .i64 ((rd_T77 l0 a1_0).f1)] 77 (0, 0)) (bx_ BK173.out) hg (Kd.R_away HO178.out (fun _ hk => hk.1.1.2)))
            have n2_ := Aside0.mk (blk_grown (g := gb174) (o := .cells #[.int .i64 ((rd_T77 l0 a1_0).f0), .int .i64 a1_2] 77 (0, 0)) (bx_ BK174.out) hg (Kd.R_away HO178.out (fun _ hk => hk.1.2)))
            have n3_ := Aside0.mk (blk_grown (g := gb175) (o := .cells #[.int .i64 ((rd_T77 l0 a1_0).f0), .int .i64 (wrap64 (((rd_T77 l0 a1_0).f1) - a1_2))] 77 (0, 0)) (bx_ BK175.out) hg (Kd.R_away HO178.out (fun _ hk => hk.2)))
            have n4_ := Aside0.mk (Kd.R_after (ok := (fun k_ => k_ ≠ gb173 ∧ k_ ≠ gb174 ∧ k_ ≠ gb175)) (by (with_reducible repeat (first | apply Kd.R_alloc | apply Kd.R_drewN | apply Kd.R_drew)); exact Kd.R_mono HO188.out (fun _ hk => ⟨⟨hk.1.1.1.2, ⟨hk.1.1.2, hk.1.2⟩⟩, hk.2⟩)) hg hat)
            have n5_ := Aside0.mk (hb)
            have n6_ := Aside0.mk (ho)
            clear BK171
            clear BK173
            clear BK174
            clear BK175
            clear HO188
            clear HB
            clear HO178
            have BK171 := n0_
            have BK173 := n1_
            have BK174 := n2_
            have BK175 := n3_
            have HO188 := n4_
            have HB := n5_
            have HO185 := n6_
            clear n0_ n1_ n2_ n3_ n4_ n5_ n6_
            clear ho hb hg hat
            refine hK.out _ _ ⟨(blk_cell BK171.out 0).trans rfl, (blk_cell BK171.out 1).trans rfl, (blk_cell BK171.out 2).trans rfl, (blk_cell BK174.out 0).trans rfl, (blk_cell BK174.out 1).trans rfl, (blk_cell BK175.out 0).trans rfl, (blk_cell BK175.out 1).trans rfl⟩ (fun hHeld => ?_)
            clear hK K
            refine norm_ (a' := ?_) ?_ ?_
            rotate_left
            ·show Act.put _ (some 46) _ = _
             simp only [Act.put, List.setIfInBounds_toArray, List.set_cons_zero, List.set_cons_succ, i64_w, i32_w]
             rfl
            exact norm_ (by simp only [putAll, Act.put, List.setIfInBounds_toArray, List.set_cons_zero, List.set_cons_succ]) (hCont (v177, v184, v187) _ ⟨hHeld, (rx_ HO185.out), (by (with_reducible repeat (first | apply Kd.R_alloc | apply Kd.R_drewN | apply Kd.R_drew)); exact Kd.R_mono HO188.out (fun _ hk => ⟨hk.2, ⟨hk.1.1, ⟨hk.1.2.1, hk.1.2.2⟩⟩⟩)), (bx_ BK171.out), (bx_ BK173.out), (bx_ BK174.out), (bx_ BK175.out), (hx_ HB.out)⟩)
          rintro ⟨v177, v184, v187⟩ w46 ⟨hS_, h0_, h1_, h2_, h3_, h4_, h5_, h6_⟩
          have n0_ : Aside0 (Kd.R k77 77 w46 w.heap.size (fun k_ => some k_ ≠ (v187 : Value).ownBlock ∧ k_ ≠ gb173 ∧ k_ ≠ gb174 ∧ k_ ≠ gb175) v184 y183) := ⟨h0_⟩
          have n1_ : Aside0 (Kd.R k77 77 w46 w.heap.size (fun k_ => some k_ ≠ (v184 : Value).ownBlock ∧ k_ ≠ gb173 ∧ k_ ≠ gb174 ∧ k_ ≠ gb175) v187 y186) := ⟨h1_⟩
          have n2_ : Aside0 (w46.heap[gb171]? = some (.cells #[.int .i64 a1_0, .bool true, .int .i64 a1_2] 85 (0, 0))) := ⟨h2_⟩
          have n3_ : Aside0 (w46.heap[gb173]? = some (.cells #[.int .i64 ((rd_T77 l0 a1_0).f0), .int .i64 ((rd_T77 l0 a1_0).f1)] 77 (0, 0))) := ⟨h3_⟩
          have n4_ : Aside0 (w46.heap[gb174]? = some (.cells #[.int .i64 ((rd_T77 l0 a1_0).f0), .int .i64 a1_2] 77 (0, 0))) := ⟨h4_⟩
          have n5_ : Aside0 (w46.heap[gb175]? = some (.cells #[.int .i64 ((rd_T77 l0 a1_0).f0), .int .i64 (wrap64 (((rd_T77 l0 a1_0).f1) - a1_2))] 77 (0, 0))) := ⟨h5_⟩
          have n6_ : Aside0 (Below w.heap.size w w46) := ⟨h6_⟩
          clear BK171
          clear BK173
          clear BK174
          clear BK175
          clear HB
          clear h0_ h1_ h2_ h3_ h4_ h5_ h6_
          have HO185 := n0_
          have HO188 := n1_
          have BK171 := n2_
          have BK173 := n3_
          have BK174 := n4_
          have BK175 := n5_
          have HB := n6_
          clear n0_ n1_ n2_ n3_ n4_ n5_ n6_
          have hHeld : w46.cell? ⟨gb171, 0, none⟩ = some (.int .i64 a1_0) ∧ w46.cell? ⟨gb171, 1, none⟩ = some (.bool true) ∧ w46.cell? ⟨gb171, 2, none⟩ = some (.int .i64 a1_2) ∧ w46.cell? ⟨gb174, 0, none⟩ = some (.int .i64 ((rd_T77 l0 a1_0).f0)) ∧ w46.cell? ⟨gb174, 1, none⟩ = some (.int .i64 a1_2) ∧ w46.cell? ⟨gb175, 0, none⟩ = some (.int .i64 ((rd_T77 l0 a1_0).f0)) ∧ w46.cell? ⟨gb175, 1, none⟩ = some (.int .i64 (wrap64 (((rd_T77 l0 a1_0).f1) - a1_2))) := hS_
          obtain ⟨Ao48, co48, eo48⟩ := Kd.R_slice HO188.out
          (first | subst eo48 | (injection eo48 with f1_ f2_ f3_; have f4_ := f1_.symm; have f5_ := f3_.symm; clear f1_ f2_ f3_; subst f4_; subst f5_))
          refine norm_ (a' := ?_) ?_ ?_
          rotate_left
          ·simp only [putAll, Act.put, List.setIfInBounds_toArray, List.set_cons_zero, List.set_cons_succ]
           rfl
          refine one_ (i := 9) (N := some 50) #[true, true, true, true, true, true, true, true, true, true, true, true, true, true, true, false, false] rfl rfl (one_of HT_.out (by kernel_rfl)) (by decide) (fun K hK => ?_)
          refine Kd.R_append_rows_step k77 (w0 := w) w.heap.size (by rfl) (.tmp 46) (.tmp 49) 81 77 (.agg #[(.int .i64 0), (.int .i64 0)]) 16 rfl Try.underlying81 info77 rfl (by decide) (by omega) v184 y183 y186 _ _ _ (fun k_ => some k_ ≠ (.slice Ao48 y186.length co48 : Value).ownBlock ∧ k_ ≠ gb173 ∧ k_ ≠ gb174 ∧ k_ ≠ gb175) (fun _ => False) rfl rfl ?aO ?aR (fun _ _ h => h) (fun _ h => h.elim) ?aF ?aB ?aS ?aL ?_
          (case aR => repeat (first | exact (Kd.R_reads' HO188.out).2.2 | (with_reducible refine Kd.C_alloc ?_ _) | (with_reducible refine Kd.C_drewN ?_ _) | (with_reducible refine Kd.C_drew ?_)))
          (case aB => exact (hx_ HB.out))
          (case aF => exact (fun k_ hk => ⟨Kd.fresh' (Kd.R_lt (rx_ HO188.out)) k_ hk, Kd.freshB (g := gb173) (o := .cells #[.int .i64 ((rd_T77 l0 a1_0).f0), .int .i64 ((rd_T77 l0 a1_0).f1)] 77 (0, 0)) (bx_ BK173.out) k_ hk, Kd.freshB (g := gb174) (o := .cells #[.int .i64 ((rd_T77 l0 a1_0).f0), .int .i64 a1_2] 77 (0, 0)) (bx_ BK174.out) k_ hk, Kd.freshB (g := gb175) (o := .cells #[.int .i64 ((rd_T77 l0 a1_0).f0), .int .i64 (wrap64 (((rd_T77 l0 a1_0).f1) - a1_2))] 77 (0, 0)) (bx_ BK175.out) k_ hk⟩))
          (case aO => exact (rx_ HO185.out))
          (case aS => exact (below_size (hx_ HB.out)))
          (case aL => have := LMc9.out; omega)
          intro v190 w47 ho hb hg hat
          rw [← Ny189.out] at ho
          have n0_ := Aside0.mk (blk_grown (g := gb171) (o := .cells #[.int .i64 a1_0, .bool true, .int .i64 a1_2] 85 (0, 0)) (bx_ BK171.out) hg (Kd.R_ne HO185.out BK171.out (by decide)))
          have n1_ := Aside0.mk (blk_grown (g := gb173) (o := .cells #[.int .i64 ((rd_T77 l0 a1_0).f0), .int .i64 ((rd_T77 l0 a1_0).f1)] 77 (0, 0)) (bx_ BK173.out) hg (Kd.R_away HO185.out (fun _ hk => hk.2.1)))
          have n2_ := Aside0.mk (blk_grown (g := gb174) (o := .cells #[.int .i64 ((rd_T77 l0 a1_0).f0), .int .i64 a1_2] 77 (0, 0)) (bx_ BK174.out) hg (Kd.R_away HO185.out (fun _ hk => hk.2.2.1)))
          have n3_ := Aside0.mk (blk_grown (g := gb175) (o := .cells #[.int .i64 ((rd_T77 l0 a1_0).f0), .int .i64 (wrap64 (((rd_T77 l0 a1_0).f1) - a1_2))] 77 (0, 0)) (bx_ BK175.out) hg (Kd.R_away HO185.out (fun _ hk => hk.2.2.2)))
          have n4_ := Aside0.mk (Kd.R_after (ok := (fun k_ => k_ ≠ gb173 ∧ k_ ≠ gb174 ∧ k_ ≠ gb175)) (by (with_reducible repeat (first | apply Kd.R_alloc | apply Kd.R_drewN | apply Kd.R_drew)); exact Kd.R_mono HO188.out (fun _ hk => ⟨⟨hk.2.1, ⟨hk.2.2.1, hk.2.2.2⟩⟩, hk.1⟩)) hg hat)
          have n5_ := Aside0.mk (hb)
          have n6_ := Aside0.mk (ho)
          clear BK171
          clear BK173
          clear BK174
          clear BK175
          clear HO188
          clear HB
          clear HO185
          have BK171 := n0_
          have BK173 := n1_
          have BK174 := n2_
          have BK175 := n3_
          have HO188 := n4_
          have HB := n5_
          have HO191 := n6_
          clear n0_ n1_ n2_ n3_ n4_ n5_ n6_
          clear ho hb hg hat
          refine hK.out _ _ ⟨(blk_cell BK171.out 0).trans rfl, (blk_cell BK171.out 1).trans rfl, (blk_cell BK171.out 2).trans rfl, (blk_cell BK174.out 0).trans rfl, (blk_cell BK174.out 1).trans rfl, (blk_cell BK175.out 0).trans rfl, (blk_cell BK175.out 1).trans rfl⟩ (fun hHeld => ?_)
          clear hK K
          refine norm_ (a' := ?_) ?_ ?_
          rotate_left
          ·show Act.put _ (some 50) _ = _
           simp only [Act.put, List.setIfInBounds_toArray, List.set_cons_zero, List.set_cons_succ, i64_w, i32_w]
           rfl
          refine one_ (i := 15) (N := some 56) #[true, true, true, true, true, true, true, true, true, true, true, true, true, true, true, true, false] rfl rfl (one_of HT_.out (by kernel_rfl)) (by decide) (fun K hK => ?_)
          refine Kd.R_append_rows_step k77 (w0 := w) w.heap.size (by rfl) (.tmp 50) (.tmp 55) 81 77 (.agg #[(.int .i64 0), (.int .i64 0)]) 16 rfl Try.underlying81 info77 rfl (by decide) (by omega) v190 y189 y192 _ _ _ (fun k_ => some k_ ≠ (.slice Ao48 y186.length co48 : Value).ownBlock ∧ k_ ≠ gb173 ∧ k_ ≠ gb174 ∧ k_ ≠ gb175) (fun _ => False) rfl rfl ?aO ?aR (fun _ _ h => h) (fun _ h => h.elim) ?aF ?aB ?aS ?aL ?_
          (case aR => repeat (first | exact (Kd.C_below HR195.out HB.out) | (with_reducible refine Kd.C_alloc ?_ _) | (with_reducible refine Kd.C_drewN ?_ _) | (with_reducible refine Kd.C_drew ?_)))
          (case aB => exact (hx_ HB.out))
          (case aF => exact (fun k_ hk => ⟨Kd.fresh' (Kd.R_lt (rx_ HO188.out)) k_ hk, Kd.freshB (g := gb173) (o := .cells #[.int .i64 ((rd_T77 l0 a1_0).f0), .int .i64 ((rd_T77 l0 a1_0).f1)] 77 (0, 0)) (bx_ BK173.out) k_ hk, Kd.freshB (g := gb174) (o := .cells #[.int .i64 ((rd_T77 l0 a1_0).f0), .int .i64 a1_2] 77 (0, 0)) (bx_ BK174.out) k_ hk, Kd.freshB (g := gb175) (o := .cells #[.int .i64 ((rd_T77 l0 a1_0).f0), .int .i64 (wrap64 (((rd_T77 l0 a1_0).f1) - a1_2))] 77 (0, 0)) (bx_ BK175.out) k_ hk⟩))
          (case aO => exact (rx_ HO191.out))
          (case aS => exact (below_size (hx_ HB.out)))
          (case aL => have := LMc13.out; omega)
          intro v197 w49 ho hb hg hat
          rw [← Ny196.out] at ho
          have n0_ := Aside0.mk (blk_grown (g := gb171) (o := .cells #[.int .i64 a1_0, .bool true, .int .i64 a1_2] 85 (0, 0)) (bx_ BK171.out) hg (Kd.R_ne HO191.out BK171.out (by decide)))
          have n1_ := Aside0.mk (blk_grown (g := gb173) (o := .cells #[.int .i64 ((rd_T77 l0 a1_0).f0), .int .i64 ((rd_T77 l0 a1_0).f1)] 77 (0, 0)) (bx_ BK173.out) hg (Kd.R_away HO191.out (fun _ hk => hk.2.1)))
          have n2_ := Aside0.mk (blk_grown (g := gb174) (o := .cells #[.int .i64 ((rd_T77 l0 a1_0).f0), .int .i64 a1_2] 77 (0, 0)) (bx_ BK174.out) hg (Kd.R_away HO191.out (fun _ hk => hk.2.2.1)))
          have n3_ := Aside0.mk (blk_grown (g := gb175) (o := .cells #[.int .i64 ((rd_T77 l0 a1_0).f0), .int .i64 (wrap64 (((rd_T77 l0 a1_0).f1) - a1_2))] 77 (0, 0)) (bx_ BK175.out) hg (Kd.R_away HO191.out (fun _ hk => hk.2.2.2)))
          have n4_ := Aside0.mk (Kd.R_after (ok := (fun k_ => k_ ≠ gb173 ∧ k_ ≠ gb174 ∧ k_ ≠ gb175)) (rx_ HO188.out) hg hat)
          have n5_ := Aside0.mk (hb)
          have n6_ := Aside0.mk (ho)
          clear BK171
          clear BK173
          clear BK174
          clear BK175
          clear HO188
          clear HB
          clear HO191
          have BK171 := n0_
          have BK173 := n1_
          have BK174 := n2_
          have BK175 := n3_
          have HO188 := n4_
          have HB := n5_
          have HO198 := n6_
          clear n0_ n1_ n2_ n3_ n4_ n5_ n6_
          clear ho hb hg hat
          refine hK.out _ _ ⟨(blk_cell BK171.out 0).trans rfl, (blk_cell BK171.out 1).trans rfl, (blk_cell BK171.out 2).trans rfl, (blk_cell BK174.out 0).trans rfl, (blk_cell BK174.out 1).trans rfl, (blk_cell BK175.out 0).trans rfl, (blk_cell BK175.out 1).trans rfl⟩ (fun hHeld => ?_)
          clear hK K
          refine norm_ (a' := ?_) ?_ ?_
          rotate_left
          ·show Act.put _ (some 56) _ = _
           simp only [Act.put, List.setIfInBounds_toArray, List.set_cons_zero, List.set_cons_succ, i64_w, i32_w]
           rfl
          refine pure_ (i := 16) (N := some 4) (v := ?_) (a' := ?_) #[true, true, true, true, true, true, true, true, true, true, true, true, true, true, true, true, true] rfl rfl (any_of HT_.out (by kernel_rfl)) (fun _ _ _ h => h) (Or.inl ⟨by rfl, ?_⟩) ?_ ?_
          rotate_left
          ·intro w'
           go_simp
           with_reducible rfl
          rotate_left
          ·simp only [Act.put, List.setIfInBounds_toArray, List.set_cons_zero, List.set_cons_succ, i64_w, i32_w]
           rfl
          refine done_ (done_of HT_.out (by kernel_rfl)) ?_
          try go_wp2
          go_ret
          exact ⟨_, by first | rfl | (simp [errW_none, errW_some] <;> rfl) | (simp only [← hji10]; first | rfl | (simp [errW_none, errW_some] <;> rfl)) | (simp [*, errW_none, errW_some] <;> rfl), by (with_reducible repeat (first | apply Kd.R_alloc | apply Kd.R_drewN | apply Kd.R_drew)); exact Kd.R_mono HO198.out (fun _ hk => trivial), hx_ HB.out⟩
         ·rw [if_neg c13] at H
          exact absurd H (by simp)
        ·rw [if_neg c12] at H
         exact absurd H (by simp)
       ·rw [if_neg c11] at H
        exact absurd H (by simp)
      ·rw [if_neg c9] at H
       exact absurd H (by simp)
     ·rw [if_neg c8] at H
      exact absurd H (by simp)
    ·rw [if_neg c7] at H
     exact absurd H (by simp)
   ·replace c5 := Bool.eq_false_iff.mpr c5
    subst c5
    have H1 : ((some (([] : List (S77)) : List (S77))).bind fun y199 => (if a1_0 ≤ (l0.length : Int) then ((some (l0.take (a1_0 : Int).toNat : List (S77))).bind fun y202 => (if y199.length + y202.length < 8796093022208 then ((some (y199 ++ y202 : List (S77))).bind fun y206 => ((some (([(⟨a1_2, (rd_T77 l0 a1_0).f1⟩ : S77), (⟨wrap64 (((rd_T77 l0 a1_0).f0) - a1_2), (rd_T77 l0 a1_0).f1⟩ : S77)] : List (S77)) : List (S77))).bind fun y209 => (if y206.length + y209.length < 8796093022208 then ((some (y206 ++ y209 : List (S77))).bind fun y212 => (if 0 ≤ (wrap64 (a1_0 + 1)) then (if (wrap64 (a1_0 + 1)) ≤ (l0.length : Int) then ((some (l0.drop ((wrap64 (a1_0 + 1)) : Int).toNat : List (S77))).bind fun y215 => (if y212.length + y215.length < 8796093022208 then (some (y212 ++ y215)) else (none))) else (none)) else (none))) else (none)))) else (none))) else (none))) = some r := by rw [if_neg (show ¬ (false = true) by decide)] at H; exact H
    clear H
    have H := H1
    clear H1
    obtain ⟨y199, hy199⟩ : ∃ y_ : List (S77), y_ = (([] : List (S77))) := ⟨_, rfl⟩
    replace H : (if a1_0 ≤ (l0.length : Int) then ((some (l0.take (a1_0 : Int).toNat : List (S77))).bind fun y202 => (if y199.length + y202.length < 8796093022208 then ((some (y199 ++ y202 : List (S77))).bind fun y206 => ((some (([(⟨a1_2, (rd_T77 l0 a1_0).f1⟩ : S77), (⟨wrap64 (((rd_T77 l0 a1_0).f0) - a1_2), (rd_T77 l0 a1_0).f1⟩ : S77)] : List (S77)) : List (S77))).bind fun y209 => (if y206.length + y209.length < 8796093022208 then ((some (y206 ++ y209 : List (S77))).bind fun y212 => (if 0 ≤ (wrap64 (a1_0 + 1)) then (if (wrap64 (a1_0 + 1)) ≤ (l0.length : Int) then ((some (l0.drop ((wrap64 (a1_0 + 1)) : Int).toNat : List (S77))).bind fun y215 => (if y212.length + y215.length < 8796093022208 then (some (y212 ++ y215)) else (none))) else (none)) else (none))) else (none)))) else (none))) else (none)) = some r := by first | (rw [hy199]; with_reducible exact H) | (have H2_ := (Option.bind_some _ _).symm.trans H; rw [hy199]; with_reducible exact H2_) | (have H2_ := (Option.bind_some _ _).symm.trans H; with_reducible exact H2_) | with_reducible exact H | (rw [hy199]; exact H) | exact H
    have Ny199 := Aside0.mk hy199
    clear hy199
    have c50b0 := eq_true (of_decide_eq_true (by first | (with_reducible assumption) | assumption) : 0 ≤ a1_0)
    by_cases c51 : a1_0 ≤ (l0.length : Int)
    ·rw [if_pos c51] at H
     have c51b0 := eq_true c51
     have c51b1 : decide (a1_0 ≤ (l0.length : Int)) = true := decide_eq_true c51
     clear c51
     obtain ⟨y202, hy202⟩ : ∃ y_ : List (S77), y_ = (l0.take (a1_0 : Int).toNat) := ⟨_, rfl⟩
     replace H : (if y199.length + y202.length < 8796093022208 then ((some (y199 ++ y202 : List (S77))).bind fun y206 => ((some (([(⟨a1_2, (rd_T77 l0 a1_0).f1⟩ : S77), (⟨wrap64 (((rd_T77 l0 a1_0).f0) - a1_2), (rd_T77 l0 a1_0).f1⟩ : S77)] : List (S77)) : List (S77))).bind fun y209 => (if y206.length + y209.length < 8796093022208 then ((some (y206 ++ y209 : List (S77))).bind fun y212 => (if 0 ≤ (wrap64 (a1_0 + 1)) then (if (wrap64 (a1_0 + 1)) ≤ (l0.length : Int) then ((some (l0.drop ((wrap64 (a1_0 + 1)) : Int).toNat : List (S77))).bind fun y215 => (if y212.length + y215.length < 8796093022208 then (some (y212 ++ y215)) else (none))) else (none)) else (none))) else (none)))) else (none)) = some r := by first | (rw [hy202]; with_reducible exact H) | (have H2_ := (Option.bind_some _ _).symm.trans H; rw [hy202]; with_reducible exact H2_) | (have H2_ := (Option.bind_some _ _).symm.trans H; with_reducible exact H2_) | with_reducible exact H | (rw [hy202]; exact H) | exact H
     have Ny202 := Aside0.mk hy202
     clear hy202
     by_cases c52 : y199.length + y202.length < 8796093022208
     ·rw [if_pos c52] at H
      have LMc52 := Aside0.mk c52
      clear c52
      obtain ⟨y206, hy206⟩ : ∃ y_ : List (S77), y_ = (y199 ++ y202) := ⟨_, rfl⟩
      replace H : ((some (([(⟨a1_2, (rd_T77 l0 a1_0).f1⟩ : S77), (⟨wrap64 (((rd_T77 l0 a1_0).f0) - a1_2), (rd_T77 l0 a1_0).f1⟩ : S77)] : List (S77)) : List (S77))).bind fun y209 => (if y206.length + y209.length < 8796093022208 then ((some (y206 ++ y209 : List (S77))).bind fun y212 => (if 0 ≤ (wrap64 (a1_0 + 1)) then (if (wrap64 (a1_0 + 1)) ≤ (l0.length : Int) then ((some (l0.drop ((wrap64 (a1_0 + 1)) : Int).toNat : List (S77))).bind fun y215 => (if y212.length + y215.length < 8796093022208 then (some (y212 ++ y215)) else (none))) else (none)) else (none))) else (none))) = some r := by first | (rw [hy206]; with_reducible exact H) | (have H2_ := (Option.bind_some _ _).symm.trans H; rw [hy206]; with_reducible exact H2_) | (have H2_ := (Option.bind_some _ _).symm.trans H; with_reducible exact H2_) | with_reducible exact H | (rw [hy206]; exact H) | exact H
      have Ny206 := Aside0.mk hy206
      clear hy206
      obtain ⟨y209, hy209⟩ : ∃ y_ : List (S77), y_ = (([(⟨a1_2, (rd_T77 l0 a1_0).f1⟩ : S77), (⟨wrap64 (((rd_T77 l0 a1_0).f0) - a1_2), (rd_T77 l0 a1_0).f1⟩ : S77)] : List (S77))) := ⟨_, rfl⟩
      replace H : (if y206.length + y209.length < 8796093022208 then ((some (y206 ++ y209 : List (S77))).bind fun y212 => (if 0 ≤ (wrap64 (a1_0 + 1)) then (if (wrap64 (a1_0 + 1)) ≤ (l0.length : Int) then ((some (l0.drop ((wrap64 (a1_0 + 1)) : Int).toNat : List (S77))).bind fun y215 => (if y212.length + y215.length < 8796093022208 then (some (y212 ++ y215)) else (none))) else (none)) else (none))) else (none)) = some r := by first | (rw [hy209]; with_reducible exact H) | (have H2_ := (Option.bind_some _ _).symm.trans H; rw [hy209]; with_reducible exact H2_) | (have H2_ := (Option.bind_some _ _).symm.trans H; with_reducible exact H2_) | with_reducible exact H | (rw [hy209]; exact H) | exact H
      have Ny209 := Aside0.mk hy209
      clear hy209
      by_cases c53 : y206.length + y209.length < 8796093022208
      ·rw [if_pos c53] at H
       have LMc53 := Aside0.mk c53
       clear c53
       obtain ⟨y212, hy212⟩ : ∃ y_ : List (S77), y_ = (y206 ++ y209) := ⟨_, rfl⟩
       replace H : (if 0 ≤ (wrap64 (a1_0 + 1)) then (if (wrap64 (a1_0 + 1)) ≤ (l0.length : Int) then ((some (l0.drop ((wrap64 (a1_0 + 1)) : Int).toNat : List (S77))).bind fun y215 => (if y212.length + y215.length < 8796093022208 then (some (y212 ++ y215)) else (none))) else (none)) else (none)) = some r := by first | (rw [hy212]; with_reducible exact H) | (have H2_ := (Option.bind_some _ _).symm.trans H; rw [hy212]; with_reducible exact H2_) | (have H2_ := (Option.bind_some _ _).symm.trans H; with_reducible exact H2_) | with_reducible exact H | (rw [hy212]; exact H) | exact H
       have Ny212 := Aside0.mk hy212
       clear hy212
       obtain ⟨ji54, hji54⟩ : ∃ j_ : Int, (wrap64 (a1_0 + 1)) = j_ := ⟨_, rfl⟩
       replace H : (if 0 ≤ (ji54) then (if (ji54) ≤ (l0.length : Int) then ((some (l0.drop ((ji54) : Int).toNat : List (S77))).bind fun y215 => (if y212.length + y215.length < 8796093022208 then (some (y212 ++ y215)) else (none))) else (none)) else (none)) = some r := by first | (rw [hji54] at H; exact H) | (simp only [hji54] at H ⊢; exact H)
       have hji54w : (IntKind.i64.wrap (a1_0 + 1)) = ji54 := (i64_w _).trans hji54
       by_cases c55 : 0 ≤ (ji54)
       ·rw [if_pos c55] at H
        have c55b0 := eq_true c55
        have c55b1 : decide (0 ≤ (ji54)) = true := decide_eq_true c55
        clear c55
        by_cases c56 : (ji54) ≤ (l0.length : Int)
        ·rw [if_pos c56] at H
         have c56b0 := eq_true c56
         have c56b1 : decide ((ji54) ≤ (l0.length : Int)) = true := decide_eq_true c56
         clear c56
         obtain ⟨y215, hy215⟩ : ∃ y_ : List (S77), y_ = (l0.drop ((ji54) : Int).toNat) := ⟨_, rfl⟩
         replace H : (if y212.length + y215.length < 8796093022208 then (some (y212 ++ y215)) else (none)) = some r := by first | (rw [hy215]; with_reducible exact H) | (have H2_ := (Option.bind_some _ _).symm.trans H; rw [hy215]; with_reducible exact H2_) | (have H2_ := (Option.bind_some _ _).symm.trans H; with_reducible exact H2_) | with_reducible exact H | (rw [hy215]; exact H) | exact H
         have Ny215 := Aside0.mk hy215
         clear hy215
         by_cases c57 : y212.length + y215.length < 8796093022208
         ·rw [if_pos c57] at H
          have LMc57 := Aside0.mk c57
          clear c57
          obtain ⟨y219, hy219⟩ : ∃ y_ : List (S77), y_ = (y212 ++ y215) := ⟨_, rfl⟩
          replace H : (some y219) = some r := by first | (rw [hy219]; with_reducible exact H) | (have H2_ := (Option.bind_some _ _).symm.trans H; rw [hy219]; with_reducible exact H2_) | (have H2_ := (Option.bind_some _ _).symm.trans H; with_reducible exact H2_) | with_reducible exact H | (rw [hy219]; exact H) | exact H
          have Ny219 := Aside0.mk hy219
          clear hy219
          obtain rfl := Option.some.inj H
          go_enter Try.func168, Try.ntmps168
          try go_wp2_with (first | ((with_reducible refine gate_dst (N := 3) rfl ?_); refine box_event ?hg (N := 3) ?hd (cs := #[.int .i64 a1_0, .bool false, .int .i64 a1_2]) (t := 85) ?hr ?_; (case hd => rfl); (case hg => rfl); (case hr => first | (go_simp; done) | (go_simp; rfl)); intro gb171 hg w58 hbox hb; have n0_ := Aside0.mk (below_step (hx_ HB.out) hb); have n1_ := Aside0.mk (hbox); have n2_ := Aside0.mk ((by rw [hg]; exact (below_size (hx_ HB.out)) : w.heap.size ≤ gb171)); have n3_ := Aside0.mk ((by rw [hg]; exact (below_size (hx_ HB.out)) : w.heap.size ≤ gb171)); clear HB; have HB := n0_; have BK171 := n1_; have GW171 := n2_; have GE171 := n3_; clear n0_ n1_ n2_ n3_; clear hb hbox hg; have hcz59_0 : w58.cell? ⟨gb171, 0, none⟩ = some (.int .i64 a1_0) := (blk_cell BK171.out 0).trans rfl; have hcz59_1 : w58.cell? ⟨gb171, 1, none⟩ = some (.bool false) := (blk_cell BK171.out 1).trans rfl; have hcz59_2 : w58.cell? ⟨gb171, 2, none⟩ = some (.int .i64 a1_2) := (blk_cell BK171.out 2).trans rfl; have hfz59_0 := blk_frozen BK171.out 0; have hfz59_1 := blk_frozen BK171.out 1; have hfz59_2 := blk_frozen BK171.out 2; have p172 : 0 ≤ (a1_0 : Int) := of_decide_eq_true (by first | (with_reducible assumption) | assumption); have q172 : a1_0 < (l0.length : Int) := of_decide_eq_true (by first | (with_reducible assumption) | assumption); obtain ⟨ad172, e172, hx172_0, hx172_1⟩ := at_T77 HR0.out a1_0 p172 q172; cases e172; replace hx172_0 := (HB.out.cell (World.block_lt_of_cell? w _ hx172_0)).trans hx172_0; replace hx172_1 := (HB.out.cell (World.block_lt_of_cell? w _ hx172_1)).trans hx172_1; replace p172 := eq_true p172; replace q172 := eq_true q172) | ((with_reducible refine gate_dst (N := 5) rfl ?_); refine box_event ?hg (N := 5) ?hd (cs := #[.int .i64 0, .int .i64 0]) (t := 77) ?hr ?_; (case hd => rfl); (case hg => rfl); (case hr => first | (go_simp; done) | (go_simp; rfl)); intro gb173 hg w60 hbox hb; have n0_ := Aside0.mk (blk_below (g := gb171) (o := .cells #[.int .i64 a1_0, .bool false, .int .i64 a1_2] 85 (0, 0)) (bx_ BK171.out) hb); have n1_ := Aside0.mk (below_step (hx_ HB.out) hb); have n2_ := Aside0.mk (hbox); have n3_ := Aside0.mk ((by rw [hg]; exact (below_size (hx_ HB.out)) : w.heap.size ≤ gb173)); have n4_ := Aside0.mk ((by rw [hg]; exact (below_size (hx_ HB.out)) : w.heap.size ≤ gb173)); have n5_ := Aside0.mk ((by rw [hg]; exact Nat.ne_of_lt (blk_lt (g := gb171) (o := .cells #[.int .i64 a1_0, .bool false, .int .i64 a1_2] 85 (0, 0)) (bx_ BK171.out)) : gb171 ≠ gb173)); have n6_ := Aside0.mk ((by rw [hg]; exact Nat.ne_of_gt (blk_lt (g := gb171) (o := .cells #[.int .i64 a1_0, .bool false, .int .i64 a1_2] 85 (0, 0)) (bx_ BK171.out)) : gb173 ≠ gb171)); clear BK171; clear HB; have BK171 := n0_; have HB := n1_; have BK173 := n2_; have GW173 := n3_; have GE173 := n4_; have NB171_173 := n5_; have NB173_171 := n6_; clear n0_ n1_ n2_ n3_ n4_ n5_ n6_; clear hb hbox hg; have hnb61 := NB173_171.out; have hnc61 := NB171_173.out; have hcz62_0 : w60.cell? ⟨gb173, 0, none⟩ = some (.int .i64 0) := (blk_cell BK173.out 0).trans rfl; have hcz62_1 : w60.cell? ⟨gb173, 1, none⟩ = some (.int .i64 0) := (blk_cell BK173.out 1).trans rfl; have hfz62_0 := blk_frozen BK173.out 0; have hfz62_1 := blk_frozen BK173.out 1))
          have n0_ : Aside0 (((w60.setCell ⟨gb173, 0, none⟩ (.int .i64 ((rd_T77 l0 a1_0).f0))).setCell ⟨gb173, 1, none⟩ (.int .i64 ((rd_T77 l0 a1_0).f1))).heap[gb171]? = some (.cells #[.int .i64 a1_0, .bool false, .int .i64 a1_2] 85 (0, 0))) := ⟨bx_ BK171.out⟩
          have n1_ : Aside0 (((w60.setCell ⟨gb173, 0, none⟩ (.int .i64 ((rd_T77 l0 a1_0).f0))).setCell ⟨gb173, 1, none⟩ (.int .i64 ((rd_T77 l0 a1_0).f1))).heap[gb173]? = some (.cells #[.int .i64 ((rd_T77 l0 a1_0).f0), .int .i64 ((rd_T77 l0 a1_0).f1)] 77 (0, 0))) := ⟨by (with_reducible repeat (first | refine blk_drewN ?_ _ | refine blk_drew ?_ | refine blk_alloc ?_ _)); refine blk_put (cs := #[.int .i64 ((rd_T77 l0 a1_0).f0), .int .i64 0]) ?_ 1 _ rfl; (with_reducible repeat (first | refine blk_drewN ?_ _ | refine blk_drew ?_ | refine blk_alloc ?_ _)); refine blk_put (cs := #[.int .i64 0, .int .i64 0]) ?_ 0 _ rfl; (with_reducible repeat (first | refine blk_drewN ?_ _ | refine blk_drew ?_ | refine blk_alloc ?_ _)); exact BK173.out⟩
          have n2_ : Aside0 (Below w.heap.size w ((w60.setCell ⟨gb173, 0, none⟩ (.int .i64 ((rd_T77 l0 a1_0).f0))).setCell ⟨gb173, 1, none⟩ (.int .i64 ((rd_T77 l0 a1_0).f1)))) := ⟨hx_ HB.out⟩
          (try clear BK171)
          (try clear BK173)
          (try clear HB)
          generalize ((w60.setCell ⟨gb173, 0, none⟩ (.int .i64 ((rd_T77 l0 a1_0).f0))).setCell ⟨gb173, 1, none⟩ (.int .i64 ((rd_T77 l0 a1_0).f1))) = w63 at n0_ n1_ n2_ ⊢
          have BK171 := n0_
          have BK173 := n1_
          have HB := n2_
          clear n0_ n1_ n2_
          have n0_ := Aside0.mk (blk_drew BK171.out)
          have n1_ := Aside0.mk (blk_drew BK173.out)
          have n2_ := Aside0.mk (below_drew1 HB.out)
          clear BK171
          clear BK173
          clear HB
          have BK171 := n0_
          have BK173 := n1_
          have HB := n2_
          clear n0_ n1_ n2_
          refine start_ (n := 17) (S := fun w' => w'.cell? ⟨gb171, 0, none⟩ = some (.int .i64 a1_0) ∧ w'.cell? ⟨gb171, 1, none⟩ = some (.bool false) ∧ w'.cell? ⟨gb171, 2, none⟩ = some (.int .i64 a1_2) ∧ w'.cell? ⟨gb173, 0, none⟩ = some (.int .i64 ((rd_T77 l0 a1_0).f0)) ∧ w'.cell? ⟨gb173, 1, none⟩ = some (.int .i64 ((rd_T77 l0 a1_0).f1))) (ds := []) #[false, false, false, false, false, false, false, false, false, false, false, false, false, false, false, false, false] (by kernel_rfl) rfl rfl ⟨(blk_cell BK171.out 0).trans rfl, (blk_cell BK171.out 1).trans rfl, (blk_cell BK171.out 2).trans rfl, (blk_cell BK173.out 0).trans rfl, (blk_cell BK173.out 1).trans rfl⟩ (fun hHeld => ?_); refine with_tabW spec_l09Cut.tab2 spec_l09Cut.bits2 (fun HT_ HW_ => ?_)
          generalize w63.drew = w64 at BK171 BK173 HB hHeld ⊢
          refine pure_ (i := 0) (N := some 13) (v := ?_) (a' := ?_) #[true, false, false, false, false, false, false, false, false, false, false, false, false, false, false, false, false] rfl rfl (any_of HT_.out (by kernel_rfl)) (fun _ _ _ h => h) (Or.inl ⟨by rfl, ?_⟩) ?_ ?_
          rotate_left
          ·intro w'
           go_simp
           with_reducible rfl
          rotate_left
          ·simp only [Act.put, List.setIfInBounds_toArray, List.set_cons_zero, List.set_cons_succ, i64_w, i32_w]
           rfl
          refine pure_ (i := 2) (N := some 15) (v := ?_) (a' := ?_) #[true, false, true, false, false, false, false, false, false, false, false, false, false, false, false, false, false] rfl rfl (any_of HT_.out (by kernel_rfl)) (fun _ _ _ h => h) (Or.inl ⟨by rfl, ?_⟩) ?_ ?_
          rotate_left
          ·intro w'
           go_simp
           with_reducible rfl
          rotate_left
          ·simp only [Act.put, List.setIfInBounds_toArray, List.set_cons_zero, List.set_cons_succ, i64_w, i32_w]
           rfl
          refine pure_ (i := 5) (N := some 18) (v := ?_) (a' := ?_) #[true, false, true, false, false, true, false, false, false, false, false, false, false, false, false, false, false] rfl rfl (any_of HT_.out (by kernel_rfl)) (fun _ _ _ h => h) (Or.inl ⟨by rfl, ?_⟩) ?_ ?_
          rotate_left
          ·intro w'
           go_simp
           with_reducible rfl
          rotate_left
          ·simp only [Act.put, List.setIfInBounds_toArray, List.set_cons_zero, List.set_cons_succ, i64_w, i32_w]
           rfl
          refine pure_ (i := 7) (N := some 20) (v := ?_) (a' := ?_) #[true, false, true, false, false, true, false, true, false, false, false, false, false, false, false, false, false] rfl rfl (any_of HT_.out (by kernel_rfl)) (fun _ _ _ h => h) (Or.inl ⟨by rfl, ?_⟩) ?_ ?_
          rotate_left
          ·intro w'
           go_simp
           with_reducible rfl
          rotate_left
          ·simp only [Act.put, List.setIfInBounds_toArray, List.set_cons_zero, List.set_cons_succ, i64_w, i32_w]
           rfl
          refine pure_ (i := 10) (N := some 23) (v := ?_) (a' := ?_) #[true, false, true, false, false, true, false, true, false, false, true, false, false, false, false, false, false] rfl rfl (any_of HT_.out (by kernel_rfl)) (fun _ _ _ h => h) (Or.inl ⟨by rfl, ?_⟩) ?_ ?_
          rotate_left
          ·intro w'
           go_simp
           with_reducible rfl
          rotate_left
          ·simp only [Act.put, List.setIfInBounds_toArray, List.set_cons_zero, List.set_cons_succ, i64_w, i32_w]
           rfl
          refine take_ (i := 1) (N := some 14) (v := ?_) (a' := ?_) #[true, true, true, false, false, true, false, true, false, false, true, false, false, false, false, false, false] rfl rfl (take_ofW HT_.out HW_.out (by kernel_rfl)) (fun _ _ _ h => h) (Or.inl ⟨by rfl, ?_⟩) hHeld ?_ ?_
          rotate_left
          ·rintro w' ⟨s0, s1, s2, s3, s4⟩
           go_simp
           with_reducible rfl
          rotate_left
          ·simp only [Act.put, List.setIfInBounds_toArray, List.set_cons_zero, List.set_cons_succ, i64_w, i32_w]
           rfl
          refine take_ (i := 3) (N := some 16) (v := ?_) (a' := ?_) #[true, true, true, true, false, true, false, true, false, false, true, false, false, false, false, false, false] rfl rfl (take_ofW HT_.out HW_.out (by kernel_rfl)) (fun _ _ _ h => h) (Or.inl ⟨by rfl, ?_⟩) hHeld ?_ ?_
          rotate_left
          ·rintro w' ⟨s0, s1, s2, s3, s4⟩
           go_simp
           with_reducible rfl
          rotate_left
          ·simp only [Act.put, List.setIfInBounds_toArray, List.set_cons_zero, List.set_cons_succ, i64_w, i32_w]
           rfl
          refine pure_ (i := 4) (N := some 17) (v := ?_) (a' := ?_) #[true, true, true, true, true, true, false, true, false, false, true, false, false, false, false, false, false] rfl rfl (any_of HT_.out (by kernel_rfl)) (fun _ _ _ h => h) (Or.inl ⟨by rfl, ?_⟩) ?_ ?_
          rotate_left
          ·intro w'
           go_simp
           with_reducible rfl
          rotate_left
          ·simp only [Act.put, List.setIfInBounds_toArray, List.set_cons_zero, List.set_cons_succ, i64_w, i32_w]
           rfl
          refine take_ (i := 6) (N := some 19) (v := ?_) (a' := ?_) #[true, true, true, true, true, true, true, true, false, false, true, false, false, false, false, false, false] rfl rfl (take_ofW HT_.out HW_.out (by kernel_rfl)) (fun _ _ _ h => h) (Or.inl ⟨by rfl, ?_⟩) hHeld ?_ ?_
          rotate_left
          ·rintro w' ⟨s0, s1, s2, s3, s4⟩
           go_simp
           with_reducible rfl
          rotate_left
          ·simp only [Act.put, List.setIfInBounds_toArray, List.set_cons_zero, List.set_cons_succ, i64_w, i32_w]
           rfl
          refine take_ (i := 8) (N := some 21) (v := ?_) (a' := ?_) #[true, true, true, true, true, true, true, true, true, false, true, false, false, false, false, false, false] rfl rfl (take_ofW HT_.out HW_.out (by kernel_rfl)) (fun _ _ _ h => h) (Or.inl ⟨by rfl, ?_⟩) hHeld ?_ ?_
          rotate_left
          ·rintro w' ⟨s0, s1, s2, s3, s4⟩
           go_simp
           with_reducible rfl
          rotate_left
          ·simp only [Act.put, List.setIfInBounds_toArray, List.set_cons_zero, List.set_cons_succ, i64_w, i32_w]
           rfl
          refine pure_ (i := 9) (N := some 22) (v := ?_) (a' := ?_) #[true, true, true, true, true, true, true, true, true, true, true, false, false, false, false, false, false] rfl rfl (any_of HT_.out (by kernel_rfl)) (fun _ _ _ h => h) (Or.inl ⟨by rfl, ?_⟩) ?_ ?_
          rotate_left
          ·intro w'
           go_simp
           with_reducible rfl
          rotate_left
          ·simp only [Act.put, List.setIfInBounds_toArray, List.set_cons_zero, List.set_cons_succ, i64_w, i32_w]
           rfl
          refine take_ (i := 11) (N := some 24) (v := ?_) (a' := ?_) #[true, true, true, true, true, true, true, true, true, true, true, true, false, false, false, false, false] rfl rfl (take_ofW HT_.out HW_.out (by kernel_rfl)) (fun _ _ _ h => h) (Or.inl ⟨by rfl, ?_⟩) hHeld ?_ ?_
          rotate_left
          ·rintro w' ⟨s0, s1, s2, s3, s4⟩
           go_simp
           with_reducible rfl
          rotate_left
          ·simp only [Act.put, List.setIfInBounds_toArray, List.set_cons_zero, List.set_cons_succ, i64_w, i32_w]
           rfl
          refine pure_ (i := 12) (N := some 25) (v := ?_) (a' := ?_) #[true, true, true, true, true, true, true, true, true, true, true, true, true, false, false, false, false] rfl rfl (any_of HT_.out (by kernel_rfl)) (fun _ _ _ h => h) (Or.inl ⟨by rfl, ?_⟩) ?_ ?_
          rotate_left
          ·intro w'
           go_simp
           with_reducible rfl
          rotate_left
          ·simp only [Act.put, List.setIfInBounds_toArray, List.set_cons_zero, List.set_cons_succ, i64_w, i32_w]
           rfl
          refine join_ (σ := Nat × Nat) 2 #[true, true, true, true, true, true, true, true, true, true, true, true, true, true, true, false, false] (fun s_ => [(6, .pointer (some ⟨s_.1, 0, none⟩)), (7, .pointer (some ⟨s_.2, 0, none⟩))]) (fun s_ w' => (w'.cell? ⟨gb171, 0, none⟩ = some (.int .i64 a1_0) ∧ w'.cell? ⟨gb171, 1, none⟩ = some (.bool false) ∧ w'.cell? ⟨gb171, 2, none⟩ = some (.int .i64 a1_2) ∧ w'.cell? ⟨gb173, 0, none⟩ = some (.int .i64 ((rd_T77 l0 a1_0).f0)) ∧ w'.cell? ⟨gb173, 1, none⟩ = some (.int .i64 ((rd_T77 l0 a1_0).f1))) ∧ (w'.heap[gb171]? = some (.cells #[.int .i64 a1_0, .bool false, .int .i64 a1_2] 85 (0, 0))) ∧ (w'.heap[gb173]? = some (.cells #[.int .i64 ((rd_T77 l0 a1_0).f0), .int .i64 ((rd_T77 l0 a1_0).f1)] 77 (0, 0))) ∧ (w'.heap[s_.1]? = some (.cells #[.int .i64 0, .int .i64 0] 77 (0, 0))) ∧ (w'.heap[s_.2]? = some (.cells #[.int .i64 0, .int .i64 0] 77 (0, 0))) ∧ (w.heap.size ≤ s_.1) ∧ (w.heap.size ≤ s_.1) ∧ (gb171 ≠ s_.1) ∧ (s_.1 ≠ gb171) ∧ (gb173 ≠ s_.1) ∧ (s_.1 ≠ gb173) ∧ (s_.2 ≠ s_.1) ∧ (s_.1 ≠ s_.2) ∧ (w.heap.size ≤ s_.2) ∧ (w.heap.size ≤ s_.2) ∧ (gb171 ≠ s_.2) ∧ (s_.2 ≠ gb171) ∧ (gb173 ≠ s_.2) ∧ (s_.2 ≠ gb173) ∧ (Below w.heap.size w w')) ?_ ?_
          rotate_left
          ·intro hCont
           refine two_ (i := 13) (j := 14) (Ni := some 6) (Nj := some 7) #[true, true, true, true, true, true, true, true, true, true, true, true, true, true, false, false, false] #[true, true, true, true, true, true, true, true, true, true, true, true, true, false, true, false, false] rfl rfl rfl rfl (two_of HT_.out (by kernel_rfl)) (by decide) (by decide) (fun K hK => ?_) (fun K hK => ?_)
           ·skip
            refine box_step ?hg (N := 6) ?hd (cs := #[.int .i64 0, .int .i64 0]) (t := 77) ?hr ?_; (case hd => rfl); (case hg => rfl); (case hr => first | (go_simp; done) | (go_simp; rfl))
            intro gb174 hg w65 hbox hb
            have n0_ := Aside0.mk (blk_below (g := gb171) (o := .cells #[.int .i64 a1_0, .bool false, .int .i64 a1_2] 85 (0, 0)) (bx_ BK171.out) hb)
            have n1_ := Aside0.mk (blk_below (g := gb173) (o := .cells #[.int .i64 ((rd_T77 l0 a1_0).f0), .int .i64 ((rd_T77 l0 a1_0).f1)] 77 (0, 0)) (bx_ BK173.out) hb)
            have n2_ := Aside0.mk (below_step (hx_ HB.out) hb)
            have n3_ := Aside0.mk (hbox)
            have n4_ := Aside0.mk ((by rw [hg]; exact (below_size (hx_ HB.out)) : w.heap.size ≤ gb174))
            have n5_ := Aside0.mk ((by rw [hg]; exact (below_size (hx_ HB.out)) : w.heap.size ≤ gb174))
            have n6_ := Aside0.mk ((by rw [hg]; exact Nat.ne_of_lt (blk_lt (g := gb171) (o := .cells #[.int .i64 a1_0, .bool false, .int .i64 a1_2] 85 (0, 0)) (bx_ BK171.out)) : gb171 ≠ gb174))
            have n7_ := Aside0.mk ((by rw [hg]; exact Nat.ne_of_gt (blk_lt (g := gb171) (o := .cells #[.int .i64 a1_0, .bool false, .int .i64 a1_2] 85 (0, 0)) (bx_ BK171.out)) : gb174 ≠ gb171))
            have n8_ := Aside0.mk ((by rw [hg]; exact Nat.ne_of_lt (blk_lt (g := gb173) (o := .cells #[.int .i64 ((rd_T77 l0 a1_0).f0), .int .i64 ((rd_T77 l0 a1_0).f1)] 77 (0, 0)) (bx_ BK173.out)) : gb173 ≠ gb174))
            have n9_ := Aside0.mk ((by rw [hg]; exact Nat.ne_of_gt (blk_lt (g := gb173) (o := .cells #[.int .i64 ((rd_T77 l0 a1_0).f0), .int .i64 ((rd_T77 l0 a1_0).f1)] 77 (0, 0)) (bx_ BK173.out)) : gb174 ≠ gb173))
            clear BK171
            clear BK173
            clear HB
            have BK171 := n0_
            have BK173 := n1_
            have HB := n2_
            have BK174 := n3_
            have GW174 := n4_
            have GE174 := n5_
            have NB171_174 := n6_
            have NB174_171 := n7_
            have NB173_174 := n8_
            have NB174_173 := n9_
            clear n0_ n1_ n2_ n3_ n4_ n5_ n6_ n7_ n8_ n9_
            clear hb hbox hg
            refine hK.out _ _ ⟨(blk_cell BK171.out 0).trans rfl, (blk_cell BK171.out 1).trans rfl, (blk_cell BK171.out 2).trans rfl, (blk_cell BK173.out 0).trans rfl, (blk_cell BK173.out 1).trans rfl⟩ (fun hHeld => ?_)
            clear hK K
            refine norm_ (a' := ?_) ?_ ?_
            rotate_left
            ·show Act.put _ (some 6) _ = _
             simp only [Act.put, List.setIfInBounds_toArray, List.set_cons_zero, List.set_cons_succ, i64_w, i32_w]
             rfl
            refine one_ (i := 14) (N := some 7) #[true, true, true, true, true, true, true, true, true, true, true, true, true, true, true, false, false] rfl rfl (one_of HT_.out (by kernel_rfl)) (by decide) (fun K hK => ?_)
            refine box_step ?hg (N := 7) ?hd (cs := #[.int .i64 0, .int .i64 0]) (t := 77) ?hr ?_; (case hd => rfl); (case hg => rfl); (case hr => first | (go_simp; done) | (go_simp; rfl))
            intro gb175 hg w66 hbox hb
            have n0_ := Aside0.mk (blk_below (g := gb171) (o := .cells #[.int .i64 a1_0, .bool false, .int .i64 a1_2] 85 (0, 0)) (bx_ BK171.out) hb)
            have n1_ := Aside0.mk (blk_below (g := gb173) (o := .cells #[.int .i64 ((rd_T77 l0 a1_0).f0), .int .i64 ((rd_T77 l0 a1_0).f1)] 77 (0, 0)) (bx_ BK173.out) hb)
            have n2_ := Aside0.mk (blk_below (g := gb174) (o := .cells #[.int .i64 0, .int .i64 0] 77 (0, 0)) (bx_ BK174.out) hb)
            have n3_ := Aside0.mk (below_step (hx_ HB.out) hb)
            have n4_ := Aside0.mk (hbox)
            have n5_ := Aside0.mk ((by rw [hg]; exact (below_size (hx_ HB.out)) : w.heap.size ≤ gb175))
            have n6_ := Aside0.mk ((by rw [hg]; exact (below_size (hx_ HB.out)) : w.heap.size ≤ gb175))
            have n7_ := Aside0.mk ((by rw [hg]; exact Nat.ne_of_lt (blk_lt (g := gb171) (o := .cells #[.int .i64 a1_0, .bool false, .int .i64 a1_2] 85 (0, 0)) (bx_ BK171.out)) : gb171 ≠ gb175))
            have n8_ := Aside0.mk ((by rw [hg]; exact Nat.ne_of_gt (blk_lt (g := gb171) (o := .cells #[.int .i64 a1_0, .bool false, .int .i64 a1_2] 85 (0, 0)) (bx_ BK171.out)) : gb175 ≠ gb171))
            have n9_ := Aside0.mk ((by rw [hg]; exact Nat.ne_of_lt (blk_lt (g := gb173) (o := .cells #[.int .i64 ((rd_T77 l0 a1_0).f0), .int .i64 ((rd_T77 l0 a1_0).f1)] 77 (0, 0)) (bx_ BK173.out)) : gb173 ≠ gb175))
            have n10_ := Aside0.mk ((by rw [hg]; exact Nat.ne_of_gt (blk_lt (g := gb173) (o := .cells #[.int .i64 ((rd_T77 l0 a1_0).f0), .int .i64 ((rd_T77 l0 a1_0).f1)] 77 (0, 0)) (bx_ BK173.out)) : gb175 ≠ gb173))
            have n11_ := Aside0.mk ((by rw [hg]; exact Nat.ne_of_lt (blk_lt (g := gb174) (o := .cells #[.int .i64 0, .int .i64 0] 77 (0, 0)) (bx_ BK174.out)) : gb174 ≠ gb175))
            have n12_ := Aside0.mk ((by rw [hg]; exact Nat.ne_of_gt (blk_lt (g := gb174) (o := .cells #[.int .i64 0, .int .i64 0] 77 (0, 0)) (bx_ BK174.out)) : gb175 ≠ gb174))
            clear BK171
            clear BK173
            clear BK174
            clear HB
            have BK171 := n0_
            have BK173 := n1_
            have BK174 := n2_
            have HB := n3_
            have BK175 := n4_
            have GW175 := n5_
            have GE175 := n6_
            have NB171_175 := n7_
            have NB175_171 := n8_
            have NB173_175 := n9_
            have NB175_173 := n10_
            have NB174_175 := n11_
            have NB175_174 := n12_
            clear n0_ n1_ n2_ n3_ n4_ n5_ n6_ n7_ n8_ n9_ n10_ n11_ n12_
            clear hb hbox hg
            refine hK.out _ _ ⟨(blk_cell BK171.out 0).trans rfl, (blk_cell BK171.out 1).trans rfl, (blk_cell BK171.out 2).trans rfl, (blk_cell BK173.out 0).trans rfl, (blk_cell BK173.out 1).trans rfl⟩ (fun hHeld => ?_)
            clear hK K
            refine norm_ (a' := ?_) ?_ ?_
            rotate_left
            ·show Act.put _ (some 7) _ = _
             simp only [Act.put, List.setIfInBounds_toArray, List.set_cons_zero, List.set_cons_succ, i64_w, i32_w]
             rfl
            exact norm_ (by simp only [putAll, Act.put, List.setIfInBounds_toArray, List.set_cons_zero, List.set_cons_succ]) (hCont (gb174, gb175) _ ⟨hHeld, (bx_ BK171.out), (bx_ BK173.out), (bx_ BK174.out), (bx_ BK175.out), GW174.out, GE174.out, NB171_174.out, NB174_171.out, NB173_174.out, NB174_173.out, NB175_174.out, NB174_175.out, GW175.out, GE175.out, NB171_175.out, NB175_171.out, NB173_175.out, NB175_173.out, (hx_ HB.out)⟩)
           ·skip
            refine box_step ?hg (N := 7) ?hd (cs := #[.int .i64 0, .int .i64 0]) (t := 77) ?hr ?_; (case hd => rfl); (case hg => rfl); (case hr => first | (go_simp; done) | (go_simp; rfl))
            intro gb175 hg w65 hbox hb
            have n0_ := Aside0.mk (blk_below (g := gb171) (o := .cells #[.int .i64 a1_0, .bool false, .int .i64 a1_2] 85 (0, 0)) (bx_ BK171.out) hb)
            have n1_ := Aside0.mk (blk_below (g := gb173) (o := .cells #[.int .i64 ((rd_T77 l0 a1_0).f0), .int .i64 ((rd_T77 l0 a1_0).f1)] 77 (0, 0)) (bx_ BK173.out) hb)
            have n2_ := Aside0.mk (below_step (hx_ HB.out) hb)
            have n3_ := Aside0.mk (hbox)
            have n4_ := Aside0.mk ((by rw [hg]; exact (below_size (hx_ HB.out)) : w.heap.size ≤ gb175))
            have n5_ := Aside0.mk ((by rw [hg]; exact (below_size (hx_ HB.out)) : w.heap.size ≤ gb175))
            have n6_ := Aside0.mk ((by rw [hg]; exact Nat.ne_of_lt (blk_lt (g := gb171) (o := .cells #[.int .i64 a1_0, .bool false, .int .i64 a1_2] 85 (0, 0)) (bx_ BK171.out)) : gb171 ≠ gb175))
            have n7_ := Aside0.mk ((by rw [hg]; exact Nat.ne_of_gt (blk_lt (g := gb171) (o := .cells #[.int .i64 a1_0, .bool false, .int .i64 a1_2] 85 (0, 0)) (bx_ BK171.out)) : gb175 ≠ gb171))
            have n8_ := Aside0.mk ((by rw [hg]; exact Nat.ne_of_lt (blk_lt (g := gb173) (o := .cells #[.int .i64 ((rd_T77 l0 a1_0).f0), .int .i64 ((rd_T77 l0 a1_0).f1)] 77 (0, 0)) (bx_ BK173.out)) : gb173 ≠ gb175))
            have n9_ := Aside0.mk ((by rw [hg]; exact Nat.ne_of_gt (blk_lt (g := gb173) (o := .cells #[.int .i64 ((rd_T77 l0 a1_0).f0), .int .i64 ((rd_T77 l0 a1_0).f1)] 77 (0, 0)) (bx_ BK173.out)) : gb175 ≠ gb173))
            clear BK171
            clear BK173
            clear HB
            have BK171 := n0_
            have BK173 := n1_
            have HB := n2_
            have BK175 := n3_
            have GW175 := n4_
            have GE175 := n5_
            have NB171_175 := n6_
            have NB175_171 := n7_
            have NB173_175 := n8_
            have NB175_173 := n9_
            clear n0_ n1_ n2_ n3_ n4_ n5_ n6_ n7_ n8_ n9_
            clear hb hbox hg
            refine hK.out _ _ ⟨(blk_cell BK171.out 0).trans rfl, (blk_cell BK171.out 1).trans rfl, (blk_cell BK171.out 2).trans rfl, (blk_cell BK173.out 0).trans rfl, (blk_cell BK173.out 1).trans rfl⟩ (fun hHeld => ?_)
            clear hK K
            refine norm_ (a' := ?_) ?_ ?_
            rotate_left
            ·show Act.put _ (some 7) _ = _
             simp only [Act.put, List.setIfInBounds_toArray, List.set_cons_zero, List.set_cons_succ, i64_w, i32_w]
             rfl
            refine one_ (i := 13) (N := some 6) #[true, true, true, true, true, true, true, true, true, true, true, true, true, true, true, false, false] rfl rfl (one_of HT_.out (by kernel_rfl)) (by decide) (fun K hK => ?_)
            refine box_step ?hg (N := 6) ?hd (cs := #[.int .i64 0, .int .i64 0]) (t := 77) ?hr ?_; (case hd => rfl); (case hg => rfl); (case hr => first | (go_simp; done) | (go_simp; rfl))
            intro gb174 hg w66 hbox hb
            have n0_ := Aside0.mk (blk_below (g := gb171) (o := .cells #[.int .i64 a1_0, .bool false, .int .i64 a1_2] 85 (0, 0)) (bx_ BK171.out) hb)
            have n1_ := Aside0.mk (blk_below (g := gb173) (o := .cells #[.int .i64 ((rd_T77 l0 a1_0).f0), .int .i64 ((rd_T77 l0 a1_0).f1)] 77 (0, 0)) (bx_ BK173.out) hb)
            have n2_ := Aside0.mk (blk_below (g := gb175) (o := .cells #[.int .i64 0, .int .i64 0] 77 (0, 0)) (bx_ BK175.out) hb)
            have n3_ := Aside0.mk (below_step (hx_ HB.out) hb)
            have n4_ := Aside0.mk (hbox)
            have n5_ := Aside0.mk ((by rw [hg]; exact (below_size (hx_ HB.out)) : w.heap.size ≤ gb174))
            have n6_ := Aside0.mk ((by rw [hg]; exact (below_size (hx_ HB.out)) : w.heap.size ≤ gb174))
            have n7_ := Aside0.mk ((by rw [hg]; exact Nat.ne_of_lt (blk_lt (g := gb171) (o := .cells #[.int .i64 a1_0, .bool false, .int .i64 a1_2] 85 (0, 0)) (bx_ BK171.out)) : gb171 ≠ gb174))
            have n8_ := Aside0.mk ((by rw [hg]; exact Nat.ne_of_gt (blk_lt (g := gb171) (o := .cells #[.int .i64 a1_0, .bool false, .int .i64 a1_2] 85 (0, 0)) (bx_ BK171.out)) : gb174 ≠ gb171))
            have n9_ := Aside0.mk ((by rw [hg]; exact Nat.ne_of_lt (blk_lt (g := gb173) (o := .cells #[.int .i64 ((rd_T77 l0 a1_0).f0), .int .i64 ((rd_T77 l0 a1_0).f1)] 77 (0, 0)) (bx_ BK173.out)) : gb173 ≠ gb174))
            have n10_ := Aside0.mk ((by rw [hg]; exact Nat.ne_of_gt (blk_lt (g := gb173) (o := .cells #[.int .i64 ((rd_T77 l0 a1_0).f0), .int .i64 ((rd_T77 l0 a1_0).f1)] 77 (0, 0)) (bx_ BK173.out)) : gb174 ≠ gb173))
            have n11_ := Aside0.mk ((by rw [hg]; exact Nat.ne_of_lt (blk_lt (g := gb175) (o := .cells #[.int .i64 0, .int .i64 0] 77 (0, 0)) (bx_ BK175.out)) : gb175 ≠ gb174))
            have n12_ := Aside0.mk ((by rw [hg]; exact Nat.ne_of_gt (blk_lt (g := gb175) (o := .cells #[.int .i64 0, .int .i64 0] 77 (0, 0)) (bx_ BK175.out)) : gb174 ≠ gb175))
            clear BK171
            clear BK173
            clear BK175
            clear HB
            have BK171 := n0_
            have BK173 := n1_
            have BK175 := n2_
            have HB := n3_
            have BK174 := n4_
            have GW174 := n5_
            have GE174 := n6_
            have NB171_174 := n7_
            have NB174_171 := n8_
            have NB173_174 := n9_
            have NB174_173 := n10_
            have NB175_174 := n11_
            have NB174_175 := n12_
            clear n0_ n1_ n2_ n3_ n4_ n5_ n6_ n7_ n8_ n9_ n10_ n11_ n12_
            clear hb hbox hg
            refine hK.out _ _ ⟨(blk_cell BK171.out 0).trans rfl, (blk_cell BK171.out 1).trans rfl, (blk_cell BK171.out 2).trans rfl, (blk_cell BK173.out 0).trans rfl, (blk_cell BK173.out 1).trans rfl⟩ (fun hHeld => ?_)
            clear hK K
            refine norm_ (a' := ?_) ?_ ?_
            rotate_left
            ·show Act.put _ (some 6) _ = _
             simp only [Act.put, List.setIfInBounds_toArray, List.set_cons_zero, List.set_cons_succ, i64_w, i32_w]
             rfl
            exact norm_ (by simp only [putAll, Act.put, List.setIfInBounds_toArray, List.set_cons_zero, List.set_cons_succ]) (hCont (gb174, gb175) _ ⟨hHeld, (bx_ BK171.out), (bx_ BK173.out), (bx_ BK174.out), (bx_ BK175.out), GW174.out, GE174.out, NB171_174.out, NB174_171.out, NB173_174.out, NB174_173.out, NB175_174.out, NB174_175.out, GW175.out, GE175.out, NB171_175.out, NB175_171.out, NB173_175.out, NB175_173.out, (hx_ HB.out)⟩)
          rintro ⟨gb174, gb175⟩ w67 ⟨hS_, h0_, h1_, h2_, h3_, h4_, h5_, h6_, h7_, h8_, h9_, h10_, h11_, h12_, h13_, h14_, h15_, h16_, h17_, h18_⟩
          have n0_ : Aside0 (w67.heap[gb171]? = some (.cells #[.int .i64 a1_0, .bool false, .int .i64 a1_2] 85 (0, 0))) := ⟨h0_⟩
          have n1_ : Aside0 (w67.heap[gb173]? = some (.cells #[.int .i64 ((rd_T77 l0 a1_0).f0), .int .i64 ((rd_T77 l0 a1_0).f1)] 77 (0, 0))) := ⟨h1_⟩
          have n2_ : Aside0 (w67.heap[gb174]? = some (.cells #[.int .i64 0, .int .i64 0] 77 (0, 0))) := ⟨h2_⟩
          have n3_ : Aside0 (w67.heap[gb175]? = some (.cells #[.int .i64 0, .int .i64 0] 77 (0, 0))) := ⟨h3_⟩
          have n4_ : Aside0 (w.heap.size ≤ gb174) := ⟨h4_⟩
          have n5_ : Aside0 (w.heap.size ≤ gb174) := ⟨h5_⟩
          have n6_ : Aside0 (gb171 ≠ gb174) := ⟨h6_⟩
          have n7_ : Aside0 (gb174 ≠ gb171) := ⟨h7_⟩
          have n8_ : Aside0 (gb173 ≠ gb174) := ⟨h8_⟩
          have n9_ : Aside0 (gb174 ≠ gb173) := ⟨h9_⟩
          have n10_ : Aside0 (gb175 ≠ gb174) := ⟨h10_⟩
          have n11_ : Aside0 (gb174 ≠ gb175) := ⟨h11_⟩
          have n12_ : Aside0 (w.heap.size ≤ gb175) := ⟨h12_⟩
          have n13_ : Aside0 (w.heap.size ≤ gb175) := ⟨h13_⟩
          have n14_ : Aside0 (gb171 ≠ gb175) := ⟨h14_⟩
          have n15_ : Aside0 (gb175 ≠ gb171) := ⟨h15_⟩
          have n16_ : Aside0 (gb173 ≠ gb175) := ⟨h16_⟩
          have n17_ : Aside0 (gb175 ≠ gb173) := ⟨h17_⟩
          have n18_ : Aside0 (Below w.heap.size w w67) := ⟨h18_⟩
          clear BK171
          clear BK173
          clear HB
          clear h0_ h1_ h2_ h3_ h4_ h5_ h6_ h7_ h8_ h9_ h10_ h11_ h12_ h13_ h14_ h15_ h16_ h17_ h18_
          have BK171 := n0_
          have BK173 := n1_
          have BK174 := n2_
          have BK175 := n3_
          have GW174 := n4_
          have GE174 := n5_
          have NB171_174 := n6_
          have NB174_171 := n7_
          have NB173_174 := n8_
          have NB174_173 := n9_
          have NB175_174 := n10_
          have NB174_175 := n11_
          have GW175 := n12_
          have GE175 := n13_
          have NB171_175 := n14_
          have NB175_171 := n15_
          have NB173_175 := n16_
          have NB175_173 := n17_
          have HB := n18_
          clear n0_ n1_ n2_ n3_ n4_ n5_ n6_ n7_ n8_ n9_ n10_ n11_ n12_ n13_ n14_ n15_ n16_ n17_ n18_
          have hHeld : w67.cell? ⟨gb171, 0, none⟩ = some (.int .i64 a1_0) ∧ w67.cell? ⟨gb171, 1, none⟩ = some (.bool false) ∧ w67.cell? ⟨gb171, 2, none⟩ = some (.int .i64 a1_2) ∧ w67.cell? ⟨gb173, 0, none⟩ = some (.int .i64 ((rd_T77 l0 a1_0).f0)) ∧ w67.cell? ⟨gb173, 1, none⟩ = some (.int .i64 ((rd_T77 l0 a1_0).f1)) := hS_
          refine norm_ (a' := ?_) ?_ ?_
          rotate_left
          ·simp only [putAll, Act.put, List.setIfInBounds_toArray, List.set_cons_zero, List.set_cons_succ]
           rfl
          refine one_ (i := 15) (N := none) #[true, true, true, true, true, true, true, true, true, true, true, true, true, true, true, true, false] rfl rfl (one_of HT_.out (by kernel_rfl)) (by decide) (fun K hK => ?_)
          have hs68 : w67.cell? ⟨gb174, 0, none⟩ = some (.int .i64 0) := (blk_cell BK174.out 0).trans rfl
          have hfs68 := blk_frozen BK174.out 0
          have hns68_0 := NB171_174.out
          have hns68_1 := NB173_174.out
          have hns68_3 := NB175_174.out
          have hms68_0 := NB174_171.out
          have hms68_1 := NB174_173.out
          have hms68_3 := NB174_175.out
          have hs69 : w67.cell? ⟨gb174, 1, none⟩ = some (.int .i64 0) := (blk_cell BK174.out 1).trans rfl
          have hfs69 := blk_frozen BK174.out 1
          have hns69_0 := NB171_174.out
          have hns69_1 := NB173_174.out
          have hns69_3 := NB175_174.out
          have hms69_0 := NB174_171.out
          have hms69_1 := NB174_173.out
          have hms69_3 := NB174_175.out
          refine skip_ (w1 := ?_) (by rfl) rfl ?_ ?_
          rotate_left
          ·go_simp
           rfl
          refine hK.out _ _ ⟨((cell_far (p := ⟨gb174, _, none⟩) NB171_174.out _).trans (((cell_far (p := ⟨gb174, _, none⟩) NB171_174.out _).trans (hHeld.1)))), ((cell_far (p := ⟨gb174, _, none⟩) NB171_174.out _).trans (((cell_far (p := ⟨gb174, _, none⟩) NB171_174.out _).trans (hHeld.2.1)))), ((cell_far (p := ⟨gb174, _, none⟩) NB171_174.out _).trans (((cell_far (p := ⟨gb174, _, none⟩) NB171_174.out _).trans (hHeld.2.2.1)))), ((cell_far (p := ⟨gb174, _, none⟩) NB173_174.out _).trans (((cell_far (p := ⟨gb174, _, none⟩) NB173_174.out _).trans (hHeld.2.2.2.1)))), ((cell_far (p := ⟨gb174, _, none⟩) NB173_174.out _).trans (((cell_far (p := ⟨gb174, _, none⟩) NB173_174.out _).trans (hHeld.2.2.2.2))))⟩ (fun hHeld => ?_)
          clear hK K
          refine one_ (i := 16) (N := none) #[true, true, true, true, true, true, true, true, true, true, true, true, true, true, true, true, true] rfl rfl (one_of HT_.out (by kernel_rfl)) (by decide) (fun K hK => ?_)
          have hs70 : w67.cell? ⟨gb175, 0, none⟩ = some (.int .i64 0) := (blk_cell BK175.out 0).trans rfl
          have hfs70 := blk_frozen BK175.out 0
          have hns70_0 := NB171_175.out
          have hns70_1 := NB173_175.out
          have hns70_2 := NB174_175.out
          have hms70_0 := NB175_171.out
          have hms70_1 := NB175_173.out
          have hms70_2 := NB175_174.out
          have hs71 : w67.cell? ⟨gb175, 1, none⟩ = some (.int .i64 0) := (blk_cell BK175.out 1).trans rfl
          have hfs71 := blk_frozen BK175.out 1
          have hns71_0 := NB171_175.out
          have hns71_1 := NB173_175.out
          have hns71_2 := NB174_175.out
          have hms71_0 := NB175_171.out
          have hms71_1 := NB175_173.out
          have hms71_2 := NB175_174.out
          refine skip_ (w1 := ?_) (by rfl) rfl ?_ ?_
          rotate_left
          ·go_simp
           rfl
          refine hK.out _ _ ⟨((cell_far (p := ⟨gb175, _, none⟩) NB171_175.out _).trans (((cell_far (p := ⟨gb175, _, none⟩) NB171_175.out _).trans (hHeld.1)))), ((cell_far (p := ⟨gb175, _, none⟩) NB171_175.out _).trans (((cell_far (p := ⟨gb175, _, none⟩) NB171_175.out _).trans (hHeld.2.1)))), ((cell_far (p := ⟨gb175, _, none⟩) NB171_175.out _).trans (((cell_far (p := ⟨gb175, _, none⟩) NB171_175.out _).trans (hHeld.2.2.1)))), ((cell_far (p := ⟨gb175, _, none⟩) NB173_175.out _).trans (((cell_far (p := ⟨gb175, _, none⟩) NB173_175.out _).trans (hHeld.2.2.2.1)))), ((cell_far (p := ⟨gb175, _, none⟩) NB173_175.out _).trans (((cell_far (p := ⟨gb175, _, none⟩) NB173_175.out _).trans (hHeld.2.2.2.2))))⟩ (fun hHeld => ?_)
          clear hK K
          refine done_ (done_of HT_.out (by kernel_rfl)) ?_
          have hnb72 := NB171_174.out
          have hnc72 := NB174_171.out
          have hnb73 := NB171_175.out
          have hnc73 := NB175_171.out
          have hcz74_0 : w67.cell? ⟨gb171, 0, none⟩ = some (.int .i64 a1_0) := (blk_cell BK171.out 0).trans rfl
          have hcz74_1 : w67.cell? ⟨gb171, 1, none⟩ = some (.bool false) := (blk_cell BK171.out 1).trans rfl
          have hcz74_2 : w67.cell? ⟨gb171, 2, none⟩ = some (.int .i64 a1_2) := (blk_cell BK171.out 2).trans rfl
          have hfz74_0 := blk_frozen BK171.out 0
          have hfz74_1 := blk_frozen BK171.out 1
          have hfz74_2 := blk_frozen BK171.out 2
          try go_wp2
          have n0_ : Aside0 (((((w67.setCell ⟨gb174, 0, none⟩ (.int .i64 a1_2)).setCell ⟨gb174, 1, none⟩ (.int .i64 ((rd_T77 l0 a1_0).f1))).setCell ⟨gb175, 0, none⟩ (.int .i64 (wrap64 (((rd_T77 l0 a1_0).f0) - a1_2)))).setCell ⟨gb175, 1, none⟩ (.int .i64 ((rd_T77 l0 a1_0).f1))).heap[gb171]? = some (.cells #[.int .i64 a1_0, .bool false, .int .i64 a1_2] 85 (0, 0))) := ⟨bx_ BK171.out⟩
          have n1_ : Aside0 (((((w67.setCell ⟨gb174, 0, none⟩ (.int .i64 a1_2)).setCell ⟨gb174, 1, none⟩ (.int .i64 ((rd_T77 l0 a1_0).f1))).setCell ⟨gb175, 0, none⟩ (.int .i64 (wrap64 (((rd_T77 l0 a1_0).f0) - a1_2)))).setCell ⟨gb175, 1, none⟩ (.int .i64 ((rd_T77 l0 a1_0).f1))).heap[gb173]? = some (.cells #[.int .i64 ((rd_T77 l0 a1_0).f0), .int .i64 ((rd_T77 l0 a1_0).f1)] 77 (0, 0))) := ⟨bx_ BK173.out⟩
          have n2_ : Aside0 (((((w67.setCell ⟨gb174, 0, none⟩ (.int .i64 a1_2)).setCell ⟨gb174, 1, none⟩ (.int .i64 ((rd_T77 l0 a1_0).f1))).setCell ⟨gb175, 0, none⟩ (.int .i64 (wrap64 (((rd_T77 l0 a1_0).f0) - a1_2)))).setCell ⟨gb175, 1, none⟩ (.int .i64 ((rd_T77 l0 a1_0).f1))).heap[gb174]? = some (.cells #[.int .i64 a1_2, .int .i64 ((rd_T77 l0 a1_0).f1)] 77 (0, 0))) := ⟨by (with_reducible repeat (first | refine blk_drewN ?_ _ | refine blk_drew ?_ | refine blk_alloc ?_ _)); refine blk_far ?_ NB174_175.out _; (with_reducible repeat (first | refine blk_drewN ?_ _ | refine blk_drew ?_ | refine blk_alloc ?_ _)); refine blk_far ?_ NB174_175.out _; (with_reducible repeat (first | refine blk_drewN ?_ _ | refine blk_drew ?_ | refine blk_alloc ?_ _)); refine blk_put (cs := #[.int .i64 a1_2, .int .i64 0]) ?_ 1 _ rfl; (with_reducible repeat (first | refine blk_drewN ?_ _ | refine blk_drew ?_ | refine blk_alloc ?_ _)); refine blk_put (cs := #[.int .i64 0, .int .i64 0]) ?_ 0 _ rfl; (with_reducible repeat (first | refine blk_drewN ?_ _ | refine blk_drew ?_ | refine blk_alloc ?_ _)); exact BK174.out⟩
          have n3_ : Aside0 (((((w67.setCell ⟨gb174, 0, none⟩ (.int .i64 a1_2)).setCell ⟨gb174, 1, none⟩ (.int .i64 ((rd_T77 l0 a1_0).f1))).setCell ⟨gb175, 0, none⟩ (.int .i64 (wrap64 (((rd_T77 l0 a1_0).f0) - a1_2)))).setCell ⟨gb175, 1, none⟩ (.int .i64 ((rd_T77 l0 a1_0).f1))).heap[gb175]? = some (.cells #[.int .i64 (wrap64 (((rd_T77 l0 a1_0).f0) - a1_2)), .int .i64 ((rd_T77 l0 a1_0).f1)] 77 (0, 0))) := ⟨by (with_reducible repeat (first | refine blk_drewN ?_ _ | refine blk_drew ?_ | refine blk_alloc ?_ _)); refine blk_put (cs := #[.int .i64 (wrap64 (((rd_T77 l0 a1_0).f0) - a1_2)), .int .i64 0]) ?_ 1 _ rfl; (with_reducible repeat (first | refine blk_drewN ?_ _ | refine blk_drew ?_ | refine blk_alloc ?_ _)); refine blk_put (cs := #[.int .i64 0, .int .i64 0]) ?_ 0 _ rfl; (with_reducible repeat (first | refine blk_drewN ?_ _ | refine blk_drew ?_ | refine blk_alloc ?_ _)); refine blk_far ?_ NB175_174.out _; (with_reducible repeat (first | refine blk_drewN ?_ _ | refine blk_drew ?_ | refine blk_alloc ?_ _)); refine blk_far ?_ NB175_174.out _; (with_reducible repeat (first | refine blk_drewN ?_ _ | refine blk_drew ?_ | refine blk_alloc ?_ _)); exact BK175.out⟩
          have n4_ : Aside0 (Below w.heap.size w ((((w67.setCell ⟨gb174, 0, none⟩ (.int .i64 a1_2)).setCell ⟨gb174, 1, none⟩ (.int .i64 ((rd_T77 l0 a1_0).f1))).setCell ⟨gb175, 0, none⟩ (.int .i64 (wrap64 (((rd_T77 l0 a1_0).f0) - a1_2)))).setCell ⟨gb175, 1, none⟩ (.int .i64 ((rd_T77 l0 a1_0).f1)))) := ⟨hx_ HB.out⟩
          (try clear BK171)
          (try clear BK173)
          (try clear BK174)
          (try clear BK175)
          (try clear HB)
          generalize ((((w67.setCell ⟨gb174, 0, none⟩ (.int .i64 a1_2)).setCell ⟨gb174, 1, none⟩ (.int .i64 ((rd_T77 l0 a1_0).f1))).setCell ⟨gb175, 0, none⟩ (.int .i64 (wrap64 (((rd_T77 l0 a1_0).f0) - a1_2)))).setCell ⟨gb175, 1, none⟩ (.int .i64 ((rd_T77 l0 a1_0).f1))) = w75 at n0_ n1_ n2_ n3_ n4_ ⊢
          have BK171 := n0_
          have BK173 := n1_
          have BK174 := n2_
          have BK175 := n3_
          have HB := n4_
          clear n0_ n1_ n2_ n3_ n4_
          have n0_ := Aside0.mk (blk_drew BK171.out)
          have n1_ := Aside0.mk (blk_drew BK173.out)
          have n2_ := Aside0.mk (blk_drew BK174.out)
          have n3_ := Aside0.mk (blk_drew BK175.out)
          have n4_ := Aside0.mk (below_drew1 HB.out)
          clear BK171
          clear BK173
          clear BK174
          clear BK175
          clear HB
          have BK171 := n0_
          have BK173 := n1_
          have BK174 := n2_
          have BK175 := n3_
          have HB := n4_
          clear n0_ n1_ n2_ n3_ n4_
          have q77 : (a1_0 : Int) ≤ ((l0.length : Int) : Int) := of_decide_eq_true (by first | (with_reducible assumption) | assumption)
          obtain ⟨i077, hi077, _, hsz77, _⟩ := info_parts info77
          have hroom77 : l0.length ≤ c0 := HC0.out
          have hC77 : Kd.C k77 _ (some ad172) l0.length l0 := HR0.out
          have hcut77 := cut_to (P := Try.prog) 81 77 .i64 Try.underlying81 hi077 (some ad172) l0.length c0 a1_0 (of_decide_eq_true (by first | (with_reducible assumption) | assumption)) q77 hroom77
          have hr77 := Kd.C_take (m := (a1_0 : Int).toNat) hC77 (by omega)
          have hy77 : y202.length = (a1_0 : Int).toNat := (by rw [Ny202.out, List.length_take]; omega)
          rw [← Ny202.out] at hr77
          rw [← hy77] at hcut77
          have HR205 := Aside0.mk hr77
          have HC205 := Aside0.mk (show y202.length ≤ c0 from by omega)
          clear hr77 hC77 hroom77 hi077 hsz77
          have KY77 := Aside0.mk hy77
          clear hy77
          replace q77 := eq_true q77
          have q78 : ((ji54) : Int) ≤ ((l0.length : Int) : Int) := of_decide_eq_true (by first | (with_reducible assumption) | assumption)
          obtain ⟨i078, hi078, _, hsz78, _⟩ := info_parts info77
          have hroom78 : l0.length ≤ c0 := HC0.out
          have hC78 : Kd.C k77 _ (some ad172) l0.length l0 := HR0.out
          have q078 : (0 : Int) ≤ ((ji54) : Int) := of_decide_eq_true (by first | (with_reducible assumption) | assumption)
          have hcut78 := cut_from (P := Try.prog) 81 77 .i64 Try.underlying81 hi078 2 hsz78 (some ad172) l0.length c0 (ji54) q078 q78
          have hr78 := Kd.C_drop (m := ((ji54) : Int).toNat) (c := c0) hC78 (by omega) hroom78
          obtain ⟨A78, hA78⟩ : ∃ A1, A1 = (if c0 = ((ji54) : Int).toNat then (some ad172) else ((some ad172) : Option Addr).map (·.add (((ji54) : Int).toNat * 2))) := ⟨_, rfl⟩
          obtain ⟨c78, hc78⟩ : ∃ c1, c1 = c0 - ((ji54) : Int).toNat := ⟨_, rfl⟩
          have hy78 : y215.length = l0.length - ((ji54) : Int).toNat := (by rw [Ny215.out, List.length_drop] <;> omega)
          rw [show (l0).drop ((ji54) : Int).toNat = y215 from Ny215.out.symm] at hr78
          replace hr78 : Kd.C k77 _ A78 y215.length y215 := (by rw [hA78]; exact hr78)
          rw [← hy78, ← hA78, ← hc78] at hcut78
          have HR218 := Aside0.mk hr78
          have HC218 := Aside0.mk (show y215.length ≤ c78 from by rw [hy78, hc78]; exact Nat.sub_le_sub_right hroom78 _)
          clear hr78 hC78 hroom78 hi078 hsz78 hc78
          have KY78 := Aside0.mk hy78
          have KA78 := Aside0.mk hA78
          clear hy78 hA78
          replace q78 := eq_true q78
          refine start_ (n := 17) (S := fun w' => w'.cell? ⟨gb171, 0, none⟩ = some (.int .i64 a1_0) ∧ w'.cell? ⟨gb171, 1, none⟩ = some (.bool false) ∧ w'.cell? ⟨gb171, 2, none⟩ = some (.int .i64 a1_2) ∧ w'.cell? ⟨gb174, 0, none⟩ = some (.int .i64 a1_2) ∧ w'.cell? ⟨gb174, 1, none⟩ = some (.int .i64 ((rd_T77 l0 a1_0).f1)) ∧ w'.cell? ⟨gb175, 0, none⟩ = some (.int .i64 (wrap64 (((rd_T77 l0 a1_0).f0) - a1_2))) ∧ w'.cell? ⟨gb175, 1, none⟩ = some (.int .i64 ((rd_T77 l0 a1_0).f1))) (ds := []) #[false, false, false, false, false, false, false, false, false, false, false, false, false, false, false, false, false] (by kernel_rfl) rfl rfl ⟨(blk_cell BK171.out 0).trans rfl, (blk_cell BK171.out 1).trans rfl, (blk_cell BK171.out 2).trans rfl, (blk_cell BK174.out 0).trans rfl, (blk_cell BK174.out 1).trans rfl, (blk_cell BK175.out 0).trans rfl, (blk_cell BK175.out 1).trans rfl⟩ (fun hHeld => ?_); refine with_tabW spec_l09Cut.tab5 spec_l09Cut.bits5 (fun HT_ HW_ => ?_)
          generalize w75.drew = w76 at BK171 BK173 BK174 BK175 HB HR205 HR218 hHeld ⊢
          refine pure_ (i := 1) (N := some 42) (v := ?_) (a' := ?_) #[false, true, false, false, false, false, false, false, false, false, false, false, false, false, false, false, false] rfl rfl (any_of HT_.out (by kernel_rfl)) (fun _ _ _ h => h) (Or.inl ⟨by rfl, ?_⟩) ?_ ?_
          rotate_left
          ·intro w'
           go_simp
           with_reducible rfl
          rotate_left
          ·simp only [Act.put, List.setIfInBounds_toArray, List.set_cons_zero, List.set_cons_succ, i64_w, i32_w]
           rfl
          refine pure_ (i := 2) (N := some 43) (v := ?_) (a' := ?_) #[false, true, true, false, false, false, false, false, false, false, false, false, false, false, false, false, false] rfl rfl (any_of HT_.out (by kernel_rfl)) (fun _ _ _ h => h) (Or.inl ⟨by rfl, ?_⟩) ?_ ?_
          rotate_left
          ·intro w'
           go_simp
           with_reducible rfl
          rotate_left
          ·simp only [Act.put, List.setIfInBounds_toArray, List.set_cons_zero, List.set_cons_succ, i64_w, i32_w]
           rfl
          refine pure_ (i := 10) (N := some 51) (v := ?_) (a' := ?_) #[false, true, true, false, false, false, false, false, false, false, true, false, false, false, false, false, false] rfl rfl (any_of HT_.out (by kernel_rfl)) (fun _ _ _ h => h) (Or.inl ⟨by rfl, ?_⟩) ?_ ?_
          rotate_left
          ·intro w'
           go_simp
           with_reducible rfl
          rotate_left
          ·simp only [Act.put, List.setIfInBounds_toArray, List.set_cons_zero, List.set_cons_succ, i64_w, i32_w]
           rfl
          refine pure_ (i := 11) (N := some 52) (v := ?_) (a' := ?_) #[false, true, true, false, false, false, false, false, false, false, true, true, false, false, false, false, false] rfl rfl (any_of HT_.out (by kernel_rfl)) (fun _ _ _ h => h) (Or.inl ⟨by rfl, ?_⟩) ?_ ?_
          rotate_left
          ·intro w'
           go_simp
           with_reducible rfl
          rotate_left
          ·simp only [Act.put, List.setIfInBounds_toArray, List.set_cons_zero, List.set_cons_succ, i64_w, i32_w]
           rfl
          refine take_ (i := 3) (N := some 44) (v := ?_) (a' := ?_) #[false, true, true, true, false, false, false, false, false, false, true, true, false, false, false, false, false] rfl rfl (take_ofW HT_.out HW_.out (by kernel_rfl)) (fun _ _ _ h => h) (Or.inl ⟨by rfl, ?_⟩) hHeld ?_ ?_
          rotate_left
          ·rintro w' ⟨s0, s1, s2, s3, s4, s5, s6⟩
           go_simp
           with_reducible rfl
          rotate_left
          ·simp only [Act.put, List.setIfInBounds_toArray, List.set_cons_zero, List.set_cons_succ, i64_w, i32_w]
           rfl
          refine pure_ (i := 4) (N := some 45) (v := ?_) (a' := ?_) #[false, true, true, true, true, false, false, false, false, false, true, true, false, false, false, false, false] rfl rfl (any_of HT_.out (by kernel_rfl)) (fun _ _ _ h => h) (Or.inl ⟨by rfl, ?_⟩) ?_ ?_
          rotate_left
          ·intro w'
           go_simp
           with_reducible rfl
          rotate_left
          ·simp only [Act.put, List.setIfInBounds_toArray, List.set_cons_zero, List.set_cons_succ, i64_w, i32_w]
           rfl
          refine take_ (i := 6) (N := some 47) (v := ?_) (a' := ?_) #[false, true, true, true, true, false, true, false, false, false, true, true, false, false, false, false, false] rfl rfl (take_ofW HT_.out HW_.out (by kernel_rfl)) (fun _ _ _ h => h) (Or.inl ⟨by rfl, ?_⟩) hHeld ?_ ?_
          rotate_left
          ·rintro w' ⟨s0, s1, s2, s3, s4, s5, s6⟩
           go_simp
           with_reducible rfl
          rotate_left
          ·simp only [Act.put, List.setIfInBounds_toArray, List.set_cons_zero, List.set_cons_succ, i64_w, i32_w]
           rfl
          refine take_ (i := 7) (N := some 48) (v := ?_) (a' := ?_) #[false, true, true, true, true, false, true, true, false, false, true, true, false, false, false, false, false] rfl rfl (take_ofW HT_.out HW_.out (by kernel_rfl)) (fun _ _ _ h => h) (Or.inl ⟨by rfl, ?_⟩) hHeld ?_ ?_
          rotate_left
          ·rintro w' ⟨s0, s1, s2, s3, s4, s5, s6⟩
           go_simp
           with_reducible rfl
          rotate_left
          ·simp only [Act.put, List.setIfInBounds_toArray, List.set_cons_zero, List.set_cons_succ, i64_w, i32_w]
           rfl
          refine take_ (i := 12) (N := some 53) (v := ?_) (a' := ?_) #[false, true, true, true, true, false, true, true, false, false, true, true, true, false, false, false, false] rfl rfl (take_ofW HT_.out HW_.out (by kernel_rfl)) (fun _ _ _ h => h) (Or.inl ⟨by rfl, ?_⟩) hHeld ?_ ?_
          rotate_left
          ·rintro w' ⟨s0, s1, s2, s3, s4, s5, s6⟩
           go_simp
           with_reducible rfl
          rotate_left
          ·simp only [Act.put, List.setIfInBounds_toArray, List.set_cons_zero, List.set_cons_succ, i64_w, i32_w]
           rfl
          refine pure_ (i := 13) (N := some 54) (v := ?_) (a' := ?_) #[false, true, true, true, true, false, true, true, false, false, true, true, true, true, false, false, false] rfl rfl (any_of HT_.out (by kernel_rfl)) (fun _ _ _ h => h) (Or.inl ⟨by rfl, ?_⟩) ?_ ?_
          rotate_left
          ·intro w'
           go_simp
           with_reducible rfl
          rotate_left
          ·simp only [Act.put, List.setIfInBounds_toArray, List.set_cons_zero, List.set_cons_succ, i64_w, i32_w]
           rfl
          refine pure_ (i := 14) (N := some 55) (v := ?_) (a' := ?_) #[false, true, true, true, true, false, true, true, false, false, true, true, true, true, true, false, false] rfl rfl (any_of HT_.out (by kernel_rfl)) (fun _ _ _ h => h) (Or.inl ⟨by rfl, ?_⟩) ?_ ?_
          rotate_left
          ·intro w'
           go_simp
           with_reducible rfl
          rotate_left
          ·simp only [Act.put, List.setIfInBounds_toArray, List.set_cons_zero, List.set_cons_succ, i64_w, i32_w]
           rfl
          refine join_ (σ := Value × Value × Value) 3 #[true, true, true, true, true, true, true, true, true, false, true, true, true, true, true, false, false] (fun s_ => [(41, s_.1), (46, s_.2.1), (49, s_.2.2)]) (fun s_ w' => (w'.cell? ⟨gb171, 0, none⟩ = some (.int .i64 a1_0) ∧ w'.cell? ⟨gb171, 1, none⟩ = some (.bool false) ∧ w'.cell? ⟨gb171, 2, none⟩ = some (.int .i64 a1_2) ∧ w'.cell? ⟨gb174, 0, none⟩ = some (.int .i64 a1_2) ∧ w'.cell? ⟨gb174, 1, none⟩ = some (.int .i64 ((rd_T77 l0 a1_0).f1)) ∧ w'.cell? ⟨gb175, 0, none⟩ = some (.int .i64 (wrap64 (((rd_T77 l0 a1_0).f0) - a1_2))) ∧ w'.cell? ⟨gb175, 1, none⟩ = some (.int .i64 ((rd_T77 l0 a1_0).f1))) ∧ (Kd.R k77 77 w' w.heap.size (fun k_ => some k_ ≠ (s_.2.2 : Value).ownBlock ∧ k_ ≠ gb173 ∧ k_ ≠ gb174 ∧ k_ ≠ gb175) s_.2.1 y206) ∧ (Kd.R k77 77 w' w.heap.size (fun k_ => some k_ ≠ (s_.2.1 : Value).ownBlock ∧ k_ ≠ gb173 ∧ k_ ≠ gb174 ∧ k_ ≠ gb175) s_.2.2 y209) ∧ (w'.heap[gb171]? = some (.cells #[.int .i64 a1_0, .bool false, .int .i64 a1_2] 85 (0, 0))) ∧ (w'.heap[gb173]? = some (.cells #[.int .i64 ((rd_T77 l0 a1_0).f0), .int .i64 ((rd_T77 l0 a1_0).f1)] 77 (0, 0))) ∧ (w'.heap[gb174]? = some (.cells #[.int .i64 a1_2, .int .i64 ((rd_T77 l0 a1_0).f1)] 77 (0, 0))) ∧ (w'.heap[gb175]? = some (.cells #[.int .i64 (wrap64 (((rd_T77 l0 a1_0).f0) - a1_2)), .int .i64 ((rd_T77 l0 a1_0).f1)] 77 (0, 0))) ∧ (Below w.heap.size w w')) ?_ ?_
          rotate_left
          ·intro hCont
           refine two_ (i := 0) (j := 8) (Ni := some 41) (Nj := some 49) #[true, true, true, true, true, false, true, true, false, false, true, true, true, true, true, false, false] #[false, true, true, true, true, false, true, true, true, false, true, true, true, true, true, false, false] rfl rfl rfl rfl (two_of HT_.out (by kernel_rfl)) (by decide) (by decide) (fun K hK => ?_) (fun K hK => ?_)
           ·skip
            refine Kd.R_lit_step k77 _ 77 ?hg (N := 41) ?hd (xs := ([] : List (S77))) (inner := []) (ok := fun _ => True) (okp := fun _ => True) ?hr ?hp (fun _ hk => hk) trivial (Below.refl _ _) (Nat.le_refl _) (by simp) ?_; (case hd => rfl); (case hg => rfl); (case hr => first | (go_simp; done) | (go_simp; rfl)); (case hp => exact (Reps.none _ _))
            intro v200 w79 ho80 hb hg_ hnew_
            clear hg_ hnew_
            (first | rw [← Ny199.out] at ho80 | (simp only [Int.reduceToNat] at ho80; rw [← Ny199.out] at ho80))
            have n0_ := Aside0.mk (Kd.R_lower (Kd.R_newB (Kd.R_newB (Kd.R_newB ho80 (g := gb173) (o := .cells #[.int .i64 ((rd_T77 l0 a1_0).f0), .int .i64 ((rd_T77 l0 a1_0).f1)] 77 (0, 0)) (bx_ BK173.out)) (g := gb174) (o := .cells #[.int .i64 a1_2, .int .i64 ((rd_T77 l0 a1_0).f1)] 77 (0, 0)) (bx_ BK174.out)) (g := gb175) (o := .cells #[.int .i64 (wrap64 (((rd_T77 l0 a1_0).f0) - a1_2)), .int .i64 ((rd_T77 l0 a1_0).f1)] 77 (0, 0)) (bx_ BK175.out)) (below_size (hx_ HB.out)))
            have n1_ := Aside0.mk (blk_below (g := gb171) (o := .cells #[.int .i64 a1_0, .bool false, .int .i64 a1_2] 85 (0, 0)) (bx_ BK171.out) hb)
            have n2_ := Aside0.mk (blk_below (g := gb173) (o := .cells #[.int .i64 ((rd_T77 l0 a1_0).f0), .int .i64 ((rd_T77 l0 a1_0).f1)] 77 (0, 0)) (bx_ BK173.out) hb)
            have n3_ := Aside0.mk (blk_below (g := gb174) (o := .cells #[.int .i64 a1_2, .int .i64 ((rd_T77 l0 a1_0).f1)] 77 (0, 0)) (bx_ BK174.out) hb)
            have n4_ := Aside0.mk (blk_below (g := gb175) (o := .cells #[.int .i64 (wrap64 (((rd_T77 l0 a1_0).f0) - a1_2)), .int .i64 ((rd_T77 l0 a1_0).f1)] 77 (0, 0)) (bx_ BK175.out) hb)
            have n5_ := Aside0.mk (below_step (hx_ HB.out) hb)
            clear BK171
            clear BK173
            clear BK174
            clear BK175
            clear HB
            have HO201 := n0_
            have BK171 := n1_
            have BK173 := n2_
            have BK174 := n3_
            have BK175 := n4_
            have HB := n5_
            clear n0_ n1_ n2_ n3_ n4_ n5_
            clear hb ho80
            refine hK.out _ _ ⟨(blk_cell BK171.out 0).trans rfl, (blk_cell BK171.out 1).trans rfl, (blk_cell BK171.out 2).trans rfl, (blk_cell BK174.out 0).trans rfl, (blk_cell BK174.out 1).trans rfl, (blk_cell BK175.out 0).trans rfl, (blk_cell BK175.out 1).trans rfl⟩ (fun hHeld => ?_)
            clear hK K
            refine norm_ (a' := ?_) ?_ ?_
            rotate_left
            ·show Act.put _ (some 41) _ = _
             simp only [Act.put, List.setIfInBounds_toArray, List.set_cons_zero, List.set_cons_succ, i64_w, i32_w]
             rfl
            refine two_ (i := 5) (j := 8) (Ni := some 46) (Nj := some 49) #[true, true, true, true, true, true, true, true, false, false, true, true, true, true, true, false, false] #[true, true, true, true, true, false, true, true, true, false, true, true, true, true, true, false, false] rfl rfl rfl rfl (two_of HT_.out (by kernel_rfl)) (by decide) (by decide) (fun K hK => ?_) (fun K hK => ?_)
            ·skip
             refine Kd.R_append_rows_step k77 (w0 := w) w.heap.size (by rfl) (.tmp 41) (.tmp 45) 81 77 (.agg #[(.int .i64 0), (.int .i64 0)]) 16 rfl Try.underlying81 info77 rfl (by decide) (by omega) v200 y199 y202 _ _ _ (fun k_ => k_ ≠ gb173 ∧ k_ ≠ gb174 ∧ k_ ≠ gb175) (fun _ => False) rfl rfl ?aO ?aR (fun _ _ h => h) (fun _ h => h.elim) ?aF ?aB ?aS ?aL ?_
             (case aR => repeat (first | exact (Kd.C_below HR205.out HB.out) | (with_reducible refine Kd.C_alloc ?_ _) | (with_reducible refine Kd.C_drewN ?_ _) | (with_reducible refine Kd.C_drew ?_)))
             (case aB => exact (hx_ HB.out))
             (case aF => exact (fun k_ hk => ⟨Kd.freshB (g := gb173) (o := .cells #[.int .i64 ((rd_T77 l0 a1_0).f0), .int .i64 ((rd_T77 l0 a1_0).f1)] 77 (0, 0)) (bx_ BK173.out) k_ hk, Kd.freshB (g := gb174) (o := .cells #[.int .i64 a1_2, .int .i64 ((rd_T77 l0 a1_0).f1)] 77 (0, 0)) (bx_ BK174.out) k_ hk, Kd.freshB (g := gb175) (o := .cells #[.int .i64 (wrap64 (((rd_T77 l0 a1_0).f0) - a1_2)), .int .i64 ((rd_T77 l0 a1_0).f1)] 77 (0, 0)) (bx_ BK175.out) k_ hk⟩))
             (case aO => exact (by (with_reducible repeat (first | apply Kd.R_alloc | apply Kd.R_drewN | apply Kd.R_drew)); exact Kd.R_mono HO201.out (fun _ hk => ⟨hk.1.1.2, ⟨hk.1.2, hk.2⟩⟩)))
             (case aS => exact (below_size (hx_ HB.out)))
             (case aL => have := LMc52.out; omega)
             intro v207 w81 ho hb hg hat
             rw [← Ny206.out] at ho
             have n0_ := Aside0.mk (blk_grown (g := gb171) (o := .cells #[.int .i64 a1_0, .bool false, .int .i64 a1_2] 85 (0, 0)) (bx_ BK171.out) hg (Kd.R_ne HO201.out BK171.out (by decide)))
             have n1_ := Aside0.mk (blk_grown (g := gb173) (o := .cells #[.int .i64 ((rd_T77 l0 a1_0).f0), .int .i64 ((rd_T77 l0 a1_0).f1)] 77 (0, 0)) (bx_ BK173.out) hg (Kd.R_away HO201.out (fun _ hk => hk.1.1.2)))
             have n2_ := Aside0.mk (blk_grown (g := gb174) (o := .cells #[.int .i64 a1_2, .int .i64 ((rd_T77 l0 a1_0).f1)] 77 (0, 0)) (bx_ BK174.out) hg (Kd.R_away HO201.out (fun _ hk => hk.1.2)))
             have n3_ := Aside0.mk (blk_grown (g := gb175) (o := .cells #[.int .i64 (wrap64 (((rd_T77 l0 a1_0).f0) - a1_2)), .int .i64 ((rd_T77 l0 a1_0).f1)] 77 (0, 0)) (bx_ BK175.out) hg (Kd.R_away HO201.out (fun _ hk => hk.2)))
             have n4_ := Aside0.mk (hb)
             have n5_ := Aside0.mk (ho)
             clear BK171
             clear BK173
             clear BK174
             clear BK175
             clear HB
             clear HO201
             have BK171 := n0_
             have BK173 := n1_
             have BK174 := n2_
             have BK175 := n3_
             have HB := n4_
             have HO208 := n5_
             clear n0_ n1_ n2_ n3_ n4_ n5_
             clear ho hb hg hat
             refine hK.out _ _ ⟨(blk_cell BK171.out 0).trans rfl, (blk_cell BK171.out 1).trans rfl, (blk_cell BK171.out 2).trans rfl, (blk_cell BK174.out 0).trans rfl, (blk_cell BK174.out 1).trans rfl, (blk_cell BK175.out 0).trans rfl, (blk_cell BK175.out 1).trans rfl⟩ (fun hHeld => ?_)
             clear hK K
             refine norm_ (a' := ?_) ?_ ?_
             rotate_left
             ·show Act.put _ (some 46) _ = _
              simp only [Act.put, List.setIfInBounds_toArray, List.set_cons_zero, List.set_cons_succ, i64_w, i32_w]
              rfl
             refine one_ (i := 8) (N := some 49) #[true, true, true, true, true, true, true, true, true, false, true, true, true, true, true, false, false] rfl rfl (one_of HT_.out (by kernel_rfl)) (by decide) (fun K hK => ?_)
             refine Kd.R_lit_step k77 _ 77 ?hg (N := 49) ?hd (xs := ([(⟨a1_2, (rd_T77 l0 a1_0).f1⟩ : S77), (⟨wrap64 (((rd_T77 l0 a1_0).f0) - a1_2), (rd_T77 l0 a1_0).f1⟩ : S77)] : List (S77))) (inner := [.int .i64 a1_2, .int .i64 ((rd_T77 l0 a1_0).f1), .int .i64 (wrap64 (((rd_T77 l0 a1_0).f0) - a1_2)), .int .i64 ((rd_T77 l0 a1_0).f1)]) (ok := fun _ => True) (okp := fun _ => True) ?hr ?hp (fun _ hk => hk) trivial (Below.refl _ _) (Nat.le_refl _) (by simp) ?_; (case hd => rfl); (case hg => rfl); (case hr => first | (go_simp; done) | (go_simp; rfl)); (case hp => exact (Reps.c2 (show Kd.M k77 _ _ _ (⟨a1_2, (rd_T77 l0 a1_0).f1⟩ : S77) [.int .i64 a1_2, .int .i64 ((rd_T77 l0 a1_0).f1)] from (k77_mkM _ _ _ (⟨a1_2, (rd_T77 l0 a1_0).f1⟩ : S77) )) (Reps.c2 (show Kd.M k77 _ _ _ (⟨wrap64 (((rd_T77 l0 a1_0).f0) - a1_2), (rd_T77 l0 a1_0).f1⟩ : S77) [.int .i64 (wrap64 (((rd_T77 l0 a1_0).f0) - a1_2)), .int .i64 ((rd_T77 l0 a1_0).f1)] from (k77_mkM _ _ _ (⟨wrap64 (((rd_T77 l0 a1_0).f0) - a1_2), (rd_T77 l0 a1_0).f1⟩ : S77) )) (Reps.none _ _))))
             intro v210 w82 ho83 hb hg_ hnew_
             clear hg_ hnew_
             (first | rw [← Ny209.out] at ho83 | (simp only [Int.reduceToNat] at ho83; rw [← Ny209.out] at ho83))
             have n0_ := Aside0.mk (Kd.R_elder' (rx_ HO208.out) (Kd.R_base ho83) hb)
             have n1_ := Aside0.mk (Kd.R_lower (Kd.R_newB (Kd.R_newB (Kd.R_newB (Kd.R_new' ho83 (Kd.R_lt (rx_ HO208.out))) (g := gb173) (o := .cells #[.int .i64 ((rd_T77 l0 a1_0).f0), .int .i64 ((rd_T77 l0 a1_0).f1)] 77 (0, 0)) (bx_ BK173.out)) (g := gb174) (o := .cells #[.int .i64 a1_2, .int .i64 ((rd_T77 l0 a1_0).f1)] 77 (0, 0)) (bx_ BK174.out)) (g := gb175) (o := .cells #[.int .i64 (wrap64 (((rd_T77 l0 a1_0).f0) - a1_2)), .int .i64 ((rd_T77 l0 a1_0).f1)] 77 (0, 0)) (bx_ BK175.out)) (below_size (hx_ HB.out)))
             have n2_ := Aside0.mk (blk_below (g := gb171) (o := .cells #[.int .i64 a1_0, .bool false, .int .i64 a1_2] 85 (0, 0)) (bx_ BK171.out) hb)
             have n3_ := Aside0.mk (blk_below (g := gb173) (o := .cells #[.int .i64 ((rd_T77 l0 a1_0).f0), .int .i64 ((rd_T77 l0 a1_0).f1)] 77 (0, 0)) (bx_ BK173.out) hb)
             have n4_ := Aside0.mk (blk_below (g := gb174) (o := .cells #[.int .i64 a1_2, .int .i64 ((rd_T77 l0 a1_0).f1)] 77 (0, 0)) (bx_ BK174.out) hb)
             have n5_ := Aside0.mk (blk_below (g := gb175) (o := .cells #[.int .i64 (wrap64 (((rd_T77 l0 a1_0).f0) - a1_2)), .int .i64 ((rd_T77 l0 a1_0).f1)] 77 (0, 0)) (bx_ BK175.out) hb)
             have n6_ := Aside0.mk (below_step (hx_ HB.out) hb)
             clear HO208
             clear BK171
             clear BK173
             clear BK174
             clear BK175
             clear HB
             have HO208 := n0_
             have HO211 := n1_
             have BK171 := n2_
             have BK173 := n3_
             have BK174 := n4_
             have BK175 := n5_
             have HB := n6_
             clear n0_ n1_ n2_ n3_ n4_ n5_ n6_
             clear hb ho83
             refine hK.out _ _ ⟨(blk_cell BK171.out 0).trans rfl, (blk_cell BK171.out 1).trans rfl, (blk_cell BK171.out 2).trans rfl, (blk_cell BK174.out 0).trans rfl, (blk_cell BK174.out 1).trans rfl, (blk_cell BK175.out 0).trans rfl, (blk_cell BK175.out 1).trans rfl⟩ (fun hHeld => ?_)
             clear hK K
             refine norm_ (a' := ?_) ?_ ?_
             rotate_left
             ·show Act.put _ (some 49) _ = _
              simp only [Act.put, List.setIfInBounds_toArray, List.set_cons_zero, List.set_cons_succ, i64_w, i32_w]
              rfl
             exact norm_ (by simp only [putAll, Act.put, List.setIfInBounds_toArray, List.set_cons_zero, List.set_cons_succ]) (hCont (v200, v207, v210) _ ⟨hHeld, (by (with_reducible repeat (first | apply Kd.R_alloc | apply Kd.R_drewN | apply Kd.R_drew)); exact Kd.R_mono HO208.out (fun _ hk => ⟨hk.2, ⟨hk.1.1, ⟨hk.1.2.1, hk.1.2.2⟩⟩⟩)), (by (with_reducible repeat (first | apply Kd.R_alloc | apply Kd.R_drewN | apply Kd.R_drew)); exact Kd.R_mono HO211.out (fun _ hk => ⟨hk.1.1.1.2, ⟨hk.1.1.2, ⟨hk.1.2, hk.2⟩⟩⟩)), (bx_ BK171.out), (bx_ BK173.out), (bx_ BK174.out), (bx_ BK175.out), (hx_ HB.out)⟩)
            ·skip
             refine Kd.R_lit_step k77 _ 77 ?hg (N := 49) ?hd (xs := ([(⟨a1_2, (rd_T77 l0 a1_0).f1⟩ : S77), (⟨wrap64 (((rd_T77 l0 a1_0).f0) - a1_2), (rd_T77 l0 a1_0).f1⟩ : S77)] : List (S77))) (inner := [.int .i64 a1_2, .int .i64 ((rd_T77 l0 a1_0).f1), .int .i64 (wrap64 (((rd_T77 l0 a1_0).f0) - a1_2)), .int .i64 ((rd_T77 l0 a1_0).f1)]) (ok := fun _ => True) (okp := fun _ => True) ?hr ?hp (fun _ hk => hk) trivial (Below.refl _ _) (Nat.le_refl _) (by simp) ?_; (case hd => rfl); (case hg => rfl); (case hr => first | (go_simp; done) | (go_simp; rfl)); (case hp => exact (Reps.c2 (show Kd.M k77 _ _ _ (⟨a1_2, (rd_T77 l0 a1_0).f1⟩ : S77) [.int .i64 a1_2, .int .i64 ((rd_T77 l0 a1_0).f1)] from (k77_mkM _ _ _ (⟨a1_2, (rd_T77 l0 a1_0).f1⟩ : S77) )) (Reps.c2 (show Kd.M k77 _ _ _ (⟨wrap64 (((rd_T77 l0 a1_0).f0) - a1_2), (rd_T77 l0 a1_0).f1⟩ : S77) [.int .i64 (wrap64 (((rd_T77 l0 a1_0).f0) - a1_2)), .int .i64 ((rd_T77 l0 a1_0).f1)] from (k77_mkM _ _ _ (⟨wrap64 (((rd_T77 l0 a1_0).f0) - a1_2), (rd_T77 l0 a1_0).f1⟩ : S77) )) (Reps.none _ _))))
             intro v210 w81 ho82 hb hg_ hnew_
             clear hg_ hnew_
             (first | rw [← Ny209.out] at ho82 | (simp only [Int.reduceToNat] at ho82; rw [← Ny209.out] at ho82))
             have n0_ := Aside0.mk (Kd.R_elder' (rx_ HO201.out) (Kd.R_base ho82) hb)
             have n1_ := Aside0.mk (Kd.R_lower (Kd.R_newB (Kd.R_newB (Kd.R_newB (Kd.R_new' ho82 (Kd.R_lt (rx_ HO201.out))) (g := gb173) (o := .cells #[.int .i64 ((rd_T77 l0 a1_0).f0), .int .i64 ((rd_T77 l0 a1_0).f1)] 77 (0, 0)) (bx_ BK173.out)) (g := gb174) (o := .cells #[.int .i64 a1_2, .int .i64 ((rd_T77 l0 a1_0).f1)] 77 (0, 0)) (bx_ BK174.out)) (g := gb175) (o := .cells #[.int .i64 (wrap64 (((rd_T77 l0 a1_0).f0) - a1_2)), .int .i64 ((rd_T77 l0 a1_0).f1)] 77 (0, 0)) (bx_ BK175.out)) (below_size (hx_ HB.out)))
             have n2_ := Aside0.mk (blk_below (g := gb171) (o := .cells #[.int .i64 a1_0, .bool false, .int .i64 a1_2] 85 (0, 0)) (bx_ BK171.out) hb)
             have n3_ := Aside0.mk (blk_below (g := gb173) (o := .cells #[.int .i64 ((rd_T77 l0 a1_0).f0), .int .i64 ((rd_T77 l0 a1_0).f1)] 77 (0, 0)) (bx_ BK173.out) hb)
             have n4_ := Aside0.mk (blk_below (g := gb174) (o := .cells #[.int .i64 a1_2, .int .i64 ((rd_T77 l0 a1_0).f1)] 77 (0, 0)) (bx_ BK174.out) hb)
             have n5_ := Aside0.mk (blk_below (g := gb175) (o := .cells #[.int .i64 (wrap64 (((rd_T77 l0 a1_0).f0) - a1_2)), .int .i64 ((rd_T77 l0 a1_0).f1)] 77 (0, 0)) (bx_ BK175.out) hb)
             have n6_ := Aside0.mk (below_step (hx_ HB.out) hb)
             clear HO201
             clear BK171
             clear BK173
             clear BK174
             clear BK175
             clear HB
             have HO201 := n0_
             have HO211 := n1_
             have BK171 := n2_
             have BK173 := n3_
             have BK174 := n4_
             have BK175 := n5_
             have HB := n6_
             clear n0_ n1_ n2_ n3_ n4_ n5_ n6_
             clear hb ho82
             refine hK.out _ _ ⟨(blk_cell BK171.out 0).trans rfl, (blk_cell BK171.out 1).trans rfl, (blk_cell BK171.out 2).trans rfl, (blk_cell BK174.out 0).trans rfl, (blk_cell BK174.out 1).trans rfl, (blk_cell BK175.out 0).trans rfl, (blk_cell BK175.out 1).trans rfl⟩ (fun hHeld => ?_)
             clear hK K
             refine norm_ (a' := ?_) ?_ ?_
             rotate_left
             ·show Act.put _ (some 49) _ = _
              simp only [Act.put, List.setIfInBounds_toArray, List.set_cons_zero, List.set_cons_succ, i64_w, i32_w]
              rfl
             refine one_ (i := 5) (N := some 46) #[true, true, true, true, true, true, true, true, true, false, true, true, true, true, true, false, false] rfl rfl (one_of HT_.out (by kernel_rfl)) (by decide) (fun K hK => ?_)
             refine Kd.R_append_rows_step k77 (w0 := w) w.heap.size (by rfl) (.tmp 41) (.tmp 45) 81 77 (.agg #[(.int .i64 0), (.int .i64 0)]) 16 rfl Try.underlying81 info77 rfl (by decide) (by omega) v200 y199 y202 _ _ _ (fun k_ => some k_ ≠ (v210 : Value).ownBlock ∧ k_ ≠ gb173 ∧ k_ ≠ gb174 ∧ k_ ≠ gb175) (fun _ => False) rfl rfl ?aO ?aR (fun _ _ h => h) (fun _ h => h.elim) ?aF ?aB ?aS ?aL ?_
             (case aR => repeat (first | exact (Kd.C_below HR205.out HB.out) | (with_reducible refine Kd.C_alloc ?_ _) | (with_reducible refine Kd.C_drewN ?_ _) | (with_reducible refine Kd.C_drew ?_)))
             (case aB => exact (hx_ HB.out))
             (case aF => exact (fun k_ hk => ⟨Kd.fresh' (Kd.R_lt (rx_ HO211.out)) k_ hk, Kd.freshB (g := gb173) (o := .cells #[.int .i64 ((rd_T77 l0 a1_0).f0), .int .i64 ((rd_T77 l0 a1_0).f1)] 77 (0, 0)) (bx_ BK173.out) k_ hk, Kd.freshB (g := gb174) (o := .cells #[.int .i64 a1_2, .int .i64 ((rd_T77 l0 a1_0).f1)] 77 (0, 0)) (bx_ BK174.out) k_ hk, Kd.freshB (g := gb175) (o := .cells #[.int .i64 (wrap64 (((rd_T77 l0 a1_0).f0) - a1_2)), .int .i64 ((rd_T77 l0 a1_0).f1)] 77 (0, 0)) (bx_ BK175.out) k_ hk⟩))
             (case aO => exact (by (with_reducible repeat (first | apply Kd.R_alloc | apply Kd.R_drewN | apply Kd.R_drew)); exact Kd.R_mono HO201.out (fun _ hk => ⟨hk.2, ⟨hk.1.1.1.2, ⟨hk.1.1.2, hk.1.2⟩⟩⟩)))
             (case aS => exact (below_size (hx_ HB.out)))
             (case aL => have := LMc52.out; omega)
             intro v207 w83 ho hb hg hat
             rw [← Ny206.out] at ho
             have n0_ := Aside0.mk (blk_grown (g := gb171) (o := .cells #[.int .i64 a1_0, .bool false, .int .i64 a1_2] 85 (0, 0)) (bx_ BK171.out) hg (Kd.R_ne HO201.out BK171.out (by decide)))
             have n1_ := Aside0.mk (blk_grown (g := gb173) (o := .cells #[.int .i64 ((rd_T77 l0 a1_0).f0), .int .i64 ((rd_T77 l0 a1_0).f1)] 77 (0, 0)) (bx_ BK173.out) hg (Kd.R_away HO201.out (fun _ hk => hk.1.1.1.2)))
             have n2_ := Aside0.mk (blk_grown (g := gb174) (o := .cells #[.int .i64 a1_2, .int .i64 ((rd_T77 l0 a1_0).f1)] 77 (0, 0)) (bx_ BK174.out) hg (Kd.R_away HO201.out (fun _ hk => hk.1.1.2)))
             have n3_ := Aside0.mk (blk_grown (g := gb175) (o := .cells #[.int .i64 (wrap64 (((rd_T77 l0 a1_0).f0) - a1_2)), .int .i64 ((rd_T77 l0 a1_0).f1)] 77 (0, 0)) (bx_ BK175.out) hg (Kd.R_away HO201.out (fun _ hk => hk.1.2)))
             have n4_ := Aside0.mk (Kd.R_after (ok := (fun k_ => k_ ≠ gb173 ∧ k_ ≠ gb174 ∧ k_ ≠ gb175)) (by (with_reducible repeat (first | apply Kd.R_alloc | apply Kd.R_drewN | apply Kd.R_drew)); exact Kd.R_mono HO211.out (fun _ hk => ⟨⟨hk.1.1.2, ⟨hk.1.2, hk.2⟩⟩, hk.1.1.1.2⟩)) hg hat)
             have n5_ := Aside0.mk (hb)
             have n6_ := Aside0.mk (ho)
             clear BK171
             clear BK173
             clear BK174
             clear BK175
             clear HO211
             clear HB
             clear HO201
             have BK171 := n0_
             have BK173 := n1_
             have BK174 := n2_
             have BK175 := n3_
             have HO211 := n4_
             have HB := n5_
             have HO208 := n6_
             clear n0_ n1_ n2_ n3_ n4_ n5_ n6_
             clear ho hb hg hat
             refine hK.out _ _ ⟨(blk_cell BK171.out 0).trans rfl, (blk_cell BK171.out 1).trans rfl, (blk_cell BK171.out 2).trans rfl, (blk_cell BK174.out 0).trans rfl, (blk_cell BK174.out 1).trans rfl, (blk_cell BK175.out 0).trans rfl, (blk_cell BK175.out 1).trans rfl⟩ (fun hHeld => ?_)
             clear hK K
             refine norm_ (a' := ?_) ?_ ?_
             rotate_left
             ·show Act.put _ (some 46) _ = _
              simp only [Act.put, List.setIfInBounds_toArray, List.set_cons_zero, List.set_cons_succ, i64_w, i32_w]
              rfl
             exact norm_ (by simp only [putAll, Act.put, List.setIfInBounds_toArray, List.set_cons_zero, List.set_cons_succ]) (hCont (v200, v207, v210) _ ⟨hHeld, (rx_ HO208.out), (by (with_reducible repeat (first | apply Kd.R_alloc | apply Kd.R_drewN | apply Kd.R_drew)); exact Kd.R_mono HO211.out (fun _ hk => ⟨hk.2, ⟨hk.1.1, ⟨hk.1.2.1, hk.1.2.2⟩⟩⟩)), (bx_ BK171.out), (bx_ BK173.out), (bx_ BK174.out), (bx_ BK175.out), (hx_ HB.out)⟩)
           ·skip
            refine Kd.R_lit_step k77 _ 77 ?hg (N := 49) ?hd (xs := ([(⟨a1_2, (rd_T77 l0 a1_0).f1⟩ : S77), (⟨wrap64 (((rd_T77 l0 a1_0).f0) - a1_2), (rd_T77 l0 a1_0).f1⟩ : S77)] : List (S77))) (inner := [.int .i64 a1_2, .int .i64 ((rd_T77 l0 a1_0).f1), .int .i64 (wrap64 (((rd_T77 l0 a1_0).f0) - a1_2)), .int .i64 ((rd_T77 l0 a1_0).f1)]) (ok := fun _ => True) (okp := fun _ => True) ?hr ?hp (fun _ hk => hk) trivial (Below.refl _ _) (Nat.le_refl _) (by simp) ?_; (case hd => rfl); (case hg => rfl); (case hr => first | (go_simp; done) | (go_simp; rfl)); (case hp => exact (Reps.c2 (show Kd.M k77 _ _ _ (⟨a1_2, (rd_T77 l0 a1_0).f1⟩ : S77) [.int .i64 a1_2, .int .i64 ((rd_T77 l0 a1_0).f1)] from (k77_mkM _ _ _ (⟨a1_2, (rd_T77 l0 a1_0).f1⟩ : S77) )) (Reps.c2 (show Kd.M k77 _ _ _ (⟨wrap64 (((rd_T77 l0 a1_0).f0) - a1_2), (rd_T77 l0 a1_0).f1⟩ : S77) [.int .i64 (wrap64 (((rd_T77 l0 a1_0).f0) - a1_2)), .int .i64 ((rd_T77 l0 a1_0).f1)] from (k77_mkM _ _ _ (⟨wrap64 (((rd_T77 l0 a1_0).f0) - a1_2), (rd_T77 l0 a1_0).f1⟩ : S77) )) (Reps.none _ _))))
            intro v210 w79 ho80 hb hg_ hnew_
            clear hg_ hnew_
            (first | rw [← Ny209.out] at ho80 | (simp only [Int.reduceToNat] at ho80; rw [← Ny209.out] at ho80))
            have n0_ := Aside0.mk (Kd.R_lower (Kd.R_newB (Kd.R_newB (Kd.R_newB ho80 (g := gb173) (o := .cells #[.int .i64 ((rd_T77 l0 a1_0).f0), .int .i64 ((rd_T77 l0 a1_0).f1)] 77 (0, 0)) (bx_ BK173.out)) (g := gb174) (o := .cells #[.int .i64 a1_2, .int .i64 ((rd_T77 l0 a1_0).f1)] 77 (0, 0)) (bx_ BK174.out)) (g := gb175) (o := .cells #[.int .i64 (wrap64 (((rd_T77 l0 a1_0).f0) - a1_2)), .int .i64 ((rd_T77 l0 a1_0).f1)] 77 (0, 0)) (bx_ BK175.out)) (below_size (hx_ HB.out)))
            have n1_ := Aside0.mk (blk_below (g := gb171) (o := .cells #[.int .i64 a1_0, .bool false, .int .i64 a1_2] 85 (0, 0)) (bx_ BK171.out) hb)
            have n2_ := Aside0.mk (blk_below (g := gb173) (o := .cells #[.int .i64 ((rd_T77 l0 a1_0).f0), .int .i64 ((rd_T77 l0 a1_0).f1)] 77 (0, 0)) (bx_ BK173.out) hb)
            have n3_ := Aside0.mk (blk_below (g := gb174) (o := .cells #[.int .i64 a1_2, .int .i64 ((rd_T77 l0 a1_0).f1)] 77 (0, 0)) (bx_ BK174.out) hb)
            have n4_ := Aside0.mk (blk_below (g := gb175) (o := .cells #[.int .i64 (wrap64 (((rd_T77 l0 a1_0).f0) - a1_2)), .int .i64 ((rd_T77 l0 a1_0).f1)] 77 (0, 0)) (bx_ BK175.out) hb)
            have n5_ := Aside0.mk (below_step (hx_ HB.out) hb)
            clear BK171
            clear BK173
            clear BK174
            clear BK175
            clear HB
            have HO211 := n0_
            have BK171 := n1_
            have BK173 := n2_
            have BK174 := n3_
            have BK175 := n4_
            have HB := n5_
            clear n0_ n1_ n2_ n3_ n4_ n5_
            clear hb ho80
            refine hK.out _ _ ⟨(blk_cell BK171.out 0).trans rfl, (blk_cell BK171.out 1).trans rfl, (blk_cell BK171.out 2).trans rfl, (blk_cell BK174.out 0).trans rfl, (blk_cell BK174.out 1).trans rfl, (blk_cell BK175.out 0).trans rfl, (blk_cell BK175.out 1).trans rfl⟩ (fun hHeld => ?_)
            clear hK K
            refine norm_ (a' := ?_) ?_ ?_
            rotate_left
            ·show Act.put _ (some 49) _ = _
             simp only [Act.put, List.setIfInBounds_toArray, List.set_cons_zero, List.set_cons_succ, i64_w, i32_w]
             rfl
            refine one_ (i := 0) (N := some 41) #[true, true, true, true, true, false, true, true, true, false, true, true, true, true, true, false, false] rfl rfl (one_of HT_.out (by kernel_rfl)) (by decide) (fun K hK => ?_)
            refine Kd.R_lit_step k77 _ 77 ?hg (N := 41) ?hd (xs := ([] : List (S77))) (inner := []) (ok := fun _ => True) (okp := fun _ => True) ?hr ?hp (fun _ hk => hk) trivial (Below.refl _ _) (Nat.le_refl _) (by simp) ?_; (case hd => rfl); (case hg => rfl); (case hr => first | (go_simp; done) | (go_simp; rfl)); (case hp => exact (Reps.none _ _))
            intro v200 w81 ho82 hb hg_ hnew_
            clear hg_ hnew_
            (first | rw [← Ny199.out] at ho82 | (simp only [Int.reduceToNat] at ho82; rw [← Ny199.out] at ho82))
            have n0_ := Aside0.mk (Kd.R_elder' (rx_ HO211.out) (Kd.R_base ho82) hb)
            have n1_ := Aside0.mk (Kd.R_lower (Kd.R_newB (Kd.R_newB (Kd.R_newB (Kd.R_new' ho82 (Kd.R_lt (rx_ HO211.out))) (g := gb173) (o := .cells #[.int .i64 ((rd_T77 l0 a1_0).f0), .int .i64 ((rd_T77 l0 a1_0).f1)] 77 (0, 0)) (bx_ BK173.out)) (g := gb174) (o := .cells #[.int .i64 a1_2, .int .i64 ((rd_T77 l0 a1_0).f1)] 77 (0, 0)) (bx_ BK174.out)) (g := gb175) (o := .cells #[.int .i64 (wrap64 (((rd_T77 l0 a1_0).f0) - a1_2)), .int .i64 ((rd_T77 l0 a1_0).f1)] 77 (0, 0)) (bx_ BK175.out)) (below_size (hx_ HB.out)))
            have n2_ := Aside0.mk (blk_below (g := gb171) (o := .cells #[.int .i64 a1_0, .bool false, .int .i64 a1_2] 85 (0, 0)) (bx_ BK171.out) hb)
            have n3_ := Aside0.mk (blk_below (g := gb173) (o := .cells #[.int .i64 ((rd_T77 l0 a1_0).f0), .int .i64 ((rd_T77 l0 a1_0).f1)] 77 (0, 0)) (bx_ BK173.out) hb)
            have n4_ := Aside0.mk (blk_below (g := gb174) (o := .cells #[.int .i64 a1_2, .int .i64 ((rd_T77 l0 a1_0).f1)] 77 (0, 0)) (bx_ BK174.out) hb)
            have n5_ := Aside0.mk (blk_below (g := gb175) (o := .cells #[.int .i64 (wrap64 (((rd_T77 l0 a1_0).f0) - a1_2)), .int .i64 ((rd_T77 l0 a1_0).f1)] 77 (0, 0)) (bx_ BK175.out) hb)
            have n6_ := Aside0.mk (below_step (hx_ HB.out) hb)
            clear HO211
            clear BK171
            clear BK173
            clear BK174
            clear BK175
            clear HB
            have HO211 := n0_
            have HO201 := n1_
            have BK171 := n2_
            have BK173 := n3_
            have BK174 := n4_
            have BK175 := n5_
            have HB := n6_
            clear n0_ n1_ n2_ n3_ n4_ n5_ n6_
            clear hb ho82
            refine hK.out _ _ ⟨(blk_cell BK171.out 0).trans rfl, (blk_cell BK171.out 1).trans rfl, (blk_cell BK171.out 2).trans rfl, (blk_cell BK174.out 0).trans rfl, (blk_cell BK174.out 1).trans rfl, (blk_cell BK175.out 0).trans rfl, (blk_cell BK175.out 1).trans rfl⟩ (fun hHeld => ?_)
            clear hK K
            refine norm_ (a' := ?_) ?_ ?_
            rotate_left
            ·show Act.put _ (some 41) _ = _
             simp only [Act.put, List.setIfInBounds_toArray, List.set_cons_zero, List.set_cons_succ, i64_w, i32_w]
             rfl
            refine one_ (i := 5) (N := some 46) #[true, true, true, true, true, true, true, true, true, false, true, true, true, true, true, false, false] rfl rfl (one_of HT_.out (by kernel_rfl)) (by decide) (fun K hK => ?_)
            refine Kd.R_append_rows_step k77 (w0 := w) w.heap.size (by rfl) (.tmp 41) (.tmp 45) 81 77 (.agg #[(.int .i64 0), (.int .i64 0)]) 16 rfl Try.underlying81 info77 rfl (by decide) (by omega) v200 y199 y202 _ _ _ (fun k_ => some k_ ≠ (v210 : Value).ownBlock ∧ k_ ≠ gb173 ∧ k_ ≠ gb174 ∧ k_ ≠ gb175) (fun _ => False) rfl rfl ?aO ?aR (fun _ _ h => h) (fun _ h => h.elim) ?aF ?aB ?aS ?aL ?_
            (case aR => repeat (first | exact (Kd.C_below HR205.out HB.out) | (with_reducible refine Kd.C_alloc ?_ _) | (with_reducible refine Kd.C_drewN ?_ _) | (with_reducible refine Kd.C_drew ?_)))
            (case aB => exact (hx_ HB.out))
            (case aF => exact (fun k_ hk => ⟨Kd.fresh' (Kd.R_lt (rx_ HO211.out)) k_ hk, Kd.freshB (g := gb173) (o := .cells #[.int .i64 ((rd_T77 l0 a1_0).f0), .int .i64 ((rd_T77 l0 a1_0).f1)] 77 (0, 0)) (bx_ BK173.out) k_ hk, Kd.freshB (g := gb174) (o := .cells #[.int .i64 a1_2, .int .i64 ((rd_T77 l0 a1_0).f1)] 77 (0, 0)) (bx_ BK174.out) k_ hk, Kd.freshB (g := gb175) (o := .cells #[.int .i64 (wrap64 (((rd_T77 l0 a1_0).f0) - a1_2)), .int .i64 ((rd_T77 l0 a1_0).f1)] 77 (0, 0)) (bx_ BK175.out) k_ hk⟩))
            (case aO => exact (by (with_reducible repeat (first | apply Kd.R_alloc | apply Kd.R_drewN | apply Kd.R_drew)); exact Kd.R_mono HO201.out (fun _ hk => ⟨hk.1.1.1.2, ⟨hk.1.1.2, ⟨hk.1.2, hk.2⟩⟩⟩)))
            (case aS => exact (below_size (hx_ HB.out)))
            (case aL => have := LMc52.out; omega)
            intro v207 w83 ho hb hg hat
            rw [← Ny206.out] at ho
            have n0_ := Aside0.mk (blk_grown (g := gb171) (o := .cells #[.int .i64 a1_0, .bool false, .int .i64 a1_2] 85 (0, 0)) (bx_ BK171.out) hg (Kd.R_ne HO201.out BK171.out (by decide)))
            have n1_ := Aside0.mk (blk_grown (g := gb173) (o := .cells #[.int .i64 ((rd_T77 l0 a1_0).f0), .int .i64 ((rd_T77 l0 a1_0).f1)] 77 (0, 0)) (bx_ BK173.out) hg (Kd.R_away HO201.out (fun _ hk => hk.1.1.2)))
            have n2_ := Aside0.mk (blk_grown (g := gb174) (o := .cells #[.int .i64 a1_2, .int .i64 ((rd_T77 l0 a1_0).f1)] 77 (0, 0)) (bx_ BK174.out) hg (Kd.R_away HO201.out (fun _ hk => hk.1.2)))
            have n3_ := Aside0.mk (blk_grown (g := gb175) (o := .cells #[.int .i64 (wrap64 (((rd_T77 l0 a1_0).f0) - a1_2)), .int .i64 ((rd_T77 l0 a1_0).f1)] 77 (0, 0)) (bx_ BK175.out) hg (Kd.R_away HO201.out (fun _ hk => hk.2)))
            have n4_ := Aside0.mk (Kd.R_after (ok := (fun k_ => k_ ≠ gb173 ∧ k_ ≠ gb174 ∧ k_ ≠ gb175)) (by (with_reducible repeat (first | apply Kd.R_alloc | apply Kd.R_drewN | apply Kd.R_drew)); exact Kd.R_mono HO211.out (fun _ hk => ⟨⟨hk.1.1.1.2, ⟨hk.1.1.2, hk.1.2⟩⟩, hk.2⟩)) hg hat)
            have n5_ := Aside0.mk (hb)
            have n6_ := Aside0.mk (ho)
            clear BK171
            clear BK173
            clear BK174
            clear BK175
            clear HO211
            clear HB
            clear HO201
            have BK171 := n0_
            have BK173 := n1_
            have BK174 := n2_
            have BK175 := n3_
            have HO211 := n4_
            have HB := n5_
            have HO208 := n6_
            clear n0_ n1_ n2_ n3_ n4_ n5_ n6_
            clear ho hb hg hat
            refine hK.out _ _ ⟨(blk_cell BK171.out 0).trans rfl, (blk_cell BK171.out 1).trans rfl, (blk_cell BK171.out 2).trans rfl, (blk_cell BK174.out 0).trans rfl, (blk_cell BK174.out 1).trans rfl, (blk_cell BK175.out 0).trans rfl, (blk_cell BK175.out 1).trans rfl⟩ (fun hHeld => ?_)
            clear hK K
            refine norm_ (a' := ?_) ?_ ?_
            rotate_left
            ·show Act.put _ (some 46) _ = _
             simp only [Act.put, List.setIfInBounds_toArray, List.set_cons_zero, List.set_cons_succ, i64_w, i32_w]
             rfl
            exact norm_ (by simp only [putAll, Act.put, List.setIfInBounds_toArray, List.set_cons_zero, List.set_cons_succ]) (hCont (v200, v207, v210) _ ⟨hHeld, (rx_ HO208.out), (by (with_reducible repeat (first | apply Kd.R_alloc | apply Kd.R_drewN | apply Kd.R_drew)); exact Kd.R_mono HO211.out (fun _ hk => ⟨hk.2, ⟨hk.1.1, ⟨hk.1.2.1, hk.1.2.2⟩⟩⟩)), (bx_ BK171.out), (bx_ BK173.out), (bx_ BK174.out), (bx_ BK175.out), (hx_ HB.out)⟩)
          rintro ⟨v200, v207, v210⟩ w84 ⟨hS_, h0_, h1_, h2_, h3_, h4_, h5_, h6_⟩
          have n0_ : Aside0 (Kd.R k77 77 w84 w.heap.size (fun k_ => some k_ ≠ (v210 : Value).ownBlock ∧ k_ ≠ gb173 ∧ k_ ≠ gb174 ∧ k_ ≠ gb175) v207 y206) := ⟨h0_⟩
          have n1_ : Aside0 (Kd.R k77 77 w84 w.heap.size (fun k_ => some k_ ≠ (v207 : Value).ownBlock ∧ k_ ≠ gb173 ∧ k_ ≠ gb174 ∧ k_ ≠ gb175) v210 y209) := ⟨h1_⟩
          have n2_ : Aside0 (w84.heap[gb171]? = some (.cells #[.int .i64 a1_0, .bool false, .int .i64 a1_2] 85 (0, 0))) := ⟨h2_⟩
          have n3_ : Aside0 (w84.heap[gb173]? = some (.cells #[.int .i64 ((rd_T77 l0 a1_0).f0), .int .i64 ((rd_T77 l0 a1_0).f1)] 77 (0, 0))) := ⟨h3_⟩
          have n4_ : Aside0 (w84.heap[gb174]? = some (.cells #[.int .i64 a1_2, .int .i64 ((rd_T77 l0 a1_0).f1)] 77 (0, 0))) := ⟨h4_⟩
          have n5_ : Aside0 (w84.heap[gb175]? = some (.cells #[.int .i64 (wrap64 (((rd_T77 l0 a1_0).f0) - a1_2)), .int .i64 ((rd_T77 l0 a1_0).f1)] 77 (0, 0))) := ⟨h5_⟩
          have n6_ : Aside0 (Below w.heap.size w w84) := ⟨h6_⟩
          clear BK171
          clear BK173
          clear BK174
          clear BK175
          clear HB
          clear h0_ h1_ h2_ h3_ h4_ h5_ h6_
          have HO208 := n0_
          have HO211 := n1_
          have BK171 := n2_
          have BK173 := n3_
          have BK174 := n4_
          have BK175 := n5_
          have HB := n6_
          clear n0_ n1_ n2_ n3_ n4_ n5_ n6_
          have hHeld : w84.cell? ⟨gb171, 0, none⟩ = some (.int .i64 a1_0) ∧ w84.cell? ⟨gb171, 1, none⟩ = some (.bool false) ∧ w84.cell? ⟨gb171, 2, none⟩ = some (.int .i64 a1_2) ∧ w84.cell? ⟨gb174, 0, none⟩ = some (.int .i64 a1_2) ∧ w84.cell? ⟨gb174, 1, none⟩ = some (.int .i64 ((rd_T77 l0 a1_0).f1)) ∧ w84.cell? ⟨gb175, 0, none⟩ = some (.int .i64 (wrap64 (((rd_T77 l0 a1_0).f0) - a1_2))) ∧ w84.cell? ⟨gb175, 1, none⟩ = some (.int .i64 ((rd_T77 l0 a1_0).f1)) := hS_
          obtain ⟨Ao86, co86, eo86⟩ := Kd.R_slice HO211.out
          (first | subst eo86 | (injection eo86 with f1_ f2_ f3_; have f4_ := f1_.symm; have f5_ := f3_.symm; clear f1_ f2_ f3_; subst f4_; subst f5_))
          refine norm_ (a' := ?_) ?_ ?_
          rotate_left
          ·simp only [putAll, Act.put, List.setIfInBounds_toArray, List.set_cons_zero, List.set_cons_succ]
           rfl
          refine one_ (i := 9) (N := some 50) #[true, true, true, true, true, true, true, true, true, true, true, true, true, true, true, false, false] rfl rfl (one_of HT_.out (by kernel_rfl)) (by decide) (fun K hK => ?_)
          refine Kd.R_append_rows_step k77 (w0 := w) w.heap.size (by rfl) (.tmp 46) (.tmp 49) 81 77 (.agg #[(.int .i64 0), (.int .i64 0)]) 16 rfl Try.underlying81 info77 rfl (by decide) (by omega) v207 y206 y209 _ _ _ (fun k_ => some k_ ≠ (.slice Ao86 y209.length co86 : Value).ownBlock ∧ k_ ≠ gb173 ∧ k_ ≠ gb174 ∧ k_ ≠ gb175) (fun _ => False) rfl rfl ?aO ?aR (fun _ _ h => h) (fun _ h => h.elim) ?aF ?aB ?aS ?aL ?_
          (case aR => repeat (first | exact (Kd.R_reads' HO211.out).2.2 | (with_reducible refine Kd.C_alloc ?_ _) | (with_reducible refine Kd.C_drewN ?_ _) | (with_reducible refine Kd.C_drew ?_)))
          (case aB => exact (hx_ HB.out))
          (case aF => exact (fun k_ hk => ⟨Kd.fresh' (Kd.R_lt (rx_ HO211.out)) k_ hk, Kd.freshB (g := gb173) (o := .cells #[.int .i64 ((rd_T77 l0 a1_0).f0), .int .i64 ((rd_T77 l0 a1_0).f1)] 77 (0, 0)) (bx_ BK173.out) k_ hk, Kd.freshB (g := gb174) (o := .cells #[.int .i64 a1_2, .int .i64 ((rd_T77 l0 a1_0).f1)] 77 (0, 0)) (bx_ BK174.out) k_ hk, Kd.freshB (g := gb175) (o := .cells #[.int .i64 (wrap64 (((rd_T77 l0 a1_0).f0) - a1_2)), .int .i64 ((rd_T77 l0 a1_0).f1)] 77 (0, 0)) (bx_ BK175.out) k_ hk⟩))
          (case aO => exact (rx_ HO208.out))
          (case aS => exact (below_size (hx_ HB.out)))
          (case aL => have := LMc53.out; omega)
          intro v213 w85 ho hb hg hat
          rw [← Ny212.out] at ho
          have n0_ := Aside0.mk (blk_grown (g := gb171) (o := .cells #[.int .i64 a1_0, .bool false, .int .i64 a1_2] 85 (0, 0)) (bx_ BK171.out) hg (Kd.R_ne HO208.out BK171.out (by decide)))
          have n1_ := Aside0.mk (blk_grown (g := gb173) (o := .cells #[.int .i64 ((rd_T77 l0 a1_0).f0), .int .i64 ((rd_T77 l0 a1_0).f1)] 77 (0, 0)) (bx_ BK173.out) hg (Kd.R_away HO208.out (fun _ hk => hk.2.1)))
          have n2_ := Aside0.mk (blk_grown (g := gb174) (o := .cells #[.int .i64 a1_2, .int .i64 ((rd_T77 l0 a1_0).f1)] 77 (0, 0)) (bx_ BK174.out) hg (Kd.R_away HO208.out (fun _ hk => hk.2.2.1)))
          have n3_ := Aside0.mk (blk_grown (g := gb175) (o := .cells #[.int .i64 (wrap64 (((rd_T77 l0 a1_0).f0) - a1_2)), .int .i64 ((rd_T77 l0 a1_0).f1)] 77 (0, 0)) (bx_ BK175.out) hg (Kd.R_away HO208.out (fun _ hk => hk.2.2.2)))
          have n4_ := Aside0.mk (Kd.R_after (ok := (fun k_ => k_ ≠ gb173 ∧ k_ ≠ gb174 ∧ k_ ≠ gb175)) (by (with_reducible repeat (first | apply Kd.R_alloc | apply Kd.R_drewN | apply Kd.R_drew)); exact Kd.R_mono HO211.out (fun _ hk => ⟨⟨hk.2.1, ⟨hk.2.2.1, hk.2.2.2⟩⟩, hk.1⟩)) hg hat)
          have n5_ := Aside0.mk (hb)
          have n6_ := Aside0.mk (ho)
          clear BK171
          clear BK173
          clear BK174
          clear BK175
          clear HO211
          clear HB
          clear HO208
          have BK171 := n0_
          have BK173 := n1_
          have BK174 := n2_
          have BK175 := n3_
          have HO211 := n4_
          have HB := n5_
          have HO214 := n6_
          clear n0_ n1_ n2_ n3_ n4_ n5_ n6_
          clear ho hb hg hat
          refine hK.out _ _ ⟨(blk_cell BK171.out 0).trans rfl, (blk_cell BK171.out 1).trans rfl, (blk_cell BK171.out 2).trans rfl, (blk_cell BK174.out 0).trans rfl, (blk_cell BK174.out 1).trans rfl, (blk_cell BK175.out 0).trans rfl, (blk_cell BK175.out 1).trans rfl⟩ (fun hHeld => ?_)
          clear hK K
          refine norm_ (a' := ?_) ?_ ?_
          rotate_left
          ·show Act.put _ (some 50) _ = _
           simp only [Act.put, List.setIfInBounds_toArray, List.set_cons_zero, List.set_cons_succ, i64_w, i32_w]
           rfl
          refine one_ (i := 15) (N := some 56) #[true, true, true, true, true, true, true, true, true, true, true, true, true, true, true, true, false] rfl rfl (one_of HT_.out (by kernel_rfl)) (by decide) (fun K hK => ?_)
          refine Kd.R_append_rows_step k77 (w0 := w) w.heap.size (by rfl) (.tmp 50) (.tmp 55) 81 77 (.agg #[(.int .i64 0), (.int .i64 0)]) 16 rfl Try.underlying81 info77 rfl (by decide) (by omega) v213 y212 y215 _ _ _ (fun k_ => some k_ ≠ (.slice Ao86 y209.length co86 : Value).ownBlock ∧ k_ ≠ gb173 ∧ k_ ≠ gb174 ∧ k_ ≠ gb175) (fun _ => False) rfl rfl ?aO ?aR (fun _ _ h => h) (fun _ h => h.elim) ?aF ?aB ?aS ?aL ?_
          (case aR => repeat (first | exact (Kd.C_below HR218.out HB.out) | (with_reducible refine Kd.C_alloc ?_ _) | (with_reducible refine Kd.C_drewN ?_ _) | (with_reducible refine Kd.C_drew ?_)))
          (case aB => exact (hx_ HB.out))
          (case aF => exact (fun k_ hk => ⟨Kd.fresh' (Kd.R_lt (rx_ HO211.out)) k_ hk, Kd.freshB (g := gb173) (o := .cells #[.int .i64 ((rd_T77 l0 a1_0).f0), .int .i64 ((rd_T77 l0 a1_0).f1)] 77 (0, 0)) (bx_ BK173.out) k_ hk, Kd.freshB (g := gb174) (o := .cells #[.int .i64 a1_2, .int .i64 ((rd_T77 l0 a1_0).f1)] 77 (0, 0)) (bx_ BK174.out) k_ hk, Kd.freshB (g := gb175) (o := .cells #[.int .i64 (wrap64 (((rd_T77 l0 a1_0).f0) - a1_2)), .int .i64 ((rd_T77 l0 a1_0).f1)] 77 (0, 0)) (bx_ BK175.out) k_ hk⟩))
          (case aO => exact (rx_ HO214.out))
          (case aS => exact (below_size (hx_ HB.out)))
          (case aL => have := LMc57.out; omega)
          intro v220 w87 ho hb hg hat
          rw [← Ny219.out] at ho
          have n0_ := Aside0.mk (blk_grown (g := gb171) (o := .cells #[.int .i64 a1_0, .bool false, .int .i64 a1_2] 85 (0, 0)) (bx_ BK171.out) hg (Kd.R_ne HO214.out BK171.out (by decide)))
          have n1_ := Aside0.mk (blk_grown (g := gb173) (o := .cells #[.int .i64 ((rd_T77 l0 a1_0).f0), .int .i64 ((rd_T77 l0 a1_0).f1)] 77 (0, 0)) (bx_ BK173.out) hg (Kd.R_away HO214.out (fun _ hk => hk.2.1)))
          have n2_ := Aside0.mk (blk_grown (g := gb174) (o := .cells #[.int .i64 a1_2, .int .i64 ((rd_T77 l0 a1_0).f1)] 77 (0, 0)) (bx_ BK174.out) hg (Kd.R_away HO214.out (fun _ hk => hk.2.2.1)))
          have n3_ := Aside0.mk (blk_grown (g := gb175) (o := .cells #[.int .i64 (wrap64 (((rd_T77 l0 a1_0).f0) - a1_2)), .int .i64 ((rd_T77 l0 a1_0).f1)] 77 (0, 0)) (bx_ BK175.out) hg (Kd.R_away HO214.out (fun _ hk => hk.2.2.2)))
          have n4_ := Aside0.mk (Kd.R_after (ok := (fun k_ => k_ ≠ gb173 ∧ k_ ≠ gb174 ∧ k_ ≠ gb175)) (rx_ HO211.out) hg hat)
          have n5_ := Aside0.mk (hb)
          have n6_ := Aside0.mk (ho)
          clear BK171
          clear BK173
          clear BK174
          clear BK175
          clear HO211
          clear HB
          clear HO214
          have BK171 := n0_
          have BK173 := n1_
          have BK174 := n2_
          have BK175 := n3_
          have HO211 := n4_
          have HB := n5_
          have HO221 := n6_
          clear n0_ n1_ n2_ n3_ n4_ n5_ n6_
          clear ho hb hg hat
          refine hK.out _ _ ⟨(blk_cell BK171.out 0).trans rfl, (blk_cell BK171.out 1).trans rfl, (blk_cell BK171.out 2).trans rfl, (blk_cell BK174.out 0).trans rfl, (blk_cell BK174.out 1).trans rfl, (blk_cell BK175.out 0).trans rfl, (blk_cell BK175.out 1).trans rfl⟩ (fun hHeld => ?_)
          clear hK K
          refine norm_ (a' := ?_) ?_ ?_
          rotate_left
          ·show Act.put _ (some 56) _ = _
           simp only [Act.put, List.setIfInBounds_toArray, List.set_cons_zero, List.set_cons_succ, i64_w, i32_w]
           rfl
          refine pure_ (i := 16) (N := some 4) (v := ?_) (a' := ?_) #[true, true, true, true, true, true, true, true, true, true, true, true, true, true, true, true, true] rfl rfl (any_of HT_.out (by kernel_rfl)) (fun _ _ _ h => h) (Or.inl ⟨by rfl, ?_⟩) ?_ ?_
          rotate_left
          ·intro w'
           go_simp
           with_reducible rfl
          rotate_left
          ·simp only [Act.put, List.setIfInBounds_toArray, List.set_cons_zero, List.set_cons_succ, i64_w, i32_w]
           rfl
          refine done_ (done_of HT_.out (by kernel_rfl)) ?_
          try go_wp2
          go_ret
          exact ⟨_, by first | rfl | (simp [errW_none, errW_some] <;> rfl) | (simp only [← hji54]; first | rfl | (simp [errW_none, errW_some] <;> rfl)) | (simp [*, errW_none, errW_some] <;> rfl), by (with_reducible repeat (first | apply Kd.R_alloc | apply Kd.R_drewN | apply Kd.R_drew)); exact Kd.R_mono HO221.out (fun _ hk => trivial), hx_ HB.out⟩
         ·rw [if_neg c57] at H
          exact absurd H (by simp)
        ·rw [if_neg c56] at H
         exact absurd H (by simp)
       ·rw [if_neg c55] at H
        exact absurd H (by simp)
      ·rw [if_neg c53] at H
       exact absurd H (by simp)
     ·rw [if_neg c52] at H
      exact absurd H (by simp)
    ·rw [if_neg c51] at H
     exact absurd H (by simp)
  ·rw [if_neg c4] at H
   exact absurd H (by simp)
 ·rw [if_neg c3] at H
  exact absurd H (by simp)

end Go.Proofs.Ythapadejldlmfaa.PFnCuts
