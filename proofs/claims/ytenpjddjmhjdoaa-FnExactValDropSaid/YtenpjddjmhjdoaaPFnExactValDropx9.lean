/- What the law reaches: each function as a plain Lean function, and that each call comes to it. No condition. -/
import Derived.Test.YtenpjddjmhjdoaaPFnExactValDropx0
namespace Go.Proofs.Ytenpjddjmhjdoaa.PFnExactValDrop
open Go.RowKit Go.Proofs.YtenpjddjmhjdoaaW.PrintWords Go.Proofs.YtenpjddjmhjdoaaW.PrintLast Go.Proofs.YtenpjddjmhjdoaaW.PrintMore Go.Proofs.Ytenpjddjmhjdoaa.M
attribute [local go_sem] max2_int min2_int max_two min_two max_three min_three max_four min_four Go.Proofs.Ytenpjddjmhjdoaa.M.str_gtr Go.Proofs.Ytenpjddjmhjdoaa.M.str_leq Go.Proofs.Ytenpjddjmhjdoaa.M.str_geq   -- for this text's walks alone
set_option linter.unusedVariables false
set_option linter.unusedSimpArgs false

/-! ### spec_l2drop: function 71 -/
def spec_l2drop.f (a0_0 : Int) (a0_1 : Int) (l0_2 : List Int) (l0_3 : List (List Int)) (l0_4 : List (S30)) (a1 : Int) : Option (Int × Int × List Int × (List (List Int)) × (List (S30))) := if 0 ≤ a1 then (if a1 ≤ (l0_3.length : Int) then ((some (l0_3.take (a1 : Int).toNat : List (List Int))).bind fun y293 => (if ([] : List (List Int)).length + y293.length < 5864062014805 then ((some (([] : List (List Int)) ++ y293 : List (List Int))).bind fun y298 => (if 0 ≤ (wrap64 (a1 + 1)) then (if (wrap64 (a1 + 1)) ≤ (l0_3.length : Int) then ((some (l0_3.drop ((wrap64 (a1 + 1)) : Int).toNat : List (List Int))).bind fun y301 => (if y298.length + y301.length < 5864062014805 then (if a1 ≤ (l0_4.length : Int) then ((some (l0_4.take (a1 : Int).toNat : List (S30))).bind fun y309 => (if ([] : List (S30)).length + y309.length < 1599289640401 then ((some (([] : List (S30)) ++ y309 : List (S30))).bind fun y314 => (if (wrap64 (a1 + 1)) ≤ (l0_4.length : Int) then ((some (l0_4.drop ((wrap64 (a1 + 1)) : Int).toNat : List (S30))).bind fun y317 => (if y314.length + y317.length < 1599289640401 then (some (5, 0, ([] : List Int), (y298 ++ y301), (y314 ++ y317))) else (none))) else (none))) else (none))) else (none)) else (none))) else (none)) else (none))) else (none))) else (none)) else (none)
def spec_l2drop.T2 : Bool × List (List Nat × List Nat) := (true, [([], []), ([0], [0]), ([], []), ([2], [2]), ([], []), ([3, 4], [3, 4]), ([1, 5], [1, 5]), ([], []), ([7], [7]), ([], []), ([9], [9]), ([8, 10], [8, 10]), ([6, 11, 6], [6, 11]), ([0, 1, 2, 3, 4, 5, 6, 7, 8, 9, 10, 11, 12], []), ([13, 12, 12, 0, 1, 2, 3, 4, 5, 6, 7, 8, 9, 10, 11, 12], [12, 13])])
def spec_l2drop.B2 : List Nat := [0, 1, 0, 4, 0, 28, 63, 0, 128, 0, 512, 1920, 4095, 8191, 16383]
theorem spec_l2drop.tab2 : rtab .any (opsOf Try.f71 2) = spec_l2drop.T2 := by kernel_rfl
theorem spec_l2drop.bits2 : waitsOk spec_l2drop.T2.2 spec_l2drop.B2 = true := by kernel_rfl
def spec_l2drop.T3 : Bool × List (List Nat × List Nat) := (true, [([], []), ([0], [0]), ([], []), ([2], [2]), ([], []), ([3, 4], [3, 4]), ([1, 5], [1, 5]), ([], []), ([7], [7]), ([], []), ([9], [9]), ([8, 10], [8, 10]), ([6, 11, 6], [6, 11]), ([0, 1, 2, 3, 4, 5, 6, 7, 8, 9, 10, 11, 12], []), ([13, 12, 12, 0, 1, 2, 3, 4, 5, 6, 7, 8, 9, 10, 11, 12], [12, 13])])
def spec_l2drop.B3 : List Nat := [0, 1, 0, 4, 0, 28, 63, 0, 128, 0, 512, 1920, 4095, 8191, 16383]
theorem spec_l2drop.tab3 : rtab .any (opsOf Try.f71 3) = spec_l2drop.T3 := by kernel_rfl
theorem spec_l2drop.bits3 : waitsOk spec_l2drop.T3.2 spec_l2drop.B3 = true := by kernel_rfl
set_option maxHeartbeats 8000000 in
set_option maxRecDepth 100000 in
theorem spec_l2drop.calls (a0_0 : Int) (a0_1 : Int) (A0_2 : Option Addr) (c0_2 : Nat) (l0_2 : List Int) (P0_3_ : Nat → Prop) (A0_3 : Option Addr) (c0_3 : Nat) (l0_3 : List (List Int)) (P0_4_ : Nat → Prop) (A0_4 : Option Addr) (c0_4 : Nat) (l0_4 : List (S30)) (a1 : Int) (r1 : Int) (r2 : Int) (r3 : List Int) (r4 : List (List Int)) (r5 : List (S30)) (w : World) (hr0_2 : Kd.C (Kd.int .u8) w A0_2 l0_2.length l0_2) (hc0_2 : l0_2.length ≤ c0_2) (hs0_3 : Kd.V (Kd.slice 5 (Kd.int .u8)) 22 w w.heap.size (fun k_ => P0_3_ k_) (.slice A0_3 l0_3.length c0_3) l0_3) (hs0_4 : Kd.V k30 30 w w.heap.size (fun k_ => P0_4_ k_) (.slice A0_4 l0_4.length c0_4) l0_4) (h : spec_l2drop.f a0_0 a0_1 l0_2 l0_3 l0_4 a1 = some (r1, r2, r3, r4, r5)) :
  Calls Try.prog 71 #[.agg #[.int .i64 a0_0, .int .i64 a0_1, .slice A0_2 l0_2.length c0_2, .slice A0_3 l0_3.length c0_3, .slice A0_4 l0_4.length c0_4], .int .i64 a1] w fun e w' => ∃ v2_ v3_ v4_ : Value, e = .returned (.agg #[.int .i64 r1, .int .i64 r2, v2_, v3_, v4_]) ∧ Kd.R (Kd.int .u8) 5 w' w.heap.size (fun k_ => (w.heap.size ≤ k_)) v2_ r3 ∧ Kd.N (Kd.slice 5 (Kd.int .u8)) 22 w' w.heap.size (fun k_ => ((P0_3_ k_ ∨ P0_4_ k_) ∨ w.heap.size ≤ k_) ∧ some k_ ≠ (v2_ : Value).ownBlock ∧ some k_ ≠ (v4_ : Value).ownBlock) v3_ r4 ∧ Kd.N k30 30 w' w.heap.size (fun k_ => ((P0_3_ k_ ∨ P0_4_ k_) ∨ w.heap.size ≤ k_) ∧ some k_ ≠ (v2_ : Value).ownBlock ∧ some k_ ≠ (v3_ : Value).ownBlock) v4_ r5 ∧ Below w.heap.size w w' := by
 have hu30 := Try.underlying30
 have HR0_2 := Aside0.mk hr0_2
 have HC0_2 := Aside0.mk hc0_2
 clear hr0_2 hc0_2
 have HO0_3 := Aside0.mk (show Kd.V (Kd.slice 5 (Kd.int .u8)) 22 w w.heap.size (fun k_ => ((P0_3_ k_ ∨ P0_4_ k_) ∨ w.heap.size ≤ k_)) (.slice A0_3 l0_3.length c0_3) l0_3 from Kd.V_mono hs0_3 (fun k_ hk => .inl (.inl hk)))
 have HO0_4 := Aside0.mk (show Kd.V k30 30 w w.heap.size (fun k_ => ((P0_3_ k_ ∨ P0_4_ k_) ∨ w.heap.size ≤ k_)) (.slice A0_4 l0_4.length c0_4) l0_4 from Kd.V_mono hs0_4 (fun k_ hk => .inl (.inr hk)))
 have HB := Bw.refl w
 have H : (if 0 ≤ a1 then (if a1 ≤ (l0_3.length : Int) then ((some (l0_3.take (a1 : Int).toNat : List (List Int))).bind fun y293 => (if ([] : List (List Int)).length + y293.length < 5864062014805 then ((some (([] : List (List Int)) ++ y293 : List (List Int))).bind fun y298 => (if 0 ≤ (wrap64 (a1 + 1)) then (if (wrap64 (a1 + 1)) ≤ (l0_3.length : Int) then ((some (l0_3.drop ((wrap64 (a1 + 1)) : Int).toNat : List (List Int))).bind fun y301 => (if y298.length + y301.length < 5864062014805 then (if a1 ≤ (l0_4.length : Int) then ((some (l0_4.take (a1 : Int).toNat : List (S30))).bind fun y309 => (if ([] : List (S30)).length + y309.length < 1599289640401 then ((some (([] : List (S30)) ++ y309 : List (S30))).bind fun y314 => (if (wrap64 (a1 + 1)) ≤ (l0_4.length : Int) then ((some (l0_4.drop ((wrap64 (a1 + 1)) : Int).toNat : List (S30))).bind fun y317 => (if y314.length + y317.length < 1599289640401 then (some (5, 0, ([] : List Int), (y298 ++ y301), (y314 ++ y317))) else (none))) else (none))) else (none))) else (none)) else (none))) else (none)) else (none))) else (none))) else (none)) else (none)) = some (r1, r2, r3, r4, r5) := h
 clear h
 by_cases c3 : 0 ≤ a1
 ·as_aux_lemma =>
  rw [if_pos c3] at H
  have c3b0 := eq_true c3
  have c3b1 : decide (0 ≤ a1) = true := decide_eq_true c3
  clear c3
  by_cases c4 : a1 ≤ (l0_3.length : Int)
  ·as_aux_lemma =>
   rw [if_pos c4] at H
   have c4b0 := eq_true c4
   have c4b1 : decide (a1 ≤ (l0_3.length : Int)) = true := decide_eq_true c4
   clear c4
   obtain ⟨y293, hy293⟩ : ∃ y_ : List (List Int), y_ = (l0_3.take (a1 : Int).toNat) := ⟨_, rfl⟩
   replace H : (if ([] : List (List Int)).length + y293.length < 5864062014805 then ((some (([] : List (List Int)) ++ y293 : List (List Int))).bind fun y298 => (if 0 ≤ (wrap64 (a1 + 1)) then (if (wrap64 (a1 + 1)) ≤ (l0_3.length : Int) then ((some (l0_3.drop ((wrap64 (a1 + 1)) : Int).toNat : List (List Int))).bind fun y301 => (if y298.length + y301.length < 5864062014805 then (if a1 ≤ (l0_4.length : Int) then ((some (l0_4.take (a1 : Int).toNat : List (S30))).bind fun y309 => (if ([] : List (S30)).length + y309.length < 1599289640401 then ((some (([] : List (S30)) ++ y309 : List (S30))).bind fun y314 => (if (wrap64 (a1 + 1)) ≤ (l0_4.length : Int) then ((some (l0_4.drop ((wrap64 (a1 + 1)) : Int).toNat : List (S30))).bind fun y317 => (if y314.length + y317.length < 1599289640401 then (some (5, 0, ([] : List Int), (y298 ++ y301), (y314 ++ y317))) else (none))) else (none))) else (none))) else (none)) else (none))) else (none)) else (none))) else (none)) = some (r1, r2, r3, r4, r5) := by first | (rw [hy293]; with_reducible exact H) | (have H2_ := (Option.bind_some _ _).symm.trans H; rw [hy293]; with_reducible exact H2_) | (have H2_ := (Option.bind_some _ _).symm.trans H; with_reducible exact H2_) | with_reducible exact H | (rw [hy293]; exact H) | exact H
   have Ny293 := Aside0.mk hy293
   clear hy293
   by_cases c5 : ([] : List (List Int)).length + y293.length < 5864062014805
   ·as_aux_lemma =>
    rw [if_pos c5] at H
    have LMc5 := Aside0.mk c5
    clear c5
    obtain ⟨y298, hy298⟩ : ∃ y_ : List (List Int), y_ = (([] : List (List Int)) ++ y293) := ⟨_, rfl⟩
    replace H : (if 0 ≤ (wrap64 (a1 + 1)) then (if (wrap64 (a1 + 1)) ≤ (l0_3.length : Int) then ((some (l0_3.drop ((wrap64 (a1 + 1)) : Int).toNat : List (List Int))).bind fun y301 => (if y298.length + y301.length < 5864062014805 then (if a1 ≤ (l0_4.length : Int) then ((some (l0_4.take (a1 : Int).toNat : List (S30))).bind fun y309 => (if ([] : List (S30)).length + y309.length < 1599289640401 then ((some (([] : List (S30)) ++ y309 : List (S30))).bind fun y314 => (if (wrap64 (a1 + 1)) ≤ (l0_4.length : Int) then ((some (l0_4.drop ((wrap64 (a1 + 1)) : Int).toNat : List (S30))).bind fun y317 => (if y314.length + y317.length < 1599289640401 then (some (5, 0, ([] : List Int), (y298 ++ y301), (y314 ++ y317))) else (none))) else (none))) else (none))) else (none)) else (none))) else (none)) else (none)) = some (r1, r2, r3, r4, r5) := by first | (rw [hy298]; with_reducible exact H) | (have H2_ := (Option.bind_some _ _).symm.trans H; rw [hy298]; with_reducible exact H2_) | (have H2_ := (Option.bind_some _ _).symm.trans H; with_reducible exact H2_) | with_reducible exact H | (rw [hy298]; exact H) | exact H
    have Ny298 := Aside0.mk hy298
    clear hy298
    obtain ⟨ji6, hji6⟩ : ∃ j_ : Int, (wrap64 (a1 + 1)) = j_ := ⟨_, rfl⟩
    replace H : (if 0 ≤ (ji6) then (if (ji6) ≤ (l0_3.length : Int) then ((some (l0_3.drop ((ji6) : Int).toNat : List (List Int))).bind fun y301 => (if y298.length + y301.length < 5864062014805 then (if a1 ≤ (l0_4.length : Int) then ((some (l0_4.take (a1 : Int).toNat : List (S30))).bind fun y309 => (if ([] : List (S30)).length + y309.length < 1599289640401 then ((some (([] : List (S30)) ++ y309 : List (S30))).bind fun y314 => (if (ji6) ≤ (l0_4.length : Int) then ((some (l0_4.drop ((ji6) : Int).toNat : List (S30))).bind fun y317 => (if y314.length + y317.length < 1599289640401 then (some (5, 0, ([] : List Int), (y298 ++ y301), (y314 ++ y317))) else (none))) else (none))) else (none))) else (none)) else (none))) else (none)) else (none)) = some (r1, r2, r3, r4, r5) := by first | (rw [hji6] at H; exact H) | (simp only [hji6] at H ⊢; exact H)
    have hji6w : (IntKind.i64.wrap (a1 + 1)) = ji6 := (i64_w _).trans hji6
    by_cases c7 : 0 ≤ (ji6)
    ·as_aux_lemma =>
     rw [if_pos c7] at H
     have c7b0 := eq_true c7
     have c7b1 : decide (0 ≤ (ji6)) = true := decide_eq_true c7
     clear c7
     by_cases c8 : (ji6) ≤ (l0_3.length : Int)
     ·as_aux_lemma =>
      rw [if_pos c8] at H
      have c8b0 := eq_true c8
      have c8b1 : decide ((ji6) ≤ (l0_3.length : Int)) = true := decide_eq_true c8
      clear c8
      obtain ⟨y301, hy301⟩ : ∃ y_ : List (List Int), y_ = (l0_3.drop ((ji6) : Int).toNat) := ⟨_, rfl⟩
      replace H : (if y298.length + y301.length < 5864062014805 then (if a1 ≤ (l0_4.length : Int) then ((some (l0_4.take (a1 : Int).toNat : List (S30))).bind fun y309 => (if ([] : List (S30)).length + y309.length < 1599289640401 then ((some (([] : List (S30)) ++ y309 : List (S30))).bind fun y314 => (if (ji6) ≤ (l0_4.length : Int) then ((some (l0_4.drop ((ji6) : Int).toNat : List (S30))).bind fun y317 => (if y314.length + y317.length < 1599289640401 then (some (5, 0, ([] : List Int), (y298 ++ y301), (y314 ++ y317))) else (none))) else (none))) else (none))) else (none)) else (none)) = some (r1, r2, r3, r4, r5) := by first | (rw [hy301]; with_reducible exact H) | (have H2_ := (Option.bind_some _ _).symm.trans H; rw [hy301]; with_reducible exact H2_) | (have H2_ := (Option.bind_some _ _).symm.trans H; with_reducible exact H2_) | with_reducible exact H | (rw [hy301]; exact H) | exact H
      have Ny301 := Aside0.mk hy301
      clear hy301
      by_cases c9 : y298.length + y301.length < 5864062014805
      ·as_aux_lemma =>
       rw [if_pos c9] at H
       have LMc9 := Aside0.mk c9
       clear c9
       obtain ⟨y306, hy306⟩ : ∃ y_ : List (List Int), y_ = (y298 ++ y301) := ⟨_, rfl⟩
       replace H : (if a1 ≤ (l0_4.length : Int) then ((some (l0_4.take (a1 : Int).toNat : List (S30))).bind fun y309 => (if ([] : List (S30)).length + y309.length < 1599289640401 then ((some (([] : List (S30)) ++ y309 : List (S30))).bind fun y314 => (if (ji6) ≤ (l0_4.length : Int) then ((some (l0_4.drop ((ji6) : Int).toNat : List (S30))).bind fun y317 => (if y314.length + y317.length < 1599289640401 then (some (5, 0, ([] : List Int), y306, (y314 ++ y317))) else (none))) else (none))) else (none))) else (none)) = some (r1, r2, r3, r4, r5) := by first | (rw [hy306]; with_reducible exact H) | (have H2_ := (Option.bind_some _ _).symm.trans H; rw [hy306]; with_reducible exact H2_) | (have H2_ := (Option.bind_some _ _).symm.trans H; with_reducible exact H2_) | with_reducible exact H | (rw [hy306]; exact H) | exact H
       have Ny306 := Aside0.mk hy306
       clear hy306
       have c10b0 := eq_true (of_decide_eq_true (by first | (with_reducible assumption) | assumption) : 0 ≤ a1)
       by_cases c11 : a1 ≤ (l0_4.length : Int)
       ·as_aux_lemma =>
        rw [if_pos c11] at H
        have c11b0 := eq_true c11
        have c11b1 : decide (a1 ≤ (l0_4.length : Int)) = true := decide_eq_true c11
        clear c11
        obtain ⟨y309, hy309⟩ : ∃ y_ : List (S30), y_ = (l0_4.take (a1 : Int).toNat) := ⟨_, rfl⟩
        replace H : (if ([] : List (S30)).length + y309.length < 1599289640401 then ((some (([] : List (S30)) ++ y309 : List (S30))).bind fun y314 => (if (ji6) ≤ (l0_4.length : Int) then ((some (l0_4.drop ((ji6) : Int).toNat : List (S30))).bind fun y317 => (if y314.length + y317.length < 1599289640401 then (some (5, 0, ([] : List Int), y306, (y314 ++ y317))) else (none))) else (none))) else (none)) = some (r1, r2, r3, r4, r5) := by first | (rw [hy309]; with_reducible exact H) | (have H2_ := (Option.bind_some _ _).symm.trans H; rw [hy309]; with_reducible exact H2_) | (have H2_ := (Option.bind_some _ _).symm.trans H; with_reducible exact H2_) | with_reducible exact H | (rw [hy309]; exact H) | exact H
        have Ny309 := Aside0.mk hy309
        clear hy309
        by_cases c12 : ([] : List (S30)).length + y309.length < 1599289640401
        ·as_aux_lemma =>
         rw [if_pos c12] at H
         have LMc12 := Aside0.mk c12
         clear c12
         obtain ⟨y314, hy314⟩ : ∃ y_ : List (S30), y_ = (([] : List (S30)) ++ y309) := ⟨_, rfl⟩
         replace H : (if (ji6) ≤ (l0_4.length : Int) then ((some (l0_4.drop ((ji6) : Int).toNat : List (S30))).bind fun y317 => (if y314.length + y317.length < 1599289640401 then (some (5, 0, ([] : List Int), y306, (y314 ++ y317))) else (none))) else (none)) = some (r1, r2, r3, r4, r5) := by first | (rw [hy314]; with_reducible exact H) | (have H2_ := (Option.bind_some _ _).symm.trans H; rw [hy314]; with_reducible exact H2_) | (have H2_ := (Option.bind_some _ _).symm.trans H; with_reducible exact H2_) | with_reducible exact H | (rw [hy314]; exact H) | exact H
         have Ny314 := Aside0.mk hy314
         clear hy314
         have c13b0 := eq_true (of_decide_eq_true (by first | (with_reducible assumption) | assumption) : 0 ≤ (ji6))
         by_cases c14 : (ji6) ≤ (l0_4.length : Int)
         ·as_aux_lemma =>
          rw [if_pos c14] at H
          have c14b0 := eq_true c14
          have c14b1 : decide ((ji6) ≤ (l0_4.length : Int)) = true := decide_eq_true c14
          clear c14
          obtain ⟨y317, hy317⟩ : ∃ y_ : List (S30), y_ = (l0_4.drop ((ji6) : Int).toNat) := ⟨_, rfl⟩
          replace H : (if y314.length + y317.length < 1599289640401 then (some (5, 0, ([] : List Int), y306, (y314 ++ y317))) else (none)) = some (r1, r2, r3, r4, r5) := by first | (rw [hy317]; with_reducible exact H) | (have H2_ := (Option.bind_some _ _).symm.trans H; rw [hy317]; with_reducible exact H2_) | (have H2_ := (Option.bind_some _ _).symm.trans H; with_reducible exact H2_) | with_reducible exact H | (rw [hy317]; exact H) | exact H
          have Ny317 := Aside0.mk hy317
          clear hy317
          by_cases c15 : y314.length + y317.length < 1599289640401
          ·as_aux_lemma =>
           rw [if_pos c15] at H
           have LMc15 := Aside0.mk c15
           clear c15
           obtain ⟨y322, hy322⟩ : ∃ y_ : List (S30), y_ = (y314 ++ y317) := ⟨_, rfl⟩
           replace H : (some (5, 0, ([] : List Int), y306, y322)) = some (r1, r2, r3, r4, r5) := by first | (rw [hy322]; with_reducible exact H) | (have H2_ := (Option.bind_some _ _).symm.trans H; rw [hy322]; with_reducible exact H2_) | (have H2_ := (Option.bind_some _ _).symm.trans H; with_reducible exact H2_) | with_reducible exact H | (rw [hy322]; exact H) | exact H
           have Ny322 := Aside0.mk hy322
           clear hy322
           simp only [Option.some.injEq, Prod.mk.injEq] at H
           obtain ⟨rfl, rfl, rfl, rfl, rfl⟩ := H
           go_enter Try.func71, Try.ntmps71
           try go_wp2_with (first | ((with_reducible refine gate_dst (N := 2) rfl ?_); refine box_event rfl (N := 2) rfl (cs := #[.int .i64 a0_0, .int .i64 a0_1, .slice A0_2 l0_2.length c0_2, .slice A0_3 l0_3.length c0_3, .slice A0_4 l0_4.length c0_4]) (t := 30) (by go_simp <;> rfl) ?_; intro gb290 hg w16 hbox hb; replace HO0_3 := Aside0.mk (Kd.V_below (Kd.V_elderB (by (with_reducible repeat (first | apply Kd.V_alloc | apply Kd.V_drewN | apply Kd.V_drew)); exact HO0_3.out) gb290 (Nat.le_of_eq hg.symm)) hb); replace HO0_4 := Aside0.mk (Kd.V_below (Kd.V_elderB (by (with_reducible repeat (first | apply Kd.V_alloc | apply Kd.V_drewN | apply Kd.V_drew)); exact HO0_4.out) gb290 (Nat.le_of_eq hg.symm)) hb); have BK290 := Aside0.mk (hbox); have GE290 := (Ge.of hg : Ge w.heap.size gb290); replace HB := (Bw.sw w hb); clear hb hbox hg) | ((with_reducible refine gate_dst (N := 4) rfl ?_); refine box_event rfl (N := 4) rfl (cs := #[.int .i64 0, .int .i64 0, .slice none 0 0, .slice none 0 0, .slice none 0 0]) (t := 30) (by go_simp <;> rfl) ?_; intro gb291 hg w17 hbox hb; replace HO0_3 := Aside0.mk (Kd.V_below (Kd.V_elderB (by (with_reducible repeat (first | apply Kd.V_alloc | apply Kd.V_drewN | apply Kd.V_drew)); exact HO0_3.out) gb291 (Nat.le_of_eq hg.symm)) hb); replace HO0_4 := Aside0.mk (Kd.V_below (Kd.V_elderB (by (with_reducible repeat (first | apply Kd.V_alloc | apply Kd.V_drewN | apply Kd.V_drew)); exact HO0_4.out) gb291 (Nat.le_of_eq hg.symm)) hb); have BK291 := Aside0.mk (hbox); have GE291 := (Ge.of hg : Ge w.heap.size gb291); replace HB := (Bw.sw w hb); have NB290_291 := Aside0.mk ((by rw [hg]; exact Nat.ne_of_lt (blk_lt (g := gb290) (o := .cells #[.int .i64 a0_0, .int .i64 a0_1, .slice A0_2 l0_2.length c0_2, .slice A0_3 l0_3.length c0_3, .slice A0_4 l0_4.length c0_4] 30 (0, 0)) (by (with_reducible repeat (first | refine blk_drewN ?_ _ | refine blk_drew ?_ | refine blk_alloc ?_ _)); exact BK290.out)) : gb290 ≠ gb291)); have NB291_290 := Aside0.mk ((by rw [hg]; exact Nat.ne_of_gt (blk_lt (g := gb290) (o := .cells #[.int .i64 a0_0, .int .i64 a0_1, .slice A0_2 l0_2.length c0_2, .slice A0_3 l0_3.length c0_3, .slice A0_4 l0_4.length c0_4] 30 (0, 0)) (by (with_reducible repeat (first | refine blk_drewN ?_ _ | refine blk_drew ?_ | refine blk_alloc ?_ _)); exact BK290.out)) : gb291 ≠ gb290)); replace BK290 := Aside0.mk (blk_below (g := gb290) (o := .cells #[.int .i64 a0_0, .int .i64 a0_1, .slice A0_2 l0_2.length c0_2, .slice A0_3 l0_3.length c0_3, .slice A0_4 l0_4.length c0_4] 30 (0, 0)) (by (with_reducible repeat (first | refine blk_drewN ?_ _ | refine blk_drew ?_ | refine blk_alloc ?_ _)); exact BK290.out) hb); clear hb hbox hg) | ((with_reducible refine gate_dst (N := 5) rfl ?_); refine box_event rfl (N := 5) rfl (cs := #[.int .i64 0, .int .i64 0, .slice none 0 0, .slice none 0 0, .slice none 0 0]) (t := 30) (by go_simp <;> rfl) ?_; intro gb292 hg w18 hbox hb; replace HO0_3 := Aside0.mk (Kd.V_below (Kd.V_elderB (by (with_reducible repeat (first | apply Kd.V_alloc | apply Kd.V_drewN | apply Kd.V_drew)); exact HO0_3.out) gb292 (Nat.le_of_eq hg.symm)) hb); replace HO0_4 := Aside0.mk (Kd.V_below (Kd.V_elderB (by (with_reducible repeat (first | apply Kd.V_alloc | apply Kd.V_drewN | apply Kd.V_drew)); exact HO0_4.out) gb292 (Nat.le_of_eq hg.symm)) hb); have BK292 := Aside0.mk (hbox); have GE292 := (Ge.of hg : Ge w.heap.size gb292); replace HB := (Bw.sw w hb); have NB290_292 := Aside0.mk ((by rw [hg]; exact Nat.ne_of_lt (blk_lt (g := gb290) (o := .cells #[.int .i64 a0_0, .int .i64 a0_1, .slice A0_2 l0_2.length c0_2, .slice A0_3 l0_3.length c0_3, .slice A0_4 l0_4.length c0_4] 30 (0, 0)) (by (with_reducible repeat (first | refine blk_drewN ?_ _ | refine blk_drew ?_ | refine blk_alloc ?_ _)); exact BK290.out)) : gb290 ≠ gb292)); have NB292_290 := Aside0.mk ((by rw [hg]; exact Nat.ne_of_gt (blk_lt (g := gb290) (o := .cells #[.int .i64 a0_0, .int .i64 a0_1, .slice A0_2 l0_2.length c0_2, .slice A0_3 l0_3.length c0_3, .slice A0_4 l0_4.length c0_4] 30 (0, 0)) (by (with_reducible repeat (first | refine blk_drewN ?_ _ | refine blk_drew ?_ | refine blk_alloc ?_ _)); exact BK290.out)) : gb292 ≠ gb290)); replace BK290 := Aside0.mk (blk_below (g := gb290) (o := .cells #[.int .i64 a0_0, .int .i64 a0_1, .slice A0_2 l0_2.length c0_2, .slice A0_3 l0_3.length c0_3, .slice A0_4 l0_4.length c0_4] 30 (0, 0)) (by (with_reducible repeat (first | refine blk_drewN ?_ _ | refine blk_drew ?_ | refine blk_alloc ?_ _)); exact BK290.out) hb); have NB291_292 := Aside0.mk ((by rw [hg]; exact Nat.ne_of_lt (blk_lt (g := gb291) (o := .cells #[.int .i64 0, .int .i64 0, .slice none 0 0, .slice none 0 0, .slice none 0 0] 30 (0, 0)) (by (with_reducible repeat (first | refine blk_drewN ?_ _ | refine blk_drew ?_ | refine blk_alloc ?_ _)); exact BK291.out)) : gb291 ≠ gb292)); have NB292_291 := Aside0.mk ((by rw [hg]; exact Nat.ne_of_gt (blk_lt (g := gb291) (o := .cells #[.int .i64 0, .int .i64 0, .slice none 0 0, .slice none 0 0, .slice none 0 0] 30 (0, 0)) (by (with_reducible repeat (first | refine blk_drewN ?_ _ | refine blk_drew ?_ | refine blk_alloc ?_ _)); exact BK291.out)) : gb292 ≠ gb291)); replace BK291 := Aside0.mk (blk_below (g := gb291) (o := .cells #[.int .i64 0, .int .i64 0, .slice none 0 0, .slice none 0 0, .slice none 0 0] 30 (0, 0)) (by (with_reducible repeat (first | refine blk_drewN ?_ _ | refine blk_drew ?_ | refine blk_alloc ?_ _)); exact BK291.out) hb); clear hb hbox hg; have hnb19 := NB292_290.out; have hnc19 := NB290_292.out; have hnb20 := NB292_291.out; have hnc20 := NB291_292.out; obtain ⟨hcz21_0, hcz21_1, hcz21_2, hcz21_3, hcz21_4, hfz21_0, hfz21_1, hfz21_2, hfz21_3, hfz21_4⟩ := blk5 BK292.out))
           have n0_ : Aside0 (Kd.V (Kd.slice 5 (Kd.int .u8)) 22 (((((w18.setCell ⟨gb292, 0, none⟩ (.int .i64 5)).setCell ⟨gb292, 1, none⟩ (.int .i64 0)).setCell ⟨gb292, 2, none⟩ (.slice none 0 0)).setCell ⟨gb292, 3, none⟩ (.slice none 0 0)).setCell ⟨gb292, 4, none⟩ (.slice none 0 0)) w.heap.size (fun k_ => ((P0_3_ k_ ∨ P0_4_ k_) ∨ w.heap.size ≤ k_) ∧ k_ ≠ gb290 ∧ k_ ≠ gb291 ∧ k_ ≠ gb292) (.slice A0_3 l0_3.length c0_3) l0_3) := ⟨by (with_reducible repeat (first | apply Kd.V_alloc | apply Kd.V_drewN | apply Kd.V_drew)); exact Kd.V_mono (Kd.V_far (p := ⟨gb292, 4, none⟩) (Kd.V_far (p := ⟨gb292, 3, none⟩) (Kd.V_far (p := ⟨gb292, 2, none⟩) (Kd.V_far (p := ⟨gb292, 1, none⟩) (Kd.V_far (p := ⟨gb292, 0, none⟩) (Kd.V_mono HO0_3.out (fun k_ hk => (⟨hk, hk.2⟩ : _ ∧ k_ ≠ gb292))) (fun _ hk => hk.2) (.int .i64 5)) (fun _ hk => hk.2) (.int .i64 0)) (fun _ hk => hk.2) (.slice none 0 0)) (fun _ hk => hk.2) (.slice none 0 0)) (fun _ hk => hk.2) (.slice none 0 0)) (fun _ hk => ⟨hk.1.1.1.1, ⟨hk.1.1.1.2, ⟨hk.1.1.2, hk.1.2⟩⟩⟩)⟩
           have n1_ : Aside0 (Kd.V k30 30 (((((w18.setCell ⟨gb292, 0, none⟩ (.int .i64 5)).setCell ⟨gb292, 1, none⟩ (.int .i64 0)).setCell ⟨gb292, 2, none⟩ (.slice none 0 0)).setCell ⟨gb292, 3, none⟩ (.slice none 0 0)).setCell ⟨gb292, 4, none⟩ (.slice none 0 0)) w.heap.size (fun k_ => ((P0_3_ k_ ∨ P0_4_ k_) ∨ w.heap.size ≤ k_) ∧ k_ ≠ gb290 ∧ k_ ≠ gb291 ∧ k_ ≠ gb292) (.slice A0_4 l0_4.length c0_4) l0_4) := ⟨by (with_reducible repeat (first | apply Kd.V_alloc | apply Kd.V_drewN | apply Kd.V_drew)); exact Kd.V_mono (Kd.V_far (p := ⟨gb292, 4, none⟩) (Kd.V_far (p := ⟨gb292, 3, none⟩) (Kd.V_far (p := ⟨gb292, 2, none⟩) (Kd.V_far (p := ⟨gb292, 1, none⟩) (Kd.V_far (p := ⟨gb292, 0, none⟩) (Kd.V_mono HO0_4.out (fun k_ hk => (⟨hk, hk.2⟩ : _ ∧ k_ ≠ gb292))) (fun _ hk => hk.2) (.int .i64 5)) (fun _ hk => hk.2) (.int .i64 0)) (fun _ hk => hk.2) (.slice none 0 0)) (fun _ hk => hk.2) (.slice none 0 0)) (fun _ hk => hk.2) (.slice none 0 0)) (fun _ hk => ⟨hk.1.1.1.1, ⟨hk.1.1.1.2, ⟨hk.1.1.2, hk.1.2⟩⟩⟩)⟩
           have n2_ : Aside0 ((((((w18.setCell ⟨gb292, 0, none⟩ (.int .i64 5)).setCell ⟨gb292, 1, none⟩ (.int .i64 0)).setCell ⟨gb292, 2, none⟩ (.slice none 0 0)).setCell ⟨gb292, 3, none⟩ (.slice none 0 0)).setCell ⟨gb292, 4, none⟩ (.slice none 0 0)).heap[gb290]? = some (.cells #[.int .i64 a0_0, .int .i64 a0_1, .slice A0_2 l0_2.length c0_2, .slice A0_3 l0_3.length c0_3, .slice A0_4 l0_4.length c0_4] 30 (0, 0))) := ⟨by (with_reducible repeat (first | refine blk_drewN ?_ _ | refine blk_drew ?_ | refine blk_alloc ?_ _)); refine blk_far ?_ NB290_292.out _; (with_reducible repeat (first | refine blk_drewN ?_ _ | refine blk_drew ?_ | refine blk_alloc ?_ _)); refine blk_far ?_ NB290_292.out _; (with_reducible repeat (first | refine blk_drewN ?_ _ | refine blk_drew ?_ | refine blk_alloc ?_ _)); refine blk_far ?_ NB290_292.out _; (with_reducible repeat (first | refine blk_drewN ?_ _ | refine blk_drew ?_ | refine blk_alloc ?_ _)); refine blk_far ?_ NB290_292.out _; (with_reducible repeat (first | refine blk_drewN ?_ _ | refine blk_drew ?_ | refine blk_alloc ?_ _)); refine blk_far ?_ NB290_292.out _; (with_reducible repeat (first | refine blk_drewN ?_ _ | refine blk_drew ?_ | refine blk_alloc ?_ _)); exact BK290.out⟩
           have n3_ : Aside0 ((((((w18.setCell ⟨gb292, 0, none⟩ (.int .i64 5)).setCell ⟨gb292, 1, none⟩ (.int .i64 0)).setCell ⟨gb292, 2, none⟩ (.slice none 0 0)).setCell ⟨gb292, 3, none⟩ (.slice none 0 0)).setCell ⟨gb292, 4, none⟩ (.slice none 0 0)).heap[gb291]? = some (.cells #[.int .i64 0, .int .i64 0, .slice none 0 0, .slice none 0 0, .slice none 0 0] 30 (0, 0))) := ⟨by (with_reducible repeat (first | refine blk_drewN ?_ _ | refine blk_drew ?_ | refine blk_alloc ?_ _)); refine blk_far ?_ NB291_292.out _; (with_reducible repeat (first | refine blk_drewN ?_ _ | refine blk_drew ?_ | refine blk_alloc ?_ _)); refine blk_far ?_ NB291_292.out _; (with_reducible repeat (first | refine blk_drewN ?_ _ | refine blk_drew ?_ | refine blk_alloc ?_ _)); refine blk_far ?_ NB291_292.out _; (with_reducible repeat (first | refine blk_drewN ?_ _ | refine blk_drew ?_ | refine blk_alloc ?_ _)); refine blk_far ?_ NB291_292.out _; (with_reducible repeat (first | refine blk_drewN ?_ _ | refine blk_drew ?_ | refine blk_alloc ?_ _)); refine blk_far ?_ NB291_292.out _; (with_reducible repeat (first | refine blk_drewN ?_ _ | refine blk_drew ?_ | refine blk_alloc ?_ _)); exact BK291.out⟩
           have n4_ : Aside0 ((((((w18.setCell ⟨gb292, 0, none⟩ (.int .i64 5)).setCell ⟨gb292, 1, none⟩ (.int .i64 0)).setCell ⟨gb292, 2, none⟩ (.slice none 0 0)).setCell ⟨gb292, 3, none⟩ (.slice none 0 0)).setCell ⟨gb292, 4, none⟩ (.slice none 0 0)).heap[gb292]? = some (.cells #[.int .i64 5, .int .i64 0, .slice none 0 0, .slice none 0 0, .slice none 0 0] 30 (0, 0))) := ⟨by (with_reducible repeat (first | refine blk_drewN ?_ _ | refine blk_drew ?_ | refine blk_alloc ?_ _)); refine blk_put (cs := #[.int .i64 5, .int .i64 0, .slice none 0 0, .slice none 0 0, .slice none 0 0]) ?_ 4 _ rfl; (with_reducible repeat (first | refine blk_drewN ?_ _ | refine blk_drew ?_ | refine blk_alloc ?_ _)); refine blk_put (cs := #[.int .i64 5, .int .i64 0, .slice none 0 0, .slice none 0 0, .slice none 0 0]) ?_ 3 _ rfl; (with_reducible repeat (first | refine blk_drewN ?_ _ | refine blk_drew ?_ | refine blk_alloc ?_ _)); refine blk_put (cs := #[.int .i64 5, .int .i64 0, .slice none 0 0, .slice none 0 0, .slice none 0 0]) ?_ 2 _ rfl; (with_reducible repeat (first | refine blk_drewN ?_ _ | refine blk_drew ?_ | refine blk_alloc ?_ _)); refine blk_put (cs := #[.int .i64 5, .int .i64 0, .slice none 0 0, .slice none 0 0, .slice none 0 0]) ?_ 1 _ rfl; (with_reducible repeat (first | refine blk_drewN ?_ _ | refine blk_drew ?_ | refine blk_alloc ?_ _)); refine blk_put (cs := #[.int .i64 0, .int .i64 0, .slice none 0 0, .slice none 0 0, .slice none 0 0]) ?_ 0 _ rfl; (with_reducible repeat (first | refine blk_drewN ?_ _ | refine blk_drew ?_ | refine blk_alloc ?_ _)); exact BK292.out⟩
           have n5_ : Aside0 (Below w.heap.size w (((((w18.setCell ⟨gb292, 0, none⟩ (.int .i64 5)).setCell ⟨gb292, 1, none⟩ (.int .i64 0)).setCell ⟨gb292, 2, none⟩ (.slice none 0 0)).setCell ⟨gb292, 3, none⟩ (.slice none 0 0)).setCell ⟨gb292, 4, none⟩ (.slice none 0 0))) := ⟨bw⟩
           (try clear HO0_3)
           (try clear HO0_4)
           (try clear BK290)
           (try clear BK291)
           (try clear BK292)
           (try clear HB)
           generalize (((((w18.setCell ⟨gb292, 0, none⟩ (.int .i64 5)).setCell ⟨gb292, 1, none⟩ (.int .i64 0)).setCell ⟨gb292, 2, none⟩ (.slice none 0 0)).setCell ⟨gb292, 3, none⟩ (.slice none 0 0)).setCell ⟨gb292, 4, none⟩ (.slice none 0 0)) = w22 at n0_ n1_ n2_ n3_ n4_ n5_ ⊢
           have HO0_3 := n0_
           have HO0_4 := n1_
           have BK290 := n2_
           have BK291 := n3_
           have BK292 := n4_
           have HB := Bw.mk (w := w) n5_.out
           clear n0_ n1_ n2_ n3_ n4_ n5_
           replace HO0_3 := Aside0.mk (Kd.V_drew HO0_3.out)
           replace HO0_4 := Aside0.mk (Kd.V_drew HO0_4.out)
           replace BK290 := Aside0.mk (blk_drew BK290.out)
           replace BK291 := Aside0.mk (blk_drew BK291.out)
           replace BK292 := Aside0.mk (blk_drew BK292.out)
           replace HB := Bw.mk (w := w) (below_drew1 HB.out)
           have q24 : (a1 : Int) ≤ ((l0_3.length : Int) : Int) := of_decide_eq_true (by first | (with_reducible assumption) | assumption)
           obtain ⟨i024, hi024, _, hsz24, _⟩ := info_parts info22
           have hroom24 : l0_3.length ≤ c0_3 := (Kd.V_reads' HO0_3.out).2.1
           have hC24 : Kd.F (Kd.slice 5 (Kd.int .u8)) _ _ A0_3 l0_3.length l0_3 := (Kd.V_at (base := w.heap.size) HO0_3.out).2.2
           have hcut24 := cut_to (P := Try.prog) 23 22 .i64 Try.underlying23 hi024 A0_3 l0_3.length c0_3 a1 (of_decide_eq_true (by first | (with_reducible assumption) | assumption)) q24 hroom24
           have hr24 := Kd.F_take (m := (a1 : Int).toNat) hC24 (by omega)
           have hy24 : y293.length = (a1 : Int).toNat := (by rw [Ny293.out, List.length_take]; omega)
           rw [← Ny293.out] at hr24
           rw [← hy24] at hcut24
           have HO297 := Aside0.mk (show Kd.V (Kd.slice 5 (Kd.int .u8)) 22 _ w.heap.size _ (.slice A0_3 y293.length c0_3) y293 from Kd.V_mk (by omega) hr24)
           have HC297 := Aside0.mk (show y293.length ≤ c0_3 from by omega)
           clear hr24 hC24 hroom24 hi024 hsz24
           have KY24 := Aside0.mk hy24
           clear hy24
           replace q24 := eq_true q24
           have q25 : ((ji6) : Int) ≤ ((l0_3.length : Int) : Int) := of_decide_eq_true (by first | (with_reducible assumption) | assumption)
           obtain ⟨i025, hi025, _, hsz25, _⟩ := info_parts info22
           have hroom25 : l0_3.length ≤ c0_3 := (Kd.V_reads' HO0_3.out).2.1
           have hC25 : Kd.F (Kd.slice 5 (Kd.int .u8)) _ _ A0_3 l0_3.length l0_3 := (Kd.V_at (base := w.heap.size) HO0_3.out).2.2
           have q025 : (0 : Int) ≤ ((ji6) : Int) := of_decide_eq_true (by first | (with_reducible assumption) | assumption)
           have hcut25 := cut_from (P := Try.prog) 23 22 .i64 Try.underlying23 hi025 1 hsz25 A0_3 l0_3.length c0_3 (ji6) q025 q25
           have hr25 := Kd.F_cut (m := ((ji6) : Int).toNat) (c := c0_3) hC25 (by omega) hroom25
           obtain ⟨A25, hA25⟩ : ∃ A1, A1 = (if c0_3 = ((ji6) : Int).toNat then A0_3 else (A0_3 : Option Addr).map (·.add (((ji6) : Int).toNat * 1))) := ⟨_, rfl⟩
           obtain ⟨c25, hc25⟩ : ∃ c1, c1 = c0_3 - ((ji6) : Int).toNat := ⟨_, rfl⟩
           have hy25 : y301.length = l0_3.length - ((ji6) : Int).toNat := (by rw [Ny301.out, List.length_drop] <;> omega)
           rw [show (l0_3).drop ((ji6) : Int).toNat = y301 from Ny301.out.symm] at hr25
           replace hr25 : Kd.F (Kd.slice 5 (Kd.int .u8)) _ _ A25 y301.length y301 := (by rw [hA25]; exact hr25)
           rw [← hy25, ← hA25, ← hc25] at hcut25
           have HO305 := Aside0.mk (show Kd.V (Kd.slice 5 (Kd.int .u8)) 22 _ w.heap.size _ (.slice A25 y301.length c25) y301 from Kd.V_mk (by rw [hy25, hc25]; exact Nat.sub_le_sub_right hroom25 _) hr25)
           have HC305 := Aside0.mk (show y301.length ≤ c25 from by rw [hy25, hc25]; exact Nat.sub_le_sub_right hroom25 _)
           clear hr25 hC25 hroom25 hi025 hsz25 hc25
           have KY25 := Aside0.mk hy25
           have KA25 := Aside0.mk hA25
           clear hy25 hA25
           replace q25 := eq_true q25
           refine start_ (n := 15) (S := fun w' => w'.cell? ⟨gb292, 0, none⟩ = some (.int .i64 5) ∧ w'.cell? ⟨gb292, 1, none⟩ = some (.int .i64 0) ∧ w'.cell? ⟨gb292, 2, none⟩ = some (.slice none 0 0) ∧ w'.cell? ⟨gb292, 3, none⟩ = some (.slice none 0 0) ∧ w'.cell? ⟨gb292, 4, none⟩ = some (.slice none 0 0) ∧ w'.cell? ⟨gb290, 0, none⟩ = some (.int .i64 a0_0) ∧ w'.cell? ⟨gb290, 1, none⟩ = some (.int .i64 a0_1) ∧ w'.cell? ⟨gb290, 2, none⟩ = some (.slice A0_2 l0_2.length c0_2) ∧ w'.cell? ⟨gb290, 3, none⟩ = some (.slice A0_3 l0_3.length c0_3) ∧ w'.cell? ⟨gb290, 4, none⟩ = some (.slice A0_4 l0_4.length c0_4)) (ds := [14]) #[false, false, false, false, false, false, false, false, false, false, false, false, false, false, false] (by kernel_rfl) rfl rfl ⟨(blk_cell BK292.out 0).trans rfl, (blk_cell BK292.out 1).trans rfl, (blk_cell BK292.out 2).trans rfl, (blk_cell BK292.out 3).trans rfl, (blk_cell BK292.out 4).trans rfl, (blk_cell BK290.out 0).trans rfl, (blk_cell BK290.out 1).trans rfl, (blk_cell BK290.out 2).trans rfl, (blk_cell BK290.out 3).trans rfl, (blk_cell BK290.out 4).trans rfl⟩ (fun hHeld => ?_); refine with_tabW spec_l2drop.tab2 spec_l2drop.bits2 (fun HT_ HW_ => ?_)
           generalize w22.drew = w23 at HO0_3 HO0_4 BK290 BK291 BK292 HB HO297 HO305 hHeld ⊢
           refine pure_ (i := 0) (N := some 7) (v := ?_) (a' := ?_) #[true, false, false, false, false, false, false, false, false, false, false, false, false, false, false] rfl rfl (any_of HT_.out (by kernel_rfl)) (fun _ _ _ h => h) (Or.inl ⟨by rfl, ?_⟩) ?_ ?_
           rotate_left
           ·intro w'
            go_simp
            with_reducible rfl
           rotate_left
           ·simp only [Act.put, List.setIfInBounds_toArray, List.set_cons_zero, List.set_cons_succ, i64_w, i32_w]
            rfl
           refine pure_ (i := 2) (N := some 9) (v := ?_) (a' := ?_) #[true, false, true, false, false, false, false, false, false, false, false, false, false, false, false] rfl rfl (any_of HT_.out (by kernel_rfl)) (fun _ _ _ h => h) (Or.inl ⟨by rfl, ?_⟩) ?_ ?_
           rotate_left
           ·intro w'
            go_simp
            with_reducible rfl
           rotate_left
           ·simp only [Act.put, List.setIfInBounds_toArray, List.set_cons_zero, List.set_cons_succ, i64_w, i32_w]
            rfl
           refine pure_ (i := 4) (N := some 11) (v := ?_) (a' := ?_) #[true, false, true, false, true, false, false, false, false, false, false, false, false, false, false] rfl rfl (any_of HT_.out (by kernel_rfl)) (fun _ _ _ h => h) (Or.inl ⟨by rfl, ?_⟩) ?_ ?_
           rotate_left
           ·intro w'
            go_simp
            with_reducible rfl
           rotate_left
           ·simp only [Act.put, List.setIfInBounds_toArray, List.set_cons_zero, List.set_cons_succ, i64_w, i32_w]
            rfl
           refine pure_ (i := 7) (N := some 14) (v := ?_) (a' := ?_) #[true, false, true, false, true, false, false, true, false, false, false, false, false, false, false] rfl rfl (any_of HT_.out (by kernel_rfl)) (fun _ _ _ h => h) (Or.inl ⟨by rfl, ?_⟩) ?_ ?_
           rotate_left
           ·intro w'
            go_simp
            with_reducible rfl
           rotate_left
           ·simp only [Act.put, List.setIfInBounds_toArray, List.set_cons_zero, List.set_cons_succ, i64_w, i32_w]
            rfl
           refine pure_ (i := 9) (N := some 16) (v := ?_) (a' := ?_) #[true, false, true, false, true, false, false, true, false, true, false, false, false, false, false] rfl rfl (any_of HT_.out (by kernel_rfl)) (fun _ _ _ h => h) (Or.inl ⟨by rfl, ?_⟩) ?_ ?_
           rotate_left
           ·intro w'
            go_simp
            with_reducible rfl
           rotate_left
           ·simp only [Act.put, List.setIfInBounds_toArray, List.set_cons_zero, List.set_cons_succ, i64_w, i32_w]
            rfl
           refine pure_ (i := 10) (N := some 17) (v := ?_) (a' := ?_) #[true, false, true, false, true, false, false, true, false, true, true, false, false, false, false] rfl rfl (any_of HT_.out (by kernel_rfl)) (fun _ _ _ h => h) (Or.inl ⟨by rfl, ?_⟩) ?_ ?_
           rotate_left
           ·intro w'
            go_simp
            with_reducible rfl
           rotate_left
           ·simp only [Act.put, List.setIfInBounds_toArray, List.set_cons_zero, List.set_cons_succ, i64_w, i32_w]
            rfl
           refine take_ (i := 1) (N := some 8) (v := ?_) (a' := ?_) #[true, true, true, false, true, false, false, true, false, true, true, false, false, false, false] rfl rfl (take_ofW HT_.out HW_.out (by kernel_rfl)) (fun _ _ _ h => h) (Or.inl ⟨by rfl, ?_⟩) hHeld ?_ ?_
           rotate_left
           ·rintro w' ⟨s0, s1, s2, s3, s4, s5, s6, s7, s8, s9⟩
            go_simp
            with_reducible rfl
           rotate_left
           ·simp only [Act.put, List.setIfInBounds_toArray, List.set_cons_zero, List.set_cons_succ, i64_w, i32_w]
            rfl
           refine take_ (i := 3) (N := some 10) (v := ?_) (a' := ?_) #[true, true, true, true, true, false, false, true, false, true, true, false, false, false, false] rfl rfl (take_ofW HT_.out HW_.out (by kernel_rfl)) (fun _ _ _ h => h) (Or.inl ⟨by rfl, ?_⟩) hHeld ?_ ?_
           rotate_left
           ·rintro w' ⟨s0, s1, s2, s3, s4, s5, s6, s7, s8, s9⟩
            go_simp
            with_reducible rfl
           rotate_left
           ·simp only [Act.put, List.setIfInBounds_toArray, List.set_cons_zero, List.set_cons_succ, i64_w, i32_w]
            rfl
           refine pure_ (i := 5) (N := some 12) (v := ?_) (a' := ?_) #[true, true, true, true, true, true, false, true, false, true, true, false, false, false, false] rfl rfl (any_of HT_.out (by kernel_rfl)) (fun _ _ _ h => h) (Or.inl ⟨by rfl, ?_⟩) ?_ ?_
           rotate_left
           ·intro w'
            go_simp
            with_reducible rfl
           rotate_left
           ·simp only [Act.put, List.setIfInBounds_toArray, List.set_cons_zero, List.set_cons_succ, i64_w, i32_w]
            rfl
           refine take_ (i := 8) (N := some 15) (v := ?_) (a' := ?_) #[true, true, true, true, true, true, false, true, true, true, true, false, false, false, false] rfl rfl (take_ofW HT_.out HW_.out (by kernel_rfl)) (fun _ _ _ h => h) (Or.inl ⟨by rfl, ?_⟩) hHeld ?_ ?_
           rotate_left
           ·rintro w' ⟨s0, s1, s2, s3, s4, s5, s6, s7, s8, s9⟩
            go_simp
            with_reducible rfl
           rotate_left
           ·simp only [Act.put, List.setIfInBounds_toArray, List.set_cons_zero, List.set_cons_succ, i64_w, i32_w]
            rfl
           refine pure_ (i := 11) (N := some 18) (v := ?_) (a' := ?_) #[true, true, true, true, true, true, false, true, true, true, true, true, false, false, false] rfl rfl (any_of HT_.out (by kernel_rfl)) (fun _ _ _ h => h) (Or.inl ⟨by rfl, ?_⟩) ?_ ?_
           rotate_left
           ·intro w'
            go_simp
            with_reducible rfl
           rotate_left
           ·simp only [Act.put, List.setIfInBounds_toArray, List.set_cons_zero, List.set_cons_succ, i64_w, i32_w]
            rfl
           refine one_ (i := 6) (N := some 13) #[true, true, true, true, true, true, true, true, true, true, true, true, false, false, false] rfl rfl (one_of HT_.out (by kernel_rfl)) (by decide) (fun K hK => ?_)
           refine Kd.N_append_rows_step (Kd.slice 5 (Kd.int .u8)) (w0 := w) w.heap.size (by rfl) (.tmp 8) (.tmp 12) 23 22 (.slice none 0 0) 24 rfl Try.underlying23 info22 rfl (by decide) (by omega) (.slice none 0 0) ([] : List (List Int)) y293 _ _ _ (fun k_ => ((P0_3_ k_ ∨ P0_4_ k_) ∨ w.heap.size ≤ k_) ∧ k_ ≠ gb290 ∧ k_ ≠ gb291 ∧ k_ ≠ gb292) (fun k_ => ((fun k_ => ((P0_3_ k_ ∨ P0_4_ k_) ∨ w.heap.size ≤ k_) ∧ k_ ≠ gb290 ∧ k_ ≠ gb291 ∧ k_ ≠ gb292)) k_ ∧ some k_ ≠ (.slice none 0 0 : Value).ownBlock) rfl rfl ?aO ?aR (fun _ hk => hk) ?aF ?aB ?aS ?aL ?_
           (case aR => exact (by skip; exact Kd.V_F (Kd.V_mono (ok' := (fun k_ => ((fun k_ => ((P0_3_ k_ ∨ P0_4_ k_) ∨ w.heap.size ≤ k_) ∧ k_ ≠ gb290 ∧ k_ ≠ gb291 ∧ k_ ≠ gb292)) k_ ∧ some k_ ≠ (.slice none 0 0 : Value).ownBlock)) (HO297.out) (fun k_ hk => ⟨⟨hk.1, ⟨hk.2.1, ⟨hk.2.2.1, hk.2.2.2⟩⟩⟩, (by simp [Value.ownBlock])⟩))))
           (case aB => exact bw)
           (case aF => exact (fun k_ hk => ⟨(.inr (Nat.le_trans (bzz w) hk)), Kd.freshB (g := gb290) (o := .cells #[.int .i64 a0_0, .int .i64 a0_1, .slice A0_2 l0_2.length c0_2, .slice A0_3 l0_3.length c0_3, .slice A0_4 l0_4.length c0_4] 30 (0, 0)) (by (with_reducible repeat (first | refine blk_drewN ?_ _ | refine blk_drew ?_ | refine blk_alloc ?_ _)); exact BK290.out) k_ hk, Kd.freshB (g := gb291) (o := .cells #[.int .i64 0, .int .i64 0, .slice none 0 0, .slice none 0 0, .slice none 0 0] 30 (0, 0)) (by (with_reducible repeat (first | refine blk_drewN ?_ _ | refine blk_drew ?_ | refine blk_alloc ?_ _)); exact BK291.out) k_ hk, Kd.freshB (g := gb292) (o := .cells #[.int .i64 5, .int .i64 0, .slice none 0 0, .slice none 0 0, .slice none 0 0] 30 (0, 0)) (by (with_reducible repeat (first | refine blk_drewN ?_ _ | refine blk_drew ?_ | refine blk_alloc ?_ _)); exact BK292.out) k_ hk⟩))
           (case aO => exact ((Kd.N_nil _ _ _ _ (fun k_ => ((P0_3_ k_ ∨ P0_4_ k_) ∨ w.heap.size ≤ k_) ∧ k_ ≠ gb290 ∧ k_ ≠ gb291 ∧ k_ ≠ gb292))))
           (case aS => exact (bzz w))
           (case aL => have := LMc5.out; omega)
           intro v299 w26 ho hb hg hat
           rw [← Ny298.out] at ho
           replace HO0_3 := Aside0.mk (Kd.V_afterv (Kd.V_apart_nil (by (with_reducible repeat (first | apply Kd.V_alloc | apply Kd.V_drewN | apply Kd.V_drew)); exact HO0_3.out)) hg hat)
           replace HO0_4 := Aside0.mk (Kd.V_afterv (Kd.V_apart_nil (by (with_reducible repeat (first | apply Kd.V_alloc | apply Kd.V_drewN | apply Kd.V_drew)); exact HO0_4.out)) hg hat)
           replace BK290 := Aside0.mk (blk_grown (g := gb290) (o := .cells #[.int .i64 a0_0, .int .i64 a0_1, .slice A0_2 l0_2.length c0_2, .slice A0_3 l0_3.length c0_3, .slice A0_4 l0_4.length c0_4] 30 (0, 0)) (by (with_reducible repeat (first | refine blk_drewN ?_ _ | refine blk_drew ?_ | refine blk_alloc ?_ _)); exact BK290.out) hg (by simp [Value.ownBlock]))
           replace BK291 := Aside0.mk (blk_grown (g := gb291) (o := .cells #[.int .i64 0, .int .i64 0, .slice none 0 0, .slice none 0 0, .slice none 0 0] 30 (0, 0)) (by (with_reducible repeat (first | refine blk_drewN ?_ _ | refine blk_drew ?_ | refine blk_alloc ?_ _)); exact BK291.out) hg (by simp [Value.ownBlock]))
           replace BK292 := Aside0.mk (blk_grown (g := gb292) (o := .cells #[.int .i64 5, .int .i64 0, .slice none 0 0, .slice none 0 0, .slice none 0 0] 30 (0, 0)) (by (with_reducible repeat (first | refine blk_drewN ?_ _ | refine blk_drew ?_ | refine blk_alloc ?_ _)); exact BK292.out) hg (by simp [Value.ownBlock]))
           replace HO297 := Aside0.mk (Kd.V_afterv (Kd.V_apart_nil (by (with_reducible repeat (first | apply Kd.V_alloc | apply Kd.V_drewN | apply Kd.V_drew)); exact HO297.out)) hg hat)
           replace HO305 := Aside0.mk (Kd.V_afterv (Kd.V_apart_nil (by (with_reducible repeat (first | apply Kd.V_alloc | apply Kd.V_drewN | apply Kd.V_drew)); exact HO305.out)) hg hat)
           replace HB := Bw.mk (w := w) (hb)
           have HO300 := Aside0.mk (ho)
           clear ho hb hg hat
           refine hK.out _ _ ⟨(blk_cell BK292.out 0).trans rfl, (blk_cell BK292.out 1).trans rfl, (blk_cell BK292.out 2).trans rfl, (blk_cell BK292.out 3).trans rfl, (blk_cell BK292.out 4).trans rfl, (blk_cell BK290.out 0).trans rfl, (blk_cell BK290.out 1).trans rfl, (blk_cell BK290.out 2).trans rfl, (blk_cell BK290.out 3).trans rfl, (blk_cell BK290.out 4).trans rfl⟩ (fun hHeld => ?_)
           clear hK K
           refine norm_ (a' := ?_) ?_ ?_
           rotate_left
           ·show Act.put _ (some 13) _ = _
            simp only [Act.put, List.setIfInBounds_toArray, List.set_cons_zero, List.set_cons_succ, i64_w, i32_w]
            rfl
           refine one_ (i := 12) (N := some 19) #[true, true, true, true, true, true, true, true, true, true, true, true, true, false, false] rfl rfl (one_of HT_.out (by kernel_rfl)) (by decide) (fun K hK => ?_)
           refine Kd.N_append_rows_step (Kd.slice 5 (Kd.int .u8)) (w0 := w) w.heap.size (by rfl) (.tmp 13) (.tmp 18) 23 22 (.slice none 0 0) 24 rfl Try.underlying23 info22 rfl (by decide) (by omega) v299 y298 y301 _ _ _ (fun k_ => ((P0_3_ k_ ∨ P0_4_ k_) ∨ w.heap.size ≤ k_) ∧ k_ ≠ gb290 ∧ k_ ≠ gb291 ∧ k_ ≠ gb292) (fun k_ => ((fun k_ => ((P0_3_ k_ ∨ P0_4_ k_) ∨ w.heap.size ≤ k_) ∧ k_ ≠ gb290 ∧ k_ ≠ gb291 ∧ k_ ≠ gb292)) k_ ∧ some k_ ≠ (v299 : Value).ownBlock) rfl rfl ?aO ?aR (fun _ hk => hk) ?aF ?aB ?aS ?aL ?_
           (case aR => exact (by skip; exact Kd.V_F (Kd.V_mono (ok' := (fun k_ => ((fun k_ => ((P0_3_ k_ ∨ P0_4_ k_) ∨ w.heap.size ≤ k_) ∧ k_ ≠ gb290 ∧ k_ ≠ gb291 ∧ k_ ≠ gb292)) k_ ∧ some k_ ≠ (v299 : Value).ownBlock)) (HO305.out) (fun k_ hk => ⟨⟨hk.1.1, ⟨hk.1.2.1, ⟨hk.1.2.2.1, hk.1.2.2.2⟩⟩⟩, hk.2⟩))))
           (case aB => exact bw)
           (case aF => exact (fun k_ hk => ⟨(.inr (Nat.le_trans (bzz w) hk)), Kd.freshB (g := gb290) (o := .cells #[.int .i64 a0_0, .int .i64 a0_1, .slice A0_2 l0_2.length c0_2, .slice A0_3 l0_3.length c0_3, .slice A0_4 l0_4.length c0_4] 30 (0, 0)) (by (with_reducible repeat (first | refine blk_drewN ?_ _ | refine blk_drew ?_ | refine blk_alloc ?_ _)); exact BK290.out) k_ hk, Kd.freshB (g := gb291) (o := .cells #[.int .i64 0, .int .i64 0, .slice none 0 0, .slice none 0 0, .slice none 0 0] 30 (0, 0)) (by (with_reducible repeat (first | refine blk_drewN ?_ _ | refine blk_drew ?_ | refine blk_alloc ?_ _)); exact BK291.out) k_ hk, Kd.freshB (g := gb292) (o := .cells #[.int .i64 5, .int .i64 0, .slice none 0 0, .slice none 0 0, .slice none 0 0] 30 (0, 0)) (by (with_reducible repeat (first | refine blk_drewN ?_ _ | refine blk_drew ?_ | refine blk_alloc ?_ _)); exact BK292.out) k_ hk⟩))
           (case aO => exact (by (with_reducible repeat (first | apply Kd.N_alloc | apply Kd.N_drewN | apply Kd.N_drew)); exact HO300.out))
           (case aS => exact (bzz w))
           (case aL => have := LMc9.out; omega)
           intro v307 w27 ho hb hg hat
           rw [← Ny306.out] at ho
           replace HO0_3 := Aside0.mk (Kd.V_afterv (ok := (fun k_ => ((P0_3_ k_ ∨ P0_4_ k_) ∨ w.heap.size ≤ k_) ∧ k_ ≠ gb290 ∧ k_ ≠ gb291 ∧ k_ ≠ gb292)) (by (with_reducible repeat (first | apply Kd.V_alloc | apply Kd.V_drewN | apply Kd.V_drew)); exact HO0_3.out) hg hat)
           replace HO0_4 := Aside0.mk (Kd.V_afterv (ok := (fun k_ => ((P0_3_ k_ ∨ P0_4_ k_) ∨ w.heap.size ≤ k_) ∧ k_ ≠ gb290 ∧ k_ ≠ gb291 ∧ k_ ≠ gb292)) (by (with_reducible repeat (first | apply Kd.V_alloc | apply Kd.V_drewN | apply Kd.V_drew)); exact HO0_4.out) hg hat)
           replace BK290 := Aside0.mk (blk_grown (g := gb290) (o := .cells #[.int .i64 a0_0, .int .i64 a0_1, .slice A0_2 l0_2.length c0_2, .slice A0_3 l0_3.length c0_3, .slice A0_4 l0_4.length c0_4] 30 (0, 0)) (by (with_reducible repeat (first | refine blk_drewN ?_ _ | refine blk_drew ?_ | refine blk_alloc ?_ _)); exact BK290.out) hg (Kd.N_ne HO300.out BK290.out (by decide)))
           replace BK291 := Aside0.mk (blk_grown (g := gb291) (o := .cells #[.int .i64 0, .int .i64 0, .slice none 0 0, .slice none 0 0, .slice none 0 0] 30 (0, 0)) (by (with_reducible repeat (first | refine blk_drewN ?_ _ | refine blk_drew ?_ | refine blk_alloc ?_ _)); exact BK291.out) hg (Kd.N_ne HO300.out BK291.out (by decide)))
           replace BK292 := Aside0.mk (blk_grown (g := gb292) (o := .cells #[.int .i64 5, .int .i64 0, .slice none 0 0, .slice none 0 0, .slice none 0 0] 30 (0, 0)) (by (with_reducible repeat (first | refine blk_drewN ?_ _ | refine blk_drew ?_ | refine blk_alloc ?_ _)); exact BK292.out) hg (Kd.N_ne HO300.out BK292.out (by decide)))
           replace HO297 := Aside0.mk (Kd.V_afterv (ok := (fun k_ => ((P0_3_ k_ ∨ P0_4_ k_) ∨ w.heap.size ≤ k_) ∧ k_ ≠ gb290 ∧ k_ ≠ gb291 ∧ k_ ≠ gb292)) (by (with_reducible repeat (first | apply Kd.V_alloc | apply Kd.V_drewN | apply Kd.V_drew)); exact HO297.out) hg hat)
           replace HO305 := Aside0.mk (Kd.V_afterv (ok := (fun k_ => ((P0_3_ k_ ∨ P0_4_ k_) ∨ w.heap.size ≤ k_) ∧ k_ ≠ gb290 ∧ k_ ≠ gb291 ∧ k_ ≠ gb292)) (by (with_reducible repeat (first | apply Kd.V_alloc | apply Kd.V_drewN | apply Kd.V_drew)); exact HO305.out) hg hat)
           replace HB := Bw.mk (w := w) (hb)
           have HO308 := Aside0.mk (ho)
           clear HO300
           clear ho hb hg hat
           obtain ⟨Ao28, co28, eo28⟩ := Kd.N_slice HO308.out
           (first | subst eo28 | (injection eo28 with f1_ f2_ f3_; have f4_ := f1_.symm; have f5_ := f3_.symm; clear f1_ f2_ f3_; subst f4_; subst f5_))
           refine hK.out _ _ ⟨(blk_cell BK292.out 0).trans rfl, (blk_cell BK292.out 1).trans rfl, (blk_cell BK292.out 2).trans rfl, (blk_cell BK292.out 3).trans rfl, (blk_cell BK292.out 4).trans rfl, (blk_cell BK290.out 0).trans rfl, (blk_cell BK290.out 1).trans rfl, (blk_cell BK290.out 2).trans rfl, (blk_cell BK290.out 3).trans rfl, (blk_cell BK290.out 4).trans rfl⟩ (fun hHeld => ?_)
           clear hK K
           refine norm_ (a' := ?_) ?_ ?_
           rotate_left
           ·show Act.put _ (some 19) _ = _
            simp only [Act.put, List.setIfInBounds_toArray, List.set_cons_zero, List.set_cons_succ, i64_w, i32_w]
            rfl
           refine pure_ (i := 13) (N := some 20) (v := ?_) (a' := ?_) #[true, true, true, true, true, true, true, true, true, true, true, true, true, true, false] rfl rfl (any_of HT_.out (by kernel_rfl)) (fun _ _ _ h => h) (Or.inl ⟨by rfl, ?_⟩) ?_ ?_
           rotate_left
           ·intro w'
            go_simp
            with_reducible rfl
           rotate_left
           ·simp only [Act.put, List.setIfInBounds_toArray, List.set_cons_zero, List.set_cons_succ, i64_w, i32_w]
            rfl
           refine last_ (i := 14) (N := none) #[true, true, true, true, true, true, true, true, true, true, true, true, true, true, true] rfl rfl (one_of HT_.out (by kernel_rfl)) (by decide) (fun K hK => ?_)
           have hs29 : w27.cell? ⟨gb292, 3, none⟩ = some (.slice none 0 0) := (blk_cell BK292.out 3).trans rfl
           have hfs29 := blk_frozen BK292.out 3
           have hns29_0 := NB290_292.out
           have hns29_1 := NB291_292.out
           have hms29_0 := NB292_290.out
           have hms29_1 := NB292_291.out
           refine skip_ (w1 := ?_) (by rfl) rfl ?_ ?_
           rotate_left
           ·go_simp
            rfl
           refine hK.out _ _ ?_
           clear hK K
           refine done_ (done_of HT_.out (by kernel_rfl)) ?_
           try go_wp2
           have n0_ : Aside0 (Kd.V (Kd.slice 5 (Kd.int .u8)) 22 (w27.setCell ⟨gb292, 3, none⟩ (.slice Ao28 y306.length co28)) w.heap.size (fun k_ => ((P0_3_ k_ ∨ P0_4_ k_) ∨ w.heap.size ≤ k_) ∧ some k_ ≠ (.slice Ao28 y306.length co28 : Value).ownBlock ∧ k_ ≠ gb290 ∧ k_ ≠ gb291 ∧ k_ ≠ gb292) (.slice A0_3 l0_3.length c0_3) l0_3) := ⟨by (with_reducible repeat (first | apply Kd.V_alloc | apply Kd.V_drewN | apply Kd.V_drew)); exact Kd.V_mono (Kd.V_far (p := ⟨gb292, 3, none⟩) (Kd.V_mono HO0_3.out (fun k_ hk => (⟨hk, hk.1.2.2.2⟩ : _ ∧ k_ ≠ gb292))) (fun _ hk => hk.2) (.slice Ao28 y306.length co28)) (fun _ hk => ⟨hk.1.1.1, ⟨hk.1.2, ⟨hk.1.1.2.1, ⟨hk.1.1.2.2.1, hk.1.1.2.2.2⟩⟩⟩⟩)⟩
           have n1_ : Aside0 (Kd.V k30 30 (w27.setCell ⟨gb292, 3, none⟩ (.slice Ao28 y306.length co28)) w.heap.size (fun k_ => ((P0_3_ k_ ∨ P0_4_ k_) ∨ w.heap.size ≤ k_) ∧ some k_ ≠ (.slice Ao28 y306.length co28 : Value).ownBlock ∧ k_ ≠ gb290 ∧ k_ ≠ gb291 ∧ k_ ≠ gb292) (.slice A0_4 l0_4.length c0_4) l0_4) := ⟨by (with_reducible repeat (first | apply Kd.V_alloc | apply Kd.V_drewN | apply Kd.V_drew)); exact Kd.V_mono (Kd.V_far (p := ⟨gb292, 3, none⟩) (Kd.V_mono HO0_4.out (fun k_ hk => (⟨hk, hk.1.2.2.2⟩ : _ ∧ k_ ≠ gb292))) (fun _ hk => hk.2) (.slice Ao28 y306.length co28)) (fun _ hk => ⟨hk.1.1.1, ⟨hk.1.2, ⟨hk.1.1.2.1, ⟨hk.1.1.2.2.1, hk.1.1.2.2.2⟩⟩⟩⟩)⟩
           have n2_ : Aside0 (Kd.V (Kd.slice 5 (Kd.int .u8)) 22 (w27.setCell ⟨gb292, 3, none⟩ (.slice Ao28 y306.length co28)) w.heap.size (fun k_ => ((P0_3_ k_ ∨ P0_4_ k_) ∨ w.heap.size ≤ k_) ∧ some k_ ≠ (.slice Ao28 y306.length co28 : Value).ownBlock ∧ k_ ≠ gb290 ∧ k_ ≠ gb291 ∧ k_ ≠ gb292) (.slice A0_3 y293.length c0_3) y293) := ⟨by (with_reducible repeat (first | apply Kd.V_alloc | apply Kd.V_drewN | apply Kd.V_drew)); exact Kd.V_mono (Kd.V_far (p := ⟨gb292, 3, none⟩) (Kd.V_mono HO297.out (fun k_ hk => (⟨hk, hk.1.2.2.2⟩ : _ ∧ k_ ≠ gb292))) (fun _ hk => hk.2) (.slice Ao28 y306.length co28)) (fun _ hk => ⟨hk.1.1.1, ⟨hk.1.2, ⟨hk.1.1.2.1, ⟨hk.1.1.2.2.1, hk.1.1.2.2.2⟩⟩⟩⟩)⟩
           have n3_ : Aside0 (Kd.V (Kd.slice 5 (Kd.int .u8)) 22 (w27.setCell ⟨gb292, 3, none⟩ (.slice Ao28 y306.length co28)) w.heap.size (fun k_ => ((P0_3_ k_ ∨ P0_4_ k_) ∨ w.heap.size ≤ k_) ∧ some k_ ≠ (.slice Ao28 y306.length co28 : Value).ownBlock ∧ k_ ≠ gb290 ∧ k_ ≠ gb291 ∧ k_ ≠ gb292) (.slice A25 y301.length c25) y301) := ⟨by (with_reducible repeat (first | apply Kd.V_alloc | apply Kd.V_drewN | apply Kd.V_drew)); exact Kd.V_mono (Kd.V_far (p := ⟨gb292, 3, none⟩) (Kd.V_mono HO305.out (fun k_ hk => (⟨hk, hk.1.2.2.2⟩ : _ ∧ k_ ≠ gb292))) (fun _ hk => hk.2) (.slice Ao28 y306.length co28)) (fun _ hk => ⟨hk.1.1.1, ⟨hk.1.2, ⟨hk.1.1.2.1, ⟨hk.1.1.2.2.1, hk.1.1.2.2.2⟩⟩⟩⟩)⟩
           have n4_ : Aside0 (Kd.N (Kd.slice 5 (Kd.int .u8)) 22 (w27.setCell ⟨gb292, 3, none⟩ (.slice Ao28 y306.length co28)) w.heap.size (fun k_ => ((P0_3_ k_ ∨ P0_4_ k_) ∨ w.heap.size ≤ k_) ∧ k_ ≠ gb290 ∧ k_ ≠ gb291 ∧ k_ ≠ gb292) (.slice Ao28 y306.length co28) y306) := ⟨by (with_reducible repeat (first | apply Kd.N_alloc | apply Kd.N_drewN | apply Kd.N_drew)); exact Kd.N_mono (Kd.N_far (p := ⟨gb292, 3, none⟩) (Kd.N_mono HO308.out (fun k_ hk => (⟨hk, hk.2.2.2⟩ : _ ∧ k_ ≠ gb292))) (fun _ hk => hk.2) (.slice Ao28 y306.length co28)) (fun _ hk => ⟨hk.1.1, ⟨hk.1.2.1, ⟨hk.1.2.2.1, hk.1.2.2.2⟩⟩⟩)⟩
           have n5_ : Aside0 ((w27.setCell ⟨gb292, 3, none⟩ (.slice Ao28 y306.length co28)).heap[gb290]? = some (.cells #[.int .i64 a0_0, .int .i64 a0_1, .slice A0_2 l0_2.length c0_2, .slice A0_3 l0_3.length c0_3, .slice A0_4 l0_4.length c0_4] 30 (0, 0))) := ⟨by (with_reducible repeat (first | refine blk_drewN ?_ _ | refine blk_drew ?_ | refine blk_alloc ?_ _)); refine blk_far ?_ NB290_292.out _; (with_reducible repeat (first | refine blk_drewN ?_ _ | refine blk_drew ?_ | refine blk_alloc ?_ _)); exact BK290.out⟩
           have n6_ : Aside0 ((w27.setCell ⟨gb292, 3, none⟩ (.slice Ao28 y306.length co28)).heap[gb291]? = some (.cells #[.int .i64 0, .int .i64 0, .slice none 0 0, .slice none 0 0, .slice none 0 0] 30 (0, 0))) := ⟨by (with_reducible repeat (first | refine blk_drewN ?_ _ | refine blk_drew ?_ | refine blk_alloc ?_ _)); refine blk_far ?_ NB291_292.out _; (with_reducible repeat (first | refine blk_drewN ?_ _ | refine blk_drew ?_ | refine blk_alloc ?_ _)); exact BK291.out⟩
           have n7_ : Aside0 ((w27.setCell ⟨gb292, 3, none⟩ (.slice Ao28 y306.length co28)).heap[gb292]? = some (.cells #[.int .i64 5, .int .i64 0, .slice none 0 0, .slice Ao28 y306.length co28, .slice none 0 0] 30 (0, 0))) := ⟨by (with_reducible repeat (first | refine blk_drewN ?_ _ | refine blk_drew ?_ | refine blk_alloc ?_ _)); refine blk_put (cs := #[.int .i64 5, .int .i64 0, .slice none 0 0, .slice none 0 0, .slice none 0 0]) ?_ 3 _ rfl; (with_reducible repeat (first | refine blk_drewN ?_ _ | refine blk_drew ?_ | refine blk_alloc ?_ _)); exact BK292.out⟩
           have n8_ : Aside0 (Below w.heap.size w (w27.setCell ⟨gb292, 3, none⟩ (.slice Ao28 y306.length co28))) := ⟨bw⟩
           (try clear HO0_3)
           (try clear HO0_4)
           (try clear HO297)
           (try clear HO305)
           (try clear HO308)
           (try clear BK290)
           (try clear BK291)
           (try clear BK292)
           (try clear HB)
           generalize (w27.setCell ⟨gb292, 3, none⟩ (.slice Ao28 y306.length co28)) = w30 at n0_ n1_ n2_ n3_ n4_ n5_ n6_ n7_ n8_ ⊢
           have HO0_3 := n0_
           have HO0_4 := n1_
           have HO297 := n2_
           have HO305 := n3_
           have HO308 := n4_
           have BK290 := n5_
           have BK291 := n6_
           have BK292 := n7_
           have HB := Bw.mk (w := w) n8_.out
           clear n0_ n1_ n2_ n3_ n4_ n5_ n6_ n7_ n8_
           replace HO0_3 := Aside0.mk (Kd.V_drew HO0_3.out)
           replace HO0_4 := Aside0.mk (Kd.V_drew HO0_4.out)
           replace HO297 := Aside0.mk (Kd.V_drew HO297.out)
           replace HO305 := Aside0.mk (Kd.V_drew HO305.out)
           replace HO308 := Aside0.mk (Kd.N_drew HO308.out)
           replace BK290 := Aside0.mk (blk_drew BK290.out)
           replace BK291 := Aside0.mk (blk_drew BK291.out)
           replace BK292 := Aside0.mk (blk_drew BK292.out)
           replace HB := Bw.mk (w := w) (below_drew1 HB.out)
           have q32 : (a1 : Int) ≤ ((l0_4.length : Int) : Int) := of_decide_eq_true (by first | (with_reducible assumption) | assumption)
           obtain ⟨i032, hi032, _, hsz32, _⟩ := info_parts info30
           have hroom32 : l0_4.length ≤ c0_4 := (Kd.V_reads' HO0_4.out).2.1
           have hC32 : Kd.F k30 _ _ A0_4 l0_4.length l0_4 := (Kd.V_at (base := w.heap.size) HO0_4.out).2.2
           have hcut32 := cut_to (P := Try.prog) 28 30 .i64 Try.underlying28 hi032 A0_4 l0_4.length c0_4 a1 (of_decide_eq_true (by first | (with_reducible assumption) | assumption)) q32 hroom32
           have hr32 := Kd.F_take (m := (a1 : Int).toNat) hC32 (by omega)
           have hy32 : y309.length = (a1 : Int).toNat := (by rw [Ny309.out, List.length_take]; omega)
           rw [← Ny309.out] at hr32
           rw [← hy32] at hcut32
           have HO313 := Aside0.mk (show Kd.V k30 30 _ w.heap.size _ (.slice A0_4 y309.length c0_4) y309 from Kd.V_mk (by omega) hr32)
           have HC313 := Aside0.mk (show y309.length ≤ c0_4 from by omega)
           clear hr32 hC32 hroom32 hi032 hsz32
           have KY32 := Aside0.mk hy32
           clear hy32
           replace q32 := eq_true q32
           have q33 : ((ji6) : Int) ≤ ((l0_4.length : Int) : Int) := of_decide_eq_true (by first | (with_reducible assumption) | assumption)
           obtain ⟨i033, hi033, _, hsz33, _⟩ := info_parts info30
           have hroom33 : l0_4.length ≤ c0_4 := (Kd.V_reads' HO0_4.out).2.1
           have hC33 : Kd.F k30 _ _ A0_4 l0_4.length l0_4 := (Kd.V_at (base := w.heap.size) HO0_4.out).2.2
           have q033 : (0 : Int) ≤ ((ji6) : Int) := of_decide_eq_true (by first | (with_reducible assumption) | assumption)
           have hcut33 := cut_from (P := Try.prog) 28 30 .i64 Try.underlying28 hi033 5 hsz33 A0_4 l0_4.length c0_4 (ji6) q033 q33
           have hr33 := Kd.F_cut (m := ((ji6) : Int).toNat) (c := c0_4) hC33 (by omega) hroom33
           obtain ⟨A33, hA33⟩ : ∃ A1, A1 = (if c0_4 = ((ji6) : Int).toNat then A0_4 else (A0_4 : Option Addr).map (·.add (((ji6) : Int).toNat * 5))) := ⟨_, rfl⟩
           obtain ⟨c33, hc33⟩ : ∃ c1, c1 = c0_4 - ((ji6) : Int).toNat := ⟨_, rfl⟩
           have hy33 : y317.length = l0_4.length - ((ji6) : Int).toNat := (by rw [Ny317.out, List.length_drop] <;> omega)
           rw [show (l0_4).drop ((ji6) : Int).toNat = y317 from Ny317.out.symm] at hr33
           replace hr33 : Kd.F k30 _ _ A33 y317.length y317 := (by rw [hA33]; exact hr33)
           rw [← hy33, ← hA33, ← hc33] at hcut33
           have HO321 := Aside0.mk (show Kd.V k30 30 _ w.heap.size _ (.slice A33 y317.length c33) y317 from Kd.V_mk (by rw [hy33, hc33]; exact Nat.sub_le_sub_right hroom33 _) hr33)
           have HC321 := Aside0.mk (show y317.length ≤ c33 from by rw [hy33, hc33]; exact Nat.sub_le_sub_right hroom33 _)
           clear hr33 hC33 hroom33 hi033 hsz33 hc33
           have KY33 := Aside0.mk hy33
           have KA33 := Aside0.mk hA33
           clear hy33 hA33
           replace q33 := eq_true q33
           refine start_ (n := 15) (S := fun w' => w'.cell? ⟨gb292, 0, none⟩ = some (.int .i64 5) ∧ w'.cell? ⟨gb292, 1, none⟩ = some (.int .i64 0) ∧ w'.cell? ⟨gb292, 2, none⟩ = some (.slice none 0 0) ∧ w'.cell? ⟨gb292, 3, none⟩ = some (.slice Ao28 y306.length co28) ∧ w'.cell? ⟨gb292, 4, none⟩ = some (.slice none 0 0) ∧ w'.cell? ⟨gb290, 0, none⟩ = some (.int .i64 a0_0) ∧ w'.cell? ⟨gb290, 1, none⟩ = some (.int .i64 a0_1) ∧ w'.cell? ⟨gb290, 2, none⟩ = some (.slice A0_2 l0_2.length c0_2) ∧ w'.cell? ⟨gb290, 3, none⟩ = some (.slice A0_3 l0_3.length c0_3) ∧ w'.cell? ⟨gb290, 4, none⟩ = some (.slice A0_4 l0_4.length c0_4)) (ds := [14]) #[false, false, false, false, false, false, false, false, false, false, false, false, false, false, false] (by kernel_rfl) rfl rfl ⟨(blk_cell BK292.out 0).trans rfl, (blk_cell BK292.out 1).trans rfl, (blk_cell BK292.out 2).trans rfl, (blk_cell BK292.out 3).trans rfl, (blk_cell BK292.out 4).trans rfl, (blk_cell BK290.out 0).trans rfl, (blk_cell BK290.out 1).trans rfl, (blk_cell BK290.out 2).trans rfl, (blk_cell BK290.out 3).trans rfl, (blk_cell BK290.out 4).trans rfl⟩ (fun hHeld => ?_); refine with_tabW spec_l2drop.tab3 spec_l2drop.bits3 (fun HT_ HW_ => ?_)
           generalize w30.drew = w31 at HO0_3 HO0_4 HO297 HO305 HO308 BK290 BK291 BK292 HB HO313 HO321 hHeld ⊢
           refine pure_ (i := 0) (N := some 21) (v := ?_) (a' := ?_) #[true, false, false, false, false, false, false, false, false, false, false, false, false, false, false] rfl rfl (any_of HT_.out (by kernel_rfl)) (fun _ _ _ h => h) (Or.inl ⟨by rfl, ?_⟩) ?_ ?_
           rotate_left
           ·intro w'
            go_simp
            with_reducible rfl
           rotate_left
           ·simp only [Act.put, List.setIfInBounds_toArray, List.set_cons_zero, List.set_cons_succ, i64_w, i32_w]
            rfl
           refine pure_ (i := 2) (N := some 23) (v := ?_) (a' := ?_) #[true, false, true, false, false, false, false, false, false, false, false, false, false, false, false] rfl rfl (any_of HT_.out (by kernel_rfl)) (fun _ _ _ h => h) (Or.inl ⟨by rfl, ?_⟩) ?_ ?_
           rotate_left
           ·intro w'
            go_simp
            with_reducible rfl
           rotate_left
           ·simp only [Act.put, List.setIfInBounds_toArray, List.set_cons_zero, List.set_cons_succ, i64_w, i32_w]
            rfl
           refine pure_ (i := 4) (N := some 25) (v := ?_) (a' := ?_) #[true, false, true, false, true, false, false, false, false, false, false, false, false, false, false] rfl rfl (any_of HT_.out (by kernel_rfl)) (fun _ _ _ h => h) (Or.inl ⟨by rfl, ?_⟩) ?_ ?_
           rotate_left
           ·intro w'
            go_simp
            with_reducible rfl
           rotate_left
           ·simp only [Act.put, List.setIfInBounds_toArray, List.set_cons_zero, List.set_cons_succ, i64_w, i32_w]
            rfl
           refine pure_ (i := 7) (N := some 28) (v := ?_) (a' := ?_) #[true, false, true, false, true, false, false, true, false, false, false, false, false, false, false] rfl rfl (any_of HT_.out (by kernel_rfl)) (fun _ _ _ h => h) (Or.inl ⟨by rfl, ?_⟩) ?_ ?_
           rotate_left
           ·intro w'
            go_simp
            with_reducible rfl
           rotate_left
           ·simp only [Act.put, List.setIfInBounds_toArray, List.set_cons_zero, List.set_cons_succ, i64_w, i32_w]
            rfl
           refine pure_ (i := 9) (N := some 30) (v := ?_) (a' := ?_) #[true, false, true, false, true, false, false, true, false, true, false, false, false, false, false] rfl rfl (any_of HT_.out (by kernel_rfl)) (fun _ _ _ h => h) (Or.inl ⟨by rfl, ?_⟩) ?_ ?_
           rotate_left
           ·intro w'
            go_simp
            with_reducible rfl
           rotate_left
           ·simp only [Act.put, List.setIfInBounds_toArray, List.set_cons_zero, List.set_cons_succ, i64_w, i32_w]
            rfl
           refine pure_ (i := 10) (N := some 31) (v := ?_) (a' := ?_) #[true, false, true, false, true, false, false, true, false, true, true, false, false, false, false] rfl rfl (any_of HT_.out (by kernel_rfl)) (fun _ _ _ h => h) (Or.inl ⟨by rfl, ?_⟩) ?_ ?_
           rotate_left
           ·intro w'
            go_simp
            with_reducible rfl
           rotate_left
           ·simp only [Act.put, List.setIfInBounds_toArray, List.set_cons_zero, List.set_cons_succ, i64_w, i32_w]
            rfl
           refine take_ (i := 1) (N := some 22) (v := ?_) (a' := ?_) #[true, true, true, false, true, false, false, true, false, true, true, false, false, false, false] rfl rfl (take_ofW HT_.out HW_.out (by kernel_rfl)) (fun _ _ _ h => h) (Or.inl ⟨by rfl, ?_⟩) hHeld ?_ ?_
           rotate_left
           ·rintro w' ⟨s0, s1, s2, s3, s4, s5, s6, s7, s8, s9⟩
            go_simp
            with_reducible rfl
           rotate_left
           ·simp only [Act.put, List.setIfInBounds_toArray, List.set_cons_zero, List.set_cons_succ, i64_w, i32_w]
            rfl
           refine take_ (i := 3) (N := some 24) (v := ?_) (a' := ?_) #[true, true, true, true, true, false, false, true, false, true, true, false, false, false, false] rfl rfl (take_ofW HT_.out HW_.out (by kernel_rfl)) (fun _ _ _ h => h) (Or.inl ⟨by rfl, ?_⟩) hHeld ?_ ?_
           rotate_left
           ·rintro w' ⟨s0, s1, s2, s3, s4, s5, s6, s7, s8, s9⟩
            go_simp
            with_reducible rfl
           rotate_left
           ·simp only [Act.put, List.setIfInBounds_toArray, List.set_cons_zero, List.set_cons_succ, i64_w, i32_w]
            rfl
           refine pure_ (i := 5) (N := some 26) (v := ?_) (a' := ?_) #[true, true, true, true, true, true, false, true, false, true, true, false, false, false, false] rfl rfl (any_of HT_.out (by kernel_rfl)) (fun _ _ _ h => h) (Or.inl ⟨by rfl, ?_⟩) ?_ ?_
           rotate_left
           ·intro w'
            go_simp
            with_reducible rfl
           rotate_left
           ·simp only [Act.put, List.setIfInBounds_toArray, List.set_cons_zero, List.set_cons_succ, i64_w, i32_w]
            rfl
           refine take_ (i := 8) (N := some 29) (v := ?_) (a' := ?_) #[true, true, true, true, true, true, false, true, true, true, true, false, false, false, false] rfl rfl (take_ofW HT_.out HW_.out (by kernel_rfl)) (fun _ _ _ h => h) (Or.inl ⟨by rfl, ?_⟩) hHeld ?_ ?_
           rotate_left
           ·rintro w' ⟨s0, s1, s2, s3, s4, s5, s6, s7, s8, s9⟩
            go_simp
            with_reducible rfl
           rotate_left
           ·simp only [Act.put, List.setIfInBounds_toArray, List.set_cons_zero, List.set_cons_succ, i64_w, i32_w]
            rfl
           refine pure_ (i := 11) (N := some 32) (v := ?_) (a' := ?_) #[true, true, true, true, true, true, false, true, true, true, true, true, false, false, false] rfl rfl (any_of HT_.out (by kernel_rfl)) (fun _ _ _ h => h) (Or.inl ⟨by rfl, ?_⟩) ?_ ?_
           rotate_left
           ·intro w'
            go_simp
            with_reducible rfl
           rotate_left
           ·simp only [Act.put, List.setIfInBounds_toArray, List.set_cons_zero, List.set_cons_succ, i64_w, i32_w]
            rfl
           refine one_ (i := 6) (N := some 27) #[true, true, true, true, true, true, true, true, true, true, true, true, false, false, false] rfl rfl (one_of HT_.out (by kernel_rfl)) (by decide) (fun K hK => ?_)
           refine Kd.N_append_rows_step k30 (w0 := w) w.heap.size (by rfl) (.tmp 22) (.tmp 26) 28 30 (.agg #[(.int .i64 0), (.int .i64 0), (.slice none 0 0), (.slice none 0 0), (.slice none 0 0)]) 88 rfl Try.underlying28 info30 rfl (by decide) (by omega) (.slice none 0 0) ([] : List (S30)) y309 _ _ _ (fun k_ => ((P0_3_ k_ ∨ P0_4_ k_) ∨ w.heap.size ≤ k_) ∧ some k_ ≠ (.slice Ao28 y306.length co28 : Value).ownBlock ∧ k_ ≠ gb290 ∧ k_ ≠ gb291 ∧ k_ ≠ gb292) (fun k_ => ((fun k_ => ((P0_3_ k_ ∨ P0_4_ k_) ∨ w.heap.size ≤ k_) ∧ some k_ ≠ (.slice Ao28 y306.length co28 : Value).ownBlock ∧ k_ ≠ gb290 ∧ k_ ≠ gb291 ∧ k_ ≠ gb292)) k_ ∧ some k_ ≠ (.slice none 0 0 : Value).ownBlock) rfl rfl ?aO ?aR (fun _ hk => hk) ?aF ?aB ?aS ?aL ?_
           (case aR => exact (by skip; exact Kd.V_F (Kd.V_mono (ok' := (fun k_ => ((fun k_ => ((P0_3_ k_ ∨ P0_4_ k_) ∨ w.heap.size ≤ k_) ∧ some k_ ≠ (.slice Ao28 y306.length co28 : Value).ownBlock ∧ k_ ≠ gb290 ∧ k_ ≠ gb291 ∧ k_ ≠ gb292)) k_ ∧ some k_ ≠ (.slice none 0 0 : Value).ownBlock)) (HO313.out) (fun k_ hk => ⟨⟨hk.1, ⟨hk.2.1, ⟨hk.2.2.1, ⟨hk.2.2.2.1, hk.2.2.2.2⟩⟩⟩⟩, (by simp [Value.ownBlock])⟩))))
           (case aB => exact bw)
           (case aF => exact (fun k_ hk => ⟨(.inr (Nat.le_trans (bzz w) hk)), Kd.fresh' (Kd.N_lt (by (with_reducible repeat (first | apply Kd.N_alloc | apply Kd.N_drewN | apply Kd.N_drew)); exact HO308.out)) k_ hk, Kd.freshB (g := gb290) (o := .cells #[.int .i64 a0_0, .int .i64 a0_1, .slice A0_2 l0_2.length c0_2, .slice A0_3 l0_3.length c0_3, .slice A0_4 l0_4.length c0_4] 30 (0, 0)) (by (with_reducible repeat (first | refine blk_drewN ?_ _ | refine blk_drew ?_ | refine blk_alloc ?_ _)); exact BK290.out) k_ hk, Kd.freshB (g := gb291) (o := .cells #[.int .i64 0, .int .i64 0, .slice none 0 0, .slice none 0 0, .slice none 0 0] 30 (0, 0)) (by (with_reducible repeat (first | refine blk_drewN ?_ _ | refine blk_drew ?_ | refine blk_alloc ?_ _)); exact BK291.out) k_ hk, Kd.freshB (g := gb292) (o := .cells #[.int .i64 5, .int .i64 0, .slice none 0 0, .slice Ao28 y306.length co28, .slice none 0 0] 30 (0, 0)) (by (with_reducible repeat (first | refine blk_drewN ?_ _ | refine blk_drew ?_ | refine blk_alloc ?_ _)); exact BK292.out) k_ hk⟩))
           (case aO => exact ((Kd.N_nil _ _ _ _ (fun k_ => ((P0_3_ k_ ∨ P0_4_ k_) ∨ w.heap.size ≤ k_) ∧ some k_ ≠ (.slice Ao28 y306.length co28 : Value).ownBlock ∧ k_ ≠ gb290 ∧ k_ ≠ gb291 ∧ k_ ≠ gb292))))
           (case aS => exact (bzz w))
           (case aL => have := LMc12.out; omega)
           intro v315 w34 ho hb hg hat
           rw [← Ny314.out] at ho
           replace HO0_3 := Aside0.mk (Kd.V_afterv (Kd.V_apart_nil (by (with_reducible repeat (first | apply Kd.V_alloc | apply Kd.V_drewN | apply Kd.V_drew)); exact HO0_3.out)) hg hat)
           replace HO0_4 := Aside0.mk (Kd.V_afterv (Kd.V_apart_nil (by (with_reducible repeat (first | apply Kd.V_alloc | apply Kd.V_drewN | apply Kd.V_drew)); exact HO0_4.out)) hg hat)
           replace BK290 := Aside0.mk (blk_grown (g := gb290) (o := .cells #[.int .i64 a0_0, .int .i64 a0_1, .slice A0_2 l0_2.length c0_2, .slice A0_3 l0_3.length c0_3, .slice A0_4 l0_4.length c0_4] 30 (0, 0)) (by (with_reducible repeat (first | refine blk_drewN ?_ _ | refine blk_drew ?_ | refine blk_alloc ?_ _)); exact BK290.out) hg (by simp [Value.ownBlock]))
           replace BK291 := Aside0.mk (blk_grown (g := gb291) (o := .cells #[.int .i64 0, .int .i64 0, .slice none 0 0, .slice none 0 0, .slice none 0 0] 30 (0, 0)) (by (with_reducible repeat (first | refine blk_drewN ?_ _ | refine blk_drew ?_ | refine blk_alloc ?_ _)); exact BK291.out) hg (by simp [Value.ownBlock]))
           replace BK292 := Aside0.mk (blk_grown (g := gb292) (o := .cells #[.int .i64 5, .int .i64 0, .slice none 0 0, .slice Ao28 y306.length co28, .slice none 0 0] 30 (0, 0)) (by (with_reducible repeat (first | refine blk_drewN ?_ _ | refine blk_drew ?_ | refine blk_alloc ?_ _)); exact BK292.out) hg (by simp [Value.ownBlock]))
           replace HO297 := Aside0.mk (Kd.V_afterv (Kd.V_apart_nil (by (with_reducible repeat (first | apply Kd.V_alloc | apply Kd.V_drewN | apply Kd.V_drew)); exact HO297.out)) hg hat)
           replace HO305 := Aside0.mk (Kd.V_afterv (Kd.V_apart_nil (by (with_reducible repeat (first | apply Kd.V_alloc | apply Kd.V_drewN | apply Kd.V_drew)); exact HO305.out)) hg hat)
           replace HO308 := Aside0.mk (Kd.N_afterv (Kd.N_apart_nil (by (with_reducible repeat (first | apply Kd.N_alloc | apply Kd.N_drewN | apply Kd.N_drew)); exact HO308.out)) hg hat)
           replace HO313 := Aside0.mk (Kd.V_afterv (Kd.V_apart_nil (by (with_reducible repeat (first | apply Kd.V_alloc | apply Kd.V_drewN | apply Kd.V_drew)); exact HO313.out)) hg hat)
           replace HO321 := Aside0.mk (Kd.V_afterv (Kd.V_apart_nil (by (with_reducible repeat (first | apply Kd.V_alloc | apply Kd.V_drewN | apply Kd.V_drew)); exact HO321.out)) hg hat)
           replace HB := Bw.mk (w := w) (hb)
           have HO316 := Aside0.mk (ho)
           clear ho hb hg hat
           refine hK.out _ _ ⟨(blk_cell BK292.out 0).trans rfl, (blk_cell BK292.out 1).trans rfl, (blk_cell BK292.out 2).trans rfl, (blk_cell BK292.out 3).trans rfl, (blk_cell BK292.out 4).trans rfl, (blk_cell BK290.out 0).trans rfl, (blk_cell BK290.out 1).trans rfl, (blk_cell BK290.out 2).trans rfl, (blk_cell BK290.out 3).trans rfl, (blk_cell BK290.out 4).trans rfl⟩ (fun hHeld => ?_)
           clear hK K
           refine norm_ (a' := ?_) ?_ ?_
           rotate_left
           ·show Act.put _ (some 27) _ = _
            simp only [Act.put, List.setIfInBounds_toArray, List.set_cons_zero, List.set_cons_succ, i64_w, i32_w]
            rfl
           refine one_ (i := 12) (N := some 33) #[true, true, true, true, true, true, true, true, true, true, true, true, true, false, false] rfl rfl (one_of HT_.out (by kernel_rfl)) (by decide) (fun K hK => ?_)
           refine Kd.N_append_rows_step k30 (w0 := w) w.heap.size (by rfl) (.tmp 27) (.tmp 32) 28 30 (.agg #[(.int .i64 0), (.int .i64 0), (.slice none 0 0), (.slice none 0 0), (.slice none 0 0)]) 88 rfl Try.underlying28 info30 rfl (by decide) (by omega) v315 y314 y317 _ _ _ (fun k_ => ((P0_3_ k_ ∨ P0_4_ k_) ∨ w.heap.size ≤ k_) ∧ some k_ ≠ (.slice Ao28 y306.length co28 : Value).ownBlock ∧ k_ ≠ gb290 ∧ k_ ≠ gb291 ∧ k_ ≠ gb292) (fun k_ => ((fun k_ => ((P0_3_ k_ ∨ P0_4_ k_) ∨ w.heap.size ≤ k_) ∧ some k_ ≠ (.slice Ao28 y306.length co28 : Value).ownBlock ∧ k_ ≠ gb290 ∧ k_ ≠ gb291 ∧ k_ ≠ gb292)) k_ ∧ some k_ ≠ (v315 : Value).ownBlock) rfl rfl ?aO ?aR (fun _ hk => hk) ?aF ?aB ?aS ?aL ?_
           (case aR => exact (by skip; exact Kd.V_F (Kd.V_mono (ok' := (fun k_ => ((fun k_ => ((P0_3_ k_ ∨ P0_4_ k_) ∨ w.heap.size ≤ k_) ∧ some k_ ≠ (.slice Ao28 y306.length co28 : Value).ownBlock ∧ k_ ≠ gb290 ∧ k_ ≠ gb291 ∧ k_ ≠ gb292)) k_ ∧ some k_ ≠ (v315 : Value).ownBlock)) (HO321.out) (fun k_ hk => ⟨⟨hk.1.1, ⟨hk.1.2.1, ⟨hk.1.2.2.1, ⟨hk.1.2.2.2.1, hk.1.2.2.2.2⟩⟩⟩⟩, hk.2⟩))))
           (case aB => exact bw)
           (case aF => exact (fun k_ hk => ⟨(.inr (Nat.le_trans (bzz w) hk)), Kd.fresh' (Kd.N_lt (by (with_reducible repeat (first | apply Kd.N_alloc | apply Kd.N_drewN | apply Kd.N_drew)); exact HO308.out)) k_ hk, Kd.freshB (g := gb290) (o := .cells #[.int .i64 a0_0, .int .i64 a0_1, .slice A0_2 l0_2.length c0_2, .slice A0_3 l0_3.length c0_3, .slice A0_4 l0_4.length c0_4] 30 (0, 0)) (by (with_reducible repeat (first | refine blk_drewN ?_ _ | refine blk_drew ?_ | refine blk_alloc ?_ _)); exact BK290.out) k_ hk, Kd.freshB (g := gb291) (o := .cells #[.int .i64 0, .int .i64 0, .slice none 0 0, .slice none 0 0, .slice none 0 0] 30 (0, 0)) (by (with_reducible repeat (first | refine blk_drewN ?_ _ | refine blk_drew ?_ | refine blk_alloc ?_ _)); exact BK291.out) k_ hk, Kd.freshB (g := gb292) (o := .cells #[.int .i64 5, .int .i64 0, .slice none 0 0, .slice Ao28 y306.length co28, .slice none 0 0] 30 (0, 0)) (by (with_reducible repeat (first | refine blk_drewN ?_ _ | refine blk_drew ?_ | refine blk_alloc ?_ _)); exact BK292.out) k_ hk⟩))
           (case aO => exact (by (with_reducible repeat (first | apply Kd.N_alloc | apply Kd.N_drewN | apply Kd.N_drew)); exact HO316.out))
           (case aS => exact (bzz w))
           (case aL => have := LMc15.out; omega)
           intro v323 w35 ho hb hg hat
           rw [← Ny322.out] at ho
           replace HO0_3 := Aside0.mk (Kd.V_afterv (ok := (fun k_ => ((P0_3_ k_ ∨ P0_4_ k_) ∨ w.heap.size ≤ k_) ∧ some k_ ≠ (.slice Ao28 y306.length co28 : Value).ownBlock ∧ k_ ≠ gb290 ∧ k_ ≠ gb291 ∧ k_ ≠ gb292)) (by (with_reducible repeat (first | apply Kd.V_alloc | apply Kd.V_drewN | apply Kd.V_drew)); exact HO0_3.out) hg hat)
           replace HO0_4 := Aside0.mk (Kd.V_afterv (ok := (fun k_ => ((P0_3_ k_ ∨ P0_4_ k_) ∨ w.heap.size ≤ k_) ∧ some k_ ≠ (.slice Ao28 y306.length co28 : Value).ownBlock ∧ k_ ≠ gb290 ∧ k_ ≠ gb291 ∧ k_ ≠ gb292)) (by (with_reducible repeat (first | apply Kd.V_alloc | apply Kd.V_drewN | apply Kd.V_drew)); exact HO0_4.out) hg hat)
           replace BK290 := Aside0.mk (blk_grown (g := gb290) (o := .cells #[.int .i64 a0_0, .int .i64 a0_1, .slice A0_2 l0_2.length c0_2, .slice A0_3 l0_3.length c0_3, .slice A0_4 l0_4.length c0_4] 30 (0, 0)) (by (with_reducible repeat (first | refine blk_drewN ?_ _ | refine blk_drew ?_ | refine blk_alloc ?_ _)); exact BK290.out) hg (Kd.N_away HO316.out (fun _ hk => hk.2.2.1)))
           replace BK291 := Aside0.mk (blk_grown (g := gb291) (o := .cells #[.int .i64 0, .int .i64 0, .slice none 0 0, .slice none 0 0, .slice none 0 0] 30 (0, 0)) (by (with_reducible repeat (first | refine blk_drewN ?_ _ | refine blk_drew ?_ | refine blk_alloc ?_ _)); exact BK291.out) hg (Kd.N_away HO316.out (fun _ hk => hk.2.2.2.1)))
           replace BK292 := Aside0.mk (blk_grown (g := gb292) (o := .cells #[.int .i64 5, .int .i64 0, .slice none 0 0, .slice Ao28 y306.length co28, .slice none 0 0] 30 (0, 0)) (by (with_reducible repeat (first | refine blk_drewN ?_ _ | refine blk_drew ?_ | refine blk_alloc ?_ _)); exact BK292.out) hg (Kd.N_away HO316.out (fun _ hk => hk.2.2.2.2)))
           replace HO297 := Aside0.mk (Kd.V_afterv (ok := (fun k_ => ((P0_3_ k_ ∨ P0_4_ k_) ∨ w.heap.size ≤ k_) ∧ some k_ ≠ (.slice Ao28 y306.length co28 : Value).ownBlock ∧ k_ ≠ gb290 ∧ k_ ≠ gb291 ∧ k_ ≠ gb292)) (by (with_reducible repeat (first | apply Kd.V_alloc | apply Kd.V_drewN | apply Kd.V_drew)); exact HO297.out) hg hat)
           replace HO305 := Aside0.mk (Kd.V_afterv (ok := (fun k_ => ((P0_3_ k_ ∨ P0_4_ k_) ∨ w.heap.size ≤ k_) ∧ some k_ ≠ (.slice Ao28 y306.length co28 : Value).ownBlock ∧ k_ ≠ gb290 ∧ k_ ≠ gb291 ∧ k_ ≠ gb292)) (by (with_reducible repeat (first | apply Kd.V_alloc | apply Kd.V_drewN | apply Kd.V_drew)); exact HO305.out) hg hat)
           replace HO308 := Aside0.mk (Kd.N_afterv (ok := (fun k_ => ((P0_3_ k_ ∨ P0_4_ k_) ∨ w.heap.size ≤ k_) ∧ k_ ≠ gb290 ∧ k_ ≠ gb291 ∧ k_ ≠ gb292)) (by (with_reducible repeat (first | apply Kd.N_alloc | apply Kd.N_drewN | apply Kd.N_drew)); exact HO308.out) hg hat)
           replace HO313 := Aside0.mk (Kd.V_afterv (ok := (fun k_ => ((P0_3_ k_ ∨ P0_4_ k_) ∨ w.heap.size ≤ k_) ∧ some k_ ≠ (.slice Ao28 y306.length co28 : Value).ownBlock ∧ k_ ≠ gb290 ∧ k_ ≠ gb291 ∧ k_ ≠ gb292)) (by (with_reducible repeat (first | apply Kd.V_alloc | apply Kd.V_drewN | apply Kd.V_drew)); exact HO313.out) hg hat)
           replace HO321 := Aside0.mk (Kd.V_afterv (ok := (fun k_ => ((P0_3_ k_ ∨ P0_4_ k_) ∨ w.heap.size ≤ k_) ∧ some k_ ≠ (.slice Ao28 y306.length co28 : Value).ownBlock ∧ k_ ≠ gb290 ∧ k_ ≠ gb291 ∧ k_ ≠ gb292)) (by (with_reducible repeat (first | apply Kd.V_alloc | apply Kd.V_drewN | apply Kd.V_drew)); exact HO321.out) hg hat)
           replace HB := Bw.mk (w := w) (hb)
           have HO324 := Aside0.mk (ho)
           clear HO316
           clear ho hb hg hat
           obtain ⟨Ao36, co36, eo36⟩ := Kd.N_slice HO324.out
           (first | subst eo36 | (injection eo36 with f1_ f2_ f3_; have f4_ := f1_.symm; have f5_ := f3_.symm; clear f1_ f2_ f3_; subst f4_; subst f5_))
           refine hK.out _ _ ⟨(blk_cell BK292.out 0).trans rfl, (blk_cell BK292.out 1).trans rfl, (blk_cell BK292.out 2).trans rfl, (blk_cell BK292.out 3).trans rfl, (blk_cell BK292.out 4).trans rfl, (blk_cell BK290.out 0).trans rfl, (blk_cell BK290.out 1).trans rfl, (blk_cell BK290.out 2).trans rfl, (blk_cell BK290.out 3).trans rfl, (blk_cell BK290.out 4).trans rfl⟩ (fun hHeld => ?_)
           clear hK K
           refine norm_ (a' := ?_) ?_ ?_
           rotate_left
           ·show Act.put _ (some 33) _ = _
            simp only [Act.put, List.setIfInBounds_toArray, List.set_cons_zero, List.set_cons_succ, i64_w, i32_w]
            rfl
           refine pure_ (i := 13) (N := some 34) (v := ?_) (a' := ?_) #[true, true, true, true, true, true, true, true, true, true, true, true, true, true, false] rfl rfl (any_of HT_.out (by kernel_rfl)) (fun _ _ _ h => h) (Or.inl ⟨by rfl, ?_⟩) ?_ ?_
           rotate_left
           ·intro w'
            go_simp
            with_reducible rfl
           rotate_left
           ·simp only [Act.put, List.setIfInBounds_toArray, List.set_cons_zero, List.set_cons_succ, i64_w, i32_w]
            rfl
           refine last_ (i := 14) (N := none) #[true, true, true, true, true, true, true, true, true, true, true, true, true, true, true] rfl rfl (one_of HT_.out (by kernel_rfl)) (by decide) (fun K hK => ?_)
           have hs37 : w35.cell? ⟨gb292, 4, none⟩ = some (.slice none 0 0) := (blk_cell BK292.out 4).trans rfl
           have hfs37 := blk_frozen BK292.out 4
           have hns37_0 := NB290_292.out
           have hns37_1 := NB291_292.out
           have hms37_0 := NB292_290.out
           have hms37_1 := NB292_291.out
           refine skip_ (w1 := ?_) (by rfl) rfl ?_ ?_
           rotate_left
           ·go_simp
            rfl
           refine hK.out _ _ ?_
           clear hK K
           refine done_ (done_of HT_.out (by kernel_rfl)) ?_
           obtain ⟨hcz38_0, hcz38_1, hcz38_2, hcz38_3, hcz38_4, hfz38_0, hfz38_1, hfz38_2, hfz38_3, hfz38_4⟩ := blk5 BK292.out
           have hnb39 := NB291_290.out
           have hnc39 := NB290_291.out
           obtain ⟨hcz40_0, hcz40_1, hcz40_2, hcz40_3, hcz40_4, hfz40_0, hfz40_1, hfz40_2, hfz40_3, hfz40_4⟩ := blk5 BK291.out
           try go_wp2
           refine bodyPost_ret (results_cell_row rfl _ _ gb291 30 #[.int .i64 5, .int .i64 0, .slice none 0 0, .slice Ao28 y306.length co28, .slice Ao36 y322.length co36] (0, 0) _ rfl (by (with_reducible repeat (first | refine blk_drewN ?_ _ | refine blk_drew ?_ | refine blk_alloc ?_ _)); refine blk_put (cs := #[.int .i64 5, .int .i64 0, .slice none 0 0, .slice Ao28 y306.length co28, .slice none 0 0]) ?_ 4 _ rfl; (with_reducible repeat (first | refine blk_drewN ?_ _ | refine blk_drew ?_ | refine blk_alloc ?_ _)); refine blk_put (cs := #[.int .i64 5, .int .i64 0, .slice none 0 0, .slice none 0 0, .slice none 0 0]) ?_ 3 _ rfl; (with_reducible repeat (first | refine blk_drewN ?_ _ | refine blk_drew ?_ | refine blk_alloc ?_ _)); refine blk_put (cs := #[.int .i64 5, .int .i64 0, .slice none 0 0, .slice none 0 0, .slice none 0 0]) ?_ 2 _ rfl; (with_reducible repeat (first | refine blk_drewN ?_ _ | refine blk_drew ?_ | refine blk_alloc ?_ _)); refine blk_put (cs := #[.int .i64 5, .int .i64 0, .slice none 0 0, .slice none 0 0, .slice none 0 0]) ?_ 1 _ rfl; (with_reducible repeat (first | refine blk_drewN ?_ _ | refine blk_drew ?_ | refine blk_alloc ?_ _)); refine blk_put (cs := #[.int .i64 0, .int .i64 0, .slice none 0 0, .slice none 0 0, .slice none 0 0]) ?_ 0 _ rfl; (with_reducible repeat (first | refine blk_drewN ?_ _ | refine blk_drew ?_ | refine blk_alloc ?_ _)); refine blk_far ?_ NB291_292.out _; (with_reducible repeat (first | refine blk_drewN ?_ _ | refine blk_drew ?_ | refine blk_alloc ?_ _)); exact BK291.out) Try.underlying30 rfl (by kernel_rfl)) rfl ?_
           exact ⟨_, _, _, by first | rfl | (simp [errW_none, errW_some] <;> rfl) | (simp only [← hji6]; first | rfl | (simp [errW_none, errW_some] <;> rfl)) | (simp [*, errW_none, errW_some] <;> rfl), by first | exact Kd.R_nil _ _ _ _ _ | exact Kd.N_nil _ _ _ _ _ | exact Kd.V_nil _ _ _ _ _ | exact Kd.Q_nil _ _ _ _ _ | exact Kd.S_nil _ _ _ _ _, by (with_reducible repeat (first | apply Kd.N_alloc | apply Kd.N_drewN | apply Kd.N_drew)); exact Kd.N_mono (Kd.N_far (p := ⟨gb291, 4, none⟩) (Kd.N_far (p := ⟨gb291, 3, none⟩) (Kd.N_far (p := ⟨gb291, 2, none⟩) (Kd.N_far (p := ⟨gb291, 1, none⟩) (Kd.N_far (p := ⟨gb291, 0, none⟩) (Kd.N_far (p := ⟨gb292, 4, none⟩) (Kd.N_mono (Kd.N_mono HO308.out (fun k_ hk => (⟨hk, hk.1.2.2.2⟩ : _ ∧ k_ ≠ gb292))) (fun k_ hk => (⟨hk, hk.1.1.2.2.1⟩ : _ ∧ k_ ≠ gb291))) (fun _ hk => hk.1.2) (.slice Ao36 y322.length co36)) (fun _ hk => hk.2) (.int .i64 5)) (fun _ hk => hk.2) (.int .i64 0)) (fun _ hk => hk.2) (.slice none 0 0)) (fun _ hk => hk.2) (.slice Ao28 y306.length co28)) (fun _ hk => hk.2) (.slice Ao36 y322.length co36)) (fun _ hk => ⟨hk.1.1.1.1, ⟨(by simp [Value.ownBlock]), hk.1.1.2⟩⟩), by (with_reducible repeat (first | apply Kd.N_alloc | apply Kd.N_drewN | apply Kd.N_drew)); exact Kd.N_mono (Kd.N_far (p := ⟨gb291, 4, none⟩) (Kd.N_far (p := ⟨gb291, 3, none⟩) (Kd.N_far (p := ⟨gb291, 2, none⟩) (Kd.N_far (p := ⟨gb291, 1, none⟩) (Kd.N_far (p := ⟨gb291, 0, none⟩) (Kd.N_far (p := ⟨gb292, 4, none⟩) (Kd.N_mono (Kd.N_mono HO324.out (fun k_ hk => (⟨hk, hk.2.2.2.2⟩ : _ ∧ k_ ≠ gb292))) (fun k_ hk => (⟨hk, hk.1.2.2.2.1⟩ : _ ∧ k_ ≠ gb291))) (fun _ hk => hk.1.2) (.slice Ao36 y322.length co36)) (fun _ hk => hk.2) (.int .i64 5)) (fun _ hk => hk.2) (.int .i64 0)) (fun _ hk => hk.2) (.slice none 0 0)) (fun _ hk => hk.2) (.slice Ao28 y306.length co28)) (fun _ hk => hk.2) (.slice Ao36 y322.length co36)) (fun _ hk => ⟨hk.1.1.1, ⟨(by simp [Value.ownBlock]), hk.1.1.2.1⟩⟩), bw⟩
          ·rw [if_neg c15] at H
           exact absurd H (by simp)
         ·rw [if_neg c14] at H
          exact absurd H (by simp)
        ·rw [if_neg c12] at H
         exact absurd H (by simp)
       ·rw [if_neg c11] at H
        exact absurd H (by simp)
      ·rw [if_neg c9] at H
       exact absurd H (by simp)
     ·rw [if_neg c8] at H
      exact absurd H (by simp)
    ·rw [if_neg c7] at H
     exact absurd H (by simp)
   ·rw [if_neg c5] at H
    exact absurd H (by simp)
  ·rw [if_neg c4] at H
   exact absurd H (by simp)
 ·rw [if_neg c3] at H
  exact absurd H (by simp)

end Go.Proofs.Ytenpjddjmhjdoaa.PFnExactValDrop
