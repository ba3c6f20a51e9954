/- What the law reaches: each function as a plain Lean function, and that each call comes to it. No condition. -/
import Derived.Test.YtenpjddjmhjdoaaMtodo
import Derived.Test.YtenpjddjmhjdoaaPFnExactLeavesx0
import Derived.Test.YtenpjddjmhjdoaaPFnExactLeavesx4
namespace Go.Proofs.Ytenpjddjmhjdoaa.PFnExactLeaves
open Go.RowKit Go.Proofs.YtenpjddjmhjdoaaW.PrintWords Go.Proofs.YtenpjddjmhjdoaaW.PrintLast Go.Proofs.YtenpjddjmhjdoaaW.PrintMore Go.Proofs.Ytenpjddjmhjdoaa.M
attribute [local go_sem] max2_int min2_int max_two min_two max_three min_three max_four min_four Go.Proofs.Ytenpjddjmhjdoaa.M.str_gtr Go.Proofs.Ytenpjddjmhjdoaa.M.str_leq Go.Proofs.Ytenpjddjmhjdoaa.M.str_geq   -- for this text's walks alone
set_option linter.unusedVariables false
set_option linter.unusedSimpArgs false

/-! ### spec_l2ok: function 97 -/
mutual
def spec_l2ok.j0 : Nat → Int → Int → Bool → Int → Int → List Int → List (List Int) → List (S30) → Option (Int)
 | 0, _, _, _, _, _, _, _, _ => none
 | k + 1, x1, x2, x15, x229000, x229001, x229002, x229003, x229004 => if x15 = true then (some (-1)) else (if x229000 = 3 then (if x229000 = 5 then (none) else (if (x229003.length : Int) > 0 then (spec_l2ok.j1 k x1 x2 true x229000 x229001 x229002 x229003 x229004) else (if x229000 = 1 then (none) else (if x229000 = 2 then (none) else (if x229001 = 0 then (if x229000 = 4 then (none) else (spec_l2ok.j1 k x1 x2 (decide ((x229004.length : Int) > 0)) x229000 x229001 x229002 x229003 x229004)) else (spec_l2ok.j1 k x1 x2 true x229000 x229001 x229002 x229003 x229004)))))) else (if (x229002.length : Int) > 0 then (spec_l2ok.j1 k x1 x2 true x229000 x229001 x229002 x229003 x229004) else (if x229000 = 5 then (if x229000 = 1 then (none) else (if x229000 = 2 then (none) else (if x229001 = 0 then (if x229000 = 4 then (none) else (spec_l2ok.j1 k x1 x2 false x229000 x229001 x229002 x229003 x229004)) else (spec_l2ok.j1 k x1 x2 true x229000 x229001 x229002 x229003 x229004)))) else (if (x229003.length : Int) > 0 then (spec_l2ok.j1 k x1 x2 true x229000 x229001 x229002 x229003 x229004) else (if x229000 = 1 then (if x229000 = 4 then (none) else (spec_l2ok.j1 k x1 x2 (decide ((x229004.length : Int) > 0)) x229000 x229001 x229002 x229003 x229004)) else (if x229000 = 2 then (if x229000 = 4 then (none) else (spec_l2ok.j1 k x1 x2 (decide ((x229004.length : Int) > 0)) x229000 x229001 x229002 x229003 x229004)) else (if x229001 = 0 then (if x229000 = 4 then (spec_l2ok.j1 k x1 x2 false x229000 x229001 x229002 x229003 x229004) else (spec_l2ok.j1 k x1 x2 (decide ((x229004.length : Int) > 0)) x229000 x229001 x229002 x229003 x229004)) else (spec_l2ok.j1 k x1 x2 true x229000 x229001 x229002 x229003 x229004))))))))
def spec_l2ok.j1 : Nat → Int → Int → Bool → Int → Int → List Int → List (List Int) → List (S30) → Option (Int)
 | 0, _, _, _, _, _, _, _, _ => none
 | k + 1, x1, x2, x66, x229000, x229001, x229002, x229003, x229004 => if x66 = true then (some (-1)) else (if x229000 = 0 then (spec_l2ok.j2 k x1 x2 x229000 (x229000 == 0) x229000 x229001 x229002 x229003 x229004) else (spec_l2ok.j2 k x1 x2 x229000 (x229000 == 6) x229000 x229001 x229002 x229003 x229004))
def spec_l2ok.j2 : Nat → Int → Int → Int → Bool → Int → Int → List Int → List (List Int) → List (S30) → Option (Int)
 | 0, _, _, _, _, _, _, _, _, _ => none
 | k + 1, x1, x2, x68, x69, x229000, x229001, x229002, x229003, x229004 => if x69 = true then (some x2) else (if x68 = 1 then (if x229001 < 0 then (some (-1)) else (if x229001 > 1 then (some (-1)) else (some x2))) else (if x68 = 2 then ((spec_l2int.f x229001).bind fun t229 => (if t229 = true then (some x2) else (some (-1)))) else (if x68 = 3 then ((spec_l2text.f k x229002).bind fun t230 => (if t230 = true then (some x2) else (some (-1)))) else (if x68 = 4 then (spec_l2ok.j3 k x1 x2 (x68 == 4) x229000 x229001 x229002 x229003 x229004) else (spec_l2ok.j3 k x1 x2 (x68 == 5) x229000 x229001 x229002 x229003 x229004)))))
def spec_l2ok.j3 : Nat → Int → Int → Bool → Int → Int → List Int → List (List Int) → List (S30) → Option (Int)
 | 0, _, _, _, _, _, _, _, _ => none
 | k + 1, x1, x2, x98, x229000, x229001, x229002, x229003, x229004 => if x98 = true then (if x229000 = 5 then (spec_l2ok.j4 k x1 x2 ((x229003.length : Int) != (x229004.length : Int)) x229000 x229001 x229002 x229003 x229004) else (spec_l2ok.j4 k x1 x2 false x229000 x229001 x229002 x229003 x229004)) else (some (-1))
def spec_l2ok.j4 : Nat → Int → Int → Bool → Int → Int → List Int → List (List Int) → List (S30) → Option (Int)
 | 0, _, _, _, _, _, _, _, _ => none
 | k + 1, x1, x2, x112, x229000, x229001, x229002, x229003, x229004 => if x112 = true then (some (-1)) else (spec_l2ok.l0 k x1 x2 0 x229000 x229001 x229002 x229003 x229004)
def spec_l2ok.l0 : Nat → Int → Int → Int → Int → Int → List Int → List (List Int) → List (S30) → Option (Int)
 | 0, _, _, _, _, _, _, _, _ => none
 | k + 1, x1, x2, x7, x229000, x229001, x229002, x229003, x229004 => if x7 < (x229004.length : Int) then (if x229000 = 5 then (if 0 ≤ x7 then (if x7 < (x229003.length : Int) then ((spec_NameOk.f k (rd_L1 x229003 x7)).bind fun t232 => (if t232 = true then (if x7 > 0 then (if 0 ≤ (wrap64 (x7 - 1)) then (if (wrap64 (x7 - 1)) < (x229003.length : Int) then (spec_l2ok.j6 k x1 x2 x7 (!(Op.bytesLess ((strOfNums (rd_L1 x229003 (wrap64 (x7 - 1)))).toList) ((strOfNums (rd_L1 x229003 x7)).toList))) x229000 x229001 x229002 x229003 x229004) else (none)) else (none)) else (spec_l2ok.j6 k x1 x2 x7 false x229000 x229001 x229002 x229003 x229004)) else (spec_l2ok.j6 k x1 x2 x7 true x229000 x229001 x229002 x229003 x229004))) else (none)) else (none)) else (spec_l2ok.j6 k x1 x2 x7 false x229000 x229001 x229002 x229003 x229004)) else (some x2)
def spec_l2ok.j6 : Nat → Int → Int → Int → Bool → Int → Int → List Int → List (List Int) → List (S30) → Option (Int)
 | 0, _, _, _, _, _, _, _, _, _ => none
 | k + 1, x1, x2, x7, x151, x229000, x229001, x229002, x229003, x229004 => if x151 = true then (some (-1)) else (if 0 ≤ x7 then (if x7 < (x229004.length : Int) then ((spec_l2ok.f k ((rd_T30 x229004 x7).f0) ((rd_T30 x229004 x7).f1) ((rd_T30 x229004 x7).f2) ((rd_T30 x229004 x7).f3) ((rd_T30 x229004 x7).f4) (wrap64 (x1 + 1)) x2).bind fun t236 => (if t236 < 0 then (some (-1)) else (spec_l2ok.l0 k x1 t236 (wrap64 (x7 + 1)) x229000 x229001 x229002 x229003 x229004))) else (none)) else (none))
def spec_l2ok.f : Nat → Int → Int → List Int → List (List Int) → List (S30) → Int → Int → Option (Int)
 | 0, _, _, _, _, _, _, _ => none
 | k + 1, a0_0, a0_1, l0_2, l0_3, l0_4, a1, a2 => if (wrap64 (a2 - 1)) < 0 then (spec_l2ok.j0 k a1 (wrap64 (a2 - 1)) true a0_0 a0_1 l0_2 l0_3 l0_4) else (spec_l2ok.j0 k a1 (wrap64 (a2 - 1)) (decide (a1 > 5)) a0_0 a0_1 l0_2 l0_3 l0_4)
end
def spec_l2ok.T29 : Bool × List (List Nat × List Nat) := (true, [([], []), ([0], [0]), ([1], [1]), ([2], [2]), ([3], [3]), ([4, 3], [3, 4]), ([3], [3]), ([5, 6, 3], [3, 5, 6]), ([7, 3], [3, 7]), ([8, 3, 3], [3, 8]), ([9, 3], [3, 9]), ([10, 9, 3], [3, 10]), ([11], [11]), ([12, 11], [11, 12]), ([13, 11, 11], [11, 13]), ([14], [14]), ([15, 14], [14, 15]), ([14], [14]), ([17, 14], [14, 17]), ([16, 18, 14], [14, 16, 18]), ([19, 14], [14, 19]), ([20, 14], [14, 20]), ([14], [14]), ([22, 14], [14, 22]), ([14], [14]), ([23, 24, 14], [14, 23, 24]), ([25, 14], [14, 25]), ([26, 14], [14, 26]), ([21, 27, 14], [14, 21, 27]), ([14, 28, 11], [11, 14, 28]), ([11, 29, 3], [3, 11, 29]), ([3, 30], [3, 30])])
def spec_l2ok.B29 : List Nat := [0, 1, 3, 7, 15, 31, 15, 127, 255, 511, 1023, 2047, 4095, 8191, 16383, 32767, 65535, 32767, 163839, 524287, 1048575, 2097151, 32767, 4227071, 32767, 29392895, 62947327, 130056191, 268435455, 536870911, 1073741823, 2147483647]
theorem spec_l2ok.tab29 : rtab .any (opsOf Try.f97 29) = spec_l2ok.T29 := by kernel_rfl
theorem spec_l2ok.bits29 : waitsOk spec_l2ok.T29.2 spec_l2ok.B29 = true := by kernel_rfl
set_option maxHeartbeats 8000000 in
set_option maxRecDepth 100000 in
theorem spec_l2ok.calls (k : Nat) : ∀ (a0_0 : Int) (a0_1 : Int) (A0_2 : Option Addr) (c0_2 : Nat) (l0_2 : List Int) (A0_3 : Option Addr) (c0_3 : Nat) (l0_3 : List (List Int)) (A0_4 : Option Addr) (c0_4 : Nat) (l0_4 : List (S30)) (a1 : Int) (a2 : Int) (r : Int) (w : World) (hr0_2 : Kd.C (Kd.int .u8) w A0_2 l0_2.length l0_2) (hc0_2 : l0_2.length ≤ c0_2) (hr0_3 : Kd.C (Kd.slice 5 (Kd.int .u8)) w A0_3 l0_3.length l0_3) (hc0_3 : l0_3.length ≤ c0_3) (hr0_4 : Kd.C k30 w A0_4 l0_4.length l0_4) (hc0_4 : l0_4.length ≤ c0_4) (h : spec_l2ok.f k a0_0 a0_1 l0_2 l0_3 l0_4 a1 a2 = some r),
  Calls Try.prog 97 #[.agg #[.int .i64 a0_0, .int .i64 a0_1, .slice A0_2 l0_2.length c0_2, .slice A0_3 l0_3.length c0_3, .slice A0_4 l0_4.length c0_4], .int .i64 a1, .int .i64 a2] w fun e w' => e = .returned (.int .i64 r) ∧ Below w.heap.size w w' := by
 induction k using Nat.strongRecOn with
 | _ k ih =>
 intro a0_0 a0_1 A0_2 c0_2 l0_2 A0_3 c0_3 l0_3 A0_4 c0_4 l0_4 a1 a2 r w hr0_2 hc0_2 hr0_3 hc0_3 hr0_4 hc0_4 h
 cases k with
 | zero => exact absurd h (by simp [spec_l2ok.f])
 | succ k =>
 simp only [spec_l2ok.f] at h
 have hu30 := Try.underlying30
 have HR0_2 := Aside0.mk hr0_2
 have HC0_2 := Aside0.mk hc0_2
 clear hr0_2 hc0_2
 have HR0_3 := Aside0.mk hr0_3
 have HC0_3 := Aside0.mk hc0_3
 clear hr0_3 hc0_3
 have HR0_4 := Aside0.mk hr0_4
 have HC0_4 := Aside0.mk hc0_4
 clear hr0_4 hc0_4
 have HB := Bw.refl w
 have H : (if (wrap64 (a2 - 1)) < 0 then (spec_l2ok.j0 k a1 (wrap64 (a2 - 1)) true a0_0 a0_1 l0_2 l0_3 l0_4) else (spec_l2ok.j0 k a1 (wrap64 (a2 - 1)) (decide (a1 > 5)) a0_0 a0_1 l0_2 l0_3 l0_4)) = some r := h
 clear h
 have HC4 := Aside0.mk H
 clear H
 go_enter Try.func97, Try.ntmps97
 go_upto_region 2 with (first | ((with_reducible refine gate_dst (N := 3) rfl ?_); (try (refine gate_guard (by rfl) ?_; dsimp only)); refine box_event rfl (N := 3) rfl (cs := #[.int .i64 a0_0, .int .i64 a0_1, .slice A0_2 l0_2.length c0_2, .slice A0_3 l0_3.length c0_3, .slice A0_4 l0_4.length c0_4]) (t := 30) (by go_simp <;> rfl) ?_; intro gb228 hg w5 hbox hb; have BK228 := Aside0.mk (hbox); have GE228 := (Ge.of hg : Ge w.heap.size gb228); replace HB := (Bw.sw w hb); clear hb hbox hg))
 (try simp only [Act.put, List.setIfInBounds_toArray, List.set_cons_zero, List.set_cons_succ])
 go_cut [15] (fun v15 wc => ∃ (kq : Nat) (x15_3 : Bool), v15 = .bool x15_3 ∧ Aside0 (spec_l2ok.j0 kq a1 (wrap64 (a2 - 1)) x15_3 a0_0 a0_1 l0_2 l0_3 l0_4 = some r) ∧ Aside0 (kq ≤ k) ∧ Aside0 (wc.heap[gb228]? = some (.cells #[.int .i64 a0_0, .int .i64 a0_1, (.slice A0_2 l0_2.length c0_2), (.slice A0_3 l0_3.length c0_3), (.slice A0_4 l0_4.length c0_4)] 30 (0, 0))) ∧ Bw w wc)
 case first =>
  have H := HC4.out
  clear HC4
  by_cases c6 : (wrap64 (a2 - 1)) < 0
  ·rw [if_pos c6] at H
   have c6b0 : decide ((wrap64 (a2 - 1)) < 0) = true := decide_eq_true c6
   clear c6
   (first | rw [c6b0] | (simp only [i64_w, i32_w]; rw [c6b0]) | skip)
   have H' := Aside0.mk H
   clear H
   go_wp2
   go_meet
   case rel => exact ⟨_, (true), (by first | rfl | (simp; done) | (simp [*]; done)), H', ⟨by first | omega | exact Nat.le_refl _⟩, ⟨by (with_reducible repeat (first | refine blk_drewN ?_ _ | refine blk_drew ?_ | refine blk_alloc ?_ _)); exact BK228.out⟩, ⟨bw⟩⟩
  rw [if_neg c6] at H
  have c6b0 : decide ((wrap64 (a2 - 1)) < 0) = false := decide_eq_false c6
  clear c6
  (first | rw [c6b0] | (simp only [i64_w, i32_w]; rw [c6b0]) | skip)
  have H' := Aside0.mk H
  clear H
  go_wp2
  go_meet
  case rel => exact ⟨_, (decide (a1 > 5)), (by first | rfl | (simp; done) | (simp [*]; done)), H', ⟨by first | omega | exact Nat.le_refl _⟩, ⟨by (with_reducible repeat (first | refine blk_drewN ?_ _ | refine blk_drew ?_ | refine blk_alloc ?_ _)); exact BK228.out⟩, ⟨bw⟩⟩
 case rest =>
  as_aux_lemma =>
  clear HC4
  try clear c6
  try clear c6b0
  obtain ⟨kq, x15_3, rfl, HA, HJ3, BK228, HB⟩ := hcut
  cases kq with
  | zero => exact absurd HA.out (by simp [spec_l2ok.j0])
  | succ kj3 =>
   have H := HA.out
   clear HA
   simp only [spec_l2ok.j0] at H
   by_cases c7 : x15_3 = true
   ·subst c7
    replace H := (if_pos rfl).symm.trans H
    obtain rfl := Option.some.inj H
    go_wp2
    go_ret
    exact ⟨by first | rfl | (simp [errW_none, errW_some] <;> rfl) | (simp [*, errW_none, errW_some] <;> rfl), bw⟩
   as_aux_lemma =>
   replace c7 := Bool.eq_false_iff.mpr c7
   subst c7
   replace H := (if_neg (show ¬ (false = true) by decide)).symm.trans H
   have HC8 := Aside0.mk H
   clear H
   go_upto_region 4 with (fail)
   go_cut [66] (fun v66 wc => ∃ (kq : Nat) (x66_7 : Bool), v66 = .bool x66_7 ∧ Aside0 (spec_l2ok.j1 kq a1 (wrap64 (a2 - 1)) x66_7 a0_0 a0_1 l0_2 l0_3 l0_4 = some r) ∧ Aside0 (kq ≤ kj3) ∧ Aside0 (wc.heap[gb228]? = some (.cells #[.int .i64 a0_0, .int .i64 a0_1, (.slice A0_2 l0_2.length c0_2), (.slice A0_3 l0_3.length c0_3), (.slice A0_4 l0_4.length c0_4)] 30 (0, 0))) ∧ Bw w wc)
   case first =>
    as_aux_lemma =>
    have H := HC8.out
    clear HC8
    by_cases c9 : a0_0 = 3
    ·rw [if_pos c9] at H
     have c9b0 : (a0_0 == 3) = true := beq_iff_eq.mpr c9
     have c9b1 : (a0_0 != 3) = false := bne_eq_false_iff_eq.mpr c9
     clear c9
     (first | rw [c9b0] | (simp only [i64_w, i32_w]; rw [c9b0]) | skip)
     by_cases c10 : a0_0 = 5
     ·rw [if_pos c10] at H
      exact absurd H (by simp)
     rw [if_neg c10] at H
     have c10b0 : (a0_0 == 5) = false := beq_eq_false_iff_ne.mpr c10
     have c10b1 : (a0_0 != 5) = true := bne_iff_ne.mpr c10
     by_cases c11 : (l0_3.length : Int) > 0
     ·rw [if_pos c11] at H
      have c11b0 : decide (0 < (l0_3.length : Int)) = true := decide_eq_true c11
      have c11b1 : decide (0 < l0_3.length) = true := decide_eq_true (by omega)
      clear c11
      have H' := Aside0.mk H
      clear H
      obtain ⟨hcz12_0, hcz12_1, hcz12_2, hcz12_3, hcz12_4, hfz12_0, hfz12_1, hfz12_2, hfz12_3, hfz12_4⟩ := blk5 BK228.out
      go_wp2
      go_meet
      case rel => exact ⟨_, (true), (by first | rfl | (simp; done) | (simp [*]; done)), H', ⟨by have := HJ3.out; first | omega | exact Nat.le_refl _⟩, ⟨by (with_reducible repeat (first | refine blk_drewN ?_ _ | refine blk_drew ?_ | refine blk_alloc ?_ _)); exact BK228.out⟩, ⟨bw⟩⟩
     rw [if_neg c11] at H
     have c11b0 : decide (0 < (l0_3.length : Int)) = false := decide_eq_false c11
     have c11b1 : decide (0 < l0_3.length) = false := decide_eq_false (by omega)
     clear c11
     by_cases c13 : a0_0 = 1
     ·rw [if_pos c13] at H
      exact absurd H (by simp)
     rw [if_neg c13] at H
     have c13b0 : (a0_0 == 1) = false := beq_eq_false_iff_ne.mpr c13
     have c13b1 : (a0_0 != 1) = true := bne_iff_ne.mpr c13
     by_cases c14 : a0_0 = 2
     ·rw [if_pos c14] at H
      exact absurd H (by simp)
     rw [if_neg c14] at H
     have c14b0 : (a0_0 == 2) = false := beq_eq_false_iff_ne.mpr c14
     have c14b1 : (a0_0 != 2) = true := bne_iff_ne.mpr c14
     by_cases c15 : a0_1 = 0
     rotate_left
     ·rw [if_neg c15] at H
      have c15b0 : (a0_1 == 0) = false := beq_eq_false_iff_ne.mpr c15
      have c15b1 : (a0_1 != 0) = true := bne_iff_ne.mpr c15
      have H' := Aside0.mk H
      clear H
      obtain ⟨hcz18_0, hcz18_1, hcz18_2, hcz18_3, hcz18_4, hfz18_0, hfz18_1, hfz18_2, hfz18_3, hfz18_4⟩ := blk5 BK228.out
      go_wp2
      go_meet
      case rel => exact ⟨_, (true), (by first | rfl | (simp; done) | (simp [*]; done)), H', ⟨by have := HJ3.out; first | omega | exact Nat.le_refl _⟩, ⟨by (with_reducible repeat (first | refine blk_drewN ?_ _ | refine blk_drew ?_ | refine blk_alloc ?_ _)); exact BK228.out⟩, ⟨bw⟩⟩
     rw [if_pos c15] at H
     have c15b0 : (a0_1 == 0) = true := beq_iff_eq.mpr c15
     have c15b1 : (a0_1 != 0) = false := bne_eq_false_iff_eq.mpr c15
     clear c15
     by_cases c16 : a0_0 = 4
     ·rw [if_pos c16] at H
      exact absurd H (by simp)
     rw [if_neg c16] at H
     have c16b0 : (a0_0 == 4) = false := beq_eq_false_iff_ne.mpr c16
     have c16b1 : (a0_0 != 4) = true := bne_iff_ne.mpr c16
     have H' := Aside0.mk H
     clear H
     obtain ⟨hcz17_0, hcz17_1, hcz17_2, hcz17_3, hcz17_4, hfz17_0, hfz17_1, hfz17_2, hfz17_3, hfz17_4⟩ := blk5 BK228.out
     go_wp2
     go_meet
     case rel => exact ⟨_, (decide ((l0_4.length : Int) > 0)), (by first | rfl | (simp; done) | (simp [*]; done)), H', ⟨by have := HJ3.out; first | omega | exact Nat.le_refl _⟩, ⟨by (with_reducible repeat (first | refine blk_drewN ?_ _ | refine blk_drew ?_ | refine blk_alloc ?_ _)); exact BK228.out⟩, ⟨bw⟩⟩
    rw [if_neg c9] at H
    have c9b0 : (a0_0 == 3) = false := beq_eq_false_iff_ne.mpr c9
    have c9b1 : (a0_0 != 3) = true := bne_iff_ne.mpr c9
    (first | rw [c9b0] | (simp only [i64_w, i32_w]; rw [c9b0]) | skip)
    by_cases c19 : (l0_2.length : Int) > 0
    ·rw [if_pos c19] at H
     have c19b0 : decide (0 < (l0_2.length : Int)) = true := decide_eq_true c19
     have c19b1 : decide (0 < l0_2.length) = true := decide_eq_true (by omega)
     clear c19
     have H' := Aside0.mk H
     clear H
     obtain ⟨hcz20_0, hcz20_1, hcz20_2, hcz20_3, hcz20_4, hfz20_0, hfz20_1, hfz20_2, hfz20_3, hfz20_4⟩ := blk5 BK228.out
     go_wp2
     go_meet
     case rel => exact ⟨_, (true), (by first | rfl | (simp; done) | (simp [*]; done)), H', ⟨by have := HJ3.out; first | omega | exact Nat.le_refl _⟩, ⟨by (with_reducible repeat (first | refine blk_drewN ?_ _ | refine blk_drew ?_ | refine blk_alloc ?_ _)); exact BK228.out⟩, ⟨bw⟩⟩
    rw [if_neg c19] at H
    have c19b0 : decide (0 < (l0_2.length : Int)) = false := decide_eq_false c19
    have c19b1 : decide (0 < l0_2.length) = false := decide_eq_false (by omega)
    clear c19
    by_cases c21 : a0_0 = 5
    ·rw [if_pos c21] at H
     have c21b0 : (a0_0 == 5) = true := beq_iff_eq.mpr c21
     have c21b1 : (a0_0 != 5) = false := bne_eq_false_iff_eq.mpr c21
     clear c21
     by_cases c22 : a0_0 = 1
     ·rw [if_pos c22] at H
      exact absurd H (by simp)
     rw [if_neg c22] at H
     have c22b0 : (a0_0 == 1) = false := beq_eq_false_iff_ne.mpr c22
     have c22b1 : (a0_0 != 1) = true := bne_iff_ne.mpr c22
     by_cases c23 : a0_0 = 2
     ·rw [if_pos c23] at H
      exact absurd H (by simp)
     rw [if_neg c23] at H
     have c23b0 : (a0_0 == 2) = false := beq_eq_false_iff_ne.mpr c23
     have c23b1 : (a0_0 != 2) = true := bne_iff_ne.mpr c23
     by_cases c24 : a0_1 = 0
     rotate_left
     ·rw [if_neg c24] at H
      have c24b0 : (a0_1 == 0) = false := beq_eq_false_iff_ne.mpr c24
      have c24b1 : (a0_1 != 0) = true := bne_iff_ne.mpr c24
      have H' := Aside0.mk H
      clear H
      obtain ⟨hcz27_0, hcz27_1, hcz27_2, hcz27_3, hcz27_4, hfz27_0, hfz27_1, hfz27_2, hfz27_3, hfz27_4⟩ := blk5 BK228.out
      go_wp2
      go_meet
      case rel => exact ⟨_, (true), (by first | rfl | (simp; done) | (simp [*]; done)), H', ⟨by have := HJ3.out; first | omega | exact Nat.le_refl _⟩, ⟨by (with_reducible repeat (first | refine blk_drewN ?_ _ | refine blk_drew ?_ | refine blk_alloc ?_ _)); exact BK228.out⟩, ⟨bw⟩⟩
     rw [if_pos c24] at H
     have c24b0 : (a0_1 == 0) = true := beq_iff_eq.mpr c24
     have c24b1 : (a0_1 != 0) = false := bne_eq_false_iff_eq.mpr c24
     clear c24
     by_cases c25 : a0_0 = 4
     ·rw [if_pos c25] at H
      exact absurd H (by simp)
     rw [if_neg c25] at H
     have c25b0 : (a0_0 == 4) = false := beq_eq_false_iff_ne.mpr c25
     have c25b1 : (a0_0 != 4) = true := bne_iff_ne.mpr c25
     have H' := Aside0.mk H
     clear H
     obtain ⟨hcz26_0, hcz26_1, hcz26_2, hcz26_3, hcz26_4, hfz26_0, hfz26_1, hfz26_2, hfz26_3, hfz26_4⟩ := blk5 BK228.out
     go_wp2
     go_meet
     case rel => exact ⟨_, (false), (by first | rfl | (simp; done) | (simp [*]; done)), H', ⟨by have := HJ3.out; first | omega | exact Nat.le_refl _⟩, ⟨by (with_reducible repeat (first | refine blk_drewN ?_ _ | refine blk_drew ?_ | refine blk_alloc ?_ _)); exact BK228.out⟩, ⟨bw⟩⟩
    rw [if_neg c21] at H
    have c21b0 : (a0_0 == 5) = false := beq_eq_false_iff_ne.mpr c21
    have c21b1 : (a0_0 != 5) = true := bne_iff_ne.mpr c21
    by_cases c28 : (l0_3.length : Int) > 0
    ·rw [if_pos c28] at H
     have c28b0 : decide (0 < (l0_3.length : Int)) = true := decide_eq_true c28
     have c28b1 : decide (0 < l0_3.length) = true := decide_eq_true (by omega)
     clear c28
     have H' := Aside0.mk H
     clear H
     obtain ⟨hcz29_0, hcz29_1, hcz29_2, hcz29_3, hcz29_4, hfz29_0, hfz29_1, hfz29_2, hfz29_3, hfz29_4⟩ := blk5 BK228.out
     go_wp2
     go_meet
     case rel => exact ⟨_, (true), (by first | rfl | (simp; done) | (simp [*]; done)), H', ⟨by have := HJ3.out; first | omega | exact Nat.le_refl _⟩, ⟨by (with_reducible repeat (first | refine blk_drewN ?_ _ | refine blk_drew ?_ | refine blk_alloc ?_ _)); exact BK228.out⟩, ⟨bw⟩⟩
    rw [if_neg c28] at H
    have c28b0 : decide (0 < (l0_3.length : Int)) = false := decide_eq_false c28
    have c28b1 : decide (0 < l0_3.length) = false := decide_eq_false (by omega)
    clear c28
    by_cases c30 : a0_0 = 1
    ·rw [if_pos c30] at H
     have c30b0 : (a0_0 == 1) = true := beq_iff_eq.mpr c30
     have c30b1 : (a0_0 != 1) = false := bne_eq_false_iff_eq.mpr c30
     clear c30
     by_cases c31 : a0_0 = 4
     ·rw [if_pos c31] at H
      exact absurd H (by simp)
     rw [if_neg c31] at H
     have c31b0 : (a0_0 == 4) = false := beq_eq_false_iff_ne.mpr c31
     have c31b1 : (a0_0 != 4) = true := bne_iff_ne.mpr c31
     have H' := Aside0.mk H
     clear H
     obtain ⟨hcz32_0, hcz32_1, hcz32_2, hcz32_3, hcz32_4, hfz32_0, hfz32_1, hfz32_2, hfz32_3, hfz32_4⟩ := blk5 BK228.out
     go_wp2
     go_meet
     case rel => exact ⟨_, (decide ((l0_4.length : Int) > 0)), (by first | rfl | (simp; done) | (simp [*]; done)), H', ⟨by have := HJ3.out; first | omega | exact Nat.le_refl _⟩, ⟨by (with_reducible repeat (first | refine blk_drewN ?_ _ | refine blk_drew ?_ | refine blk_alloc ?_ _)); exact BK228.out⟩, ⟨bw⟩⟩
    rw [if_neg c30] at H
    have c30b0 : (a0_0 == 1) = false := beq_eq_false_iff_ne.mpr c30
    have c30b1 : (a0_0 != 1) = true := bne_iff_ne.mpr c30
    by_cases c33 : a0_0 = 2
    ·rw [if_pos c33] at H
     have c33b0 : (a0_0 == 2) = true := beq_iff_eq.mpr c33
     have c33b1 : (a0_0 != 2) = false := bne_eq_false_iff_eq.mpr c33
     clear c33
     by_cases c34 : a0_0 = 4
     ·rw [if_pos c34] at H
      exact absurd H (by simp)
     rw [if_neg c34] at H
     have c34b0 : (a0_0 == 4) = false := beq_eq_false_iff_ne.mpr c34
     have c34b1 : (a0_0 != 4) = true := bne_iff_ne.mpr c34
     have H' := Aside0.mk H
     clear H
     obtain ⟨hcz35_0, hcz35_1, hcz35_2, hcz35_3, hcz35_4, hfz35_0, hfz35_1, hfz35_2, hfz35_3, hfz35_4⟩ := blk5 BK228.out
     go_wp2
     go_meet
     case rel => exact ⟨_, (decide ((l0_4.length : Int) > 0)), (by first | rfl | (simp; done) | (simp [*]; done)), H', ⟨by have := HJ3.out; first | omega | exact Nat.le_refl _⟩, ⟨by (with_reducible repeat (first | refine blk_drewN ?_ _ | refine blk_drew ?_ | refine blk_alloc ?_ _)); exact BK228.out⟩, ⟨bw⟩⟩
    rw [if_neg c33] at H
    have c33b0 : (a0_0 == 2) = false := beq_eq_false_iff_ne.mpr c33
    have c33b1 : (a0_0 != 2) = true := bne_iff_ne.mpr c33
    by_cases c36 : a0_1 = 0
    rotate_left
    ·rw [if_neg c36] at H
     have c36b0 : (a0_1 == 0) = false := beq_eq_false_iff_ne.mpr c36
     have c36b1 : (a0_1 != 0) = true := bne_iff_ne.mpr c36
     have H' := Aside0.mk H
     clear H
     obtain ⟨hcz40_0, hcz40_1, hcz40_2, hcz40_3, hcz40_4, hfz40_0, hfz40_1, hfz40_2, hfz40_3, hfz40_4⟩ := blk5 BK228.out
     go_wp2
     go_meet
     case rel => exact ⟨_, (true), (by first | rfl | (simp; done) | (simp [*]; done)), H', ⟨by have := HJ3.out; first | omega | exact Nat.le_refl _⟩, ⟨by (with_reducible repeat (first | refine blk_drewN ?_ _ | refine blk_drew ?_ | refine blk_alloc ?_ _)); exact BK228.out⟩, ⟨bw⟩⟩
    rw [if_pos c36] at H
    have c36b0 : (a0_1 == 0) = true := beq_iff_eq.mpr c36
    have c36b1 : (a0_1 != 0) = false := bne_eq_false_iff_eq.mpr c36
    clear c36
    by_cases c37 : a0_0 = 4
    ·rw [if_pos c37] at H
     have c37b0 : (a0_0 == 4) = true := beq_iff_eq.mpr c37
     have c37b1 : (a0_0 != 4) = false := bne_eq_false_iff_eq.mpr c37
     clear c37
     have H' := Aside0.mk H
     clear H
     obtain ⟨hcz38_0, hcz38_1, hcz38_2, hcz38_3, hcz38_4, hfz38_0, hfz38_1, hfz38_2, hfz38_3, hfz38_4⟩ := blk5 BK228.out
     go_wp2
     go_meet
     case rel => exact ⟨_, (false), (by first | rfl | (simp; done) | (simp [*]; done)), H', ⟨by have := HJ3.out; first | omega | exact Nat.le_refl _⟩, ⟨by (with_reducible repeat (first | refine blk_drewN ?_ _ | refine blk_drew ?_ | refine blk_alloc ?_ _)); exact BK228.out⟩, ⟨bw⟩⟩
    rw [if_neg c37] at H
    have c37b0 : (a0_0 == 4) = false := beq_eq_false_iff_ne.mpr c37
    have c37b1 : (a0_0 != 4) = true := bne_iff_ne.mpr c37
    have H' := Aside0.mk H
    clear H
    obtain ⟨hcz39_0, hcz39_1, hcz39_2, hcz39_3, hcz39_4, hfz39_0, hfz39_1, hfz39_2, hfz39_3, hfz39_4⟩ := blk5 BK228.out
    go_wp2
    go_meet
    case rel => exact ⟨_, (decide ((l0_4.length : Int) > 0)), (by first | rfl | (simp; done) | (simp [*]; done)), H', ⟨by have := HJ3.out; first | omega | exact Nat.le_refl _⟩, ⟨by (with_reducible repeat (first | refine blk_drewN ?_ _ | refine blk_drew ?_ | refine blk_alloc ?_ _)); exact BK228.out⟩, ⟨bw⟩⟩
   case rest =>
    as_aux_lemma =>
    clear HC8
    try clear c6
    try clear c6b0
    try clear c7
    try clear c9
    try clear c9b0
    try clear c9b1
    try clear c10
    try clear c10b0
    try clear c10b1
    try clear c11
    try clear c11b0
    try clear c11b1
    try clear c13
    try clear c13b0
    try clear c13b1
    try clear c14
    try clear c14b0
    try clear c14b1
    try clear c15
    try clear c15b0
    try clear c15b1
    try clear c16
    try clear c16b0
    try clear c16b1
    try clear c19
    try clear c19b0
    try clear c19b1
    try clear c21
    try clear c21b0
    try clear c21b1
    try clear c22
    try clear c22b0
    try clear c22b1
    try clear c23
    try clear c23b0
    try clear c23b1
    try clear c24
    try clear c24b0
    try clear c24b1
    try clear c25
    try clear c25b0
    try clear c25b1
    try clear c28
    try clear c28b0
    try clear c28b1
    try clear c30
    try clear c30b0
    try clear c30b1
    try clear c31
    try clear c31b0
    try clear c31b1
    try clear c33
    try clear c33b0
    try clear c33b1
    try clear c34
    try clear c34b0
    try clear c34b1
    try clear c36
    try clear c36b0
    try clear c36b1
    try clear c37
    try clear c37b0
    try clear c37b1
    try clear hcz12_0 hcz12_1 hcz12_2 hcz12_3 hcz12_4
    try clear hcz17_0 hcz17_1 hcz17_2 hcz17_3 hcz17_4
    try clear hcz18_0 hcz18_1 hcz18_2 hcz18_3 hcz18_4
    try clear hcz20_0 hcz20_1 hcz20_2 hcz20_3 hcz20_4
    try clear hcz26_0 hcz26_1 hcz26_2 hcz26_3 hcz26_4
    try clear hcz27_0 hcz27_1 hcz27_2 hcz27_3 hcz27_4
    try clear hcz29_0 hcz29_1 hcz29_2 hcz29_3 hcz29_4
    try clear hcz32_0 hcz32_1 hcz32_2 hcz32_3 hcz32_4
    try clear hcz35_0 hcz35_1 hcz35_2 hcz35_3 hcz35_4
    try clear hcz38_0 hcz38_1 hcz38_2 hcz38_3 hcz38_4
    try clear hcz39_0 hcz39_1 hcz39_2 hcz39_3 hcz39_4
    try clear hcz40_0 hcz40_1 hcz40_2 hcz40_3 hcz40_4
    try clear hfz12_0 hfz12_1 hfz12_2 hfz12_3 hfz12_4
    try clear hfz17_0 hfz17_1 hfz17_2 hfz17_3 hfz17_4
    try clear hfz18_0 hfz18_1 hfz18_2 hfz18_3 hfz18_4
    try clear hfz20_0 hfz20_1 hfz20_2 hfz20_3 hfz20_4
    try clear hfz26_0 hfz26_1 hfz26_2 hfz26_3 hfz26_4
    try clear hfz27_0 hfz27_1 hfz27_2 hfz27_3 hfz27_4
    try clear hfz29_0 hfz29_1 hfz29_2 hfz29_3 hfz29_4
    try clear hfz32_0 hfz32_1 hfz32_2 hfz32_3 hfz32_4
    try clear hfz35_0 hfz35_1 hfz35_2 hfz35_3 hfz35_4
    try clear hfz38_0 hfz38_1 hfz38_2 hfz38_3 hfz38_4
    try clear hfz39_0 hfz39_1 hfz39_2 hfz39_3 hfz39_4
    try clear hfz40_0 hfz40_1 hfz40_2 hfz40_3 hfz40_4
    obtain ⟨kq, x66_7, rfl, HA, HJ7, BK228, HB⟩ := hcut
    cases kq with
    | zero => exact absurd HA.out (by simp [spec_l2ok.j1])
    | succ kj7 =>
     have H := HA.out
     clear HA
     simp only [spec_l2ok.j1] at H
     by_cases c41 : x66_7 = true
     ·subst c41
      replace H := (if_pos rfl).symm.trans H
      obtain rfl := Option.some.inj H
      go_wp2
      go_ret
      exact ⟨by first | rfl | (simp [errW_none, errW_some] <;> rfl) | (simp [*, errW_none, errW_some] <;> rfl), bw⟩
     as_aux_lemma =>
     replace c41 := Bool.eq_false_iff.mpr c41
     subst c41
     replace H := (if_neg (show ¬ (false = true) by decide)).symm.trans H
     have HC42 := Aside0.mk H
     clear H
     obtain ⟨hcz43_0, hcz43_1, hcz43_2, hcz43_3, hcz43_4, hfz43_0, hfz43_1, hfz43_2, hfz43_3, hfz43_4⟩ := blk5 BK228.out
     go_upto_if 69 with (fail)
     go_cut [69] (fun v69 wc => ∃ (kq : Nat) (x69_41 : Bool), v69 = .bool x69_41 ∧ Aside0 (spec_l2ok.j2 kq a1 (wrap64 (a2 - 1)) a0_0 x69_41 a0_0 a0_1 l0_2 l0_3 l0_4 = some r) ∧ Aside0 (kq ≤ kj7) ∧ Aside0 (wc.heap[gb228]? = some (.cells #[.int .i64 a0_0, .int .i64 a0_1, (.slice A0_2 l0_2.length c0_2), (.slice A0_3 l0_3.length c0_3), (.slice A0_4 l0_4.length c0_4)] 30 (0, 0))) ∧ Bw w wc)
     case first =>
      have H := HC42.out
      clear HC42
      by_cases c44 : a0_0 = 0
      ·rw [if_pos c44] at H
       have c44b0 : (a0_0 == 0) = true := beq_iff_eq.mpr c44
       have c44b1 : (a0_0 != 0) = false := bne_eq_false_iff_eq.mpr c44
       clear c44
       (first | rw [c44b0] | (simp only [i64_w, i32_w]; rw [c44b0]) | skip)
       have H' := Aside0.mk H
       clear H
       go_wp2
       go_meet
       case rel => exact ⟨_, ((a0_0 == 0)), (by first | rfl | (simp; done) | (simp [*]; done)), H', ⟨by have := HJ3.out; have := HJ7.out; first | omega | exact Nat.le_refl _⟩, ⟨by (with_reducible repeat (first | refine blk_drewN ?_ _ | refine blk_drew ?_ | refine blk_alloc ?_ _)); exact BK228.out⟩, ⟨bw⟩⟩
      rw [if_neg c44] at H
      have c44b0 : (a0_0 == 0) = false := beq_eq_false_iff_ne.mpr c44
      have c44b1 : (a0_0 != 0) = true := bne_iff_ne.mpr c44
      (first | rw [c44b0] | (simp only [i64_w, i32_w]; rw [c44b0]) | skip)
      have H' := Aside0.mk H
      clear H
      go_wp2
      go_meet
      case rel => exact ⟨_, ((a0_0 == 6)), (by first | rfl | (simp; done) | (simp [*]; done)), H', ⟨by have := HJ3.out; have := HJ7.out; first | omega | exact Nat.le_refl _⟩, ⟨by (with_reducible repeat (first | refine blk_drewN ?_ _ | refine blk_drew ?_ | refine blk_alloc ?_ _)); exact BK228.out⟩, ⟨bw⟩⟩
     case rest =>
      as_aux_lemma =>
      clear HC42
      try clear c6
      try clear c6b0
      try clear c7
      try clear c9
      try clear c9b0
      try clear c9b1
      try clear c10
      try clear c10b0
      try clear c10b1
      try clear c11
      try clear c11b0
      try clear c11b1
      try clear c13
      try clear c13b0
      try clear c13b1
      try clear c14
      try clear c14b0
      try clear c14b1
      try clear c15
      try clear c15b0
      try clear c15b1
      try clear c16
      try clear c16b0
      try clear c16b1
      try clear c19
      try clear c19b0
      try clear c19b1
      try clear c21
      try clear c21b0
      try clear c21b1
      try clear c22
      try clear c22b0
      try clear c22b1
      try clear c23
      try clear c23b0
      try clear c23b1
      try clear c24
      try clear c24b0
      try clear c24b1
      try clear c25
      try clear c25b0
      try clear c25b1
      try clear c28
      try clear c28b0
      try clear c28b1
      try clear c30
      try clear c30b0
      try clear c30b1
      try clear c31
      try clear c31b0
      try clear c31b1
      try clear c33
      try clear c33b0
      try clear c33b1
      try clear c34
      try clear c34b0
      try clear c34b1
      try clear c36
      try clear c36b0
      try clear c36b1
      try clear c37
      try clear c37b0
      try clear c37b1
      try clear c41
      try clear c44
      try clear c44b0
      try clear c44b1
      try clear hcz12_0 hcz12_1 hcz12_2 hcz12_3 hcz12_4
      try clear hcz17_0 hcz17_1 hcz17_2 hcz17_3 hcz17_4
      try clear hcz18_0 hcz18_1 hcz18_2 hcz18_3 hcz18_4
      try clear hcz20_0 hcz20_1 hcz20_2 hcz20_3 hcz20_4
      try clear hcz26_0 hcz26_1 hcz26_2 hcz26_3 hcz26_4
      try clear hcz27_0 hcz27_1 hcz27_2 hcz27_3 hcz27_4
      try clear hcz29_0 hcz29_1 hcz29_2 hcz29_3 hcz29_4
      try clear hcz32_0 hcz32_1 hcz32_2 hcz32_3 hcz32_4
      try clear hcz35_0 hcz35_1 hcz35_2 hcz35_3 hcz35_4
      try clear hcz38_0 hcz38_1 hcz38_2 hcz38_3 hcz38_4
      try clear hcz39_0 hcz39_1 hcz39_2 hcz39_3 hcz39_4
      try clear hcz40_0 hcz40_1 hcz40_2 hcz40_3 hcz40_4
      try clear hcz43_0 hcz43_1 hcz43_2 hcz43_3 hcz43_4
      try clear hfz12_0 hfz12_1 hfz12_2 hfz12_3 hfz12_4
      try clear hfz17_0 hfz17_1 hfz17_2 hfz17_3 hfz17_4
      try clear hfz18_0 hfz18_1 hfz18_2 hfz18_3 hfz18_4
      try clear hfz20_0 hfz20_1 hfz20_2 hfz20_3 hfz20_4
      try clear hfz26_0 hfz26_1 hfz26_2 hfz26_3 hfz26_4
      try clear hfz27_0 hfz27_1 hfz27_2 hfz27_3 hfz27_4
      try clear hfz29_0 hfz29_1 hfz29_2 hfz29_3 hfz29_4
      try clear hfz32_0 hfz32_1 hfz32_2 hfz32_3 hfz32_4
      try clear hfz35_0 hfz35_1 hfz35_2 hfz35_3 hfz35_4
      try clear hfz38_0 hfz38_1 hfz38_2 hfz38_3 hfz38_4
      try clear hfz39_0 hfz39_1 hfz39_2 hfz39_3 hfz39_4
      try clear hfz40_0 hfz40_1 hfz40_2 hfz40_3 hfz40_4
      try clear hfz43_0 hfz43_1 hfz43_2 hfz43_3 hfz43_4
      obtain ⟨kq, x69_41, rfl, HA, HJ41, BK228, HB⟩ := hcut
      cases kq with
      | zero => exact absurd HA.out (by simp [spec_l2ok.j2])
      | succ kj41 =>
       have H := HA.out
       clear HA
       simp only [spec_l2ok.j2] at H
       by_cases c45 : x69_41 = true
       ·subst c45
        replace H := (if_pos rfl).symm.trans H
        obtain rfl := Option.some.inj H
        go_wp2
        go_ret
        exact ⟨by first | rfl | (simp [errW_none, errW_some] <;> rfl) | (simp [*, errW_none, errW_some] <;> rfl), bw⟩
       as_aux_lemma =>
       replace c45 := Bool.eq_false_iff.mpr c45
       subst c45
       replace H := (if_neg (show ¬ (false = true) by decide)).symm.trans H
       by_cases c46 : a0_0 = 1
       ·rw [if_pos c46] at H
        have c46b0 : (a0_0 == 1) = true := beq_iff_eq.mpr c46
        have c46b1 : (a0_0 != 1) = false := bne_eq_false_iff_eq.mpr c46
        clear c46
        by_cases c47 : a0_1 < 0
        ·rw [if_pos c47] at H
         have c47b0 : decide (a0_1 < 0) = true := decide_eq_true c47
         clear c47
         obtain rfl := Option.some.inj H
         obtain ⟨hcz48_0, hcz48_1, hcz48_2, hcz48_3, hcz48_4, hfz48_0, hfz48_1, hfz48_2, hfz48_3, hfz48_4⟩ := blk5 BK228.out
         go_wp2
         go_ret
         exact ⟨by first | rfl | (simp [errW_none, errW_some] <;> rfl) | (simp [*, errW_none, errW_some] <;> rfl), bw⟩
        rw [if_neg c47] at H
        have c47b0 : decide (a0_1 < 0) = false := decide_eq_false c47
        clear c47
        by_cases c49 : a0_1 > 1
        ·rw [if_pos c49] at H
         have c49b0 : decide (1 < a0_1) = true := decide_eq_true c49
         clear c49
         obtain rfl := Option.some.inj H
         obtain ⟨hcz50_0, hcz50_1, hcz50_2, hcz50_3, hcz50_4, hfz50_0, hfz50_1, hfz50_2, hfz50_3, hfz50_4⟩ := blk5 BK228.out
         go_wp2
         go_ret
         exact ⟨by first | rfl | (simp [errW_none, errW_some] <;> rfl) | (simp [*, errW_none, errW_some] <;> rfl), bw⟩
        rw [if_neg c49] at H
        have c49b0 : decide (1 < a0_1) = false := decide_eq_false c49
        clear c49
        obtain rfl := Option.some.inj H
        obtain ⟨hcz51_0, hcz51_1, hcz51_2, hcz51_3, hcz51_4, hfz51_0, hfz51_1, hfz51_2, hfz51_3, hfz51_4⟩ := blk5 BK228.out
        go_wp2
        go_ret
        exact ⟨by first | rfl | (simp [errW_none, errW_some] <;> rfl) | (simp [*, errW_none, errW_some] <;> rfl), bw⟩
       as_aux_lemma =>
       rw [if_neg c46] at H
       have c46b0 : (a0_0 == 1) = false := beq_eq_false_iff_ne.mpr c46
       have c46b1 : (a0_0 != 1) = true := bne_iff_ne.mpr c46
       by_cases c52 : a0_0 = 2
       ·rw [if_pos c52] at H
        have c52b0 : (a0_0 == 2) = true := beq_iff_eq.mpr c52
        have c52b1 : (a0_0 != 2) = false := bne_eq_false_iff_eq.mpr c52
        clear c52
        replace H := Option.bind_eq_some_iff.mp H
        obtain ⟨t229, A530, H⟩ := H
        have A53 := Aside0.mk A530
        clear A530
        by_cases c54 : t229 = true
        ·subst c54
         replace H := (if_pos rfl).symm.trans H
         obtain rfl := Option.some.inj H
         obtain ⟨hcz55_0, hcz55_1, hcz55_2, hcz55_3, hcz55_4, hfz55_0, hfz55_1, hfz55_2, hfz55_3, hfz55_4⟩ := blk5 BK228.out
         go_wp2_with (first | ((with_reducible refine gg (f := 126) (some 88) rfl rfl rfl fr126 ?_); refine onc (spec_l2int.calls a0_1 true _ A53.out) rfl ?_; rintro e w' ⟨rfl, ⟨nd, rfl⟩⟩; refine ⟨_, rfl, ?_⟩))
         go_ret
         exact ⟨by first | rfl | (simp [errW_none, errW_some] <;> rfl) | (simp [*, errW_none, errW_some] <;> rfl), bw⟩
        replace c54 := Bool.eq_false_iff.mpr c54
        subst c54
        replace H := (if_neg (show ¬ (false = true) by decide)).symm.trans H
        obtain rfl := Option.some.inj H
        obtain ⟨hcz56_0, hcz56_1, hcz56_2, hcz56_3, hcz56_4, hfz56_0, hfz56_1, hfz56_2, hfz56_3, hfz56_4⟩ := blk5 BK228.out
        go_wp2_with (first | ((with_reducible refine gg (f := 126) (some 88) rfl rfl rfl fr126 ?_); refine onc (spec_l2int.calls a0_1 false _ A53.out) rfl ?_; rintro e w' ⟨rfl, ⟨nd, rfl⟩⟩; refine ⟨_, rfl, ?_⟩))
        go_ret
        exact ⟨by first | rfl | (simp [errW_none, errW_some] <;> rfl) | (simp [*, errW_none, errW_some] <;> rfl), bw⟩
       as_aux_lemma =>
       rw [if_neg c52] at H
       have c52b0 : (a0_0 == 2) = false := beq_eq_false_iff_ne.mpr c52
       have c52b1 : (a0_0 != 2) = true := bne_iff_ne.mpr c52
       by_cases c57 : a0_0 = 3
       ·rw [if_pos c57] at H
        have c57b0 : (a0_0 == 3) = true := beq_iff_eq.mpr c57
        have c57b1 : (a0_0 != 3) = false := bne_eq_false_iff_eq.mpr c57
        clear c57
        replace H := Option.bind_eq_some_iff.mp H
        obtain ⟨t230, A580, H⟩ := H
        have A58 := Aside0.mk A580
        clear A580
        by_cases c59 : t230 = true
        ·subst c59
         replace H := (if_pos rfl).symm.trans H
         obtain rfl := Option.some.inj H
         obtain ⟨hcz60_0, hcz60_1, hcz60_2, hcz60_3, hcz60_4, hfz60_0, hfz60_1, hfz60_2, hfz60_3, hfz60_4⟩ := blk5 BK228.out
         go_wp2_with (first | ((with_reducible refine gg (f := 127) (some 95) rfl rfl rfl fr127 ?_); refine onc (spec_l2text.calls kj41 _ _ l0_2 true _ (cb HR0_2) HC0_2.out A58.out) rfl ?_; rintro e w' ⟨rfl, ⟨nd, rfl⟩⟩; refine ⟨_, rfl, ?_⟩))
         go_ret
         exact ⟨by first | rfl | (simp [errW_none, errW_some] <;> rfl) | (simp [*, errW_none, errW_some] <;> rfl), bw⟩
        replace c59 := Bool.eq_false_iff.mpr c59
        subst c59
        replace H := (if_neg (show ¬ (false = true) by decide)).symm.trans H
        obtain rfl := Option.some.inj H
        obtain ⟨hcz61_0, hcz61_1, hcz61_2, hcz61_3, hcz61_4, hfz61_0, hfz61_1, hfz61_2, hfz61_3, hfz61_4⟩ := blk5 BK228.out
        go_wp2_with (first | ((with_reducible refine gg (f := 127) (some 95) rfl rfl rfl fr127 ?_); refine onc (spec_l2text.calls kj41 _ _ l0_2 false _ (cb HR0_2) HC0_2.out A58.out) rfl ?_; rintro e w' ⟨rfl, ⟨nd, rfl⟩⟩; refine ⟨_, rfl, ?_⟩))
        go_ret
        exact ⟨by first | rfl | (simp [errW_none, errW_some] <;> rfl) | (simp [*, errW_none, errW_some] <;> rfl), bw⟩
       as_aux_lemma =>
       rw [if_neg c57] at H
       have c57b0 : (a0_0 == 3) = false := beq_eq_false_iff_ne.mpr c57
       have c57b1 : (a0_0 != 3) = true := bne_iff_ne.mpr c57
       have HC62 := Aside0.mk H
       clear H
       go_upto_if 98 with (fail)
       go_cut [98] (fun v98 wc => ∃ (kq : Nat) (x98_61 : Bool), v98 = .bool x98_61 ∧ Aside0 (spec_l2ok.j3 kq a1 (wrap64 (a2 - 1)) x98_61 a0_0 a0_1 l0_2 l0_3 l0_4 = some r) ∧ Aside0 (kq ≤ kj41) ∧ Aside0 (wc.heap[gb228]? = some (.cells #[.int .i64 a0_0, .int .i64 a0_1, (.slice A0_2 l0_2.length c0_2), (.slice A0_3 l0_3.length c0_3), (.slice A0_4 l0_4.length c0_4)] 30 (0, 0))) ∧ Bw w wc)
       case first =>
        have H := HC62.out
        clear HC62
        by_cases c63 : a0_0 = 4
        ·rw [if_pos c63] at H
         have c63b0 : (a0_0 == 4) = true := beq_iff_eq.mpr c63
         have c63b1 : (a0_0 != 4) = false := bne_eq_false_iff_eq.mpr c63
         clear c63
         (first | rw [c63b0] | (simp only [i64_w, i32_w]; rw [c63b0]) | skip)
         have H' := Aside0.mk H
         clear H
         go_wp2
         go_meet
         case rel => exact ⟨_, ((a0_0 == 4)), (by first | rfl | (simp; done) | (simp [*]; done)), H', ⟨by have := HJ3.out; have := HJ7.out; have := HJ41.out; first | omega | exact Nat.le_refl _⟩, ⟨by (with_reducible repeat (first | refine blk_drewN ?_ _ | refine blk_drew ?_ | refine blk_alloc ?_ _)); exact BK228.out⟩, ⟨bw⟩⟩
        rw [if_neg c63] at H
        have c63b0 : (a0_0 == 4) = false := beq_eq_false_iff_ne.mpr c63
        have c63b1 : (a0_0 != 4) = true := bne_iff_ne.mpr c63
        (first | rw [c63b0] | (simp only [i64_w, i32_w]; rw [c63b0]) | skip)
        have H' := Aside0.mk H
        clear H
        go_wp2
        go_meet
        case rel => exact ⟨_, ((a0_0 == 5)), (by first | rfl | (simp; done) | (simp [*]; done)), H', ⟨by have := HJ3.out; have := HJ7.out; have := HJ41.out; first | omega | exact Nat.le_refl _⟩, ⟨by (with_reducible repeat (first | refine blk_drewN ?_ _ | refine blk_drew ?_ | refine blk_alloc ?_ _)); exact BK228.out⟩, ⟨bw⟩⟩
       case rest =>
        as_aux_lemma =>
        clear HC62
        try clear c6
        try clear c6b0
        try clear c7
        try clear c9
        try clear c9b0
        try clear c9b1
        try clear c10
        try clear c10b0
        try clear c10b1
        try clear c11
        try clear c11b0
        try clear c11b1
        try clear c13
        try clear c13b0
        try clear c13b1
        try clear c14
        try clear c14b0
        try clear c14b1
        try clear c15
        try clear c15b0
        try clear c15b1
        try clear c16
        try clear c16b0
        try clear c16b1
        try clear c19
        try clear c19b0
        try clear c19b1
        try clear c21
        try clear c21b0
        try clear c21b1
        try clear c22
        try clear c22b0
        try clear c22b1
        try clear c23
        try clear c23b0
        try clear c23b1
        try clear c24
        try clear c24b0
        try clear c24b1
        try clear c25
        try clear c25b0
        try clear c25b1
        try clear c28
        try clear c28b0
        try clear c28b1
        try clear c30
        try clear c30b0
        try clear c30b1
        try clear c31
        try clear c31b0
        try clear c31b1
        try clear c33
        try clear c33b0
        try clear c33b1
        try clear c34
        try clear c34b0
        try clear c34b1
        try clear c36
        try clear c36b0
        try clear c36b1
        try clear c37
        try clear c37b0
        try clear c37b1
        try clear c41
        try clear c44
        try clear c44b0
        try clear c44b1
        try clear c45
        try clear c46
        try clear c46b0
        try clear c46b1
        try clear c47
        try clear c47b0
        try clear c49
        try clear c49b0
        try clear c52
        try clear c52b0
        try clear c52b1
        try clear c54
        try clear c57
        try clear c57b0
        try clear c57b1
        try clear c59
        try clear c63
        try clear c63b0
        try clear c63b1
        try clear hcz12_0 hcz12_1 hcz12_2 hcz12_3 hcz12_4
        try clear hcz17_0 hcz17_1 hcz17_2 hcz17_3 hcz17_4
        try clear hcz18_0 hcz18_1 hcz18_2 hcz18_3 hcz18_4
        try clear hcz20_0 hcz20_1 hcz20_2 hcz20_3 hcz20_4
        try clear hcz26_0 hcz26_1 hcz26_2 hcz26_3 hcz26_4
        try clear hcz27_0 hcz27_1 hcz27_2 hcz27_3 hcz27_4
        try clear hcz29_0 hcz29_1 hcz29_2 hcz29_3 hcz29_4
        try clear hcz32_0 hcz32_1 hcz32_2 hcz32_3 hcz32_4
        try clear hcz35_0 hcz35_1 hcz35_2 hcz35_3 hcz35_4
        try clear hcz38_0 hcz38_1 hcz38_2 hcz38_3 hcz38_4
        try clear hcz39_0 hcz39_1 hcz39_2 hcz39_3 hcz39_4
        try clear hcz40_0 hcz40_1 hcz40_2 hcz40_3 hcz40_4
        try clear hcz43_0 hcz43_1 hcz43_2 hcz43_3 hcz43_4
        try clear hcz48_0 hcz48_1 hcz48_2 hcz48_3 hcz48_4
        try clear hcz50_0 hcz50_1 hcz50_2 hcz50_3 hcz50_4
        try clear hcz51_0 hcz51_1 hcz51_2 hcz51_3 hcz51_4
        try clear hcz55_0 hcz55_1 hcz55_2 hcz55_3 hcz55_4
        try clear hcz56_0 hcz56_1 hcz56_2 hcz56_3 hcz56_4
        try clear hcz60_0 hcz60_1 hcz60_2 hcz60_3 hcz60_4
        try clear hcz61_0 hcz61_1 hcz61_2 hcz61_3 hcz61_4
        try clear hfz12_0 hfz12_1 hfz12_2 hfz12_3 hfz12_4
        try clear hfz17_0 hfz17_1 hfz17_2 hfz17_3 hfz17_4
        try clear hfz18_0 hfz18_1 hfz18_2 hfz18_3 hfz18_4
        try clear hfz20_0 hfz20_1 hfz20_2 hfz20_3 hfz20_4
        try clear hfz26_0 hfz26_1 hfz26_2 hfz26_3 hfz26_4
        try clear hfz27_0 hfz27_1 hfz27_2 hfz27_3 hfz27_4
        try clear hfz29_0 hfz29_1 hfz29_2 hfz29_3 hfz29_4
        try clear hfz32_0 hfz32_1 hfz32_2 hfz32_3 hfz32_4
        try clear hfz35_0 hfz35_1 hfz35_2 hfz35_3 hfz35_4
        try clear hfz38_0 hfz38_1 hfz38_2 hfz38_3 hfz38_4
        try clear hfz39_0 hfz39_1 hfz39_2 hfz39_3 hfz39_4
        try clear hfz40_0 hfz40_1 hfz40_2 hfz40_3 hfz40_4
        try clear hfz43_0 hfz43_1 hfz43_2 hfz43_3 hfz43_4
        try clear hfz48_0 hfz48_1 hfz48_2 hfz48_3 hfz48_4
        try clear hfz50_0 hfz50_1 hfz50_2 hfz50_3 hfz50_4
        try clear hfz51_0 hfz51_1 hfz51_2 hfz51_3 hfz51_4
        try clear hfz55_0 hfz55_1 hfz55_2 hfz55_3 hfz55_4
        try clear hfz56_0 hfz56_1 hfz56_2 hfz56_3 hfz56_4
        try clear hfz60_0 hfz60_1 hfz60_2 hfz60_3 hfz60_4
        try clear hfz61_0 hfz61_1 hfz61_2 hfz61_3 hfz61_4
        obtain ⟨kq, x98_61, rfl, HA, HJ61, BK228, HB⟩ := hcut
        cases kq with
        | zero => exact absurd HA.out (by simp [spec_l2ok.j3])
        | succ kj61 =>
         have H := HA.out
         clear HA
         simp only [spec_l2ok.j3] at H
         by_cases c64 : x98_61 = true
         rotate_left
         ·replace c64 := Bool.eq_false_iff.mpr c64
          subst c64
          replace H := (if_neg (show ¬ (false = true) by decide)).symm.trans H
          obtain rfl := Option.some.inj H
          go_wp2
          go_ret
          exact ⟨by first | rfl | (simp [errW_none, errW_some] <;> rfl) | (simp [*, errW_none, errW_some] <;> rfl), bw⟩
         as_aux_lemma =>
         subst c64
         replace H := (if_pos rfl).symm.trans H
         have HC65 := Aside0.mk H
         clear H
         go_upto_region 24 with (fail)
         go_cut [112] (fun v112 wc => ∃ (kq : Nat) (x112_64 : Bool), v112 = .bool x112_64 ∧ Aside0 (spec_l2ok.j4 kq a1 (wrap64 (a2 - 1)) x112_64 a0_0 a0_1 l0_2 l0_3 l0_4 = some r) ∧ Aside0 (kq ≤ kj61) ∧ Aside0 (wc.heap[gb228]? = some (.cells #[.int .i64 a0_0, .int .i64 a0_1, (.slice A0_2 l0_2.length c0_2), (.slice A0_3 l0_3.length c0_3), (.slice A0_4 l0_4.length c0_4)] 30 (0, 0))) ∧ Bw w wc)
         case first =>
          have H := HC65.out
          clear HC65
          by_cases c66 : a0_0 = 5
          ·rw [if_pos c66] at H
           have c66b0 : (a0_0 == 5) = true := beq_iff_eq.mpr c66
           have c66b1 : (a0_0 != 5) = false := bne_eq_false_iff_eq.mpr c66
           clear c66
           (first | rw [c66b0] | (simp only [i64_w, i32_w]; rw [c66b0]) | skip)
           have H' := Aside0.mk H
           clear H
           obtain ⟨hcz67_0, hcz67_1, hcz67_2, hcz67_3, hcz67_4, hfz67_0, hfz67_1, hfz67_2, hfz67_3, hfz67_4⟩ := blk5 BK228.out
           go_wp2
           go_meet
           case rel => exact ⟨_, (((l0_3.length : Int) != (l0_4.length : Int))), (by first | rfl | (simp; done) | (simp [*]; done)), H', ⟨by have := HJ3.out; have := HJ7.out; have := HJ41.out; have := HJ61.out; first | omega | exact Nat.le_refl _⟩, ⟨by (with_reducible repeat (first | refine blk_drewN ?_ _ | refine blk_drew ?_ | refine blk_alloc ?_ _)); exact BK228.out⟩, ⟨bw⟩⟩
          rw [if_neg c66] at H
          have c66b0 : (a0_0 == 5) = false := beq_eq_false_iff_ne.mpr c66
          have c66b1 : (a0_0 != 5) = true := bne_iff_ne.mpr c66
          (first | rw [c66b0] | (simp only [i64_w, i32_w]; rw [c66b0]) | skip)
          have H' := Aside0.mk H
          clear H
          obtain ⟨hcz68_0, hcz68_1, hcz68_2, hcz68_3, hcz68_4, hfz68_0, hfz68_1, hfz68_2, hfz68_3, hfz68_4⟩ := blk5 BK228.out
          go_wp2
          go_meet
          case rel => exact ⟨_, (false), (by first | rfl | (simp; done) | (simp [*]; done)), H', ⟨by have := HJ3.out; have := HJ7.out; have := HJ41.out; have := HJ61.out; first | omega | exact Nat.le_refl _⟩, ⟨by (with_reducible repeat (first | refine blk_drewN ?_ _ | refine blk_drew ?_ | refine blk_alloc ?_ _)); exact BK228.out⟩, ⟨bw⟩⟩
         case rest =>
          as_aux_lemma =>
          clear HC65
          try clear c6
          try clear c6b0
          try clear c7
          try clear c9
          try clear c9b0
          try clear c9b1
          try clear c10
          try clear c10b0
          try clear c10b1
          try clear c11
          try clear c11b0
          try clear c11b1
          try clear c13
          try clear c13b0
          try clear c13b1
          try clear c14
          try clear c14b0
          try clear c14b1
          try clear c15
          try clear c15b0
          try clear c15b1
          try clear c16
          try clear c16b0
          try clear c16b1
          try clear c19
          try clear c19b0
          try clear c19b1
          try clear c21
          try clear c21b0
          try clear c21b1
          try clear c22
          try clear c22b0
          try clear c22b1
          try clear c23
          try clear c23b0
          try clear c23b1
          try clear c24
          try clear c24b0
          try clear c24b1
          try clear c25
          try clear c25b0
          try clear c25b1
          try clear c28
          try clear c28b0
          try clear c28b1
          try clear c30
          try clear c30b0
          try clear c30b1
          try clear c31
          try clear c31b0
          try clear c31b1
          try clear c33
          try clear c33b0
          try clear c33b1
          try clear c34
          try clear c34b0
          try clear c34b1
          try clear c36
          try clear c36b0
          try clear c36b1
          try clear c37
          try clear c37b0
          try clear c37b1
          try clear c41
          try clear c44
          try clear c44b0
          try clear c44b1
          try clear c45
          try clear c46
          try clear c46b0
          try clear c46b1
          try clear c47
          try clear c47b0
          try clear c49
          try clear c49b0
          try clear c52
          try clear c52b0
          try clear c52b1
          try clear c54
          try clear c57
          try clear c57b0
          try clear c57b1
          try clear c59
          try clear c63
          try clear c63b0
          try clear c63b1
          try clear c64
          try clear c66
          try clear c66b0
          try clear c66b1
          try clear hcz12_0 hcz12_1 hcz12_2 hcz12_3 hcz12_4
          try clear hcz17_0 hcz17_1 hcz17_2 hcz17_3 hcz17_4
          try clear hcz18_0 hcz18_1 hcz18_2 hcz18_3 hcz18_4
          try clear hcz20_0 hcz20_1 hcz20_2 hcz20_3 hcz20_4
          try clear hcz26_0 hcz26_1 hcz26_2 hcz26_3 hcz26_4
          try clear hcz27_0 hcz27_1 hcz27_2 hcz27_3 hcz27_4
          try clear hcz29_0 hcz29_1 hcz29_2 hcz29_3 hcz29_4
          try clear hcz32_0 hcz32_1 hcz32_2 hcz32_3 hcz32_4
          try clear hcz35_0 hcz35_1 hcz35_2 hcz35_3 hcz35_4
          try clear hcz38_0 hcz38_1 hcz38_2 hcz38_3 hcz38_4
          try clear hcz39_0 hcz39_1 hcz39_2 hcz39_3 hcz39_4
          try clear hcz40_0 hcz40_1 hcz40_2 hcz40_3 hcz40_4
          try clear hcz43_0 hcz43_1 hcz43_2 hcz43_3 hcz43_4
          try clear hcz48_0 hcz48_1 hcz48_2 hcz48_3 hcz48_4
          try clear hcz50_0 hcz50_1 hcz50_2 hcz50_3 hcz50_4
          try clear hcz51_0 hcz51_1 hcz51_2 hcz51_3 hcz51_4
          try clear hcz55_0 hcz55_1 hcz55_2 hcz55_3 hcz55_4
          try clear hcz56_0 hcz56_1 hcz56_2 hcz56_3 hcz56_4
          try clear hcz60_0 hcz60_1 hcz60_2 hcz60_3 hcz60_4
          try clear hcz61_0 hcz61_1 hcz61_2 hcz61_3 hcz61_4
          try clear hcz67_0 hcz67_1 hcz67_2 hcz67_3 hcz67_4
          try clear hcz68_0 hcz68_1 hcz68_2 hcz68_3 hcz68_4
          try clear hfz12_0 hfz12_1 hfz12_2 hfz12_3 hfz12_4
          try clear hfz17_0 hfz17_1 hfz17_2 hfz17_3 hfz17_4
          try clear hfz18_0 hfz18_1 hfz18_2 hfz18_3 hfz18_4
          try clear hfz20_0 hfz20_1 hfz20_2 hfz20_3 hfz20_4
          try clear hfz26_0 hfz26_1 hfz26_2 hfz26_3 hfz26_4
          try clear hfz27_0 hfz27_1 hfz27_2 hfz27_3 hfz27_4
          try clear hfz29_0 hfz29_1 hfz29_2 hfz29_3 hfz29_4
          try clear hfz32_0 hfz32_1 hfz32_2 hfz32_3 hfz32_4
          try clear hfz35_0 hfz35_1 hfz35_2 hfz35_3 hfz35_4
          try clear hfz38_0 hfz38_1 hfz38_2 hfz38_3 hfz38_4
          try clear hfz39_0 hfz39_1 hfz39_2 hfz39_3 hfz39_4
          try clear hfz40_0 hfz40_1 hfz40_2 hfz40_3 hfz40_4
          try clear hfz43_0 hfz43_1 hfz43_2 hfz43_3 hfz43_4
          try clear hfz48_0 hfz48_1 hfz48_2 hfz48_3 hfz48_4
          try clear hfz50_0 hfz50_1 hfz50_2 hfz50_3 hfz50_4
          try clear hfz51_0 hfz51_1 hfz51_2 hfz51_3 hfz51_4
          try clear hfz55_0 hfz55_1 hfz55_2 hfz55_3 hfz55_4
          try clear hfz56_0 hfz56_1 hfz56_2 hfz56_3 hfz56_4
          try clear hfz60_0 hfz60_1 hfz60_2 hfz60_3 hfz60_4
          try clear hfz61_0 hfz61_1 hfz61_2 hfz61_3 hfz61_4
          try clear hfz67_0 hfz67_1 hfz67_2 hfz67_3 hfz67_4
          try clear hfz68_0 hfz68_1 hfz68_2 hfz68_3 hfz68_4
          obtain ⟨kq, x112_64, rfl, HA, HJ64, BK228, HB⟩ := hcut
          cases kq with
          | zero => exact absurd HA.out (by simp [spec_l2ok.j4])
          | succ kj64 =>
           have H := HA.out
           clear HA
           simp only [spec_l2ok.j4] at H
           by_cases c69 : x112_64 = true
           ·subst c69
            replace H := (if_pos rfl).symm.trans H
            obtain rfl := Option.some.inj H
            go_wp2
            go_ret
            exact ⟨by first | rfl | (simp [errW_none, errW_some] <;> rfl) | (simp [*, errW_none, errW_some] <;> rfl), bw⟩
           as_aux_lemma =>
           replace c69 := Bool.eq_false_iff.mpr c69
           subst c69
           replace H := (if_neg (show ¬ (false = true) by decide)).symm.trans H
           have H' := Aside0.mk H
           clear H
           go_wp2
           go_loopg [2, 7] kj64 (fun kq v2 v7 w' => ∃ (x2_6 : Int) (x7_6 : Int), v2 = .int .i64 x2_6 ∧ v7 = .int .i64 x7_6 ∧ Aside0 (spec_l2ok.l0 kq a1 x2_6 x7_6 a0_0 a0_1 l0_2 l0_3 l0_4 = some r) ∧ Aside0 (kq ≤ kj64) ∧ Aside0 (w'.heap[gb228]? = some (.cells #[.int .i64 a0_0, .int .i64 a0_1, (.slice A0_2 l0_2.length c0_2), (.slice A0_3 l0_3.length c0_3), (.slice A0_4 l0_4.length c0_4)] 30 (0, 0))) ∧ Bw w w')
           case atStart => exact ⟨((wrap64 (a2 - 1))), (0), (by first | rfl | (simp; done) | (simp [*]; done)), (by first | rfl | (simp; done) | (simp [*]; done)), H', ⟨Nat.le_refl _⟩, ⟨by (with_reducible repeat (first | refine blk_drewN ?_ _ | refine blk_drew ?_ | refine blk_alloc ?_ _)); exact BK228.out⟩, ⟨bw⟩⟩
           case round =>
            as_aux_lemma =>
            clear H'
            try clear c6
            try clear c6b0
            try clear c7
            try clear c9
            try clear c9b0
            try clear c9b1
            try clear c10
            try clear c10b0
            try clear c10b1
            try clear c11
            try clear c11b0
            try clear c11b1
            try clear c13
            try clear c13b0
            try clear c13b1
            try clear c14
            try clear c14b0
            try clear c14b1
            try clear c15
            try clear c15b0
            try clear c15b1
            try clear c16
            try clear c16b0
            try clear c16b1
            try clear c19
            try clear c19b0
            try clear c19b1
            try clear c21
            try clear c21b0
            try clear c21b1
            try clear c22
            try clear c22b0
            try clear c22b1
            try clear c23
            try clear c23b0
            try clear c23b1
            try clear c24
            try clear c24b0
            try clear c24b1
            try clear c25
            try clear c25b0
            try clear c25b1
            try clear c28
            try clear c28b0
            try clear c28b1
            try clear c30
            try clear c30b0
            try clear c30b1
            try clear c31
            try clear c31b0
            try clear c31b1
            try clear c33
            try clear c33b0
            try clear c33b1
            try clear c34
            try clear c34b0
            try clear c34b1
            try clear c36
            try clear c36b0
            try clear c36b1
            try clear c37
            try clear c37b0
            try clear c37b1
            try clear c41
            try clear c44
            try clear c44b0
            try clear c44b1
            try clear c45
            try clear c46
            try clear c46b0
            try clear c46b1
            try clear c47
            try clear c47b0
            try clear c49
            try clear c49b0
            try clear c52
            try clear c52b0
            try clear c52b1
            try clear c54
            try clear c57
            try clear c57b0
            try clear c57b1
            try clear c59
            try clear c63
            try clear c63b0
            try clear c63b1
            try clear c64
            try clear c66
            try clear c66b0
            try clear c66b1
            try clear c69
            try clear hcz12_0 hcz12_1 hcz12_2 hcz12_3 hcz12_4
            try clear hcz17_0 hcz17_1 hcz17_2 hcz17_3 hcz17_4
            try clear hcz18_0 hcz18_1 hcz18_2 hcz18_3 hcz18_4
            try clear hcz20_0 hcz20_1 hcz20_2 hcz20_3 hcz20_4
            try clear hcz26_0 hcz26_1 hcz26_2 hcz26_3 hcz26_4
            try clear hcz27_0 hcz27_1 hcz27_2 hcz27_3 hcz27_4
            try clear hcz29_0 hcz29_1 hcz29_2 hcz29_3 hcz29_4
            try clear hcz32_0 hcz32_1 hcz32_2 hcz32_3 hcz32_4
            try clear hcz35_0 hcz35_1 hcz35_2 hcz35_3 hcz35_4
            try clear hcz38_0 hcz38_1 hcz38_2 hcz38_3 hcz38_4
            try clear hcz39_0 hcz39_1 hcz39_2 hcz39_3 hcz39_4
            try clear hcz40_0 hcz40_1 hcz40_2 hcz40_3 hcz40_4
            try clear hcz43_0 hcz43_1 hcz43_2 hcz43_3 hcz43_4
            try clear hcz48_0 hcz48_1 hcz48_2 hcz48_3 hcz48_4
            try clear hcz50_0 hcz50_1 hcz50_2 hcz50_3 hcz50_4
            try clear hcz51_0 hcz51_1 hcz51_2 hcz51_3 hcz51_4
            try clear hcz55_0 hcz55_1 hcz55_2 hcz55_3 hcz55_4
            try clear hcz56_0 hcz56_1 hcz56_2 hcz56_3 hcz56_4
            try clear hcz60_0 hcz60_1 hcz60_2 hcz60_3 hcz60_4
            try clear hcz61_0 hcz61_1 hcz61_2 hcz61_3 hcz61_4
            try clear hcz67_0 hcz67_1 hcz67_2 hcz67_3 hcz67_4
            try clear hcz68_0 hcz68_1 hcz68_2 hcz68_3 hcz68_4
            try clear hfz12_0 hfz12_1 hfz12_2 hfz12_3 hfz12_4
            try clear hfz17_0 hfz17_1 hfz17_2 hfz17_3 hfz17_4
            try clear hfz18_0 hfz18_1 hfz18_2 hfz18_3 hfz18_4
            try clear hfz20_0 hfz20_1 hfz20_2 hfz20_3 hfz20_4
            try clear hfz26_0 hfz26_1 hfz26_2 hfz26_3 hfz26_4
            try clear hfz27_0 hfz27_1 hfz27_2 hfz27_3 hfz27_4
            try clear hfz29_0 hfz29_1 hfz29_2 hfz29_3 hfz29_4
            try clear hfz32_0 hfz32_1 hfz32_2 hfz32_3 hfz32_4
            try clear hfz35_0 hfz35_1 hfz35_2 hfz35_3 hfz35_4
            try clear hfz38_0 hfz38_1 hfz38_2 hfz38_3 hfz38_4
            try clear hfz39_0 hfz39_1 hfz39_2 hfz39_3 hfz39_4
            try clear hfz40_0 hfz40_1 hfz40_2 hfz40_3 hfz40_4
            try clear hfz43_0 hfz43_1 hfz43_2 hfz43_3 hfz43_4
            try clear hfz48_0 hfz48_1 hfz48_2 hfz48_3 hfz48_4
            try clear hfz50_0 hfz50_1 hfz50_2 hfz50_3 hfz50_4
            try clear hfz51_0 hfz51_1 hfz51_2 hfz51_3 hfz51_4
            try clear hfz55_0 hfz55_1 hfz55_2 hfz55_3 hfz55_4
            try clear hfz56_0 hfz56_1 hfz56_2 hfz56_3 hfz56_4
            try clear hfz60_0 hfz60_1 hfz60_2 hfz60_3 hfz60_4
            try clear hfz61_0 hfz61_1 hfz61_2 hfz61_3 hfz61_4
            try clear hfz67_0 hfz67_1 hfz67_2 hfz67_3 hfz67_4
            try clear hfz68_0 hfz68_1 hfz68_2 hfz68_3 hfz68_4
            obtain ⟨x2_6, x7_6, rfl, rfl, HA, HK6, BK228, HB⟩ := hrel
            cases gk with
            | zero => exact absurd HA.out (by simp [spec_l2ok.l0])
            | succ k6 =>
             have H := HA.out
             clear HA
             simp only [spec_l2ok.l0] at H
             by_cases c70 : x7_6 < (l0_4.length : Int)
             rotate_left
             ·rw [if_neg c70] at H
              have c70b0 : decide (x7_6 < (l0_4.length : Int)) = false := decide_eq_false c70
              clear c70
              obtain rfl := Option.some.inj H
              obtain ⟨hcz98_0, hcz98_1, hcz98_2, hcz98_3, hcz98_4, hfz98_0, hfz98_1, hfz98_2, hfz98_3, hfz98_4⟩ := blk5 BK228.out
              go_wp2
              go_ret
              exact ⟨by first | rfl | (simp [errW_none, errW_some] <;> rfl) | (simp [*, errW_none, errW_some] <;> rfl), bw⟩
             as_aux_lemma =>
             rw [if_pos c70] at H
             have c70b0 : decide (x7_6 < (l0_4.length : Int)) = true := decide_eq_true c70
             clear c70
             have HC71 := Aside0.mk H
             clear H
             obtain ⟨hcz72_0, hcz72_1, hcz72_2, hcz72_3, hcz72_4, hfz72_0, hfz72_1, hfz72_2, hfz72_3, hfz72_4⟩ := blk5 BK228.out
             go_upto_region 29 with (fail)
             go_cut [151] (fun v151 wc => ∃ (kq : Nat) (x151_70 : Bool), v151 = .bool x151_70 ∧ Aside0 (spec_l2ok.j6 kq a1 x2_6 x7_6 x151_70 a0_0 a0_1 l0_2 l0_3 l0_4 = some r) ∧ Aside0 (kq ≤ k6) ∧ Aside0 (wc.heap[gb228]? = some (.cells #[.int .i64 a0_0, .int .i64 a0_1, (.slice A0_2 l0_2.length c0_2), (.slice A0_3 l0_3.length c0_3), (.slice A0_4 l0_4.length c0_4)] 30 (0, 0))) ∧ Bw w wc)
             case first =>
              as_aux_lemma =>
              have H := HC71.out
              clear HC71
              by_cases c73 : a0_0 = 5
              rotate_left
              ·as_aux_lemma =>
               rw [if_neg c73] at H
               have c73b0 : (a0_0 == 5) = false := beq_eq_false_iff_ne.mpr c73
               have c73b1 : (a0_0 != 5) = true := bne_iff_ne.mpr c73
               (first | rw [c73b0] | (simp only [i64_w, i32_w]; rw [c73b0]) | skip)
               have H' := Aside0.mk H
               clear H
               try go_wp2
               replace BK228 := Aside0.mk (blk_drew BK228.out)
               replace HB := Bw.mk (w := w) (below_drew1 HB.out)
               refine start_ (n := 32) (S := fun w' => w'.cell? ⟨gb228, 0, none⟩ = some (.int .i64 a0_0) ∧ w'.cell? ⟨gb228, 1, none⟩ = some (.int .i64 a0_1) ∧ w'.cell? ⟨gb228, 2, none⟩ = some (.slice A0_2 l0_2.length c0_2) ∧ w'.cell? ⟨gb228, 3, none⟩ = some (.slice A0_3 l0_3.length c0_3) ∧ w'.cell? ⟨gb228, 4, none⟩ = some (.slice A0_4 l0_4.length c0_4)) (ds := []) #[false, false, false, false, false, false, false, false, false, false, false, false, false, false, false, false, false, false, false, false, false, false, false, false, false, false, false, false, false, false, false, false] (by kernel_rfl) rfl rfl ⟨(blk_cell BK228.out 0).trans rfl, (blk_cell BK228.out 1).trans rfl, (blk_cell BK228.out 2).trans rfl, (blk_cell BK228.out 3).trans rfl, (blk_cell BK228.out 4).trans rfl⟩ (fun hHeld => ?_); refine with_tabW spec_l2ok.tab29 spec_l2ok.bits29 (fun HT_ HW_ => ?_)
               generalize wr.drew = w88 at BK228 HB hHeld ⊢
               refine todo_ [(0, 120), (1, 121), (2, 122), (3, 123), (4, 124), (5, 125), (6, 126), (7, 127), (8, 128), (9, 129), (10, 130), (11, 131), (12, 132), (13, 133), (14, 134), (15, 135), (16, 136), (17, 137), (18, 138), (19, 139), (20, 140), (21, 141), (22, 142), (23, 143), (24, 144), (25, 145), (26, 146), (27, 147), (28, 148), (29, 149), (30, 150), (31, 151)] ?_
               iterate 32
                (first | (refine pu_ (v := undef) (a' := ?_) HT_ rfl rfl (by kernel_rfl) (fun _ _ _ h => h) (Or.inr ⟨by rfl, rfl⟩) ?_ ?_; rotate_left) | (refine pu_ (v := ?_) (a' := ?_) HT_ rfl rfl (by kernel_rfl) (fun _ _ _ h => h) (Or.inl ⟨by rfl, ?_⟩) ?_ ?_; rotate_left; (· intro w'; go_simp; with_reducible rfl); rotate_left) | (refine ta_ (v := ?_) (a' := ?_) HT_ HW_ rfl rfl (by kernel_rfl) (fun _ _ _ h => h) (Or.inl ⟨by rfl, ?_⟩) hHeld ?_ ?_; rotate_left; (· rintro w' ⟨s0, s1, s2, s3, s4⟩; go_simp; with_reducible rfl); rotate_left))
                ·simp only [Act.put, List.setIfInBounds_toArray, List.set_cons_zero, List.set_cons_succ, i64_w, i32_w]
                 rfl
               refine tend_ ?_
               refine done_ (done_of HT_.out (by kernel_rfl)) ?_
               try go_wp2
               go_meet
               case rel => exact ⟨_, (false), (by first | rfl | (simp; done) | (simp [*]; done)), H', ⟨by have := HJ3.out; have := HJ7.out; have := HJ41.out; have := HJ61.out; have := HJ64.out; have := HK6.out; first | omega | exact Nat.le_refl _⟩, ⟨by (with_reducible repeat (first | refine blk_drewN ?_ _ | refine blk_drew ?_ | refine blk_alloc ?_ _)); exact BK228.out⟩, ⟨bw⟩⟩
              as_aux_lemma =>
              rw [if_pos c73] at H
              have c73b0 : (a0_0 == 5) = true := beq_iff_eq.mpr c73
              have c73b1 : (a0_0 != 5) = false := bne_eq_false_iff_eq.mpr c73
              clear c73
              (first | rw [c73b0] | (simp only [i64_w, i32_w]; rw [c73b0]) | skip)
              by_cases c74 : 0 ≤ x7_6
              rotate_left
              ·rw [if_neg c74] at H
               exact absurd H (by simp)
              as_aux_lemma =>
              rw [if_pos c74] at H
              have c74b0 : decide (0 ≤ x7_6) = true := decide_eq_true c74
              clear c74
              by_cases c75 : x7_6 < (l0_3.length : Int)
              rotate_left
              ·rw [if_neg c75] at H
               exact absurd H (by simp)
              as_aux_lemma =>
              rw [if_pos c75] at H
              have c75b0 : decide (x7_6 < (l0_3.length : Int)) = true := decide_eq_true c75
              clear c75
              replace H := Option.bind_eq_some_iff.mp H
              obtain ⟨t232, A760, H⟩ := H
              have A76 := Aside0.mk A760
              clear A760
              by_cases c77 : t232 = true
              rotate_left
              ·as_aux_lemma =>
               replace c77 := Bool.eq_false_iff.mpr c77
               subst c77
               replace H := (if_neg (show ¬ (false = true) by decide)).symm.trans H
               have H' := Aside0.mk H
               clear H
               try go_wp2
               replace BK228 := Aside0.mk (blk_drew BK228.out)
               replace HB := Bw.mk (w := w) (below_drew1 HB.out)
               have p231 : 0 ≤ (x7_6 : Int) := of_decide_eq_true (by first | (with_reducible assumption) | assumption)
               have q231 : x7_6 < (l0_3.length : Int) := of_decide_eq_true (by first | (with_reducible assumption) | assumption)
               obtain ⟨ad231, A231_0, c231_0, e231, hx231_0, hl231_0, hi231_0⟩ := at_L1 HR0_3.out x7_6 p231 q231
               have hw231_0 := hx231_0
               cases e231
               replace hx231_0 := (HB.out.cell (World.block_lt_of_cell? w _ hx231_0)).trans hx231_0
               have HR231_0 := Aside0.mk hi231_0
               have HC231_0 := Aside0.mk hl231_0
               clear hi231_0 hl231_0
               replace p231 := eq_true p231
               replace q231 := eq_true q231
               refine start_ (n := 32) (S := fun w' => w'.cell? ⟨gb228, 0, none⟩ = some (.int .i64 a0_0) ∧ w'.cell? ⟨gb228, 1, none⟩ = some (.int .i64 a0_1) ∧ w'.cell? ⟨gb228, 2, none⟩ = some (.slice A0_2 l0_2.length c0_2) ∧ w'.cell? ⟨gb228, 3, none⟩ = some (.slice (some ad231) l0_3.length c0_3) ∧ w'.cell? ⟨gb228, 4, none⟩ = some (.slice A0_4 l0_4.length c0_4) ∧ w'.cell? (ad231.add (x7_6).toNat) = some (.slice A231_0 (rd_L1 l0_3 x7_6).length c231_0)) (ds := []) #[false, false, false, false, false, false, false, false, false, false, false, false, false, false, false, false, false, false, false, false, false, false, false, false, false, false, false, false, false, false, false, false] (by kernel_rfl) rfl rfl ⟨(blk_cell BK228.out 0).trans rfl, (blk_cell BK228.out 1).trans rfl, (blk_cell BK228.out 2).trans rfl, (blk_cell BK228.out 3).trans rfl, (blk_cell BK228.out 4).trans rfl, ((HB.out.cell (World.block_lt_of_cell? w _ hw231_0)).trans hw231_0)⟩ (fun hHeld => ?_); refine with_tabW spec_l2ok.tab29 spec_l2ok.bits29 (fun HT_ HW_ => ?_)
               generalize wr.drew = w87 at BK228 HB HR231_0 hx231_0 hHeld ⊢
               refine todo_ [(0, 120), (1, 121), (2, 122), (3, 123), (4, 124), (6, 126), (5, 125), (7, 127), (8, 128)] ?_
               iterate 9
                (first | (refine pu_ (v := ?_) (a' := ?_) HT_ rfl rfl (by kernel_rfl) (fun _ _ _ h => h) (Or.inl ⟨by rfl, ?_⟩) ?_ ?_; rotate_left; (· intro w'; go_simp; with_reducible rfl); rotate_left) | (refine ta_ (v := ?_) (a' := ?_) HT_ HW_ rfl rfl (by kernel_rfl) (fun _ _ _ h => h) (Or.inl ⟨by rfl, ?_⟩) hHeld ?_ ?_; rotate_left; (· rintro w' ⟨s0, s1, s2, s3, s4, s5⟩; go_simp; with_reducible rfl); rotate_left))
                ·simp only [Act.put, List.setIfInBounds_toArray, List.set_cons_zero, List.set_cons_succ, i64_w, i32_w]
                 rfl
               refine tend_ ?_
               refine one_ (i := 9) (N := some 129) #[true, true, true, true, true, true, true, true, true, true, false, false, false, false, false, false, false, false, false, false, false, false, false, false, false, false, false, false, false, false, false, false] rfl rfl (one_of HT_.out (by kernel_rfl)) (by decide) (fun K hK => ?_)
               refine goes_ Try.func120 (by kernel_rfl) rfl #[.slice A231_0 (rd_L1 l0_3 x7_6).length c231_0] (by rfl) rfl rfl (by (try simp only [List.map_toArray, List.map_cons, List.map_nil]); first | done | rfl | (simp only [List.length_drop, List.length_take]; rfl)) ?_
               with_reducible refine (spec_NameOk.calls k6 _ _ (rd_L1 l0_3 x7_6) false _ ?side1 ?side2 A76.out).mono ?_
               (case side1 => repeat (first | exact (Kd.C_below HR231_0.out HB.out) | (with_reducible refine Kd.C_alloc ?_ _) | (with_reducible refine Kd.C_drewN ?_ _) | (with_reducible refine Kd.C_drew ?_)))
               (case side2 => exact HC231_0.out)
               rintro e w' ⟨rfl, ⟨nd, rfl⟩⟩
               refine ⟨_, rfl, ?_⟩
               refine hK.out _ _ ⟨(blk_cell BK228.out 0).trans rfl, (blk_cell BK228.out 1).trans rfl, (blk_cell BK228.out 2).trans rfl, (blk_cell BK228.out 3).trans rfl, (blk_cell BK228.out 4).trans rfl, ((HB.out.cell (World.block_lt_of_cell? w _ hw231_0)).trans hw231_0)⟩ (fun hHeld => ?_)
               clear hK K
               refine norm_ (a' := ?_) ?_ ?_
               rotate_left
               ·show Act.put _ (some 129) _ = _
                simp only [Act.put, List.setIfInBounds_toArray, List.set_cons_zero, List.set_cons_succ, i64_w, i32_w]
                rfl
               refine todo_ [(10, 130), (11, 131), (12, 132), (13, 133), (14, 134), (15, 135), (16, 136), (17, 137), (18, 138), (19, 139), (20, 140), (21, 141), (22, 142), (23, 143), (24, 144), (25, 145), (26, 146), (27, 147), (28, 148), (29, 149), (30, 150), (31, 151)] ?_
               iterate 22
                (first | (refine pu_ (v := undef) (a' := ?_) HT_ rfl rfl (by kernel_rfl) (fun _ _ _ h => h) (Or.inr ⟨by rfl, rfl⟩) ?_ ?_; rotate_left) | (refine pu_ (v := ?_) (a' := ?_) HT_ rfl rfl (by kernel_rfl) (fun _ _ _ h => h) (Or.inl ⟨by rfl, ?_⟩) ?_ ?_; rotate_left; (· intro w'; go_simp; with_reducible rfl); rotate_left))
                ·simp only [Act.put, List.setIfInBounds_toArray, List.set_cons_zero, List.set_cons_succ, i64_w, i32_w]
                 rfl
               refine tend_ ?_
               refine done_ (done_of HT_.out (by kernel_rfl)) ?_
               try go_wp2
               go_meet
               case rel => exact ⟨_, (true), (by first | rfl | (simp; done) | (simp [*]; done)), H', ⟨by have := HJ3.out; have := HJ7.out; have := HJ41.out; have := HJ61.out; have := HJ64.out; have := HK6.out; first | omega | exact Nat.le_refl _⟩, ⟨by (with_reducible repeat (first | refine blk_drewN ?_ _ | refine blk_drew ?_ | refine blk_alloc ?_ _)); exact BK228.out⟩, ⟨bw⟩⟩
              as_aux_lemma =>
              subst c77
              replace H := (if_pos rfl).symm.trans H
              by_cases c78 : x7_6 > 0
              rotate_left
              ·as_aux_lemma =>
               rw [if_neg c78] at H
               have c78b0 : decide (0 < x7_6) = false := decide_eq_false c78
               clear c78
               have H' := Aside0.mk H
               clear H
               try go_wp2
               replace BK228 := Aside0.mk (blk_drew BK228.out)
               replace HB := Bw.mk (w := w) (below_drew1 HB.out)
               have p231 : 0 ≤ (x7_6 : Int) := of_decide_eq_true (by first | (with_reducible assumption) | assumption)
               have q231 : x7_6 < (l0_3.length : Int) := of_decide_eq_true (by first | (with_reducible assumption) | assumption)
               obtain ⟨ad231, A231_0, c231_0, e231, hx231_0, hl231_0, hi231_0⟩ := at_L1 HR0_3.out x7_6 p231 q231
               have hw231_0 := hx231_0
               cases e231
               replace hx231_0 := (HB.out.cell (World.block_lt_of_cell? w _ hx231_0)).trans hx231_0
               have HR231_0 := Aside0.mk hi231_0
               have HC231_0 := Aside0.mk hl231_0
               clear hi231_0 hl231_0
               replace p231 := eq_true p231
               replace q231 := eq_true q231
               refine start_ (n := 32) (S := fun w' => w'.cell? ⟨gb228, 0, none⟩ = some (.int .i64 a0_0) ∧ w'.cell? ⟨gb228, 1, none⟩ = some (.int .i64 a0_1) ∧ w'.cell? ⟨gb228, 2, none⟩ = some (.slice A0_2 l0_2.length c0_2) ∧ w'.cell? ⟨gb228, 3, none⟩ = some (.slice (some ad231) l0_3.length c0_3) ∧ w'.cell? ⟨gb228, 4, none⟩ = some (.slice A0_4 l0_4.length c0_4) ∧ w'.cell? (ad231.add (x7_6).toNat) = some (.slice A231_0 (rd_L1 l0_3 x7_6).length c231_0)) (ds := []) #[false, false, false, false, false, false, false, false, false, false, false, false, false, false, false, false, false, false, false, false, false, false, false, false, false, false, false, false, false, false, false, false] (by kernel_rfl) rfl rfl ⟨(blk_cell BK228.out 0).trans rfl, (blk_cell BK228.out 1).trans rfl, (blk_cell BK228.out 2).trans rfl, (blk_cell BK228.out 3).trans rfl, (blk_cell BK228.out 4).trans rfl, ((HB.out.cell (World.block_lt_of_cell? w _ hw231_0)).trans hw231_0)⟩ (fun hHeld => ?_); refine with_tabW spec_l2ok.tab29 spec_l2ok.bits29 (fun HT_ HW_ => ?_)
               generalize wr.drew = w86 at BK228 HB HR231_0 hx231_0 hHeld ⊢
               refine todo_ [(0, 120), (1, 121), (2, 122), (3, 123), (4, 124), (6, 126), (5, 125), (7, 127), (8, 128)] ?_
               iterate 9
                (first | (refine pu_ (v := ?_) (a' := ?_) HT_ rfl rfl (by kernel_rfl) (fun _ _ _ h => h) (Or.inl ⟨by rfl, ?_⟩) ?_ ?_; rotate_left; (· intro w'; go_simp; with_reducible rfl); rotate_left) | (refine ta_ (v := ?_) (a' := ?_) HT_ HW_ rfl rfl (by kernel_rfl) (fun _ _ _ h => h) (Or.inl ⟨by rfl, ?_⟩) hHeld ?_ ?_; rotate_left; (· rintro w' ⟨s0, s1, s2, s3, s4, s5⟩; go_simp; with_reducible rfl); rotate_left))
                ·simp only [Act.put, List.setIfInBounds_toArray, List.set_cons_zero, List.set_cons_succ, i64_w, i32_w]
                 rfl
               refine tend_ ?_
               refine one_ (i := 9) (N := some 129) #[true, true, true, true, true, true, true, true, true, true, false, false, false, false, false, false, false, false, false, false, false, false, false, false, false, false, false, false, false, false, false, false] rfl rfl (one_of HT_.out (by kernel_rfl)) (by decide) (fun K hK => ?_)
               refine goes_ Try.func120 (by kernel_rfl) rfl #[.slice A231_0 (rd_L1 l0_3 x7_6).length c231_0] (by rfl) rfl rfl (by (try simp only [List.map_toArray, List.map_cons, List.map_nil]); first | done | rfl | (simp only [List.length_drop, List.length_take]; rfl)) ?_
               with_reducible refine (spec_NameOk.calls k6 _ _ (rd_L1 l0_3 x7_6) true _ ?side1 ?side2 A76.out).mono ?_
               (case side1 => repeat (first | exact (Kd.C_below HR231_0.out HB.out) | (with_reducible refine Kd.C_alloc ?_ _) | (with_reducible refine Kd.C_drewN ?_ _) | (with_reducible refine Kd.C_drew ?_)))
               (case side2 => exact HC231_0.out)
               rintro e w' ⟨rfl, ⟨nd, rfl⟩⟩
               refine ⟨_, rfl, ?_⟩
               refine hK.out _ _ ⟨(blk_cell BK228.out 0).trans rfl, (blk_cell BK228.out 1).trans rfl, (blk_cell BK228.out 2).trans rfl, (blk_cell BK228.out 3).trans rfl, (blk_cell BK228.out 4).trans rfl, ((HB.out.cell (World.block_lt_of_cell? w _ hw231_0)).trans hw231_0)⟩ (fun hHeld => ?_)
               clear hK K
               refine norm_ (a' := ?_) ?_ ?_
               rotate_left
               ·show Act.put _ (some 129) _ = _
                simp only [Act.put, List.setIfInBounds_toArray, List.set_cons_zero, List.set_cons_succ, i64_w, i32_w]
                rfl
               refine todo_ [(10, 130), (11, 131), (12, 132), (13, 133), (14, 134), (15, 135), (16, 136), (17, 137), (18, 138), (19, 139), (20, 140), (21, 141), (22, 142), (23, 143), (24, 144), (25, 145), (26, 146), (27, 147), (28, 148), (29, 149), (30, 150), (31, 151)] ?_
               iterate 22
                (first | (refine pu_ (v := undef) (a' := ?_) HT_ rfl rfl (by kernel_rfl) (fun _ _ _ h => h) (Or.inr ⟨by rfl, rfl⟩) ?_ ?_; rotate_left) | (refine pu_ (v := ?_) (a' := ?_) HT_ rfl rfl (by kernel_rfl) (fun _ _ _ h => h) (Or.inl ⟨by rfl, ?_⟩) ?_ ?_; rotate_left; (· intro w'; go_simp; with_reducible rfl); rotate_left))
                ·simp only [Act.put, List.setIfInBounds_toArray, List.set_cons_zero, List.set_cons_succ, i64_w, i32_w]
                 rfl
               refine tend_ ?_
               refine done_ (done_of HT_.out (by kernel_rfl)) ?_
               try go_wp2
               go_meet
               case rel => exact ⟨_, (false), (by first | rfl | (simp; done) | (simp [*]; done)), H', ⟨by have := HJ3.out; have := HJ7.out; have := HJ41.out; have := HJ61.out; have := HJ64.out; have := HK6.out; first | omega | exact Nat.le_refl _⟩, ⟨by (with_reducible repeat (first | refine blk_drewN ?_ _ | refine blk_drew ?_ | refine blk_alloc ?_ _)); exact BK228.out⟩, ⟨bw⟩⟩
              as_aux_lemma =>
              rw [if_pos c78] at H
              have c78b0 : decide (0 < x7_6) = true := decide_eq_true c78
              clear c78
              obtain ⟨ji79, hji79⟩ : ∃ j_ : Int, (wrap64 (x7_6 - 1)) = j_ := ⟨_, rfl⟩
              replace H : (if 0 ≤ (ji79) then (if (ji79) < (l0_3.length : Int) then (spec_l2ok.j6 k6 a1 x2_6 x7_6 (!(Op.bytesLess ((strOfNums (rd_L1 l0_3 (ji79))).toList) ((strOfNums (rd_L1 l0_3 x7_6)).toList))) a0_0 a0_1 l0_2 l0_3 l0_4) else (none)) else (none)) = some r := by first | (rw [hji79] at H; exact H) | (simp only [hji79] at H ⊢; exact H)
              (try rw [hji79] at A76)
              have hji79w : (IntKind.i64.wrap (x7_6 - 1)) = ji79 := (i64_w _).trans hji79
              by_cases c80 : 0 ≤ (ji79)
              rotate_left
              ·rw [if_neg c80] at H
               exact absurd H (by simp)
              as_aux_lemma =>
              rw [if_pos c80] at H
              have c80b0 : decide (0 ≤ (ji79)) = true := decide_eq_true c80
              clear c80
              by_cases c81 : (ji79) < (l0_3.length : Int)
              rotate_left
              ·rw [if_neg c81] at H
               exact absurd H (by simp)
              as_aux_lemma =>
              rw [if_pos c81] at H
              have c81b0 : decide ((ji79) < (l0_3.length : Int)) = true := decide_eq_true c81
              clear c81
              have H' := Aside0.mk H
              clear H
              try go_wp2
              replace BK228 := Aside0.mk (blk_drew BK228.out)
              replace HB := Bw.mk (w := w) (below_drew1 HB.out)
              have p231 : 0 ≤ (x7_6 : Int) := of_decide_eq_true (by first | (with_reducible assumption) | assumption)
              have q231 : x7_6 < (l0_3.length : Int) := of_decide_eq_true (by first | (with_reducible assumption) | assumption)
              obtain ⟨ad231, A231_0, c231_0, e231, hx231_0, hl231_0, hi231_0⟩ := at_L1 HR0_3.out x7_6 p231 q231
              have hw231_0 := hx231_0
              cases e231
              replace hx231_0 := (HB.out.cell (World.block_lt_of_cell? w _ hx231_0)).trans hx231_0
              have HR231_0 := Aside0.mk hi231_0
              have HC231_0 := Aside0.mk hl231_0
              clear hi231_0 hl231_0
              replace p231 := eq_true p231
              replace q231 := eq_true q231
              have p233 : 0 ≤ ((ji79) : Int) := of_decide_eq_true (by first | (with_reducible assumption) | assumption)
              have q233 : (ji79) < (l0_3.length : Int) := of_decide_eq_true (by first | (with_reducible assumption) | assumption)
              obtain ⟨ad233, A233_0, c233_0, e233, hx233_0, hl233_0, hi233_0⟩ := at_L1 HR0_3.out (ji79) p233 q233
              have hw233_0 := hx233_0
              obtain rfl : ad231 = ad233 := (by injection e233)
              replace hx233_0 := (HB.out.cell (World.block_lt_of_cell? w _ hx233_0)).trans hx233_0
              have HR233_0 := Aside0.mk hi233_0
              have HC233_0 := Aside0.mk hl233_0
              clear hi233_0 hl233_0
              replace p233 := eq_true p233
              replace q233 := eq_true q233
              have p234 : 0 ≤ (x7_6 : Int) := of_decide_eq_true (by first | (with_reducible assumption) | assumption)
              have q234 : x7_6 < (l0_3.length : Int) := of_decide_eq_true (by first | (with_reducible assumption) | assumption)
              obtain ⟨ad234, A234_0, c234_0, e234, hx234_0, hl234_0, hi234_0⟩ := at_L1 HR0_3.out x7_6 p234 q234
              have hw234_0 := hx234_0
              obtain rfl : ad231 = ad234 := (by injection e234)
              replace hx234_0 := (HB.out.cell (World.block_lt_of_cell? w _ hx234_0)).trans hx234_0
              have HR234_0 := Aside0.mk hi234_0
              have HC234_0 := Aside0.mk hl234_0
              clear hi234_0 hl234_0
              replace p234 := eq_true p234
              replace q234 := eq_true q234
              have ea_ := Option.some.inj (hx231_0.symm.trans hx234_0)
              injection ea_ with ea_ en_ ec_
              subst ea_
              subst ec_
              clear en_
              refine start_ (n := 32) (S := fun w' => w'.cell? ⟨gb228, 0, none⟩ = some (.int .i64 a0_0) ∧ w'.cell? ⟨gb228, 1, none⟩ = some (.int .i64 a0_1) ∧ w'.cell? ⟨gb228, 2, none⟩ = some (.slice A0_2 l0_2.length c0_2) ∧ w'.cell? ⟨gb228, 3, none⟩ = some (.slice (some ad231) l0_3.length c0_3) ∧ w'.cell? ⟨gb228, 4, none⟩ = some (.slice A0_4 l0_4.length c0_4) ∧ w'.cell? (ad231.add (x7_6).toNat) = some (.slice A231_0 (rd_L1 l0_3 x7_6).length c231_0) ∧ w'.cell? (ad231.add ((ji79)).toNat) = some (.slice A233_0 (rd_L1 l0_3 (ji79)).length c233_0) ∧ w'.cell? (ad231.add (x7_6).toNat) = some (.slice A231_0 (rd_L1 l0_3 x7_6).length c231_0) ∧ (convert 22 9 (.slice A233_0 (rd_L1 l0_3 (ji79)).length c233_0)).run Try.prog w' = .ok (.string (strOfNums (rd_L1 l0_3 (ji79)))) w' ∧ (convert 22 9 (.slice A231_0 (rd_L1 l0_3 x7_6).length c231_0)).run Try.prog w' = .ok (.string (strOfNums (rd_L1 l0_3 x7_6))) w') (ds := []) #[false, false, false, false, false, false, false, false, false, false, false, false, false, false, false, false, false, false, false, false, false, false, false, false, false, false, false, false, false, false, false, false] (by kernel_rfl) rfl rfl ⟨(blk_cell BK228.out 0).trans rfl, (blk_cell BK228.out 1).trans rfl, (blk_cell BK228.out 2).trans rfl, (blk_cell BK228.out 3).trans rfl, (blk_cell BK228.out 4).trans rfl, ((HB.out.cell (World.block_lt_of_cell? w _ hw231_0)).trans hw231_0), ((HB.out.cell (World.block_lt_of_cell? w _ hw233_0)).trans hw233_0), ((HB.out.cell (World.block_lt_of_cell? w _ hw234_0)).trans hw234_0), (Kd.C_string (P := Try.prog) (A := A233_0) (c := c233_0) Try.underlying22 Try.underlying5 Try.underlying9 (by first | exact Kd.C_below HR233_0.out HB.out | exact Kd.C_below HR233_0.out (pw_below_drewN HB.out _))), (Kd.C_string (P := Try.prog) (A := A231_0) (c := c231_0) Try.underlying22 Try.underlying5 Try.underlying9 (by first | exact Kd.C_below HR234_0.out HB.out | exact Kd.C_below HR234_0.out (pw_below_drewN HB.out _)))⟩ (fun hHeld => ?_); refine with_tabW spec_l2ok.tab29 spec_l2ok.bits29 (fun HT_ HW_ => ?_)
              generalize wr.drew = w82 at BK228 HB HR231_0 HR233_0 HR234_0 hx231_0 hx233_0 hx234_0 hHeld ⊢
              refine todo_ [(0, 120), (1, 121), (2, 122), (3, 123), (4, 124), (6, 126), (5, 125), (7, 127), (8, 128)] ?_
              iterate 9
               (first | (refine pu_ (v := ?_) (a' := ?_) HT_ rfl rfl (by kernel_rfl) (fun _ _ _ h => h) (Or.inl ⟨by rfl, ?_⟩) ?_ ?_; rotate_left; (· intro w'; go_simp; with_reducible rfl); rotate_left) | (refine ta_ (v := ?_) (a' := ?_) HT_ HW_ rfl rfl (by kernel_rfl) (fun _ _ _ h => h) (Or.inl ⟨by rfl, ?_⟩) hHeld ?_ ?_; rotate_left; (· rintro w' ⟨s0, s1, s2, s3, s4, s5, s6, s7, s8, s9⟩; go_simp; with_reducible rfl); rotate_left))
               ·simp only [Act.put, List.setIfInBounds_toArray, List.set_cons_zero, List.set_cons_succ, i64_w, i32_w]
                rfl
              refine tend_ ?_
              refine one_ (i := 9) (N := some 129) #[true, true, true, true, true, true, true, true, true, true, false, false, false, false, false, false, false, false, false, false, false, false, false, false, false, false, false, false, false, false, false, false] rfl rfl (one_of HT_.out (by kernel_rfl)) (by decide) (fun K hK => ?_)
              refine goes_ Try.func120 (by kernel_rfl) rfl #[.slice A231_0 (rd_L1 l0_3 x7_6).length c231_0] (by rfl) rfl rfl (by (try simp only [List.map_toArray, List.map_cons, List.map_nil]); first | done | rfl | (simp only [List.length_drop, List.length_take]; rfl)) ?_
              with_reducible refine (spec_NameOk.calls k6 _ _ (rd_L1 l0_3 x7_6) true _ ?side1 ?side2 A76.out).mono ?_
              (case side1 => repeat (first | exact (Kd.C_below HR231_0.out HB.out) | (with_reducible refine Kd.C_alloc ?_ _) | (with_reducible refine Kd.C_drewN ?_ _) | (with_reducible refine Kd.C_drew ?_)))
              (case side2 => exact HC231_0.out)
              rintro e w' ⟨rfl, ⟨nd, rfl⟩⟩
              refine ⟨_, rfl, ?_⟩
              have hcv83d := fun (a_ : Nat) => Kd.C_string (P := Try.prog) (A := A233_0) (c := c233_0) Try.underlying22 Try.underlying5 Try.underlying9 (Kd.C_drewN (Kd.C_below HR233_0.out HB.out) a_)
              have hcv83 := Kd.C_string (P := Try.prog) (A := A233_0) (c := c233_0) Try.underlying22 Try.underlying5 Try.underlying9 (Kd.C_below HR233_0.out HB.out)
              have hcv84d := fun (a_ : Nat) => Kd.C_string (P := Try.prog) (A := A231_0) (c := c231_0) Try.underlying22 Try.underlying5 Try.underlying9 (Kd.C_drewN (Kd.C_below HR234_0.out HB.out) a_)
              have hcv84 := Kd.C_string (P := Try.prog) (A := A231_0) (c := c231_0) Try.underlying22 Try.underlying5 Try.underlying9 (Kd.C_below HR234_0.out HB.out)
              refine hK.out _ _ ⟨(blk_cell BK228.out 0).trans rfl, (blk_cell BK228.out 1).trans rfl, (blk_cell BK228.out 2).trans rfl, (blk_cell BK228.out 3).trans rfl, (blk_cell BK228.out 4).trans rfl, ((HB.out.cell (World.block_lt_of_cell? w _ hw231_0)).trans hw231_0), ((HB.out.cell (World.block_lt_of_cell? w _ hw233_0)).trans hw233_0), ((HB.out.cell (World.block_lt_of_cell? w _ hw234_0)).trans hw234_0), (Kd.C_string (P := Try.prog) (A := A233_0) (c := c233_0) Try.underlying22 Try.underlying5 Try.underlying9 (by first | exact Kd.C_below HR233_0.out HB.out | exact Kd.C_below HR233_0.out (pw_below_drewN HB.out _))), (Kd.C_string (P := Try.prog) (A := A231_0) (c := c231_0) Try.underlying22 Try.underlying5 Try.underlying9 (by first | exact Kd.C_below HR234_0.out HB.out | exact Kd.C_below HR234_0.out (pw_below_drewN HB.out _)))⟩ (fun hHeld => ?_)
              clear hK K
              refine norm_ (a' := ?_) ?_ ?_
              rotate_left
              ·show Act.put _ (some 129) _ = _
               simp only [Act.put, List.setIfInBounds_toArray, List.set_cons_zero, List.set_cons_succ, i64_w, i32_w]
               rfl
              refine todo_ [(10, 130), (11, 131), (12, 132), (13, 133), (14, 134), (15, 135), (17, 137), (18, 138), (22, 142), (24, 144), (16, 136), (19, 139), (20, 140), (21, 141), (23, 143), (25, 145), (26, 146), (27, 147), (28, 148), (29, 149), (30, 150), (31, 151)] ?_
              iterate 22
               (first | (refine pu_ (v := ?_) (a' := ?_) HT_ rfl rfl (by kernel_rfl) (fun _ _ _ h => h) (Or.inl ⟨by rfl, ?_⟩) ?_ ?_; rotate_left; (· intro w'; go_simp; with_reducible rfl); rotate_left) | (refine ta_ (v := ?_) (a' := ?_) HT_ HW_ rfl rfl (by kernel_rfl) (fun _ _ _ h => h) (Or.inl ⟨by rfl, ?_⟩) hHeld ?_ ?_; rotate_left; (· rintro w' ⟨s0, s1, s2, s3, s4, s5, s6, s7, s8, s9⟩; go_simp; with_reducible rfl); rotate_left))
               ·simp only [Act.put, List.setIfInBounds_toArray, List.set_cons_zero, List.set_cons_succ, i64_w, i32_w]
                rfl
              refine tend_ ?_
              refine done_ (done_of HT_.out (by kernel_rfl)) ?_
              try go_wp2
              go_meet
              case rel => exact ⟨_, (!(Op.bytesLess ((strOfNums (rd_L1 l0_3 (ji79))).toList) ((strOfNums (rd_L1 l0_3 x7_6)).toList))), (by first | rfl | (simp; done) | (simp only [← hji79] <;> (first | rfl | simp)) | (simp [*]; done)), H', ⟨by have := HJ3.out; have := HJ7.out; have := HJ41.out; have := HJ61.out; have := HJ64.out; have := HK6.out; first | omega | exact Nat.le_refl _⟩, ⟨by (with_reducible repeat (first | refine blk_drewN ?_ _ | refine blk_drew ?_ | refine blk_alloc ?_ _)); exact BK228.out⟩, ⟨bw⟩⟩
             case rest =>
              clear HC71
              try clear c7
              try clear c23
              try clear c73
              try clear c73b0
              try clear c73b1
              try clear c74
              try clear c75
              try clear c77
              try clear hx231_0
              try clear p231
              try clear q231
              obtain ⟨kq, x151_70, rfl, HA, HJ70, BK228, HB⟩ := hcut
              cases kq with
              | zero => exact absurd HA.out (by simp [spec_l2ok.j6])
              | succ kj70 =>
               have H := HA.out
               clear HA
               simp only [spec_l2ok.j6] at H
               by_cases c89 : x151_70 = true
               ·subst c89
                replace H := (if_pos rfl).symm.trans H
                obtain rfl := Option.some.inj H
                go_wp2
                go_ret
                exact ⟨by first | rfl | (simp [errW_none, errW_some] <;> rfl) | (simp [*, errW_none, errW_some] <;> rfl), bw⟩
               replace c89 := Bool.eq_false_iff.mpr c89
               subst c89
               replace H := (if_neg (show ¬ (false = true) by decide)).symm.trans H
               by_cases c90 : 0 ≤ x7_6
               rotate_left
               ·rw [if_neg c90] at H
                exact absurd H (by simp)
               rw [if_pos c90] at H
               have c90b0 : decide (0 ≤ x7_6) = true := decide_eq_true c90
               clear c90
               by_cases c91 : x7_6 < (l0_4.length : Int)
               rotate_left
               ·rw [if_neg c91] at H
                exact absurd H (by simp)
               rw [if_pos c91] at H
               have c91b0 : decide (x7_6 < (l0_4.length : Int)) = true := decide_eq_true c91
               clear c91
               replace H := Option.bind_eq_some_iff.mp H
               obtain ⟨t236, A920, H⟩ := H
               have A92 := Aside0.mk A920
               clear A920
               by_cases c93 : t236 < 0
               ·rw [if_pos c93] at H
                have c93b0 : decide (t236 < 0) = true := decide_eq_true c93
                clear c93
                obtain rfl := Option.some.inj H
                obtain ⟨hcz94_0, hcz94_1, hcz94_2, hcz94_3, hcz94_4, hfz94_0, hfz94_1, hfz94_2, hfz94_3, hfz94_4⟩ := blk5 BK228.out
                have p235 : 0 ≤ (x7_6 : Int) := of_decide_eq_true (by first | (with_reducible assumption) | assumption)
                have q235 : x7_6 < (l0_4.length : Int) := of_decide_eq_true (by first | (with_reducible assumption) | assumption)
                obtain ⟨ad235, A235_2, c235_2, A235_3, c235_3, A235_4, c235_4, e235, hx235_0, hx235_1, hx235_2, hx235_3, hx235_4, hl235_2, hi235_2, hl235_3, hi235_3, hl235_4, hi235_4⟩ := at_T30 HR0_4.out x7_6 p235 q235
                cases e235
                replace hx235_0 := (HB.out.cell (World.block_lt_of_cell? w _ hx235_0)).trans hx235_0
                replace hx235_1 := (HB.out.cell (World.block_lt_of_cell? w _ hx235_1)).trans hx235_1
                replace hx235_2 := (HB.out.cell (World.block_lt_of_cell? w _ hx235_2)).trans hx235_2
                replace hx235_3 := (HB.out.cell (World.block_lt_of_cell? w _ hx235_3)).trans hx235_3
                replace hx235_4 := (HB.out.cell (World.block_lt_of_cell? w _ hx235_4)).trans hx235_4
                have HR235_2 := Aside0.mk hi235_2
                have HC235_2 := Aside0.mk hl235_2
                clear hi235_2 hl235_2
                have HR235_3 := Aside0.mk hi235_3
                have HC235_3 := Aside0.mk hl235_3
                clear hi235_3 hl235_3
                have HR235_4 := Aside0.mk hi235_4
                have HC235_4 := Aside0.mk hl235_4
                clear hi235_4 hl235_4
                replace p235 := eq_true p235
                replace q235 := eq_true q235
                go_wp2_with (first | ((with_reducible refine gg (f := 97) (some 160) rfl rfl rfl fr97 ?_); refine onc (ih kj70 (by have := HJ3.out; have := HJ7.out; have := HJ41.out; have := HJ61.out; have := HJ64.out; have := HK6.out; have := HJ70.out; omega) ((rd_T30 l0_4 x7_6).f0) ((rd_T30 l0_4 x7_6).f1) _ _ ((rd_T30 l0_4 x7_6).f2) _ _ ((rd_T30 l0_4 x7_6).f3) _ _ ((rd_T30 l0_4 x7_6).f4) (wrap64 (a1 + 1)) x2_6 t236 _ (cb HR235_2) HC235_2.out (cb HR235_3) HC235_3.out (cb HR235_4) HC235_4.out A92.out) rfl ?_; rintro e w95 ⟨rfl, hb⟩; refine ⟨_, rfl, ?_⟩; replace BK228 := Aside0.mk (blk_below (g := gb228) (o := .cells #[.int .i64 a0_0, .int .i64 a0_1, .slice A0_2 l0_2.length c0_2, .slice A0_3 l0_3.length c0_3, .slice (some ad235) l0_4.length c0_4] 30 (0, 0)) (by (with_reducible repeat (first | refine blk_drewN ?_ _ | refine blk_drew ?_ | refine blk_alloc ?_ _)); exact BK228.out) hb); replace HB := (Bw.sw w hb); (try clear hb)))
                go_ret
                exact ⟨by first | rfl | (simp [errW_none, errW_some] <;> rfl) | (simp [*, errW_none, errW_some] <;> rfl), bw⟩
               rw [if_neg c93] at H
               have c93b0 : decide (t236 < 0) = false := decide_eq_false c93
               clear c93
               have H' := Aside0.mk H
               clear H
               obtain ⟨hcz96_0, hcz96_1, hcz96_2, hcz96_3, hcz96_4, hfz96_0, hfz96_1, hfz96_2, hfz96_3, hfz96_4⟩ := blk5 BK228.out
               have p235 : 0 ≤ (x7_6 : Int) := of_decide_eq_true (by first | (with_reducible assumption) | assumption)
               have q235 : x7_6 < (l0_4.length : Int) := of_decide_eq_true (by first | (with_reducible assumption) | assumption)
               obtain ⟨ad235, A235_2, c235_2, A235_3, c235_3, A235_4, c235_4, e235, hx235_0, hx235_1, hx235_2, hx235_3, hx235_4, hl235_2, hi235_2, hl235_3, hi235_3, hl235_4, hi235_4⟩ := at_T30 HR0_4.out x7_6 p235 q235
               cases e235
               replace hx235_0 := (HB.out.cell (World.block_lt_of_cell? w _ hx235_0)).trans hx235_0
               replace hx235_1 := (HB.out.cell (World.block_lt_of_cell? w _ hx235_1)).trans hx235_1
               replace hx235_2 := (HB.out.cell (World.block_lt_of_cell? w _ hx235_2)).trans hx235_2
               replace hx235_3 := (HB.out.cell (World.block_lt_of_cell? w _ hx235_3)).trans hx235_3
               replace hx235_4 := (HB.out.cell (World.block_lt_of_cell? w _ hx235_4)).trans hx235_4
               have HR235_2 := Aside0.mk hi235_2
               have HC235_2 := Aside0.mk hl235_2
               clear hi235_2 hl235_2
               have HR235_3 := Aside0.mk hi235_3
               have HC235_3 := Aside0.mk hl235_3
               clear hi235_3 hl235_3
               have HR235_4 := Aside0.mk hi235_4
               have HC235_4 := Aside0.mk hl235_4
               clear hi235_4 hl235_4
               replace p235 := eq_true p235
               replace q235 := eq_true q235
               go_wp2_with (first | ((with_reducible refine gg (f := 97) (some 160) rfl rfl rfl fr97 ?_); refine onc (ih kj70 (by have := HJ3.out; have := HJ7.out; have := HJ41.out; have := HJ61.out; have := HJ64.out; have := HK6.out; have := HJ70.out; omega) ((rd_T30 l0_4 x7_6).f0) ((rd_T30 l0_4 x7_6).f1) _ _ ((rd_T30 l0_4 x7_6).f2) _ _ ((rd_T30 l0_4 x7_6).f3) _ _ ((rd_T30 l0_4 x7_6).f4) (wrap64 (a1 + 1)) x2_6 t236 _ (cb HR235_2) HC235_2.out (cb HR235_3) HC235_3.out (cb HR235_4) HC235_4.out A92.out) rfl ?_; rintro e w97 ⟨rfl, hb⟩; refine ⟨_, rfl, ?_⟩; replace BK228 := Aside0.mk (blk_below (g := gb228) (o := .cells #[.int .i64 a0_0, .int .i64 a0_1, .slice A0_2 l0_2.length c0_2, .slice A0_3 l0_3.length c0_3, .slice (some ad235) l0_4.length c0_4] 30 (0, 0)) (by (with_reducible repeat (first | refine blk_drewN ?_ _ | refine blk_drew ?_ | refine blk_alloc ?_ _)); exact BK228.out) hb); replace HB := (Bw.sw w hb); (try clear hb)))
               go_roundg kj70
               case measure => have := HJ3.out; have := HJ7.out; have := HJ41.out; have := HJ61.out; have := HJ64.out; have := HK6.out; have := HJ70.out; omega
               case rel => exact ⟨(t236), (wrap64 (x7_6 + 1)), (by first | rfl | (simp; done) | (simp [*]; done)), (by first | rfl | (simp; done) | (simp [*]; done)), H', ⟨by have := HJ3.out; have := HJ7.out; have := HJ41.out; have := HJ61.out; have := HJ64.out; have := HK6.out; have := HJ70.out; omega⟩, ⟨by (with_reducible repeat (first | refine blk_drewN ?_ _ | refine blk_drew ?_ | refine blk_alloc ?_ _)); exact BK228.out⟩, ⟨bw⟩⟩

end Go.Proofs.Ytenpjddjmhjdoaa.PFnExactLeaves
