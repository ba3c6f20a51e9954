/- What the law reaches: each function as a plain Lean function, and that each call comes to it. No condition. -/
import Derived.Test.YtockllljeeakaaaMtodo
import Derived.Test.YtockllljeeakaaaPFnExactConfigOkx0
import Derived.Test.YtockllljeeakaaaPFnExactConfigOkx2
import Derived.Test.YtockllljeeakaaaPFnExactConfigOkx3
namespace Go.Proofs.Ytockllljeeakaaa.PFnExactConfigOk
open Go.RowKit Go.Proofs.YtockllljeeakaaaW.PrintWords Go.Proofs.YtockllljeeakaaaW.PrintLast Go.Proofs.YtockllljeeakaaaW.PrintMore Go.Proofs.Ytockllljeeakaaa.M
attribute [local go_sem] max2_int min2_int max_two min_two max_three min_three max_four min_four Go.Proofs.Ytockllljeeakaaa.M.str_gtr Go.Proofs.Ytockllljeeakaaa.M.str_leq Go.Proofs.Ytockllljeeakaaa.M.str_geq   -- for this text's walks alone
set_option linter.unusedVariables false
set_option linter.unusedSimpArgs false

/-! ### spec_l6expr: function 66 -/
mutual
def spec_l6expr.j0 : Nat → Int → Int → Bool → Int → Int → List Int → List (List Int) → List (S31) → Option (Int)
 | 0, _, _, _, _, _, _, _, _ => none
 | k + 1, x1, x2, x26, x139000, x139001, x139002, x139003, x139004 => if x26 = true then (some (-1)) else ((spec_l6arity.f k x139000).bind fun t139 => (if t139 ≥ 0 then (if (x139004.length : Int) = t139 then (if x139000 = 5 then (if (x139003.length : Int) = (x139004.length : Int) then (spec_l6expr.j1 k x1 x2 false x139000 x139001 x139002 x139003 x139004) else (spec_l6expr.j1 k x1 x2 true x139000 x139001 x139002 x139003 x139004)) else (spec_l6expr.j1 k x1 x2 (decide ((x139003.length : Int) > 0)) x139000 x139001 x139002 x139003 x139004)) else (spec_l6expr.j1 k x1 x2 true x139000 x139001 x139002 x139003 x139004)) else (if x139000 = 5 then (if (x139003.length : Int) = (x139004.length : Int) then (spec_l6expr.j1 k x1 x2 false x139000 x139001 x139002 x139003 x139004) else (spec_l6expr.j1 k x1 x2 true x139000 x139001 x139002 x139003 x139004)) else (spec_l6expr.j1 k x1 x2 (decide ((x139003.length : Int) > 0)) x139000 x139001 x139002 x139003 x139004))))
def spec_l6expr.j1 : Nat → Int → Int → Bool → Int → Int → List Int → List (List Int) → List (S31) → Option (Int)
 | 0, _, _, _, _, _, _, _, _ => none
 | k + 1, x1, x2, x63, x139000, x139001, x139002, x139003, x139004 => if x63 = true then (some (-1)) else (if x139000 = 1 then (if x139001 < 0 then (some (-1)) else (if x139001 > 1 then (some (-1)) else (spec_l6expr.j2 k x1 x2 x139000 x139001 x139002 x139003 x139004))) else (if x139000 = 2 then (if x139001 < 0 then (some (-1)) else (if x139001 > 1000000000000 then (some (-1)) else (spec_l6expr.j2 k x1 x2 x139000 x139001 x139002 x139003 x139004))) else (if x139001 = 0 then (spec_l6expr.j2 k x1 x2 x139000 x139001 x139002 x139003 x139004) else (some (-1)))))
def spec_l6expr.j2 : Nat → Int → Int → Int → Int → List Int → List (List Int) → List (S31) → Option (Int)
 | 0, _, _, _, _, _, _, _ => none
 | k + 1, x1, x2, x139000, x139001, x139002, x139003, x139004 => if x139000 = 3 then ((spec_l2text.f k x139002).bind fun t140 => (if t140 = true then (spec_l6expr.j4 k x1 x2 x139000 x139001 x139002 x139003 x139004) else (some (-1)))) else (if x139000 = 6 then (spec_l6expr.j3 k x1 x2 x139000 (x139000 == 6) x139000 x139001 x139002 x139003 x139004) else (if x139000 = 8 then (spec_l6expr.j3 k x1 x2 x139000 (x139000 == 8) x139000 x139001 x139002 x139003 x139004) else (spec_l6expr.j3 k x1 x2 x139000 (x139000 == 23) x139000 x139001 x139002 x139003 x139004)))
def spec_l6expr.j4 : Nat → Int → Int → Int → Int → List Int → List (List Int) → List (S31) → Option (Int)
 | 0, _, _, _, _, _, _, _ => none
 | k + 1, x1, x2, x139000, x139001, x139002, x139003, x139004 => spec_l6expr.l0 k x1 x2 0 x139000 x139001 x139002 x139003 x139004
def spec_l6expr.l0 : Nat → Int → Int → Int → Int → Int → List Int → List (List Int) → List (S31) → Option (Int)
 | 0, _, _, _, _, _, _, _, _ => none
 | k + 1, x1, x2, x8, x139000, x139001, x139002, x139003, x139004 => if x8 < (x139004.length : Int) then (if x139000 = 5 then (if 0 ≤ x8 then (if x8 < (x139003.length : Int) then ((spec_NameOk.f k (rd_L1 x139003 x8)).bind fun t145 => (if t145 = true then (if x8 > 0 then (if 0 ≤ (wrap64 (x8 - 1)) then (if (wrap64 (x8 - 1)) < (x139003.length : Int) then (spec_l6expr.j6 k x1 x2 x8 (!(Op.bytesLess ((strOfNums (rd_L1 x139003 (wrap64 (x8 - 1)))).toList) ((strOfNums (rd_L1 x139003 x8)).toList))) x139000 x139001 x139002 x139003 x139004) else (none)) else (none)) else (spec_l6expr.j6 k x1 x2 x8 false x139000 x139001 x139002 x139003 x139004)) else (spec_l6expr.j6 k x1 x2 x8 true x139000 x139001 x139002 x139003 x139004))) else (none)) else (none)) else (spec_l6expr.j6 k x1 x2 x8 false x139000 x139001 x139002 x139003 x139004)) else (some x2)
def spec_l6expr.j6 : Nat → Int → Int → Int → Bool → Int → Int → List Int → List (List Int) → List (S31) → Option (Int)
 | 0, _, _, _, _, _, _, _, _, _ => none
 | k + 1, x1, x2, x8, x163, x139000, x139001, x139002, x139003, x139004 => if x163 = true then (some (-1)) else (if 0 ≤ x8 then (if x8 < (x139004.length : Int) then ((spec_l6expr.f k ((rd_T31 x139004 x8).f0) ((rd_T31 x139004 x8).f1) ((rd_T31 x139004 x8).f2) ((rd_T31 x139004 x8).f3) ((rd_T31 x139004 x8).f4) (wrap64 (x1 + 1)) x2).bind fun t149 => (if t149 < 0 then (some (-1)) else (spec_l6expr.l0 k x1 t149 (wrap64 (x8 + 1)) x139000 x139001 x139002 x139003 x139004))) else (none)) else (none))
def spec_l6expr.j3 : Nat → Int → Int → Int → Bool → Int → Int → List Int → List (List Int) → List (S31) → Option (Int)
 | 0, _, _, _, _, _, _, _, _, _ => none
 | k + 1, x1, x2, x90, x101, x139000, x139001, x139002, x139003, x139004 => if x101 = true then ((spec_NameOk.f k x139002).bind fun t141 => (if t141 = true then (if x139000 = 23 then ((spec_l6kept.f k x139002).bind fun t142 => (if t142 = true then (some (-1)) else (spec_l6expr.j4 k x1 x2 x139000 x139001 x139002 x139003 x139004))) else (spec_l6expr.j4 k x1 x2 x139000 x139001 x139002 x139003 x139004)) else (some (-1)))) else (if x90 = 7 then ((spec_l6free.f k x139002).bind fun t143 => (if t143 = true then (spec_l6expr.j4 k x1 x2 x139000 x139001 x139002 x139003 x139004) else (some (-1)))) else (if (x139002.length : Int) > 0 then (some (-1)) else (spec_l6expr.j4 k x1 x2 x139000 x139001 x139002 x139003 x139004)))
def spec_l6expr.f : Nat → Int → Int → List Int → List (List Int) → List (S31) → Int → Int → Option (Int)
 | 0, _, _, _, _, _, _, _ => none
 | k + 1, a0_0, a0_1, l0_2, l0_3, l0_4, a1, a2 => if (wrap64 (a2 - 1)) < 0 then (spec_l6expr.j0 k a1 (wrap64 (a2 - 1)) true a0_0 a0_1 l0_2 l0_3 l0_4) else (if a1 > 10 then (spec_l6expr.j0 k a1 (wrap64 (a2 - 1)) true a0_0 a0_1 l0_2 l0_3 l0_4) else (if a0_0 < 0 then (spec_l6expr.j0 k a1 (wrap64 (a2 - 1)) true a0_0 a0_1 l0_2 l0_3 l0_4) else (spec_l6expr.j0 k a1 (wrap64 (a2 - 1)) (decide (a0_0 > 23)) a0_0 a0_1 l0_2 l0_3 l0_4)))
end
def spec_l6expr.T33 : Bool × List (List Nat × List Nat) := (true, [([], []), ([0], [0]), ([1], [1]), ([2], [2]), ([3], [3]), ([4, 3], [3, 4]), ([3], [3]), ([5, 6, 3], [3, 5, 6]), ([7, 3], [3, 7]), ([8, 3, 3], [3, 8]), ([9, 3], [3, 9]), ([10, 9, 3], [3, 10]), ([11], [11]), ([12, 11], [11, 12]), ([13, 11, 11], [11, 13]), ([14], [14]), ([15, 14], [14, 15]), ([14], [14]), ([17, 14], [14, 17]), ([16, 18, 14], [14, 16, 18]), ([19, 14], [14, 19]), ([20, 14], [14, 20]), ([14], [14]), ([22, 14], [14, 22]), ([14], [14]), ([23, 24, 14], [14, 23, 24]), ([25, 14], [14, 25]), ([26, 14], [14, 26]), ([21, 27, 14], [14, 21, 27]), ([14, 28, 11], [11, 14, 28]), ([11, 29, 3], [3, 11, 29]), ([3, 30], [3, 30])])
def spec_l6expr.B33 : List Nat := [0, 1, 3, 7, 15, 31, 15, 127, 255, 511, 1023, 2047, 4095, 8191, 16383, 32767, 65535, 32767, 163839, 524287, 1048575, 2097151, 32767, 4227071, 32767, 29392895, 62947327, 130056191, 268435455, 536870911, 1073741823, 2147483647]
theorem spec_l6expr.tab33 : rtab .any (opsOf Try.f66 33) = spec_l6expr.T33 := by kernel_rfl
theorem spec_l6expr.bits33 : waitsOk spec_l6expr.T33.2 spec_l6expr.B33 = true := by kernel_rfl
set_option maxHeartbeats 8000000 in
set_option maxRecDepth 100000 in
theorem spec_l6expr.calls (k : Nat) : ∀ (a0_0 : Int) (a0_1 : Int) (A0_2 : Option Addr) (c0_2 : Nat) (l0_2 : List Int) (A0_3 : Option Addr) (c0_3 : Nat) (l0_3 : List (List Int)) (A0_4 : Option Addr) (c0_4 : Nat) (l0_4 : List (S31)) (a1 : Int) (a2 : Int) (r : Int) (w : World) (hr0_2 : Kd.C (Kd.int .u8) w A0_2 l0_2.length l0_2) (hc0_2 : l0_2.length ≤ c0_2) (hr0_3 : Kd.C (Kd.slice 5 (Kd.int .u8)) w A0_3 l0_3.length l0_3) (hc0_3 : l0_3.length ≤ c0_3) (hr0_4 : Kd.C k31 w A0_4 l0_4.length l0_4) (hc0_4 : l0_4.length ≤ c0_4) (h : spec_l6expr.f k a0_0 a0_1 l0_2 l0_3 l0_4 a1 a2 = some r),
  Calls Try.prog 66 #[.agg #[.int .i64 a0_0, .int .i64 a0_1, .slice A0_2 l0_2.length c0_2, .slice A0_3 l0_3.length c0_3, .slice A0_4 l0_4.length c0_4], .int .i64 a1, .int .i64 a2] w fun e w' => e = .returned (.int .i64 r) ∧ Below w.heap.size w w' := by
 induction k using Nat.strongRecOn with
 | _ k ih =>
 intro a0_0 a0_1 A0_2 c0_2 l0_2 A0_3 c0_3 l0_3 A0_4 c0_4 l0_4 a1 a2 r w hr0_2 hc0_2 hr0_3 hc0_3 hr0_4 hc0_4 h
 cases k with
 | zero => exact absurd h (by simp [spec_l6expr.f])
 | succ k =>
 simp only [spec_l6expr.f] at h
 have hu31 := Try.underlying31
 have HR0_2 := Aside0.mk hr0_2
 have HC0_2 := Aside0.mk hc0_2
 clear hr0_2 hc0_2
 have HR0_3 := Aside0.mk hr0_3
 have HC0_3 := Aside0.mk hc0_3
 clear hr0_3 hc0_3
 have HR0_4 := Aside0.mk hr0_4
 have HC0_4 := Aside0.mk hc0_4
 clear hr0_4 hc0_4
 have HB := Bw.refl w
 have H : (if (wrap64 (a2 - 1)) < 0 then (spec_l6expr.j0 k a1 (wrap64 (a2 - 1)) true a0_0 a0_1 l0_2 l0_3 l0_4) else (if a1 > 10 then (spec_l6expr.j0 k a1 (wrap64 (a2 - 1)) true a0_0 a0_1 l0_2 l0_3 l0_4) else (if a0_0 < 0 then (spec_l6expr.j0 k a1 (wrap64 (a2 - 1)) true a0_0 a0_1 l0_2 l0_3 l0_4) else (spec_l6expr.j0 k a1 (wrap64 (a2 - 1)) (decide (a0_0 > 23)) a0_0 a0_1 l0_2 l0_3 l0_4)))) = some r := h
 clear h
 have HC4 := Aside0.mk H
 clear H
 go_enter Try.func66, Try.ntmps66
 go_upto_region 2 with (first | ((with_reducible refine gate_dst (N := 3) rfl ?_); (try (refine gate_guard (by rfl) ?_; dsimp only)); refine box_event rfl (N := 3) rfl (cs := #[.int .i64 a0_0, .int .i64 a0_1, .slice A0_2 l0_2.length c0_2, .slice A0_3 l0_3.length c0_3, .slice A0_4 l0_4.length c0_4]) (t := 31) (by go_simp <;> rfl) ?_; intro gb138 hg w5 hbox hb; have BK138 := Aside0.mk (hbox); have GE138 := (Ge.of hg : Ge w.heap.size gb138); replace HB := (Bw.sw w hb); clear hb hbox hg))
 (try simp only [Act.put, List.setIfInBounds_toArray, List.set_cons_zero, List.set_cons_succ])
 go_cut [26] (fun v26 wc => ∃ (kq : Nat) (x26_3 : Bool), v26 = .bool x26_3 ∧ Aside0 (spec_l6expr.j0 kq a1 (wrap64 (a2 - 1)) x26_3 a0_0 a0_1 l0_2 l0_3 l0_4 = some r) ∧ Aside0 (kq ≤ k) ∧ Aside0 (wc.heap[gb138]? = some (.cells #[.int .i64 a0_0, .int .i64 a0_1, (.slice A0_2 l0_2.length c0_2), (.slice A0_3 l0_3.length c0_3), (.slice A0_4 l0_4.length c0_4)] 31 (0, 0))) ∧ Bw w wc)
 case first =>
  have H := HC4.out
  clear HC4
  by_cases c6 : (wrap64 (a2 - 1)) < 0
  ·rw [if_pos c6] at H
   have c6b0 : decide ((wrap64 (a2 - 1)) < 0) = true := decide_eq_true c6
   clear c6
   (first | rw [c6b0] | (simp only [i64_w, i32_w]; rw [c6b0]) | skip)
   have H' := Aside0.mk H
   clear H
   go_wp2
   go_meet
   case rel => exact ⟨_, (true), (by first | rfl | (simp; done) | (simp [*]; done)), H', ⟨by first | omega | exact Nat.le_refl _⟩, ⟨by (with_reducible repeat (first | refine blk_drewN ?_ _ | refine blk_drew ?_ | refine blk_alloc ?_ _)); exact BK138.out⟩, ⟨bw⟩⟩
  rw [if_neg c6] at H
  have c6b0 : decide ((wrap64 (a2 - 1)) < 0) = false := decide_eq_false c6
  clear c6
  (first | rw [c6b0] | (simp only [i64_w, i32_w]; rw [c6b0]) | skip)
  by_cases c7 : a1 > 10
  ·rw [if_pos c7] at H
   have c7b0 : decide (10 < a1) = true := decide_eq_true c7
   clear c7
   have H' := Aside0.mk H
   clear H
   go_wp2
   go_meet
   case rel => exact ⟨_, (true), (by first | rfl | (simp; done) | (simp [*]; done)), H', ⟨by first | omega | exact Nat.le_refl _⟩, ⟨by (with_reducible repeat (first | refine blk_drewN ?_ _ | refine blk_drew ?_ | refine blk_alloc ?_ _)); exact BK138.out⟩, ⟨bw⟩⟩
  rw [if_neg c7] at H
  have c7b0 : decide (10 < a1) = false := decide_eq_false c7
  clear c7
  by_cases c8 : a0_0 < 0
  ·rw [if_pos c8] at H
   have c8b0 : decide (a0_0 < 0) = true := decide_eq_true c8
   clear c8
   have H' := Aside0.mk H
   clear H
   obtain ⟨hcz9_0, hcz9_1, hcz9_2, hcz9_3, hcz9_4, hfz9_0, hfz9_1, hfz9_2, hfz9_3, hfz9_4⟩ := blk5 BK138.out
   go_wp2
   go_meet
   case rel => exact ⟨_, (true), (by first | rfl | (simp; done) | (simp [*]; done)), H', ⟨by first | omega | exact Nat.le_refl _⟩, ⟨by (with_reducible repeat (first | refine blk_drewN ?_ _ | refine blk_drew ?_ | refine blk_alloc ?_ _)); exact BK138.out⟩, ⟨bw⟩⟩
  rw [if_neg c8] at H
  have c8b0 : decide (a0_0 < 0) = false := decide_eq_false c8
  clear c8
  have H' := Aside0.mk H
  clear H
  obtain ⟨hcz10_0, hcz10_1, hcz10_2, hcz10_3, hcz10_4, hfz10_0, hfz10_1, hfz10_2, hfz10_3, hfz10_4⟩ := blk5 BK138.out
  go_wp2
  go_meet
  case rel => exact ⟨_, (decide (a0_0 > 23)), (by first | rfl | (simp; done) | (simp [*]; done)), H', ⟨by first | omega | exact Nat.le_refl _⟩, ⟨by (with_reducible repeat (first | refine blk_drewN ?_ _ | refine blk_drew ?_ | refine blk_alloc ?_ _)); exact BK138.out⟩, ⟨bw⟩⟩
 case rest =>
  as_aux_lemma =>
  clear HC4
  try clear c6
  try clear c6b0
  try clear c7
  try clear c7b0
  try clear c8
  try clear c8b0
  try clear hcz10_0 hcz10_1 hcz10_2 hcz10_3 hcz10_4
  try clear hcz9_0 hcz9_1 hcz9_2 hcz9_3 hcz9_4
  try clear hfz10_0 hfz10_1 hfz10_2 hfz10_3 hfz10_4
  try clear hfz9_0 hfz9_1 hfz9_2 hfz9_3 hfz9_4
  obtain ⟨kq, x26_3, rfl, HA, HJ3, BK138, HB⟩ := hcut
  cases kq with
  | zero => exact absurd HA.out (by simp [spec_l6expr.j0])
  | succ kj3 =>
   have H := HA.out
   clear HA
   simp only [spec_l6expr.j0] at H
   by_cases c11 : x26_3 = true
   ·subst c11
    replace H := (if_pos rfl).symm.trans H
    obtain rfl := Option.some.inj H
    go_wp2
    go_ret
    exact ⟨by first | rfl | (simp [errW_none, errW_some] <;> rfl) | (simp [*, errW_none, errW_some] <;> rfl), bw⟩
   as_aux_lemma =>
   replace c11 := Bool.eq_false_iff.mpr c11
   subst c11
   replace H := (if_neg (show ¬ (false = true) by decide)).symm.trans H
   replace H := Option.bind_eq_some_iff.mp H
   obtain ⟨t139, A120, H⟩ := H
   have A12 := Aside0.mk A120
   clear A120
   have HC13 := Aside0.mk H
   clear H
   obtain ⟨hcz14_0, hcz14_1, hcz14_2, hcz14_3, hcz14_4, hfz14_0, hfz14_1, hfz14_2, hfz14_3, hfz14_4⟩ := blk5 BK138.out
   go_upto_region 5 with (first | ((with_reducible refine gg (f := 100) (some 29) rfl rfl rfl fr100 ?_); refine onc (spec_l6arity.calls kj3 a0_0 t139 _ A12.out) rfl ?_; rintro e w' ⟨rfl, ⟨nd, rfl⟩⟩; refine ⟨_, rfl, ?_⟩))
   (try simp only [Act.put, List.setIfInBounds_toArray, List.set_cons_zero, List.set_cons_succ])
   go_cut [63] (fun v63 wc => ∃ (kq : Nat) (x63_12 : Bool), v63 = .bool x63_12 ∧ Aside0 (spec_l6expr.j1 kq a1 (wrap64 (a2 - 1)) x63_12 a0_0 a0_1 l0_2 l0_3 l0_4 = some r) ∧ Aside0 (kq ≤ kj3) ∧ Aside0 (wc.heap[gb138]? = some (.cells #[.int .i64 a0_0, .int .i64 a0_1, (.slice A0_2 l0_2.length c0_2), (.slice A0_3 l0_3.length c0_3), (.slice A0_4 l0_4.length c0_4)] 31 (0, 0))) ∧ Bw w wc)
   case first =>
    have H := HC13.out
    clear HC13
    by_cases c15 : t139 ≥ 0
    rotate_left
    ·rw [if_neg c15] at H
     have c15b0 : decide (0 ≤ t139) = false := decide_eq_false c15
     clear c15
     (first | rw [c15b0] | (simp only [i64_w, i32_w]; rw [c15b0]) | skip)
     by_cases c23 : a0_0 = 5
     rotate_left
     ·rw [if_neg c23] at H
      have c23b0 : (a0_0 == 5) = false := beq_eq_false_iff_ne.mpr c23
      have c23b1 : (a0_0 != 5) = true := bne_iff_ne.mpr c23
      have H' := Aside0.mk H
      clear H
      obtain ⟨hcz27_0, hcz27_1, hcz27_2, hcz27_3, hcz27_4, hfz27_0, hfz27_1, hfz27_2, hfz27_3, hfz27_4⟩ := blk5 BK138.out
      go_wp2
      go_meet
      case rel => exact ⟨_, (decide ((l0_3.length : Int) > 0)), (by first | rfl | (simp; done) | (simp [*]; done)), H', ⟨by have := HJ3.out; first | omega | exact Nat.le_refl _⟩, ⟨by (with_reducible repeat (first | refine blk_drewN ?_ _ | refine blk_drew ?_ | refine blk_alloc ?_ _)); exact BK138.out⟩, ⟨bw⟩⟩
     rw [if_pos c23] at H
     have c23b0 : (a0_0 == 5) = true := beq_iff_eq.mpr c23
     have c23b1 : (a0_0 != 5) = false := bne_eq_false_iff_eq.mpr c23
     clear c23
     by_cases c24 : (l0_3.length : Int) = (l0_4.length : Int)
     ·rw [if_pos c24] at H
      have c24b0 : ((l0_3.length : Int) == (l0_4.length : Int)) = true := beq_iff_eq.mpr c24
      have c24b1 : ((l0_3.length : Int) != (l0_4.length : Int)) = false := bne_eq_false_iff_eq.mpr c24
      have c24b2 : (l0_3.length == l0_4.length) = true := by first | simpa using c24 | (simp at c24 ⊢; omega)
      clear c24
      have H' := Aside0.mk H
      clear H
      obtain ⟨hcz25_0, hcz25_1, hcz25_2, hcz25_3, hcz25_4, hfz25_0, hfz25_1, hfz25_2, hfz25_3, hfz25_4⟩ := blk5 BK138.out
      go_wp2
      go_meet
      case rel => exact ⟨_, (false), (by first | rfl | (simp; done) | (simp [*]; done)), H', ⟨by have := HJ3.out; first | omega | exact Nat.le_refl _⟩, ⟨by (with_reducible repeat (first | refine blk_drewN ?_ _ | refine blk_drew ?_ | refine blk_alloc ?_ _)); exact BK138.out⟩, ⟨bw⟩⟩
     rw [if_neg c24] at H
     have c24b0 : ((l0_3.length : Int) == (l0_4.length : Int)) = false := beq_eq_false_iff_ne.mpr c24
     have c24b1 : ((l0_3.length : Int) != (l0_4.length : Int)) = true := bne_iff_ne.mpr c24
     have c24b2 : (l0_3.length == l0_4.length) = false := by first | simpa using c24 | (simp at c24 ⊢; omega)
     have H' := Aside0.mk H
     clear H
     obtain ⟨hcz26_0, hcz26_1, hcz26_2, hcz26_3, hcz26_4, hfz26_0, hfz26_1, hfz26_2, hfz26_3, hfz26_4⟩ := blk5 BK138.out
     go_wp2
     go_meet
     case rel => exact ⟨_, (true), (by first | rfl | (simp; done) | (simp [*]; done)), H', ⟨by have := HJ3.out; first | omega | exact Nat.le_refl _⟩, ⟨by (with_reducible repeat (first | refine blk_drewN ?_ _ | refine blk_drew ?_ | refine blk_alloc ?_ _)); exact BK138.out⟩, ⟨bw⟩⟩
    rw [if_pos c15] at H
    have c15b0 : decide (0 ≤ t139) = true := decide_eq_true c15
    clear c15
    (first | rw [c15b0] | (simp only [i64_w, i32_w]; rw [c15b0]) | skip)
    by_cases c16 : (l0_4.length : Int) = t139
    rotate_left
    ·rw [if_neg c16] at H
     have c16b0 : ((l0_4.length : Int) == t139) = false := beq_eq_false_iff_ne.mpr c16
     have c16b1 : ((l0_4.length : Int) != t139) = true := bne_iff_ne.mpr c16
     have H' := Aside0.mk H
     clear H
     obtain ⟨hcz22_0, hcz22_1, hcz22_2, hcz22_3, hcz22_4, hfz22_0, hfz22_1, hfz22_2, hfz22_3, hfz22_4⟩ := blk5 BK138.out
     go_wp2
     go_meet
     case rel => exact ⟨_, (true), (by first | rfl | (simp; done) | (simp [*]; done)), H', ⟨by have := HJ3.out; first | omega | exact Nat.le_refl _⟩, ⟨by (with_reducible repeat (first | refine blk_drewN ?_ _ | refine blk_drew ?_ | refine blk_alloc ?_ _)); exact BK138.out⟩, ⟨bw⟩⟩
    rw [if_pos c16] at H
    have c16b0 : ((l0_4.length : Int) == t139) = true := beq_iff_eq.mpr c16
    have c16b1 : ((l0_4.length : Int) != t139) = false := bne_eq_false_iff_eq.mpr c16
    clear c16
    by_cases c17 : a0_0 = 5
    rotate_left
    ·rw [if_neg c17] at H
     have c17b0 : (a0_0 == 5) = false := beq_eq_false_iff_ne.mpr c17
     have c17b1 : (a0_0 != 5) = true := bne_iff_ne.mpr c17
     have H' := Aside0.mk H
     clear H
     obtain ⟨hcz21_0, hcz21_1, hcz21_2, hcz21_3, hcz21_4, hfz21_0, hfz21_1, hfz21_2, hfz21_3, hfz21_4⟩ := blk5 BK138.out
     go_wp2
     go_meet
     case rel => exact ⟨_, (decide ((l0_3.length : Int) > 0)), (by first | rfl | (simp; done) | (simp [*]; done)), H', ⟨by have := HJ3.out; first | omega | exact Nat.le_refl _⟩, ⟨by (with_reducible repeat (first | refine blk_drewN ?_ _ | refine blk_drew ?_ | refine blk_alloc ?_ _)); exact BK138.out⟩, ⟨bw⟩⟩
    rw [if_pos c17] at H
    have c17b0 : (a0_0 == 5) = true := beq_iff_eq.mpr c17
    have c17b1 : (a0_0 != 5) = false := bne_eq_false_iff_eq.mpr c17
    clear c17
    by_cases c18 : (l0_3.length : Int) = (l0_4.length : Int)
    ·rw [if_pos c18] at H
     have c18b0 : ((l0_3.length : Int) == (l0_4.length : Int)) = true := beq_iff_eq.mpr c18
     have c18b1 : ((l0_3.length : Int) != (l0_4.length : Int)) = false := bne_eq_false_iff_eq.mpr c18
     have c18b2 : (l0_3.length == l0_4.length) = true := by first | simpa using c18 | (simp at c18 ⊢; omega)
     clear c18
     have H' := Aside0.mk H
     clear H
     obtain ⟨hcz19_0, hcz19_1, hcz19_2, hcz19_3, hcz19_4, hfz19_0, hfz19_1, hfz19_2, hfz19_3, hfz19_4⟩ := blk5 BK138.out
     go_wp2
     go_meet
     case rel => exact ⟨_, (false), (by first | rfl | (simp; done) | (simp [*]; done)), H', ⟨by have := HJ3.out; first | omega | exact Nat.le_refl _⟩, ⟨by (with_reducible repeat (first | refine blk_drewN ?_ _ | refine blk_drew ?_ | refine blk_alloc ?_ _)); exact BK138.out⟩, ⟨bw⟩⟩
    rw [if_neg c18] at H
    have c18b0 : ((l0_3.length : Int) == (l0_4.length : Int)) = false := beq_eq_false_iff_ne.mpr c18
    have c18b1 : ((l0_3.length : Int) != (l0_4.length : Int)) = true := bne_iff_ne.mpr c18
    have c18b2 : (l0_3.length == l0_4.length) = false := by first | simpa using c18 | (simp at c18 ⊢; omega)
    have H' := Aside0.mk H
    clear H
    obtain ⟨hcz20_0, hcz20_1, hcz20_2, hcz20_3, hcz20_4, hfz20_0, hfz20_1, hfz20_2, hfz20_3, hfz20_4⟩ := blk5 BK138.out
    go_wp2
    go_meet
    case rel => exact ⟨_, (true), (by first | rfl | (simp; done) | (simp [*]; done)), H', ⟨by have := HJ3.out; first | omega | exact Nat.le_refl _⟩, ⟨by (with_reducible repeat (first | refine blk_drewN ?_ _ | refine blk_drew ?_ | refine blk_alloc ?_ _)); exact BK138.out⟩, ⟨bw⟩⟩
   case rest =>
    as_aux_lemma =>
    clear HC13
    try clear c6
    try clear c6b0
    try clear c7
    try clear c7b0
    try clear c8
    try clear c8b0
    try clear c11
    try clear c15
    try clear c15b0
    try clear c16
    try clear c16b0
    try clear c16b1
    try clear c17
    try clear c17b0
    try clear c17b1
    try clear c18
    try clear c18b0
    try clear c18b1
    try clear c18b2
    try clear c23
    try clear c23b0
    try clear c23b1
    try clear c24
    try clear c24b0
    try clear c24b1
    try clear c24b2
    try clear hcz10_0 hcz10_1 hcz10_2 hcz10_3 hcz10_4
    try clear hcz14_0 hcz14_1 hcz14_2 hcz14_3 hcz14_4
    try clear hcz19_0 hcz19_1 hcz19_2 hcz19_3 hcz19_4
    try clear hcz20_0 hcz20_1 hcz20_2 hcz20_3 hcz20_4
    try clear hcz21_0 hcz21_1 hcz21_2 hcz21_3 hcz21_4
    try clear hcz22_0 hcz22_1 hcz22_2 hcz22_3 hcz22_4
    try clear hcz25_0 hcz25_1 hcz25_2 hcz25_3 hcz25_4
    try clear hcz26_0 hcz26_1 hcz26_2 hcz26_3 hcz26_4
    try clear hcz27_0 hcz27_1 hcz27_2 hcz27_3 hcz27_4
    try clear hcz9_0 hcz9_1 hcz9_2 hcz9_3 hcz9_4
    try clear hfz10_0 hfz10_1 hfz10_2 hfz10_3 hfz10_4
    try clear hfz14_0 hfz14_1 hfz14_2 hfz14_3 hfz14_4
    try clear hfz19_0 hfz19_1 hfz19_2 hfz19_3 hfz19_4
    try clear hfz20_0 hfz20_1 hfz20_2 hfz20_3 hfz20_4
    try clear hfz21_0 hfz21_1 hfz21_2 hfz21_3 hfz21_4
    try clear hfz22_0 hfz22_1 hfz22_2 hfz22_3 hfz22_4
    try clear hfz25_0 hfz25_1 hfz25_2 hfz25_3 hfz25_4
    try clear hfz26_0 hfz26_1 hfz26_2 hfz26_3 hfz26_4
    try clear hfz27_0 hfz27_1 hfz27_2 hfz27_3 hfz27_4
    try clear hfz9_0 hfz9_1 hfz9_2 hfz9_3 hfz9_4
    obtain ⟨kq, x63_12, rfl, HA, HJ12, BK138, HB⟩ := hcut
    cases kq with
    | zero => exact absurd HA.out (by simp [spec_l6expr.j1])
    | succ kj12 =>
     have H := HA.out
     clear HA
     simp only [spec_l6expr.j1] at H
     by_cases c28 : x63_12 = true
     ·subst c28
      replace H := (if_pos rfl).symm.trans H
      obtain rfl := Option.some.inj H
      go_wp2
      go_ret
      exact ⟨by first | rfl | (simp [errW_none, errW_some] <;> rfl) | (simp [*, errW_none, errW_some] <;> rfl), bw⟩
     as_aux_lemma =>
     replace c28 := Bool.eq_false_iff.mpr c28
     subst c28
     replace H := (if_neg (show ¬ (false = true) by decide)).symm.trans H
     have HC29 := Aside0.mk H
     clear H
     obtain ⟨hcz30_0, hcz30_1, hcz30_2, hcz30_3, hcz30_4, hfz30_0, hfz30_1, hfz30_2, hfz30_3, hfz30_4⟩ := blk5 BK138.out
     go_upto_block 0 with (fail)
     go_cut [] (fun wc => ∃ (kq : Nat), Aside0 (spec_l6expr.j2 kq a1 (wrap64 (a2 - 1)) a0_0 a0_1 l0_2 l0_3 l0_4 = some r) ∧ Aside0 (kq ≤ kj12) ∧ Aside0 (wc.heap[gb138]? = some (.cells #[.int .i64 a0_0, .int .i64 a0_1, (.slice A0_2 l0_2.length c0_2), (.slice A0_3 l0_3.length c0_3), (.slice A0_4 l0_4.length c0_4)] 31 (0, 0))) ∧ Bw w wc)
     case first =>
      have H := HC29.out
      clear HC29
      by_cases c31 : a0_0 = 1
      ·rw [if_pos c31] at H
       have c31b0 : (a0_0 == 1) = true := beq_iff_eq.mpr c31
       have c31b1 : (a0_0 != 1) = false := bne_eq_false_iff_eq.mpr c31
       clear c31
       (first | rw [c31b0] | (simp only [i64_w, i32_w]; rw [c31b0]) | skip)
       by_cases c32 : a0_1 < 0
       ·rw [if_pos c32] at H
        have c32b0 : decide (a0_1 < 0) = true := decide_eq_true c32
        clear c32
        obtain rfl := Option.some.inj H
        obtain ⟨hcz33_0, hcz33_1, hcz33_2, hcz33_3, hcz33_4, hfz33_0, hfz33_1, hfz33_2, hfz33_3, hfz33_4⟩ := blk5 BK138.out
        go_wp2
        go_ret
        exact ⟨by first | rfl | (simp [errW_none, errW_some] <;> rfl) | (simp [*, errW_none, errW_some] <;> rfl), bw⟩
       rw [if_neg c32] at H
       have c32b0 : decide (a0_1 < 0) = false := decide_eq_false c32
       clear c32
       by_cases c34 : a0_1 > 1
       ·rw [if_pos c34] at H
        have c34b0 : decide (1 < a0_1) = true := decide_eq_true c34
        clear c34
        obtain rfl := Option.some.inj H
        obtain ⟨hcz35_0, hcz35_1, hcz35_2, hcz35_3, hcz35_4, hfz35_0, hfz35_1, hfz35_2, hfz35_3, hfz35_4⟩ := blk5 BK138.out
        go_wp2
        go_ret
        exact ⟨by first | rfl | (simp [errW_none, errW_some] <;> rfl) | (simp [*, errW_none, errW_some] <;> rfl), bw⟩
       rw [if_neg c34] at H
       have c34b0 : decide (1 < a0_1) = false := decide_eq_false c34
       clear c34
       have H' := Aside0.mk H
       clear H
       obtain ⟨hcz36_0, hcz36_1, hcz36_2, hcz36_3, hcz36_4, hfz36_0, hfz36_1, hfz36_2, hfz36_3, hfz36_4⟩ := blk5 BK138.out
       go_wp2
       go_meet
       case rel => exact ⟨_, H', ⟨by have := HJ3.out; have := HJ12.out; first | omega | exact Nat.le_refl _⟩, ⟨by (with_reducible repeat (first | refine blk_drewN ?_ _ | refine blk_drew ?_ | refine blk_alloc ?_ _)); exact BK138.out⟩, ⟨bw⟩⟩
      rw [if_neg c31] at H
      have c31b0 : (a0_0 == 1) = false := beq_eq_false_iff_ne.mpr c31
      have c31b1 : (a0_0 != 1) = true := bne_iff_ne.mpr c31
      (first | rw [c31b0] | (simp only [i64_w, i32_w]; rw [c31b0]) | skip)
      by_cases c37 : a0_0 = 2
      rotate_left
      ·rw [if_neg c37] at H
       have c37b0 : (a0_0 == 2) = false := beq_eq_false_iff_ne.mpr c37
       have c37b1 : (a0_0 != 2) = true := bne_iff_ne.mpr c37
       by_cases c43 : a0_1 = 0
       ·rw [if_pos c43] at H
        have c43b0 : (a0_1 == 0) = true := beq_iff_eq.mpr c43
        have c43b1 : (a0_1 != 0) = false := bne_eq_false_iff_eq.mpr c43
        clear c43
        have H' := Aside0.mk H
        clear H
        obtain ⟨hcz44_0, hcz44_1, hcz44_2, hcz44_3, hcz44_4, hfz44_0, hfz44_1, hfz44_2, hfz44_3, hfz44_4⟩ := blk5 BK138.out
        go_wp2
        go_meet
        case rel => exact ⟨_, H', ⟨by have := HJ3.out; have := HJ12.out; first | omega | exact Nat.le_refl _⟩, ⟨by (with_reducible repeat (first | refine blk_drewN ?_ _ | refine blk_drew ?_ | refine blk_alloc ?_ _)); exact BK138.out⟩, ⟨bw⟩⟩
       rw [if_neg c43] at H
       have c43b0 : (a0_1 == 0) = false := beq_eq_false_iff_ne.mpr c43
       have c43b1 : (a0_1 != 0) = true := bne_iff_ne.mpr c43
       obtain rfl := Option.some.inj H
       obtain ⟨hcz45_0, hcz45_1, hcz45_2, hcz45_3, hcz45_4, hfz45_0, hfz45_1, hfz45_2, hfz45_3, hfz45_4⟩ := blk5 BK138.out
       go_wp2
       go_ret
       exact ⟨by first | rfl | (simp [errW_none, errW_some] <;> rfl) | (simp [*, errW_none, errW_some] <;> rfl), bw⟩
      rw [if_pos c37] at H
      have c37b0 : (a0_0 == 2) = true := beq_iff_eq.mpr c37
      have c37b1 : (a0_0 != 2) = false := bne_eq_false_iff_eq.mpr c37
      clear c37
      by_cases c38 : a0_1 < 0
      ·rw [if_pos c38] at H
       have c38b0 : decide (a0_1 < 0) = true := decide_eq_true c38
       clear c38
       obtain rfl := Option.some.inj H
       obtain ⟨hcz39_0, hcz39_1, hcz39_2, hcz39_3, hcz39_4, hfz39_0, hfz39_1, hfz39_2, hfz39_3, hfz39_4⟩ := blk5 BK138.out
       go_wp2
       go_ret
       exact ⟨by first | rfl | (simp [errW_none, errW_some] <;> rfl) | (simp [*, errW_none, errW_some] <;> rfl), bw⟩
      rw [if_neg c38] at H
      have c38b0 : decide (a0_1 < 0) = false := decide_eq_false c38
      clear c38
      by_cases c40 : a0_1 > 1000000000000
      ·rw [if_pos c40] at H
       have c40b0 : decide (1000000000000 < a0_1) = true := decide_eq_true c40
       clear c40
       obtain rfl := Option.some.inj H
       obtain ⟨hcz41_0, hcz41_1, hcz41_2, hcz41_3, hcz41_4, hfz41_0, hfz41_1, hfz41_2, hfz41_3, hfz41_4⟩ := blk5 BK138.out
       go_wp2
       go_ret
       exact ⟨by first | rfl | (simp [errW_none, errW_some] <;> rfl) | (simp [*, errW_none, errW_some] <;> rfl), bw⟩
      rw [if_neg c40] at H
      have c40b0 : decide (1000000000000 < a0_1) = false := decide_eq_false c40
      clear c40
      have H' := Aside0.mk H
      clear H
      obtain ⟨hcz42_0, hcz42_1, hcz42_2, hcz42_3, hcz42_4, hfz42_0, hfz42_1, hfz42_2, hfz42_3, hfz42_4⟩ := blk5 BK138.out
      go_wp2
      go_meet
      case rel => exact ⟨_, H', ⟨by have := HJ3.out; have := HJ12.out; first | omega | exact Nat.le_refl _⟩, ⟨by (with_reducible repeat (first | refine blk_drewN ?_ _ | refine blk_drew ?_ | refine blk_alloc ?_ _)); exact BK138.out⟩, ⟨bw⟩⟩
     case rest =>
      as_aux_lemma =>
      clear HC29
      try clear c6
      try clear c6b0
      try clear c7
      try clear c7b0
      try clear c8
      try clear c8b0
      try clear c11
      try clear c15
      try clear c15b0
      try clear c16
      try clear c16b0
      try clear c16b1
      try clear c17
      try clear c17b0
      try clear c17b1
      try clear c18
      try clear c18b0
      try clear c18b1
      try clear c18b2
      try clear c23
      try clear c23b0
      try clear c23b1
      try clear c24
      try clear c24b0
      try clear c24b1
      try clear c24b2
      try clear c28
      try clear c31
      try clear c31b0
      try clear c31b1
      try clear c32
      try clear c32b0
      try clear c34
      try clear c34b0
      try clear c37
      try clear c37b0
      try clear c37b1
      try clear c38
      try clear c38b0
      try clear c40
      try clear c40b0
      try clear c43
      try clear c43b0
      try clear c43b1
      try clear hcz10_0 hcz10_1 hcz10_2 hcz10_3 hcz10_4
      try clear hcz14_0 hcz14_1 hcz14_2 hcz14_3 hcz14_4
      try clear hcz19_0 hcz19_1 hcz19_2 hcz19_3 hcz19_4
      try clear hcz20_0 hcz20_1 hcz20_2 hcz20_3 hcz20_4
      try clear hcz21_0 hcz21_1 hcz21_2 hcz21_3 hcz21_4
      try clear hcz22_0 hcz22_1 hcz22_2 hcz22_3 hcz22_4
      try clear hcz25_0 hcz25_1 hcz25_2 hcz25_3 hcz25_4
      try clear hcz26_0 hcz26_1 hcz26_2 hcz26_3 hcz26_4
      try clear hcz27_0 hcz27_1 hcz27_2 hcz27_3 hcz27_4
      try clear hcz30_0 hcz30_1 hcz30_2 hcz30_3 hcz30_4
      try clear hcz33_0 hcz33_1 hcz33_2 hcz33_3 hcz33_4
      try clear hcz35_0 hcz35_1 hcz35_2 hcz35_3 hcz35_4
      try clear hcz36_0 hcz36_1 hcz36_2 hcz36_3 hcz36_4
      try clear hcz39_0 hcz39_1 hcz39_2 hcz39_3 hcz39_4
      try clear hcz41_0 hcz41_1 hcz41_2 hcz41_3 hcz41_4
      try clear hcz42_0 hcz42_1 hcz42_2 hcz42_3 hcz42_4
      try clear hcz44_0 hcz44_1 hcz44_2 hcz44_3 hcz44_4
      try clear hcz45_0 hcz45_1 hcz45_2 hcz45_3 hcz45_4
      try clear hcz9_0 hcz9_1 hcz9_2 hcz9_3 hcz9_4
      try clear hfz10_0 hfz10_1 hfz10_2 hfz10_3 hfz10_4
      try clear hfz14_0 hfz14_1 hfz14_2 hfz14_3 hfz14_4
      try clear hfz19_0 hfz19_1 hfz19_2 hfz19_3 hfz19_4
      try clear hfz20_0 hfz20_1 hfz20_2 hfz20_3 hfz20_4
      try clear hfz21_0 hfz21_1 hfz21_2 hfz21_3 hfz21_4
      try clear hfz22_0 hfz22_1 hfz22_2 hfz22_3 hfz22_4
      try clear hfz25_0 hfz25_1 hfz25_2 hfz25_3 hfz25_4
      try clear hfz26_0 hfz26_1 hfz26_2 hfz26_3 hfz26_4
      try clear hfz27_0 hfz27_1 hfz27_2 hfz27_3 hfz27_4
      try clear hfz30_0 hfz30_1 hfz30_2 hfz30_3 hfz30_4
      try clear hfz33_0 hfz33_1 hfz33_2 hfz33_3 hfz33_4
      try clear hfz35_0 hfz35_1 hfz35_2 hfz35_3 hfz35_4
      try clear hfz36_0 hfz36_1 hfz36_2 hfz36_3 hfz36_4
      try clear hfz39_0 hfz39_1 hfz39_2 hfz39_3 hfz39_4
      try clear hfz41_0 hfz41_1 hfz41_2 hfz41_3 hfz41_4
      try clear hfz42_0 hfz42_1 hfz42_2 hfz42_3 hfz42_4
      try clear hfz44_0 hfz44_1 hfz44_2 hfz44_3 hfz44_4
      try clear hfz45_0 hfz45_1 hfz45_2 hfz45_3 hfz45_4
      try clear hfz9_0 hfz9_1 hfz9_2 hfz9_3 hfz9_4
      obtain ⟨kq, HA, HJ28, BK138, HB⟩ := hcut
      cases kq with
      | zero => exact absurd HA.out (by simp [spec_l6expr.j2])
      | succ kj28 =>
       have H := HA.out
       clear HA
       simp only [spec_l6expr.j2] at H
       have HC46 := Aside0.mk H
       clear H
       obtain ⟨hcz47_0, hcz47_1, hcz47_2, hcz47_3, hcz47_4, hfz47_0, hfz47_1, hfz47_2, hfz47_3, hfz47_4⟩ := blk5 BK138.out
       go_upto_block 1 with (fail)
       go_cut [] (fun wc => ∃ (kq : Nat), Aside0 (spec_l6expr.j4 kq a1 (wrap64 (a2 - 1)) a0_0 a0_1 l0_2 l0_3 l0_4 = some r) ∧ Aside0 (kq ≤ kj28) ∧ Aside0 (wc.heap[gb138]? = some (.cells #[.int .i64 a0_0, .int .i64 a0_1, (.slice A0_2 l0_2.length c0_2), (.slice A0_3 l0_3.length c0_3), (.slice A0_4 l0_4.length c0_4)] 31 (0, 0))) ∧ Bw w wc)
       case first =>
        as_aux_lemma =>
        have H := HC46.out
        clear HC46
        by_cases c48 : a0_0 = 3
        ·rw [if_pos c48] at H
         have c48b0 : (a0_0 == 3) = true := beq_iff_eq.mpr c48
         have c48b1 : (a0_0 != 3) = false := bne_eq_false_iff_eq.mpr c48
         clear c48
         (first | rw [c48b0] | (simp only [i64_w, i32_w]; rw [c48b0]) | skip)
         replace H := Option.bind_eq_some_iff.mp H
         obtain ⟨t140, A490, H⟩ := H
         have A49 := Aside0.mk A490
         clear A490
         by_cases c50 : t140 = true
         ·subst c50
          replace H := (if_pos rfl).symm.trans H
          have H' := Aside0.mk H
          clear H
          obtain ⟨hcz51_0, hcz51_1, hcz51_2, hcz51_3, hcz51_4, hfz51_0, hfz51_1, hfz51_2, hfz51_3, hfz51_4⟩ := blk5 BK138.out
          go_wp2_with (first | ((with_reducible refine gg (f := 101) (some 99) rfl rfl rfl fr101 ?_); refine onc (spec_l2text.calls kj28 _ _ l0_2 true _ (cb HR0_2) HC0_2.out A49.out) rfl ?_; rintro e w' ⟨rfl, ⟨nd, rfl⟩⟩; refine ⟨_, rfl, ?_⟩))
          go_meet
          case rel => exact ⟨_, H', ⟨by have := HJ3.out; have := HJ12.out; have := HJ28.out; first | omega | exact Nat.le_refl _⟩, ⟨by (with_reducible repeat (first | refine blk_drewN ?_ _ | refine blk_drew ?_ | refine blk_alloc ?_ _)); exact BK138.out⟩, ⟨bw⟩⟩
         replace c50 := Bool.eq_false_iff.mpr c50
         subst c50
         replace H := (if_neg (show ¬ (false = true) by decide)).symm.trans H
         obtain rfl := Option.some.inj H
         obtain ⟨hcz52_0, hcz52_1, hcz52_2, hcz52_3, hcz52_4, hfz52_0, hfz52_1, hfz52_2, hfz52_3, hfz52_4⟩ := blk5 BK138.out
         go_wp2_with (first | ((with_reducible refine gg (f := 101) (some 99) rfl rfl rfl fr101 ?_); refine onc (spec_l2text.calls kj28 _ _ l0_2 false _ (cb HR0_2) HC0_2.out A49.out) rfl ?_; rintro e w' ⟨rfl, ⟨nd, rfl⟩⟩; refine ⟨_, rfl, ?_⟩))
         go_ret
         exact ⟨by first | rfl | (simp [errW_none, errW_some] <;> rfl) | (simp [*, errW_none, errW_some] <;> rfl), bw⟩
        as_aux_lemma =>
        rw [if_neg c48] at H
        have c48b0 : (a0_0 == 3) = false := beq_eq_false_iff_ne.mpr c48
        have c48b1 : (a0_0 != 3) = true := bne_iff_ne.mpr c48
        (first | rw [c48b0] | (simp only [i64_w, i32_w]; rw [c48b0]) | skip)
        have HC53 := Aside0.mk H
        clear H
        go_upto_if 101 with (fail)
        go_cut [101] (fun v101 wc => ∃ (kq : Nat) (x101_52 : Bool), v101 = .bool x101_52 ∧ Aside0 (spec_l6expr.j3 kq a1 (wrap64 (a2 - 1)) a0_0 x101_52 a0_0 a0_1 l0_2 l0_3 l0_4 = some r) ∧ Aside0 (kq ≤ kj28) ∧ Aside0 (wc.heap[gb138]? = some (.cells #[.int .i64 a0_0, .int .i64 a0_1, (.slice A0_2 l0_2.length c0_2), (.slice A0_3 l0_3.length c0_3), (.slice A0_4 l0_4.length c0_4)] 31 (0, 0))) ∧ Bw w wc)
        case first =>
         have H := HC53.out
         clear HC53
         by_cases c54 : a0_0 = 6
         ·rw [if_pos c54] at H
          have c54b0 : (a0_0 == 6) = true := beq_iff_eq.mpr c54
          have c54b1 : (a0_0 != 6) = false := bne_eq_false_iff_eq.mpr c54
          clear c54
          (first | rw [c54b0] | (simp only [i64_w, i32_w]; rw [c54b0]) | skip)
          have H' := Aside0.mk H
          clear H
          go_wp2
          go_meet
          case rel => exact ⟨_, ((a0_0 == 6)), (by first | rfl | (simp; done) | (simp [*]; done)), H', ⟨by have := HJ3.out; have := HJ12.out; have := HJ28.out; first | omega | exact Nat.le_refl _⟩, ⟨by (with_reducible repeat (first | refine blk_drewN ?_ _ | refine blk_drew ?_ | refine blk_alloc ?_ _)); exact BK138.out⟩, ⟨bw⟩⟩
         rw [if_neg c54] at H
         have c54b0 : (a0_0 == 6) = false := beq_eq_false_iff_ne.mpr c54
         have c54b1 : (a0_0 != 6) = true := bne_iff_ne.mpr c54
         (first | rw [c54b0] | (simp only [i64_w, i32_w]; rw [c54b0]) | skip)
         by_cases c55 : a0_0 = 8
         ·rw [if_pos c55] at H
          have c55b0 : (a0_0 == 8) = true := beq_iff_eq.mpr c55
          have c55b1 : (a0_0 != 8) = false := bne_eq_false_iff_eq.mpr c55
          clear c55
          have H' := Aside0.mk H
          clear H
          go_wp2
          go_meet
          case rel => exact ⟨_, ((a0_0 == 8)), (by first | rfl | (simp; done) | (simp [*]; done)), H', ⟨by have := HJ3.out; have := HJ12.out; have := HJ28.out; first | omega | exact Nat.le_refl _⟩, ⟨by (with_reducible repeat (first | refine blk_drewN ?_ _ | refine blk_drew ?_ | refine blk_alloc ?_ _)); exact BK138.out⟩, ⟨bw⟩⟩
         rw [if_neg c55] at H
         have c55b0 : (a0_0 == 8) = false := beq_eq_false_iff_ne.mpr c55
         have c55b1 : (a0_0 != 8) = true := bne_iff_ne.mpr c55
         have H' := Aside0.mk H
         clear H
         go_wp2
         go_meet
         case rel => exact ⟨_, ((a0_0 == 23)), (by first | rfl | (simp; done) | (simp [*]; done)), H', ⟨by have := HJ3.out; have := HJ12.out; have := HJ28.out; first | omega | exact Nat.le_refl _⟩, ⟨by (with_reducible repeat (first | refine blk_drewN ?_ _ | refine blk_drew ?_ | refine blk_alloc ?_ _)); exact BK138.out⟩, ⟨bw⟩⟩
        case rest =>
         as_aux_lemma =>
         clear HC53
         try clear c6
         try clear c6b0
         try clear c7
         try clear c7b0
         try clear c8
         try clear c8b0
         try clear c11
         try clear c15
         try clear c15b0
         try clear c16
         try clear c16b0
         try clear c16b1
         try clear c17
         try clear c17b0
         try clear c17b1
         try clear c18
         try clear c18b0
         try clear c18b1
         try clear c18b2
         try clear c23
         try clear c23b0
         try clear c23b1
         try clear c24
         try clear c24b0
         try clear c24b1
         try clear c24b2
         try clear c28
         try clear c31
         try clear c31b0
         try clear c31b1
         try clear c32
         try clear c32b0
         try clear c34
         try clear c34b0
         try clear c37
         try clear c37b0
         try clear c37b1
         try clear c38
         try clear c38b0
         try clear c40
         try clear c40b0
         try clear c43
         try clear c43b0
         try clear c43b1
         try clear c48
         try clear c48b0
         try clear c48b1
         try clear c50
         try clear c54
         try clear c54b0
         try clear c54b1
         try clear c55
         try clear c55b0
         try clear c55b1
         try clear hcz10_0 hcz10_1 hcz10_2 hcz10_3 hcz10_4
         try clear hcz14_0 hcz14_1 hcz14_2 hcz14_3 hcz14_4
         try clear hcz19_0 hcz19_1 hcz19_2 hcz19_3 hcz19_4
         try clear hcz20_0 hcz20_1 hcz20_2 hcz20_3 hcz20_4
         try clear hcz21_0 hcz21_1 hcz21_2 hcz21_3 hcz21_4
         try clear hcz22_0 hcz22_1 hcz22_2 hcz22_3 hcz22_4
         try clear hcz25_0 hcz25_1 hcz25_2 hcz25_3 hcz25_4
         try clear hcz26_0 hcz26_1 hcz26_2 hcz26_3 hcz26_4
         try clear hcz27_0 hcz27_1 hcz27_2 hcz27_3 hcz27_4
         try clear hcz30_0 hcz30_1 hcz30_2 hcz30_3 hcz30_4
         try clear hcz33_0 hcz33_1 hcz33_2 hcz33_3 hcz33_4
         try clear hcz35_0 hcz35_1 hcz35_2 hcz35_3 hcz35_4
         try clear hcz36_0 hcz36_1 hcz36_2 hcz36_3 hcz36_4
         try clear hcz39_0 hcz39_1 hcz39_2 hcz39_3 hcz39_4
         try clear hcz41_0 hcz41_1 hcz41_2 hcz41_3 hcz41_4
         try clear hcz42_0 hcz42_1 hcz42_2 hcz42_3 hcz42_4
         try clear hcz44_0 hcz44_1 hcz44_2 hcz44_3 hcz44_4
         try clear hcz45_0 hcz45_1 hcz45_2 hcz45_3 hcz45_4
         try clear hcz47_0 hcz47_1 hcz47_2 hcz47_3 hcz47_4
         try clear hcz51_0 hcz51_1 hcz51_2 hcz51_3 hcz51_4
         try clear hcz52_0 hcz52_1 hcz52_2 hcz52_3 hcz52_4
         try clear hcz9_0 hcz9_1 hcz9_2 hcz9_3 hcz9_4
         try clear hfz10_0 hfz10_1 hfz10_2 hfz10_3 hfz10_4
         try clear hfz14_0 hfz14_1 hfz14_2 hfz14_3 hfz14_4
         try clear hfz19_0 hfz19_1 hfz19_2 hfz19_3 hfz19_4
         try clear hfz20_0 hfz20_1 hfz20_2 hfz20_3 hfz20_4
         try clear hfz21_0 hfz21_1 hfz21_2 hfz21_3 hfz21_4
         try clear hfz22_0 hfz22_1 hfz22_2 hfz22_3 hfz22_4
         try clear hfz25_0 hfz25_1 hfz25_2 hfz25_3 hfz25_4
         try clear hfz26_0 hfz26_1 hfz26_2 hfz26_3 hfz26_4
         try clear hfz27_0 hfz27_1 hfz27_2 hfz27_3 hfz27_4
         try clear hfz30_0 hfz30_1 hfz30_2 hfz30_3 hfz30_4
         try clear hfz33_0 hfz33_1 hfz33_2 hfz33_3 hfz33_4
         try clear hfz35_0 hfz35_1 hfz35_2 hfz35_3 hfz35_4
         try clear hfz36_0 hfz36_1 hfz36_2 hfz36_3 hfz36_4
         try clear hfz39_0 hfz39_1 hfz39_2 hfz39_3 hfz39_4
         try clear hfz41_0 hfz41_1 hfz41_2 hfz41_3 hfz41_4
         try clear hfz42_0 hfz42_1 hfz42_2 hfz42_3 hfz42_4
         try clear hfz44_0 hfz44_1 hfz44_2 hfz44_3 hfz44_4
         try clear hfz45_0 hfz45_1 hfz45_2 hfz45_3 hfz45_4
         try clear hfz47_0 hfz47_1 hfz47_2 hfz47_3 hfz47_4
         try clear hfz51_0 hfz51_1 hfz51_2 hfz51_3 hfz51_4
         try clear hfz52_0 hfz52_1 hfz52_2 hfz52_3 hfz52_4
         try clear hfz9_0 hfz9_1 hfz9_2 hfz9_3 hfz9_4
         obtain ⟨kq, x101_52, rfl, HA, HJ52, BK138, HB⟩ := hcut
         cases kq with
         | zero => exact absurd HA.out (by simp [spec_l6expr.j3])
         | succ kj52 =>
          have H := HA.out
          clear HA
          simp only [spec_l6expr.j3] at H
          by_cases c56 : x101_52 = true
          ·subst c56
           replace H := (if_pos rfl).symm.trans H
           replace H := Option.bind_eq_some_iff.mp H
           obtain ⟨t141, A570, H⟩ := H
           have A57 := Aside0.mk A570
           clear A570
           by_cases c58 : t141 = true
           rotate_left
           ·replace c58 := Bool.eq_false_iff.mpr c58
            subst c58
            replace H := (if_neg (show ¬ (false = true) by decide)).symm.trans H
            obtain rfl := Option.some.inj H
            obtain ⟨hcz67_0, hcz67_1, hcz67_2, hcz67_3, hcz67_4, hfz67_0, hfz67_1, hfz67_2, hfz67_3, hfz67_4⟩ := blk5 BK138.out
            go_wp2_with (first | ((with_reducible refine gg (f := 39) (some 107) rfl rfl rfl fr39 ?_); refine onc (spec_NameOk.calls kj52 _ _ l0_2 false _ (cb HR0_2) HC0_2.out A57.out) rfl ?_; rintro e w' ⟨rfl, ⟨nd, rfl⟩⟩; refine ⟨_, rfl, ?_⟩))
            go_ret
            exact ⟨by first | rfl | (simp [errW_none, errW_some] <;> rfl) | (simp [*, errW_none, errW_some] <;> rfl), bw⟩
           subst c58
           replace H := (if_pos rfl).symm.trans H
           by_cases c59 : a0_0 = 23
           rotate_left
           ·rw [if_neg c59] at H
            have c59b0 : (a0_0 == 23) = false := beq_eq_false_iff_ne.mpr c59
            have c59b1 : (a0_0 != 23) = true := bne_iff_ne.mpr c59
            have H' := Aside0.mk H
            clear H
            obtain ⟨hcz66_0, hcz66_1, hcz66_2, hcz66_3, hcz66_4, hfz66_0, hfz66_1, hfz66_2, hfz66_3, hfz66_4⟩ := blk5 BK138.out
            go_wp2_with (first | ((with_reducible refine gg (f := 39) (some 107) rfl rfl rfl fr39 ?_); refine onc (spec_NameOk.calls kj52 _ _ l0_2 true _ (cb HR0_2) HC0_2.out A57.out) rfl ?_; rintro e w' ⟨rfl, ⟨nd, rfl⟩⟩; refine ⟨_, rfl, ?_⟩))
            go_meet
            case rel => exact ⟨_, H', ⟨by have := HJ3.out; have := HJ12.out; have := HJ28.out; have := HJ52.out; first | omega | exact Nat.le_refl _⟩, ⟨by (with_reducible repeat (first | refine blk_drewN ?_ _ | refine blk_drew ?_ | refine blk_alloc ?_ _)); exact BK138.out⟩, ⟨bw⟩⟩
           rw [if_pos c59] at H
           have c59b0 : (a0_0 == 23) = true := beq_iff_eq.mpr c59
           have c59b1 : (a0_0 != 23) = false := bne_eq_false_iff_eq.mpr c59
           clear c59
           replace H := Option.bind_eq_some_iff.mp H
           obtain ⟨t142, A600, H⟩ := H
           have A60 := Aside0.mk A600
           clear A600
           by_cases c61 : t142 = true
           ·subst c61
            replace H := (if_pos rfl).symm.trans H
            obtain rfl := Option.some.inj H
            obtain ⟨hcz62_0, hcz62_1, hcz62_2, hcz62_3, hcz62_4, hfz62_0, hfz62_1, hfz62_2, hfz62_3, hfz62_4⟩ := blk5 BK138.out
            go_wp2_with (first | ((with_reducible refine gg (f := 39) (some 107) rfl rfl rfl fr39 ?_); refine onc (spec_NameOk.calls kj52 _ _ l0_2 true _ (cb HR0_2) HC0_2.out A57.out) rfl ?_; rintro e w' ⟨rfl, ⟨nd, rfl⟩⟩; refine ⟨_, rfl, ?_⟩) | (go_at_call 102; (with_reducible refine (spec_l6kept.calls kj52 _ _ l0_2 true _ ?side1 ?side2 A60.out).mono ?_); (case side1 => repeat (first | exact (Kd.C_below HR0_2.out bw) | (with_reducible refine Kd.C_alloc ?_ _) | (with_reducible refine Kd.C_drewN ?_ _) | (with_reducible refine Kd.C_drew ?_))); (case side2 => exact HC0_2.out); rintro e w63 ⟨rfl, hb⟩; replace BK138 := Aside0.mk (blk_below (g := gb138) (o := .cells #[.int .i64 a0_0, .int .i64 a0_1, .slice A0_2 l0_2.length c0_2, .slice A0_3 l0_3.length c0_3, .slice A0_4 l0_4.length c0_4] 31 (0, 0)) (by (with_reducible repeat (first | refine blk_drewN ?_ _ | refine blk_drew ?_ | refine blk_alloc ?_ _)); exact BK138.out) hb); replace HB := (Bw.sw w hb); (try clear hb)))
            go_ret
            exact ⟨by first | rfl | (simp [errW_none, errW_some] <;> rfl) | (simp [*, errW_none, errW_some] <;> rfl), bw⟩
           replace c61 := Bool.eq_false_iff.mpr c61
           subst c61
           replace H := (if_neg (show ¬ (false = true) by decide)).symm.trans H
           have H' := Aside0.mk H
           clear H
           obtain ⟨hcz64_0, hcz64_1, hcz64_2, hcz64_3, hcz64_4, hfz64_0, hfz64_1, hfz64_2, hfz64_3, hfz64_4⟩ := blk5 BK138.out
           go_wp2_with (first | ((with_reducible refine gg (f := 39) (some 107) rfl rfl rfl fr39 ?_); refine onc (spec_NameOk.calls kj52 _ _ l0_2 true _ (cb HR0_2) HC0_2.out A57.out) rfl ?_; rintro e w' ⟨rfl, ⟨nd, rfl⟩⟩; refine ⟨_, rfl, ?_⟩) | (go_at_call 102; (with_reducible refine (spec_l6kept.calls kj52 _ _ l0_2 false _ ?side1 ?side2 A60.out).mono ?_); (case side1 => repeat (first | exact (Kd.C_below HR0_2.out bw) | (with_reducible refine Kd.C_alloc ?_ _) | (with_reducible refine Kd.C_drewN ?_ _) | (with_reducible refine Kd.C_drew ?_))); (case side2 => exact HC0_2.out); rintro e w65 ⟨rfl, hb⟩; replace BK138 := Aside0.mk (blk_below (g := gb138) (o := .cells #[.int .i64 a0_0, .int .i64 a0_1, .slice A0_2 l0_2.length c0_2, .slice A0_3 l0_3.length c0_3, .slice A0_4 l0_4.length c0_4] 31 (0, 0)) (by (with_reducible repeat (first | refine blk_drewN ?_ _ | refine blk_drew ?_ | refine blk_alloc ?_ _)); exact BK138.out) hb); replace HB := (Bw.sw w hb); (try clear hb)))
           go_meet
           case rel => exact ⟨_, H', ⟨by have := HJ3.out; have := HJ12.out; have := HJ28.out; have := HJ52.out; first | omega | exact Nat.le_refl _⟩, ⟨by (with_reducible repeat (first | refine blk_drewN ?_ _ | refine blk_drew ?_ | refine blk_alloc ?_ _)); exact BK138.out⟩, ⟨bw⟩⟩
          replace c56 := Bool.eq_false_iff.mpr c56
          subst c56
          replace H := (if_neg (show ¬ (false = true) by decide)).symm.trans H
          by_cases c68 : a0_0 = 7
          ·rw [if_pos c68] at H
           have c68b0 : (a0_0 == 7) = true := beq_iff_eq.mpr c68
           have c68b1 : (a0_0 != 7) = false := bne_eq_false_iff_eq.mpr c68
           clear c68
           replace H := Option.bind_eq_some_iff.mp H
           obtain ⟨t143, A690, H⟩ := H
           have A69 := Aside0.mk A690
           clear A690
           by_cases c70 : t143 = true
           ·subst c70
            replace H := (if_pos rfl).symm.trans H
            have H' := Aside0.mk H
            clear H
            obtain ⟨hcz71_0, hcz71_1, hcz71_2, hcz71_3, hcz71_4, hfz71_0, hfz71_1, hfz71_2, hfz71_3, hfz71_4⟩ := blk5 BK138.out
            go_wp2_with (first | ((with_reducible refine gg (f := 103) (some 123) rfl rfl rfl fr103 ?_); refine onc (spec_l6free.calls kj52 _ _ l0_2 true _ (cb HR0_2) HC0_2.out A69.out) rfl ?_; rintro e w72 ⟨rfl, hb⟩; refine ⟨_, rfl, ?_⟩; replace BK138 := Aside0.mk (blk_below (g := gb138) (o := .cells #[.int .i64 a0_0, .int .i64 a0_1, .slice A0_2 l0_2.length c0_2, .slice A0_3 l0_3.length c0_3, .slice A0_4 l0_4.length c0_4] 31 (0, 0)) (by (with_reducible repeat (first | refine blk_drewN ?_ _ | refine blk_drew ?_ | refine blk_alloc ?_ _)); exact BK138.out) hb); replace HB := (Bw.sw w hb); (try clear hb)))
            go_meet
            case rel => exact ⟨_, H', ⟨by have := HJ3.out; have := HJ12.out; have := HJ28.out; have := HJ52.out; first | omega | exact Nat.le_refl _⟩, ⟨by (with_reducible repeat (first | refine blk_drewN ?_ _ | refine blk_drew ?_ | refine blk_alloc ?_ _)); exact BK138.out⟩, ⟨bw⟩⟩
           replace c70 := Bool.eq_false_iff.mpr c70
           subst c70
           replace H := (if_neg (show ¬ (false = true) by decide)).symm.trans H
           obtain rfl := Option.some.inj H
           obtain ⟨hcz73_0, hcz73_1, hcz73_2, hcz73_3, hcz73_4, hfz73_0, hfz73_1, hfz73_2, hfz73_3, hfz73_4⟩ := blk5 BK138.out
           go_wp2_with (first | ((with_reducible refine gg (f := 103) (some 123) rfl rfl rfl fr103 ?_); refine onc (spec_l6free.calls kj52 _ _ l0_2 false _ (cb HR0_2) HC0_2.out A69.out) rfl ?_; rintro e w74 ⟨rfl, hb⟩; refine ⟨_, rfl, ?_⟩; replace BK138 := Aside0.mk (blk_below (g := gb138) (o := .cells #[.int .i64 a0_0, .int .i64 a0_1, .slice A0_2 l0_2.length c0_2, .slice A0_3 l0_3.length c0_3, .slice A0_4 l0_4.length c0_4] 31 (0, 0)) (by (with_reducible repeat (first | refine blk_drewN ?_ _ | refine blk_drew ?_ | refine blk_alloc ?_ _)); exact BK138.out) hb); replace HB := (Bw.sw w hb); (try clear hb)))
           go_ret
           exact ⟨by first | rfl | (simp [errW_none, errW_some] <;> rfl) | (simp [*, errW_none, errW_some] <;> rfl), bw⟩
          rw [if_neg c68] at H
          have c68b0 : (a0_0 == 7) = false := beq_eq_false_iff_ne.mpr c68
          have c68b1 : (a0_0 != 7) = true := bne_iff_ne.mpr c68
          by_cases c75 : (l0_2.length : Int) > 0
          ·rw [if_pos c75] at H
           have c75b0 : decide (0 < (l0_2.length : Int)) = true := decide_eq_true c75
           have c75b1 : decide (0 < l0_2.length) = true := decide_eq_true (by omega)
           clear c75
           obtain rfl := Option.some.inj H
           obtain ⟨hcz76_0, hcz76_1, hcz76_2, hcz76_3, hcz76_4, hfz76_0, hfz76_1, hfz76_2, hfz76_3, hfz76_4⟩ := blk5 BK138.out
           go_wp2
           go_ret
           exact ⟨by first | rfl | (simp [errW_none, errW_some] <;> rfl) | (simp [*, errW_none, errW_some] <;> rfl), bw⟩
          rw [if_neg c75] at H
          have c75b0 : decide (0 < (l0_2.length : Int)) = false := decide_eq_false c75
          have c75b1 : decide (0 < l0_2.length) = false := decide_eq_false (by omega)
          clear c75
          have H' := Aside0.mk H
          clear H
          obtain ⟨hcz77_0, hcz77_1, hcz77_2, hcz77_3, hcz77_4, hfz77_0, hfz77_1, hfz77_2, hfz77_3, hfz77_4⟩ := blk5 BK138.out
          go_wp2
          go_meet
          case rel => exact ⟨_, H', ⟨by have := HJ3.out; have := HJ12.out; have := HJ28.out; have := HJ52.out; first | omega | exact Nat.le_refl _⟩, ⟨by (with_reducible repeat (first | refine blk_drewN ?_ _ | refine blk_drew ?_ | refine blk_alloc ?_ _)); exact BK138.out⟩, ⟨bw⟩⟩
       case rest =>
        as_aux_lemma =>
        clear HC46
        try clear c6
        try clear c6b0
        try clear c7
        try clear c7b0
        try clear c8
        try clear c8b0
        try clear c11
        try clear c15
        try clear c15b0
        try clear c16
        try clear c16b0
        try clear c16b1
        try clear c17
        try clear c17b0
        try clear c17b1
        try clear c18
        try clear c18b0
        try clear c18b1
        try clear c18b2
        try clear c23
        try clear c23b0
        try clear c23b1
        try clear c24
        try clear c24b0
        try clear c24b1
        try clear c24b2
        try clear c28
        try clear c31
        try clear c31b0
        try clear c31b1
        try clear c32
        try clear c32b0
        try clear c34
        try clear c34b0
        try clear c37
        try clear c37b0
        try clear c37b1
        try clear c38
        try clear c38b0
        try clear c40
        try clear c40b0
        try clear c43
        try clear c43b0
        try clear c43b1
        try clear c48
        try clear c48b0
        try clear c48b1
        try clear c50
        try clear c54
        try clear c54b0
        try clear c54b1
        try clear c55
        try clear c55b0
        try clear c55b1
        try clear c56
        try clear c58
        try clear c59
        try clear c59b0
        try clear c59b1
        try clear c61
        try clear c68
        try clear c68b0
        try clear c68b1
        try clear c70
        try clear c75
        try clear c75b0
        try clear c75b1
        try clear hcz10_0 hcz10_1 hcz10_2 hcz10_3 hcz10_4
        try clear hcz14_0 hcz14_1 hcz14_2 hcz14_3 hcz14_4
        try clear hcz19_0 hcz19_1 hcz19_2 hcz19_3 hcz19_4
        try clear hcz20_0 hcz20_1 hcz20_2 hcz20_3 hcz20_4
        try clear hcz21_0 hcz21_1 hcz21_2 hcz21_3 hcz21_4
        try clear hcz22_0 hcz22_1 hcz22_2 hcz22_3 hcz22_4
        try clear hcz25_0 hcz25_1 hcz25_2 hcz25_3 hcz25_4
        try clear hcz26_0 hcz26_1 hcz26_2 hcz26_3 hcz26_4
        try clear hcz27_0 hcz27_1 hcz27_2 hcz27_3 hcz27_4
        try clear hcz30_0 hcz30_1 hcz30_2 hcz30_3 hcz30_4
        try clear hcz33_0 hcz33_1 hcz33_2 hcz33_3 hcz33_4
        try clear hcz35_0 hcz35_1 hcz35_2 hcz35_3 hcz35_4
        try clear hcz36_0 hcz36_1 hcz36_2 hcz36_3 hcz36_4
        try clear hcz39_0 hcz39_1 hcz39_2 hcz39_3 hcz39_4
        try clear hcz41_0 hcz41_1 hcz41_2 hcz41_3 hcz41_4
        try clear hcz42_0 hcz42_1 hcz42_2 hcz42_3 hcz42_4
        try clear hcz44_0 hcz44_1 hcz44_2 hcz44_3 hcz44_4
        try clear hcz45_0 hcz45_1 hcz45_2 hcz45_3 hcz45_4
        try clear hcz47_0 hcz47_1 hcz47_2 hcz47_3 hcz47_4
        try clear hcz51_0 hcz51_1 hcz51_2 hcz51_3 hcz51_4
        try clear hcz52_0 hcz52_1 hcz52_2 hcz52_3 hcz52_4
        try clear hcz62_0 hcz62_1 hcz62_2 hcz62_3 hcz62_4
        try clear hcz64_0 hcz64_1 hcz64_2 hcz64_3 hcz64_4
        try clear hcz66_0 hcz66_1 hcz66_2 hcz66_3 hcz66_4
        try clear hcz67_0 hcz67_1 hcz67_2 hcz67_3 hcz67_4
        try clear hcz71_0 hcz71_1 hcz71_2 hcz71_3 hcz71_4
        try clear hcz73_0 hcz73_1 hcz73_2 hcz73_3 hcz73_4
        try clear hcz76_0 hcz76_1 hcz76_2 hcz76_3 hcz76_4
        try clear hcz77_0 hcz77_1 hcz77_2 hcz77_3 hcz77_4
        try clear hcz9_0 hcz9_1 hcz9_2 hcz9_3 hcz9_4
        try clear hfz10_0 hfz10_1 hfz10_2 hfz10_3 hfz10_4
        try clear hfz14_0 hfz14_1 hfz14_2 hfz14_3 hfz14_4
        try clear hfz19_0 hfz19_1 hfz19_2 hfz19_3 hfz19_4
        try clear hfz20_0 hfz20_1 hfz20_2 hfz20_3 hfz20_4
        try clear hfz21_0 hfz21_1 hfz21_2 hfz21_3 hfz21_4
        try clear hfz22_0 hfz22_1 hfz22_2 hfz22_3 hfz22_4
        try clear hfz25_0 hfz25_1 hfz25_2 hfz25_3 hfz25_4
        try clear hfz26_0 hfz26_1 hfz26_2 hfz26_3 hfz26_4
        try clear hfz27_0 hfz27_1 hfz27_2 hfz27_3 hfz27_4
        try clear hfz30_0 hfz30_1 hfz30_2 hfz30_3 hfz30_4
        try clear hfz33_0 hfz33_1 hfz33_2 hfz33_3 hfz33_4
        try clear hfz35_0 hfz35_1 hfz35_2 hfz35_3 hfz35_4
        try clear hfz36_0 hfz36_1 hfz36_2 hfz36_3 hfz36_4
        try clear hfz39_0 hfz39_1 hfz39_2 hfz39_3 hfz39_4
        try clear hfz41_0 hfz41_1 hfz41_2 hfz41_3 hfz41_4
        try clear hfz42_0 hfz42_1 hfz42_2 hfz42_3 hfz42_4
        try clear hfz44_0 hfz44_1 hfz44_2 hfz44_3 hfz44_4
        try clear hfz45_0 hfz45_1 hfz45_2 hfz45_3 hfz45_4
        try clear hfz47_0 hfz47_1 hfz47_2 hfz47_3 hfz47_4
        try clear hfz51_0 hfz51_1 hfz51_2 hfz51_3 hfz51_4
        try clear hfz52_0 hfz52_1 hfz52_2 hfz52_3 hfz52_4
        try clear hfz62_0 hfz62_1 hfz62_2 hfz62_3 hfz62_4
        try clear hfz64_0 hfz64_1 hfz64_2 hfz64_3 hfz64_4
        try clear hfz66_0 hfz66_1 hfz66_2 hfz66_3 hfz66_4
        try clear hfz67_0 hfz67_1 hfz67_2 hfz67_3 hfz67_4
        try clear hfz71_0 hfz71_1 hfz71_2 hfz71_3 hfz71_4
        try clear hfz73_0 hfz73_1 hfz73_2 hfz73_3 hfz73_4
        try clear hfz76_0 hfz76_1 hfz76_2 hfz76_3 hfz76_4
        try clear hfz77_0 hfz77_1 hfz77_2 hfz77_3 hfz77_4
        try clear hfz9_0 hfz9_1 hfz9_2 hfz9_3 hfz9_4
        obtain ⟨kq, HA, HJ45, BK138, HB⟩ := hcut
        cases kq with
        | zero => exact absurd HA.out (by simp [spec_l6expr.j4])
        | succ kj45 =>
         have H := HA.out
         clear HA
         simp only [spec_l6expr.j4] at H
         have H' := Aside0.mk H
         clear H
         go_wp2
         go_loopg [2, 8] kj45 (fun kq v2 v8 w' => ∃ (x2_5 : Int) (x8_5 : Int), v2 = .int .i64 x2_5 ∧ v8 = .int .i64 x8_5 ∧ Aside0 (spec_l6expr.l0 kq a1 x2_5 x8_5 a0_0 a0_1 l0_2 l0_3 l0_4 = some r) ∧ Aside0 (kq ≤ kj45) ∧ Aside0 (w'.heap[gb138]? = some (.cells #[.int .i64 a0_0, .int .i64 a0_1, (.slice A0_2 l0_2.length c0_2), (.slice A0_3 l0_3.length c0_3), (.slice A0_4 l0_4.length c0_4)] 31 (0, 0))) ∧ Bw w w')
         case atStart => exact ⟨((wrap64 (a2 - 1))), (0), (by first | rfl | (simp; done) | (simp [*]; done)), (by first | rfl | (simp; done) | (simp [*]; done)), H', ⟨Nat.le_refl _⟩, ⟨by (with_reducible repeat (first | refine blk_drewN ?_ _ | refine blk_drew ?_ | refine blk_alloc ?_ _)); exact BK138.out⟩, ⟨bw⟩⟩
         case round =>
          as_aux_lemma =>
          clear H'
          try clear c6
          try clear c6b0
          try clear c7
          try clear c7b0
          try clear c8
          try clear c8b0
          try clear c11
          try clear c15
          try clear c15b0
          try clear c16
          try clear c16b0
          try clear c16b1
          try clear c17
          try clear c17b0
          try clear c17b1
          try clear c18
          try clear c18b0
          try clear c18b1
          try clear c18b2
          try clear c23
          try clear c23b0
          try clear c23b1
          try clear c24
          try clear c24b0
          try clear c24b1
          try clear c24b2
          try clear c28
          try clear c31
          try clear c31b0
          try clear c31b1
          try clear c32
          try clear c32b0
          try clear c34
          try clear c34b0
          try clear c37
          try clear c37b0
          try clear c37b1
          try clear c38
          try clear c38b0
          try clear c40
          try clear c40b0
          try clear c43
          try clear c43b0
          try clear c43b1
          try clear c48
          try clear c48b0
          try clear c48b1
          try clear c50
          try clear c54
          try clear c54b0
          try clear c54b1
          try clear c55
          try clear c55b0
          try clear c55b1
          try clear c56
          try clear c58
          try clear c59
          try clear c59b0
          try clear c59b1
          try clear c61
          try clear c68
          try clear c68b0
          try clear c68b1
          try clear c70
          try clear c75
          try clear c75b0
          try clear c75b1
          try clear hcz10_0 hcz10_1 hcz10_2 hcz10_3 hcz10_4
          try clear hcz14_0 hcz14_1 hcz14_2 hcz14_3 hcz14_4
          try clear hcz19_0 hcz19_1 hcz19_2 hcz19_3 hcz19_4
          try clear hcz20_0 hcz20_1 hcz20_2 hcz20_3 hcz20_4
          try clear hcz21_0 hcz21_1 hcz21_2 hcz21_3 hcz21_4
          try clear hcz22_0 hcz22_1 hcz22_2 hcz22_3 hcz22_4
          try clear hcz25_0 hcz25_1 hcz25_2 hcz25_3 hcz25_4
          try clear hcz26_0 hcz26_1 hcz26_2 hcz26_3 hcz26_4
          try clear hcz27_0 hcz27_1 hcz27_2 hcz27_3 hcz27_4
          try clear hcz30_0 hcz30_1 hcz30_2 hcz30_3 hcz30_4
          try clear hcz33_0 hcz33_1 hcz33_2 hcz33_3 hcz33_4
          try clear hcz35_0 hcz35_1 hcz35_2 hcz35_3 hcz35_4
          try clear hcz36_0 hcz36_1 hcz36_2 hcz36_3 hcz36_4
          try clear hcz39_0 hcz39_1 hcz39_2 hcz39_3 hcz39_4
          try clear hcz41_0 hcz41_1 hcz41_2 hcz41_3 hcz41_4
          try clear hcz42_0 hcz42_1 hcz42_2 hcz42_3 hcz42_4
          try clear hcz44_0 hcz44_1 hcz44_2 hcz44_3 hcz44_4
          try clear hcz45_0 hcz45_1 hcz45_2 hcz45_3 hcz45_4
          try clear hcz47_0 hcz47_1 hcz47_2 hcz47_3 hcz47_4
          try clear hcz51_0 hcz51_1 hcz51_2 hcz51_3 hcz51_4
          try clear hcz52_0 hcz52_1 hcz52_2 hcz52_3 hcz52_4
          try clear hcz62_0 hcz62_1 hcz62_2 hcz62_3 hcz62_4
          try clear hcz64_0 hcz64_1 hcz64_2 hcz64_3 hcz64_4
          try clear hcz66_0 hcz66_1 hcz66_2 hcz66_3 hcz66_4
          try clear hcz67_0 hcz67_1 hcz67_2 hcz67_3 hcz67_4
          try clear hcz71_0 hcz71_1 hcz71_2 hcz71_3 hcz71_4
          try clear hcz73_0 hcz73_1 hcz73_2 hcz73_3 hcz73_4
          try clear hcz76_0 hcz76_1 hcz76_2 hcz76_3 hcz76_4
          try clear hcz77_0 hcz77_1 hcz77_2 hcz77_3 hcz77_4
          try clear hcz9_0 hcz9_1 hcz9_2 hcz9_3 hcz9_4
          try clear hfz10_0 hfz10_1 hfz10_2 hfz10_3 hfz10_4
          try clear hfz14_0 hfz14_1 hfz14_2 hfz14_3 hfz14_4
          try clear hfz19_0 hfz19_1 hfz19_2 hfz19_3 hfz19_4
          try clear hfz20_0 hfz20_1 hfz20_2 hfz20_3 hfz20_4
          try clear hfz21_0 hfz21_1 hfz21_2 hfz21_3 hfz21_4
          try clear hfz22_0 hfz22_1 hfz22_2 hfz22_3 hfz22_4
          try clear hfz25_0 hfz25_1 hfz25_2 hfz25_3 hfz25_4
          try clear hfz26_0 hfz26_1 hfz26_2 hfz26_3 hfz26_4
          try clear hfz27_0 hfz27_1 hfz27_2 hfz27_3 hfz27_4
          try clear hfz30_0 hfz30_1 hfz30_2 hfz30_3 hfz30_4
          try clear hfz33_0 hfz33_1 hfz33_2 hfz33_3 hfz33_4
          try clear hfz35_0 hfz35_1 hfz35_2 hfz35_3 hfz35_4
          try clear hfz36_0 hfz36_1 hfz36_2 hfz36_3 hfz36_4
          try clear hfz39_0 hfz39_1 hfz39_2 hfz39_3 hfz39_4
          try clear hfz41_0 hfz41_1 hfz41_2 hfz41_3 hfz41_4
          try clear hfz42_0 hfz42_1 hfz42_2 hfz42_3 hfz42_4
          try clear hfz44_0 hfz44_1 hfz44_2 hfz44_3 hfz44_4
          try clear hfz45_0 hfz45_1 hfz45_2 hfz45_3 hfz45_4
          try clear hfz47_0 hfz47_1 hfz47_2 hfz47_3 hfz47_4
          try clear hfz51_0 hfz51_1 hfz51_2 hfz51_3 hfz51_4
          try clear hfz52_0 hfz52_1 hfz52_2 hfz52_3 hfz52_4
          try clear hfz62_0 hfz62_1 hfz62_2 hfz62_3 hfz62_4
          try clear hfz64_0 hfz64_1 hfz64_2 hfz64_3 hfz64_4
          try clear hfz66_0 hfz66_1 hfz66_2 hfz66_3 hfz66_4
          try clear hfz67_0 hfz67_1 hfz67_2 hfz67_3 hfz67_4
          try clear hfz71_0 hfz71_1 hfz71_2 hfz71_3 hfz71_4
          try clear hfz73_0 hfz73_1 hfz73_2 hfz73_3 hfz73_4
          try clear hfz76_0 hfz76_1 hfz76_2 hfz76_3 hfz76_4
          try clear hfz77_0 hfz77_1 hfz77_2 hfz77_3 hfz77_4
          try clear hfz9_0 hfz9_1 hfz9_2 hfz9_3 hfz9_4
          obtain ⟨x2_5, x8_5, rfl, rfl, HA, HK5, BK138, HB⟩ := hrel
          cases gk with
          | zero => exact absurd HA.out (by simp [spec_l6expr.l0])
          | succ k5 =>
           have H := HA.out
           clear HA
           simp only [spec_l6expr.l0] at H
           by_cases c78 : x8_5 < (l0_4.length : Int)
           rotate_left
           ·rw [if_neg c78] at H
            have c78b0 : decide (x8_5 < (l0_4.length : Int)) = false := decide_eq_false c78
            clear c78
            obtain rfl := Option.some.inj H
            obtain ⟨hcz106_0, hcz106_1, hcz106_2, hcz106_3, hcz106_4, hfz106_0, hfz106_1, hfz106_2, hfz106_3, hfz106_4⟩ := blk5 BK138.out
            go_wp2
            go_ret
            exact ⟨by first | rfl | (simp [errW_none, errW_some] <;> rfl) | (simp [*, errW_none, errW_some] <;> rfl), bw⟩
           as_aux_lemma =>
           rw [if_pos c78] at H
           have c78b0 : decide (x8_5 < (l0_4.length : Int)) = true := decide_eq_true c78
           clear c78
           have HC79 := Aside0.mk H
           clear H
           obtain ⟨hcz80_0, hcz80_1, hcz80_2, hcz80_3, hcz80_4, hfz80_0, hfz80_1, hfz80_2, hfz80_3, hfz80_4⟩ := blk5 BK138.out
           go_upto_region 33 with (fail)
           go_cut [163] (fun v163 wc => ∃ (kq : Nat) (x163_78 : Bool), v163 = .bool x163_78 ∧ Aside0 (spec_l6expr.j6 kq a1 x2_5 x8_5 x163_78 a0_0 a0_1 l0_2 l0_3 l0_4 = some r) ∧ Aside0 (kq ≤ k5) ∧ Aside0 (wc.heap[gb138]? = some (.cells #[.int .i64 a0_0, .int .i64 a0_1, (.slice A0_2 l0_2.length c0_2), (.slice A0_3 l0_3.length c0_3), (.slice A0_4 l0_4.length c0_4)] 31 (0, 0))) ∧ Bw w wc)
           case first =>
            as_aux_lemma =>
            have H := HC79.out
            clear HC79
            by_cases c81 : a0_0 = 5
            rotate_left
            ·as_aux_lemma =>
             rw [if_neg c81] at H
             have c81b0 : (a0_0 == 5) = false := beq_eq_false_iff_ne.mpr c81
             have c81b1 : (a0_0 != 5) = true := bne_iff_ne.mpr c81
             (first | rw [c81b0] | (simp only [i64_w, i32_w]; rw [c81b0]) | skip)
             have H' := Aside0.mk H
             clear H
             try go_wp2
             replace BK138 := Aside0.mk (blk_drew BK138.out)
             replace HB := Bw.mk (w := w) (below_drew1 HB.out)
             refine start_ (n := 32) (S := fun w' => w'.cell? ⟨gb138, 0, none⟩ = some (.int .i64 a0_0) ∧ w'.cell? ⟨gb138, 1, none⟩ = some (.int .i64 a0_1) ∧ w'.cell? ⟨gb138, 2, none⟩ = some (.slice A0_2 l0_2.length c0_2) ∧ w'.cell? ⟨gb138, 3, none⟩ = some (.slice A0_3 l0_3.length c0_3) ∧ w'.cell? ⟨gb138, 4, none⟩ = some (.slice A0_4 l0_4.length c0_4)) (ds := []) #[false, false, false, false, false, false, false, false, false, false, false, false, false, false, false, false, false, false, false, false, false, false, false, false, false, false, false, false, false, false, false, false] (by kernel_rfl) rfl rfl ⟨(blk_cell BK138.out 0).trans rfl, (blk_cell BK138.out 1).trans rfl, (blk_cell BK138.out 2).trans rfl, (blk_cell BK138.out 3).trans rfl, (blk_cell BK138.out 4).trans rfl⟩ (fun hHeld => ?_); refine with_tabW spec_l6expr.tab33 spec_l6expr.bits33 (fun HT_ HW_ => ?_)
             generalize wr.drew = w96 at BK138 HB hHeld ⊢
             refine todo_ [(0, 132), (1, 133), (2, 134), (3, 135), (4, 136), (5, 137), (6, 138), (7, 139), (8, 140), (9, 141), (10, 142), (11, 143), (12, 144), (13, 145), (14, 146), (15, 147), (16, 148), (17, 149), (18, 150), (19, 151), (20, 152), (21, 153), (22, 154), (23, 155), (24, 156), (25, 157), (26, 158), (27, 159), (28, 160), (29, 161), (30, 162), (31, 163)] ?_
             iterate 32
              (first | (refine pu_ (v := undef) (a' := ?_) HT_ rfl rfl (by kernel_rfl) (fun _ _ _ h => h) (Or.inr ⟨by rfl, rfl⟩) ?_ ?_; rotate_left) | (refine pu_ (v := ?_) (a' := ?_) HT_ rfl rfl (by kernel_rfl) (fun _ _ _ h => h) (Or.inl ⟨by rfl, ?_⟩) ?_ ?_; rotate_left; (· intro w'; go_simp; with_reducible rfl); rotate_left) | (refine ta_ (v := ?_) (a' := ?_) HT_ HW_ rfl rfl (by kernel_rfl) (fun _ _ _ h => h) (Or.inl ⟨by rfl, ?_⟩) hHeld ?_ ?_; rotate_left; (· rintro w' ⟨s0, s1, s2, s3, s4⟩; go_simp; with_reducible rfl); rotate_left))
              ·simp only [Act.put, List.setIfInBounds_toArray, List.set_cons_zero, List.set_cons_succ, i64_w, i32_w]
               rfl
             refine tend_ ?_
             refine done_ (done_of HT_.out (by kernel_rfl)) ?_
             try go_wp2
             go_meet
             case rel => exact ⟨_, (false), (by first | rfl | (simp; done) | (simp [*]; done)), H', ⟨by have := HJ3.out; have := HJ12.out; have := HJ28.out; have := HJ45.out; have := HK5.out; first | omega | exact Nat.le_refl _⟩, ⟨by (with_reducible repeat (first | refine blk_drewN ?_ _ | refine blk_drew ?_ | refine blk_alloc ?_ _)); exact BK138.out⟩, ⟨bw⟩⟩
            as_aux_lemma =>
            rw [if_pos c81] at H
            have c81b0 : (a0_0 == 5) = true := beq_iff_eq.mpr c81
            have c81b1 : (a0_0 != 5) = false := bne_eq_false_iff_eq.mpr c81
            clear c81
            (first | rw [c81b0] | (simp only [i64_w, i32_w]; rw [c81b0]) | skip)
            by_cases c82 : 0 ≤ x8_5
            rotate_left
            ·rw [if_neg c82] at H
             exact absurd H (by simp)
            as_aux_lemma =>
            rw [if_pos c82] at H
            have c82b0 : decide (0 ≤ x8_5) = true := decide_eq_true c82
            clear c82
            by_cases c83 : x8_5 < (l0_3.length : Int)
            rotate_left
            ·rw [if_neg c83] at H
             exact absurd H (by simp)
            as_aux_lemma =>
            rw [if_pos c83] at H
            have c83b0 : decide (x8_5 < (l0_3.length : Int)) = true := decide_eq_true c83
            clear c83
            replace H := Option.bind_eq_some_iff.mp H
            obtain ⟨t145, A840, H⟩ := H
            have A84 := Aside0.mk A840
            clear A840
            by_cases c85 : t145 = true
            rotate_left
            ·as_aux_lemma =>
             replace c85 := Bool.eq_false_iff.mpr c85
             subst c85
             replace H := (if_neg (show ¬ (false = true) by decide)).symm.trans H
             have H' := Aside0.mk H
             clear H
             try go_wp2
             replace BK138 := Aside0.mk (blk_drew BK138.out)
             replace HB := Bw.mk (w := w) (below_drew1 HB.out)
             have p144 : 0 ≤ (x8_5 : Int) := of_decide_eq_true (by first | (with_reducible assumption) | assumption)
             have q144 : x8_5 < (l0_3.length : Int) := of_decide_eq_true (by first | (with_reducible assumption) | assumption)
             obtain ⟨ad144, A144_0, c144_0, e144, hx144_0, hl144_0, hi144_0⟩ := at_L1 HR0_3.out x8_5 p144 q144
             have hw144_0 := hx144_0
             cases e144
             replace hx144_0 := (HB.out.cell (World.block_lt_of_cell? w _ hx144_0)).trans hx144_0
             have HR144_0 := Aside0.mk hi144_0
             have HC144_0 := Aside0.mk hl144_0
             clear hi144_0 hl144_0
             replace p144 := eq_true p144
             replace q144 := eq_true q144
             refine start_ (n := 32) (S := fun w' => w'.cell? ⟨gb138, 0, none⟩ = some (.int .i64 a0_0) ∧ w'.cell? ⟨gb138, 1, none⟩ = some (.int .i64 a0_1) ∧ w'.cell? ⟨gb138, 2, none⟩ = some (.slice A0_2 l0_2.length c0_2) ∧ w'.cell? ⟨gb138, 3, none⟩ = some (.slice (some ad144) l0_3.length c0_3) ∧ w'.cell? ⟨gb138, 4, none⟩ = some (.slice A0_4 l0_4.length c0_4) ∧ w'.cell? (ad144.add (x8_5).toNat) = some (.slice A144_0 (rd_L1 l0_3 x8_5).length c144_0)) (ds := []) #[false, false, false, false, false, false, false, false, false, false, false, false, false, false, false, false, false, false, false, false, false, false, false, false, false, false, false, false, false, false, false, false] (by kernel_rfl) rfl rfl ⟨(blk_cell BK138.out 0).trans rfl, (blk_cell BK138.out 1).trans rfl, (blk_cell BK138.out 2).trans rfl, (blk_cell BK138.out 3).trans rfl, (blk_cell BK138.out 4).trans rfl, ((HB.out.cell (World.block_lt_of_cell? w _ hw144_0)).trans hw144_0)⟩ (fun hHeld => ?_); refine with_tabW spec_l6expr.tab33 spec_l6expr.bits33 (fun HT_ HW_ => ?_)
             generalize wr.drew = w95 at BK138 HB HR144_0 hx144_0 hHeld ⊢
             refine todo_ [(0, 132), (1, 133), (2, 134), (3, 135), (4, 136), (6, 138), (5, 137), (7, 139), (8, 140)] ?_
             iterate 9
              (first | (refine pu_ (v := ?_) (a' := ?_) HT_ rfl rfl (by kernel_rfl) (fun _ _ _ h => h) (Or.inl ⟨by rfl, ?_⟩) ?_ ?_; rotate_left; (· intro w'; go_simp; with_reducible rfl); rotate_left) | (refine ta_ (v := ?_) (a' := ?_) HT_ HW_ rfl rfl (by kernel_rfl) (fun _ _ _ h => h) (Or.inl ⟨by rfl, ?_⟩) hHeld ?_ ?_; rotate_left; (· rintro w' ⟨s0, s1, s2, s3, s4, s5⟩; go_simp; with_reducible rfl); rotate_left))
              ·simp only [Act.put, List.setIfInBounds_toArray, List.set_cons_zero, List.set_cons_succ, i64_w, i32_w]
               rfl
             refine tend_ ?_
             refine one_ (i := 9) (N := some 141) #[true, true, true, true, true, true, true, true, true, true, false, false, false, false, false, false, false, false, false, false, false, false, false, false, false, false, false, false, false, false, false, false] rfl rfl (one_of HT_.out (by kernel_rfl)) (by decide) (fun K hK => ?_)
             refine goes_ Try.func39 (by kernel_rfl) rfl #[.slice A144_0 (rd_L1 l0_3 x8_5).length c144_0] (by rfl) rfl rfl (by (try simp only [List.map_toArray, List.map_cons, List.map_nil]); first | done | rfl | (simp only [List.length_drop, List.length_take]; rfl)) ?_
             with_reducible refine (spec_NameOk.calls k5 _ _ (rd_L1 l0_3 x8_5) false _ ?side1 ?side2 A84.out).mono ?_
             (case side1 => repeat (first | exact (Kd.C_below HR144_0.out HB.out) | (with_reducible refine Kd.C_alloc ?_ _) | (with_reducible refine Kd.C_drewN ?_ _) | (with_reducible refine Kd.C_drew ?_)))
             (case side2 => exact HC144_0.out)
             rintro e w' ⟨rfl, ⟨nd, rfl⟩⟩
             refine ⟨_, rfl, ?_⟩
             refine hK.out _ _ ⟨(blk_cell BK138.out 0).trans rfl, (blk_cell BK138.out 1).trans rfl, (blk_cell BK138.out 2).trans rfl, (blk_cell BK138.out 3).trans rfl, (blk_cell BK138.out 4).trans rfl, ((HB.out.cell (World.block_lt_of_cell? w _ hw144_0)).trans hw144_0)⟩ (fun hHeld => ?_)
             clear hK K
             refine norm_ (a' := ?_) ?_ ?_
             rotate_left
             ·show Act.put _ (some 141) _ = _
              simp only [Act.put, List.setIfInBounds_toArray, List.set_cons_zero, List.set_cons_succ, i64_w, i32_w]
              rfl
             refine todo_ [(10, 142), (11, 143), (12, 144), (13, 145), (14, 146), (15, 147), (16, 148), (17, 149), (18, 150), (19, 151), (20, 152), (21, 153), (22, 154), (23, 155), (24, 156), (25, 157), (26, 158), (27, 159), (28, 160), (29, 161), (30, 162), (31, 163)] ?_
             iterate 22
              (first | (refine pu_ (v := undef) (a' := ?_) HT_ rfl rfl (by kernel_rfl) (fun _ _ _ h => h) (Or.inr ⟨by rfl, rfl⟩) ?_ ?_; rotate_left) | (refine pu_ (v := ?_) (a' := ?_) HT_ rfl rfl (by kernel_rfl) (fun _ _ _ h => h) (Or.inl ⟨by rfl, ?_⟩) ?_ ?_; rotate_left; (· intro w'; go_simp; with_reducible rfl); rotate_left))
              ·simp only [Act.put, List.setIfInBounds_toArray, List.set_cons_zero, List.set_cons_succ, i64_w, i32_w]
               rfl
             refine tend_ ?_
             refine done_ (done_of HT_.out (by kernel_rfl)) ?_
             try go_wp2
             go_meet
             case rel => exact ⟨_, (true), (by first | rfl | (simp; done) | (simp [*]; done)), H', ⟨by have := HJ3.out; have := HJ12.out; have := HJ28.out; have := HJ45.out; have := HK5.out; first | omega | exact Nat.le_refl _⟩, ⟨by (with_reducible repeat (first | refine blk_drewN ?_ _ | refine blk_drew ?_ | refine blk_alloc ?_ _)); exact BK138.out⟩, ⟨bw⟩⟩
            as_aux_lemma =>
            subst c85
            replace H := (if_pos rfl).symm.trans H
            by_cases c86 : x8_5 > 0
            rotate_left
            ·as_aux_lemma =>
             rw [if_neg c86] at H
             have c86b0 : decide (0 < x8_5) = false := decide_eq_false c86
             clear c86
             have H' := Aside0.mk H
             clear H
             try go_wp2
             replace BK138 := Aside0.mk (blk_drew BK138.out)
             replace HB := Bw.mk (w := w) (below_drew1 HB.out)
             have p144 : 0 ≤ (x8_5 : Int) := of_decide_eq_true (by first | (with_reducible assumption) | assumption)
             have q144 : x8_5 < (l0_3.length : Int) := of_decide_eq_true (by first | (with_reducible assumption) | assumption)
             obtain ⟨ad144, A144_0, c144_0, e144, hx144_0, hl144_0, hi144_0⟩ := at_L1 HR0_3.out x8_5 p144 q144
             have hw144_0 := hx144_0
             cases e144
             replace hx144_0 := (HB.out.cell (World.block_lt_of_cell? w _ hx144_0)).trans hx144_0
             have HR144_0 := Aside0.mk hi144_0
             have HC144_0 := Aside0.mk hl144_0
             clear hi144_0 hl144_0
             replace p144 := eq_true p144
             replace q144 := eq_true q144
             refine start_ (n := 32) (S := fun w' => w'.cell? ⟨gb138, 0, none⟩ = some (.int .i64 a0_0) ∧ w'.cell? ⟨gb138, 1, none⟩ = some (.int .i64 a0_1) ∧ w'.cell? ⟨gb138, 2, none⟩ = some (.slice A0_2 l0_2.length c0_2) ∧ w'.cell? ⟨gb138, 3, none⟩ = some (.slice (some ad144) l0_3.length c0_3) ∧ w'.cell? ⟨gb138, 4, none⟩ = some (.slice A0_4 l0_4.length c0_4) ∧ w'.cell? (ad144.add (x8_5).toNat) = some (.slice A144_0 (rd_L1 l0_3 x8_5).length c144_0)) (ds := []) #[false, false, false, false, false, false, false, false, false, false, false, false, false, false, false, false, false, false, false, false, false, false, false, false, false, false, false, false, false, false, false, false] (by kernel_rfl) rfl rfl ⟨(blk_cell BK138.out 0).trans rfl, (blk_cell BK138.out 1).trans rfl, (blk_cell BK138.out 2).trans rfl, (blk_cell BK138.out 3).trans rfl, (blk_cell BK138.out 4).trans rfl, ((HB.out.cell (World.block_lt_of_cell? w _ hw144_0)).trans hw144_0)⟩ (fun hHeld => ?_); refine with_tabW spec_l6expr.tab33 spec_l6expr.bits33 (fun HT_ HW_ => ?_)
             generalize wr.drew = w94 at BK138 HB HR144_0 hx144_0 hHeld ⊢
             refine todo_ [(0, 132), (1, 133), (2, 134), (3, 135), (4, 136), (6, 138), (5, 137), (7, 139), (8, 140)] ?_
             iterate 9
              (first | (refine pu_ (v := ?_) (a' := ?_) HT_ rfl rfl (by kernel_rfl) (fun _ _ _ h => h) (Or.inl ⟨by rfl, ?_⟩) ?_ ?_; rotate_left; (· intro w'; go_simp; with_reducible rfl); rotate_left) | (refine ta_ (v := ?_) (a' := ?_) HT_ HW_ rfl rfl (by kernel_rfl) (fun _ _ _ h => h) (Or.inl ⟨by rfl, ?_⟩) hHeld ?_ ?_; rotate_left; (· rintro w' ⟨s0, s1, s2, s3, s4, s5⟩; go_simp; with_reducible rfl); rotate_left))
              ·simp only [Act.put, List.setIfInBounds_toArray, List.set_cons_zero, List.set_cons_succ, i64_w, i32_w]
               rfl
             refine tend_ ?_
             refine one_ (i := 9) (N := some 141) #[true, true, true, true, true, true, true, true, true, true, false, false, false, false, false, false, false, false, false, false, false, false, false, false, false, false, false, false, false, false, false, false] rfl rfl (one_of HT_.out (by kernel_rfl)) (by decide) (fun K hK => ?_)
             refine goes_ Try.func39 (by kernel_rfl) rfl #[.slice A144_0 (rd_L1 l0_3 x8_5).length c144_0] (by rfl) rfl rfl (by (try simp only [List.map_toArray, List.map_cons, List.map_nil]); first | done | rfl | (simp only [List.length_drop, List.length_take]; rfl)) ?_
             with_reducible refine (spec_NameOk.calls k5 _ _ (rd_L1 l0_3 x8_5) true _ ?side1 ?side2 A84.out).mono ?_
             (case side1 => repeat (first | exact (Kd.C_below HR144_0.out HB.out) | (with_reducible refine Kd.C_alloc ?_ _) | (with_reducible refine Kd.C_drewN ?_ _) | (with_reducible refine Kd.C_drew ?_)))
             (case side2 => exact HC144_0.out)
             rintro e w' ⟨rfl, ⟨nd, rfl⟩⟩
             refine ⟨_, rfl, ?_⟩
             refine hK.out _ _ ⟨(blk_cell BK138.out 0).trans rfl, (blk_cell BK138.out 1).trans rfl, (blk_cell BK138.out 2).trans rfl, (blk_cell BK138.out 3).trans rfl, (blk_cell BK138.out 4).trans rfl, ((HB.out.cell (World.block_lt_of_cell? w _ hw144_0)).trans hw144_0)⟩ (fun hHeld => ?_)
             clear hK K
             refine norm_ (a' := ?_) ?_ ?_
             rotate_left
             ·show Act.put _ (some 141) _ = _
              simp only [Act.put, List.setIfInBounds_toArray, List.set_cons_zero, List.set_cons_succ, i64_w, i32_w]
              rfl
             refine todo_ [(10, 142), (11, 143), (12, 144), (13, 145), (14, 146), (15, 147), (16, 148), (17, 149), (18, 150), (19, 151), (20, 152), (21, 153), (22, 154), (23, 155), (24, 156), (25, 157), (26, 158), (27, 159), (28, 160), (29, 161), (30, 162), (31, 163)] ?_
             iterate 22
              (first | (refine pu_ (v := undef) (a' := ?_) HT_ rfl rfl (by kernel_rfl) (fun _ _ _ h => h) (Or.inr ⟨by rfl, rfl⟩) ?_ ?_; rotate_left) | (refine pu_ (v := ?_) (a' := ?_) HT_ rfl rfl (by kernel_rfl) (fun _ _ _ h => h) (Or.inl ⟨by rfl, ?_⟩) ?_ ?_; rotate_left; (· intro w'; go_simp; with_reducible rfl); rotate_left))
              ·simp only [Act.put, List.setIfInBounds_toArray, List.set_cons_zero, List.set_cons_succ, i64_w, i32_w]
               rfl
             refine tend_ ?_
             refine done_ (done_of HT_.out (by kernel_rfl)) ?_
             try go_wp2
             go_meet
             case rel => exact ⟨_, (false), (by first | rfl | (simp; done) | (simp [*]; done)), H', ⟨by have := HJ3.out; have := HJ12.out; have := HJ28.out; have := HJ45.out; have := HK5.out; first | omega | exact Nat.le_refl _⟩, ⟨by (with_reducible repeat (first | refine blk_drewN ?_ _ | refine blk_drew ?_ | refine blk_alloc ?_ _)); exact BK138.out⟩, ⟨bw⟩⟩
            as_aux_lemma =>
            rw [if_pos c86] at H
            have c86b0 : decide (0 < x8_5) = true := decide_eq_true c86
            clear c86
            obtain ⟨ji87, hji87⟩ : ∃ j_ : Int, (wrap64 (x8_5 - 1)) = j_ := ⟨_, rfl⟩
            replace H : (if 0 ≤ (ji87) then (if (ji87) < (l0_3.length : Int) then (spec_l6expr.j6 k5 a1 x2_5 x8_5 (!(Op.bytesLess ((strOfNums (rd_L1 l0_3 (ji87))).toList) ((strOfNums (rd_L1 l0_3 x8_5)).toList))) a0_0 a0_1 l0_2 l0_3 l0_4) else (none)) else (none)) = some r := by first | (rw [hji87] at H; exact H) | (simp only [hji87] at H ⊢; exact H)
            (try rw [hji87] at A84)
            have hji87w : (IntKind.i64.wrap (x8_5 - 1)) = ji87 := (i64_w _).trans hji87
            by_cases c88 : 0 ≤ (ji87)
            rotate_left
            ·rw [if_neg c88] at H
             exact absurd H (by simp)
            as_aux_lemma =>
            rw [if_pos c88] at H
            have c88b0 : decide (0 ≤ (ji87)) = true := decide_eq_true c88
            clear c88
            by_cases c89 : (ji87) < (l0_3.length : Int)
            rotate_left
            ·rw [if_neg c89] at H
             exact absurd H (by simp)
            as_aux_lemma =>
            rw [if_pos c89] at H
            have c89b0 : decide ((ji87) < (l0_3.length : Int)) = true := decide_eq_true c89
            clear c89
            have H' := Aside0.mk H
            clear H
            try go_wp2
            replace BK138 := Aside0.mk (blk_drew BK138.out)
            replace HB := Bw.mk (w := w) (below_drew1 HB.out)
            have p144 : 0 ≤ (x8_5 : Int) := of_decide_eq_true (by first | (with_reducible assumption) | assumption)
            have q144 : x8_5 < (l0_3.length : Int) := of_decide_eq_true (by first | (with_reducible assumption) | assumption)
            obtain ⟨ad144, A144_0, c144_0, e144, hx144_0, hl144_0, hi144_0⟩ := at_L1 HR0_3.out x8_5 p144 q144
            have hw144_0 := hx144_0
            cases e144
            replace hx144_0 := (HB.out.cell (World.block_lt_of_cell? w _ hx144_0)).trans hx144_0
            have HR144_0 := Aside0.mk hi144_0
            have HC144_0 := Aside0.mk hl144_0
            clear hi144_0 hl144_0
            replace p144 := eq_true p144
            replace q144 := eq_true q144
            have p146 : 0 ≤ ((ji87) : Int) := of_decide_eq_true (by first | (with_reducible assumption) | assumption)
            have q146 : (ji87) < (l0_3.length : Int) := of_decide_eq_true (by first | (with_reducible assumption) | assumption)
            obtain ⟨ad146, A146_0, c146_0, e146, hx146_0, hl146_0, hi146_0⟩ := at_L1 HR0_3.out (ji87) p146 q146
            have hw146_0 := hx146_0
            obtain rfl : ad144 = ad146 := (by injection e146)
            replace hx146_0 := (HB.out.cell (World.block_lt_of_cell? w _ hx146_0)).trans hx146_0
            have HR146_0 := Aside0.mk hi146_0
            have HC146_0 := Aside0.mk hl146_0
            clear hi146_0 hl146_0
            replace p146 := eq_true p146
            replace q146 := eq_true q146
            have p147 : 0 ≤ (x8_5 : Int) := of_decide_eq_true (by first | (with_reducible assumption) | assumption)
            have q147 : x8_5 < (l0_3.length : Int) := of_decide_eq_true (by first | (with_reducible assumption) | assumption)
            obtain ⟨ad147, A147_0, c147_0, e147, hx147_0, hl147_0, hi147_0⟩ := at_L1 HR0_3.out x8_5 p147 q147
            have hw147_0 := hx147_0
            obtain rfl : ad144 = ad147 := (by injection e147)
            replace hx147_0 := (HB.out.cell (World.block_lt_of_cell? w _ hx147_0)).trans hx147_0
            have HR147_0 := Aside0.mk hi147_0
            have HC147_0 := Aside0.mk hl147_0
            clear hi147_0 hl147_0
            replace p147 := eq_true p147
            replace q147 := eq_true q147
            have ea_ := Option.some.inj (hx144_0.symm.trans hx147_0)
            injection ea_ with ea_ en_ ec_
            subst ea_
            subst ec_
            clear en_
            refine start_ (n := 32) (S := fun w' => w'.cell? ⟨gb138, 0, none⟩ = some (.int .i64 a0_0) ∧ w'.cell? ⟨gb138, 1, none⟩ = some (.int .i64 a0_1) ∧ w'.cell? ⟨gb138, 2, none⟩ = some (.slice A0_2 l0_2.length c0_2) ∧ w'.cell? ⟨gb138, 3, none⟩ = some (.slice (some ad144) l0_3.length c0_3) ∧ w'.cell? ⟨gb138, 4, none⟩ = some (.slice A0_4 l0_4.length c0_4) ∧ w'.cell? (ad144.add (x8_5).toNat) = some (.slice A144_0 (rd_L1 l0_3 x8_5).length c144_0) ∧ w'.cell? (ad144.add ((ji87)).toNat) = some (.slice A146_0 (rd_L1 l0_3 (ji87)).length c146_0) ∧ w'.cell? (ad144.add (x8_5).toNat) = some (.slice A144_0 (rd_L1 l0_3 x8_5).length c144_0) ∧ (convert 22 9 (.slice A146_0 (rd_L1 l0_3 (ji87)).length c146_0)).run Try.prog w' = .ok (.string (strOfNums (rd_L1 l0_3 (ji87)))) w' ∧ (convert 22 9 (.slice A144_0 (rd_L1 l0_3 x8_5).length c144_0)).run Try.prog w' = .ok (.string (strOfNums (rd_L1 l0_3 x8_5))) w') (ds := []) #[false, false, false, false, false, false, false, false, false, false, false, false, false, false, false, false, false, false, false, false, false, false, false, false, false, false, false, false, false, false, false, false] (by kernel_rfl) rfl rfl ⟨(blk_cell BK138.out 0).trans rfl, (blk_cell BK138.out 1).trans rfl, (blk_cell BK138.out 2).trans rfl, (blk_cell BK138.out 3).trans rfl, (blk_cell BK138.out 4).trans rfl, ((HB.out.cell (World.block_lt_of_cell? w _ hw144_0)).trans hw144_0), ((HB.out.cell (World.block_lt_of_cell? w _ hw146_0)).trans hw146_0), ((HB.out.cell (World.block_lt_of_cell? w _ hw147_0)).trans hw147_0), (Kd.C_string (P := Try.prog) (A := A146_0) (c := c146_0) Try.underlying22 Try.underlying5 Try.underlying9 (by first | exact Kd.C_below HR146_0.out HB.out | exact Kd.C_below HR146_0.out (pw_below_drewN HB.out _))), (Kd.C_string (P := Try.prog) (A := A144_0) (c := c144_0) Try.underlying22 Try.underlying5 Try.underlying9 (by first | exact Kd.C_below HR147_0.out HB.out | exact Kd.C_below HR147_0.out (pw_below_drewN HB.out _)))⟩ (fun hHeld => ?_); refine with_tabW spec_l6expr.tab33 spec_l6expr.bits33 (fun HT_ HW_ => ?_)
            generalize wr.drew = w90 at BK138 HB HR144_0 HR146_0 HR147_0 hx144_0 hx146_0 hx147_0 hHeld ⊢
            refine todo_ [(0, 132), (1, 133), (2, 134), (3, 135), (4, 136), (6, 138), (5, 137), (7, 139), (8, 140)] ?_
            iterate 9
             (first | (refine pu_ (v := ?_) (a' := ?_) HT_ rfl rfl (by kernel_rfl) (fun _ _ _ h => h) (Or.inl ⟨by rfl, ?_⟩) ?_ ?_; rotate_left; (· intro w'; go_simp; with_reducible rfl); rotate_left) | (refine ta_ (v := ?_) (a' := ?_) HT_ HW_ rfl rfl (by kernel_rfl) (fun _ _ _ h => h) (Or.inl ⟨by rfl, ?_⟩) hHeld ?_ ?_; rotate_left; (· rintro w' ⟨s0, s1, s2, s3, s4, s5, s6, s7, s8, s9⟩; go_simp; with_reducible rfl); rotate_left))
             ·simp only [Act.put, List.setIfInBounds_toArray, List.set_cons_zero, List.set_cons_succ, i64_w, i32_w]
              rfl
            refine tend_ ?_
            refine one_ (i := 9) (N := some 141) #[true, true, true, true, true, true, true, true, true, true, false, false, false, false, false, false, false, false, false, false, false, false, false, false, false, false, false, false, false, false, false, false] rfl rfl (one_of HT_.out (by kernel_rfl)) (by decide) (fun K hK => ?_)
            refine goes_ Try.func39 (by kernel_rfl) rfl #[.slice A144_0 (rd_L1 l0_3 x8_5).length c144_0] (by rfl) rfl rfl (by (try simp only [List.map_toArray, List.map_cons, List.map_nil]); first | done | rfl | (simp only [List.length_drop, List.length_take]; rfl)) ?_
            with_reducible refine (spec_NameOk.calls k5 _ _ (rd_L1 l0_3 x8_5) true _ ?side1 ?side2 A84.out).mono ?_
            (case side1 => repeat (first | exact (Kd.C_below HR144_0.out HB.out) | (with_reducible refine Kd.C_alloc ?_ _) | (with_reducible refine Kd.C_drewN ?_ _) | (with_reducible refine Kd.C_drew ?_)))
            (case side2 => exact HC144_0.out)
            rintro e w' ⟨rfl, ⟨nd, rfl⟩⟩
            refine ⟨_, rfl, ?_⟩
            have hcv91d := fun (a_ : Nat) => Kd.C_string (P := Try.prog) (A := A146_0) (c := c146_0) Try.underlying22 Try.underlying5 Try.underlying9 (Kd.C_drewN (Kd.C_below HR146_0.out HB.out) a_)
            have hcv91 := Kd.C_string (P := Try.prog) (A := A146_0) (c := c146_0) Try.underlying22 Try.underlying5 Try.underlying9 (Kd.C_below HR146_0.out HB.out)
            have hcv92d := fun (a_ : Nat) => Kd.C_string (P := Try.prog) (A := A144_0) (c := c144_0) Try.underlying22 Try.underlying5 Try.underlying9 (Kd.C_drewN (Kd.C_below HR147_0.out HB.out) a_)
            have hcv92 := Kd.C_string (P := Try.prog) (A := A144_0) (c := c144_0) Try.underlying22 Try.underlying5 Try.underlying9 (Kd.C_below HR147_0.out HB.out)
            refine hK.out _ _ ⟨(blk_cell BK138.out 0).trans rfl, (blk_cell BK138.out 1).trans rfl, (blk_cell BK138.out 2).trans rfl, (blk_cell BK138.out 3).trans rfl, (blk_cell BK138.out 4).trans rfl, ((HB.out.cell (World.block_lt_of_cell? w _ hw144_0)).trans hw144_0), ((HB.out.cell (World.block_lt_of_cell? w _ hw146_0)).trans hw146_0), ((HB.out.cell (World.block_lt_of_cell? w _ hw147_0)).trans hw147_0), (Kd.C_string (P := Try.prog) (A := A146_0) (c := c146_0) Try.underlying22 Try.underlying5 Try.underlying9 (by first | exact Kd.C_below HR146_0.out HB.out | exact Kd.C_below HR146_0.out (pw_below_drewN HB.out _))), (Kd.C_string (P := Try.prog) (A := A144_0) (c := c144_0) Try.underlying22 Try.underlying5 Try.underlying9 (by first | exact Kd.C_below HR147_0.out HB.out | exact Kd.C_below HR147_0.out (pw_below_drewN HB.out _)))⟩ (fun hHeld => ?_)
            clear hK K
            refine norm_ (a' := ?_) ?_ ?_
            rotate_left
            ·show Act.put _ (some 141) _ = _
             simp only [Act.put, List.setIfInBounds_toArray, List.set_cons_zero, List.set_cons_succ, i64_w, i32_w]
             rfl
            refine todo_ [(10, 142), (11, 143), (12, 144), (13, 145), (14, 146), (15, 147), (17, 149), (18, 150), (22, 154), (24, 156), (16, 148), (19, 151), (20, 152), (21, 153), (23, 155), (25, 157), (26, 158), (27, 159), (28, 160), (29, 161), (30, 162), (31, 163)] ?_
            iterate 22
             (first | (refine pu_ (v := ?_) (a' := ?_) HT_ rfl rfl (by kernel_rfl) (fun _ _ _ h => h) (Or.inl ⟨by rfl, ?_⟩) ?_ ?_; rotate_left; (· intro w'; go_simp; with_reducible rfl); rotate_left) | (refine ta_ (v := ?_) (a' := ?_) HT_ HW_ rfl rfl (by kernel_rfl) (fun _ _ _ h => h) (Or.inl ⟨by rfl, ?_⟩) hHeld ?_ ?_; rotate_left; (· rintro w' ⟨s0, s1, s2, s3, s4, s5, s6, s7, s8, s9⟩; go_simp; with_reducible rfl); rotate_left))
             ·simp only [Act.put, List.setIfInBounds_toArray, List.set_cons_zero, List.set_cons_succ, i64_w, i32_w]
              rfl
            refine tend_ ?_
            refine done_ (done_of HT_.out (by kernel_rfl)) ?_
            try go_wp2
            go_meet
            case rel => exact ⟨_, (!(Op.bytesLess ((strOfNums (rd_L1 l0_3 (ji87))).toList) ((strOfNums (rd_L1 l0_3 x8_5)).toList))), (by first | rfl | (simp; done) | (simp only [← hji87] <;> (first | rfl | simp)) | (simp [*]; done)), H', ⟨by have := HJ3.out; have := HJ12.out; have := HJ28.out; have := HJ45.out; have := HK5.out; first | omega | exact Nat.le_refl _⟩, ⟨by (with_reducible repeat (first | refine blk_drewN ?_ _ | refine blk_drew ?_ | refine blk_alloc ?_ _)); exact BK138.out⟩, ⟨bw⟩⟩
           case rest =>
            clear HC79
            try clear c8
            try clear c81
            try clear c81b0
            try clear c81b1
            try clear c82
            try clear c83
            try clear c85
            try clear hx144_0
            try clear p144
            try clear q144
            obtain ⟨kq, x163_78, rfl, HA, HJ78, BK138, HB⟩ := hcut
            cases kq with
            | zero => exact absurd HA.out (by simp [spec_l6expr.j6])
            | succ kj78 =>
             have H := HA.out
             clear HA
             simp only [spec_l6expr.j6] at H
             by_cases c97 : x163_78 = true
             ·subst c97
              replace H := (if_pos rfl).symm.trans H
              obtain rfl := Option.some.inj H
              go_wp2
              go_ret
              exact ⟨by first | rfl | (simp [errW_none, errW_some] <;> rfl) | (simp [*, errW_none, errW_some] <;> rfl), bw⟩
             replace c97 := Bool.eq_false_iff.mpr c97
             subst c97
             replace H := (if_neg (show ¬ (false = true) by decide)).symm.trans H
             by_cases c98 : 0 ≤ x8_5
             rotate_left
             ·rw [if_neg c98] at H
              exact absurd H (by simp)
             rw [if_pos c98] at H
             have c98b0 : decide (0 ≤ x8_5) = true := decide_eq_true c98
             clear c98
             by_cases c99 : x8_5 < (l0_4.length : Int)
             rotate_left
             ·rw [if_neg c99] at H
              exact absurd H (by simp)
             rw [if_pos c99] at H
             have c99b0 : decide (x8_5 < (l0_4.length : Int)) = true := decide_eq_true c99
             clear c99
             replace H := Option.bind_eq_some_iff.mp H
             obtain ⟨t149, A1000, H⟩ := H
             have A100 := Aside0.mk A1000
             clear A1000
             by_cases c101 : t149 < 0
             ·rw [if_pos c101] at H
              have c101b0 : decide (t149 < 0) = true := decide_eq_true c101
              clear c101
              obtain rfl := Option.some.inj H
              obtain ⟨hcz102_0, hcz102_1, hcz102_2, hcz102_3, hcz102_4, hfz102_0, hfz102_1, hfz102_2, hfz102_3, hfz102_4⟩ := blk5 BK138.out
              have p148 : 0 ≤ (x8_5 : Int) := of_decide_eq_true (by first | (with_reducible assumption) | assumption)
              have q148 : x8_5 < (l0_4.length : Int) := of_decide_eq_true (by first | (with_reducible assumption) | assumption)
              obtain ⟨ad148, A148_2, c148_2, A148_3, c148_3, A148_4, c148_4, e148, hx148_0, hx148_1, hx148_2, hx148_3, hx148_4, hl148_2, hi148_2, hl148_3, hi148_3, hl148_4, hi148_4⟩ := at_T31 HR0_4.out x8_5 p148 q148
              cases e148
              replace hx148_0 := (HB.out.cell (World.block_lt_of_cell? w _ hx148_0)).trans hx148_0
              replace hx148_1 := (HB.out.cell (World.block_lt_of_cell? w _ hx148_1)).trans hx148_1
              replace hx148_2 := (HB.out.cell (World.block_lt_of_cell? w _ hx148_2)).trans hx148_2
              replace hx148_3 := (HB.out.cell (World.block_lt_of_cell? w _ hx148_3)).trans hx148_3
              replace hx148_4 := (HB.out.cell (World.block_lt_of_cell? w _ hx148_4)).trans hx148_4
              have HR148_2 := Aside0.mk hi148_2
              have HC148_2 := Aside0.mk hl148_2
              clear hi148_2 hl148_2
              have HR148_3 := Aside0.mk hi148_3
              have HC148_3 := Aside0.mk hl148_3
              clear hi148_3 hl148_3
              have HR148_4 := Aside0.mk hi148_4
              have HC148_4 := Aside0.mk hl148_4
              clear hi148_4 hl148_4
              replace p148 := eq_true p148
              replace q148 := eq_true q148
              go_wp2_with (first | ((with_reducible refine gg (f := 66) (some 172) rfl rfl rfl fr66 ?_); refine onc (ih kj78 (by have := HJ3.out; have := HJ12.out; have := HJ28.out; have := HJ45.out; have := HK5.out; have := HJ78.out; omega) ((rd_T31 l0_4 x8_5).f0) ((rd_T31 l0_4 x8_5).f1) _ _ ((rd_T31 l0_4 x8_5).f2) _ _ ((rd_T31 l0_4 x8_5).f3) _ _ ((rd_T31 l0_4 x8_5).f4) (wrap64 (a1 + 1)) x2_5 t149 _ (cb HR148_2) HC148_2.out (cb HR148_3) HC148_3.out (cb HR148_4) HC148_4.out A100.out) rfl ?_; rintro e w103 ⟨rfl, hb⟩; refine ⟨_, rfl, ?_⟩; replace BK138 := Aside0.mk (blk_below (g := gb138) (o := .cells #[.int .i64 a0_0, .int .i64 a0_1, .slice A0_2 l0_2.length c0_2, .slice A0_3 l0_3.length c0_3, .slice (some ad148) l0_4.length c0_4] 31 (0, 0)) (by (with_reducible repeat (first | refine blk_drewN ?_ _ | refine blk_drew ?_ | refine blk_alloc ?_ _)); exact BK138.out) hb); replace HB := (Bw.sw w hb); (try clear hb)))
              go_ret
              exact ⟨by first | rfl | (simp [errW_none, errW_some] <;> rfl) | (simp [*, errW_none, errW_some] <;> rfl), bw⟩
             rw [if_neg c101] at H
             have c101b0 : decide (t149 < 0) = false := decide_eq_false c101
             clear c101
             have H' := Aside0.mk H
             clear H
             obtain ⟨hcz104_0, hcz104_1, hcz104_2, hcz104_3, hcz104_4, hfz104_0, hfz104_1, hfz104_2, hfz104_3, hfz104_4⟩ := blk5 BK138.out
             have p148 : 0 ≤ (x8_5 : Int) := of_decide_eq_true (by first | (with_reducible assumption) | assumption)
             have q148 : x8_5 < (l0_4.length : Int) := of_decide_eq_true (by first | (with_reducible assumption) | assumption)
             obtain ⟨ad148, A148_2, c148_2, A148_3, c148_3, A148_4, c148_4, e148, hx148_0, hx148_1, hx148_2, hx148_3, hx148_4, hl148_2, hi148_2, hl148_3, hi148_3, hl148_4, hi148_4⟩ := at_T31 HR0_4.out x8_5 p148 q148
             cases e148
             replace hx148_0 := (HB.out.cell (World.block_lt_of_cell? w _ hx148_0)).trans hx148_0
             replace hx148_1 := (HB.out.cell (World.block_lt_of_cell? w _ hx148_1)).trans hx148_1
             replace hx148_2 := (HB.out.cell (World.block_lt_of_cell? w _ hx148_2)).trans hx148_2
             replace hx148_3 := (HB.out.cell (World.block_lt_of_cell? w _ hx148_3)).trans hx148_3
             replace hx148_4 := (HB.out.cell (World.block_lt_of_cell? w _ hx148_4)).trans hx148_4
             have HR148_2 := Aside0.mk hi148_2
             have HC148_2 := Aside0.mk hl148_2
             clear hi148_2 hl148_2
             have HR148_3 := Aside0.mk hi148_3
             have HC148_3 := Aside0.mk hl148_3
             clear hi148_3 hl148_3
             have HR148_4 := Aside0.mk hi148_4
             have HC148_4 := Aside0.mk hl148_4
             clear hi148_4 hl148_4
             replace p148 := eq_true p148
             replace q148 := eq_true q148
             go_wp2_with (first | ((with_reducible refine gg (f := 66) (some 172) rfl rfl rfl fr66 ?_); refine onc (ih kj78 (by have := HJ3.out; have := HJ12.out; have := HJ28.out; have := HJ45.out; have := HK5.out; have := HJ78.out; omega) ((rd_T31 l0_4 x8_5).f0) ((rd_T31 l0_4 x8_5).f1) _ _ ((rd_T31 l0_4 x8_5).f2) _ _ ((rd_T31 l0_4 x8_5).f3) _ _ ((rd_T31 l0_4 x8_5).f4) (wrap64 (a1 + 1)) x2_5 t149 _ (cb HR148_2) HC148_2.out (cb HR148_3) HC148_3.out (cb HR148_4) HC148_4.out A100.out) rfl ?_; rintro e w105 ⟨rfl, hb⟩; refine ⟨_, rfl, ?_⟩; replace BK138 := Aside0.mk (blk_below (g := gb138) (o := .cells #[.int .i64 a0_0, .int .i64 a0_1, .slice A0_2 l0_2.length c0_2, .slice A0_3 l0_3.length c0_3, .slice (some ad148) l0_4.length c0_4] 31 (0, 0)) (by (with_reducible repeat (first | refine blk_drewN ?_ _ | refine blk_drew ?_ | refine blk_alloc ?_ _)); exact BK138.out) hb); replace HB := (Bw.sw w hb); (try clear hb)))
             go_roundg kj78
             case measure => have := HJ3.out; have := HJ12.out; have := HJ28.out; have := HJ45.out; have := HK5.out; have := HJ78.out; omega
             case rel => exact ⟨(t149), (wrap64 (x8_5 + 1)), (by first | rfl | (simp; done) | (simp [*]; done)), (by first | rfl | (simp; done) | (simp [*]; done)), H', ⟨by have := HJ3.out; have := HJ12.out; have := HJ28.out; have := HJ45.out; have := HK5.out; have := HJ78.out; omega⟩, ⟨by (with_reducible repeat (first | refine blk_drewN ?_ _ | refine blk_drew ?_ | refine blk_alloc ?_ _)); exact BK138.out⟩, ⟨bw⟩⟩

end Go.Proofs.Ytockllljeeakaaa.PFnExactConfigOk
