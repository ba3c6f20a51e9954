/- What the law reaches: each function as a plain Lean function, and that each call comes to it. No condition. -/
import Derived.Test.YtockllljeeakaaaPFnExactConfigOkx0
import Derived.Test.YtockllljeeakaaaPFnExactConfigOkx6
namespace Go.Proofs.Ytockllljeeakaaa.PFnExactConfigOk
open Go.RowKit Go.Proofs.YtockllljeeakaaaW.PrintWords Go.Proofs.YtockllljeeakaaaW.PrintLast Go.Proofs.YtockllljeeakaaaW.PrintMore Go.Proofs.Ytockllljeeakaaa.M
attribute [local go_sem] max2_int min2_int max_two min_two max_three min_three max_four min_four Go.Proofs.Ytockllljeeakaaa.M.str_gtr Go.Proofs.Ytockllljeeakaaa.M.str_leq Go.Proofs.Ytockllljeeakaaa.M.str_geq   -- for this text's walks alone
set_option linter.unusedVariables false
set_option linter.unusedSimpArgs false

/-! ### spec_ConfigOk: function 31 -/
mutual
def spec_ConfigOk.l0 : Nat → List (S94) → Int → Int → Option (Bool)
 | 0, _, _, _ => none
 | k + 1, x0, x3, x4 => if x4 < (x0.length : Int) then (if 0 ≤ x4 then ((spec_l6item.f k ((rd_T94 x0 x4).f0) ((rd_T94 x0 x4).f1) ((rd_T94 x0 x4).f2) ((rd_T94 x0 x4).f3.f0) ((rd_T94 x0 x4).f3.f1) ((rd_T94 x0 x4).f3.f2) ((rd_T94 x0 x4).f3.f3) ((rd_T94 x0 x4).f3.f4) ((rd_T94 x0 x4).f4) ((rd_T94 x0 x4).f5) x3).bind fun t167 => (if t167 < 0 then (some false) else (spec_ConfigOk.l1 k x0 t167 x4 0))) else (none)) else (some true)
def spec_ConfigOk.l1 : Nat → List (S94) → Int → Int → Int → Option (Bool)
 | 0, _, _, _, _ => none
 | k + 1, x0, x3, x4, x5 => if x5 < x4 then (if 0 ≤ x5 then (if x5 < (x0.length : Int) then (if 0 ≤ x4 then (if x4 < (x0.length : Int) then (if ((rd_T94 x0 x5).f0) = ((rd_T94 x0 x4).f0) then (if (strOfNums ((rd_T94 x0 x5).f1)).toList = (strOfNums ((rd_T94 x0 x4).f1)).toList then (some false) else (spec_ConfigOk.l1 k x0 x3 x4 (wrap64 (x5 + 1)))) else (spec_ConfigOk.l1 k x0 x3 x4 (wrap64 (x5 + 1)))) else (none)) else (none)) else (none)) else (none)) else (spec_ConfigOk.l0 k x0 x3 (wrap64 (x4 + 1)))
end
def spec_ConfigOk.f (k : Nat) (l0 : List (S94)) : Option (Bool) := if (l0.length : Int) > 12 then (some false) else (spec_ConfigOk.l0 k l0 150 0)
set_option maxHeartbeats 8000000 in
set_option maxRecDepth 100000 in
theorem spec_ConfigOk.calls (k : Nat) (A0 : Option Addr) (c0 : Nat) (l0 : List (S94)) (r : Bool) (w : World) (hr0 : Kd.C k94 w A0 l0.length l0) (hc0 : l0.length ≤ c0) (h : spec_ConfigOk.f k l0 = some r) :
  Calls Try.prog 31 #[.slice A0 l0.length c0] w fun e w' => e = .returned (.bool r) ∧ Below w.heap.size w w' := by
 have hu94 := Try.underlying94
 have HR0 := Aside0.mk hr0
 have HC0 := Aside0.mk hc0
 clear hr0 hc0
 have HB := Bw.refl w
 have H : (if (l0.length : Int) > 12 then (some false) else (spec_ConfigOk.l0 k l0 150 0)) = some r := h
 clear h
 by_cases c2 : (l0.length : Int) > 12
 ·rw [if_pos c2] at H
  have c2b0 : decide (12 < (l0.length : Int)) = true := decide_eq_true c2
  have c2b1 : decide (12 < l0.length) = true := decide_eq_true (by omega)
  clear c2
  obtain rfl := Option.some.inj H
  go_enter Try.func31, Try.ntmps31
  go_wp2
  repeat (go_quiet (fail); try go_wp2)
  go_ret
  exact ⟨by first | rfl | (simp [errW_none, errW_some] <;> rfl) | (simp [*, errW_none, errW_some] <;> rfl), bw⟩
 as_aux_lemma =>
 rw [if_neg c2] at H
 have c2b0 : decide (12 < (l0.length : Int)) = false := decide_eq_false c2
 have c2b1 : decide (12 < l0.length) = false := decide_eq_false (by omega)
 clear c2
 have H' := Aside0.mk H
 clear H
 go_enter Try.func31, Try.ntmps31
 go_wp2
 repeat (go_quiet (fail); try go_wp2)
 go_loopg [3, 4] k (fun kq v3 v4 w' => ∃ (x3_1 : Int) (x4_1 : Int), v3 = .int .i64 x3_1 ∧ v4 = .int .i64 x4_1 ∧ Aside0 (spec_ConfigOk.l0 kq l0 x3_1 x4_1 = some r) ∧ Aside0 (kq ≤ k) ∧ Bw w w')
 case atStart => exact ⟨(150), (0), (by first | rfl | (simp; done) | (simp [*]; done)), (by first | rfl | (simp; done) | (simp [*]; done)), H', ⟨Nat.le_refl _⟩, ⟨bw⟩⟩
 case round =>
  as_aux_lemma =>
  clear H'
  try clear c2
  try clear c2b0
  try clear c2b1
  obtain ⟨x3_1, x4_1, rfl, rfl, HA, HK1, HB⟩ := hrel
  cases gk with
  | zero => exact absurd HA.out (by simp [spec_ConfigOk.l0])
  | succ k1 =>
   have H := HA.out
   clear HA
   simp only [spec_ConfigOk.l0] at H
   by_cases c3 : x4_1 < (l0.length : Int)
   rotate_left
   ·rw [if_neg c3] at H
    have c3b0 : decide (x4_1 < (l0.length : Int)) = false := decide_eq_false c3
    clear c3
    obtain rfl := Option.some.inj H
    go_wp2
    repeat (go_quiet (fail); try go_wp2)
    go_ret
    exact ⟨by first | rfl | (simp [errW_none, errW_some] <;> rfl) | (simp [*, errW_none, errW_some] <;> rfl), bw⟩
   as_aux_lemma =>
   rw [if_pos c3] at H
   have c3b0 : decide (x4_1 < (l0.length : Int)) = true := decide_eq_true c3
   clear c3
   by_cases c4 : 0 ≤ x4_1
   rotate_left
   ·rw [if_neg c4] at H
    exact absurd H (by simp)
   as_aux_lemma =>
   rw [if_pos c4] at H
   have c4b0 : decide (0 ≤ x4_1) = true := decide_eq_true c4
   clear c4
   replace H := Option.bind_eq_some_iff.mp H
   obtain ⟨t167, A50, H⟩ := H
   have A5 := Aside0.mk A50
   clear A50
   by_cases c6 : t167 < 0
   ·rw [if_pos c6] at H
    have c6b0 : decide (t167 < 0) = true := decide_eq_true c6
    clear c6
    obtain rfl := Option.some.inj H
    have p166 : 0 ≤ (x4_1 : Int) := of_decide_eq_true (by first | (with_reducible assumption) | assumption)
    have q166 : x4_1 < (l0.length : Int) := of_decide_eq_true (by first | (with_reducible assumption) | assumption)
    obtain ⟨ad166, A166_1, c166_1, A166_5, c166_5, A166_6, c166_6, A166_7, c166_7, A166_8, c166_8, A166_9, c166_9, e166, hx166_0, hx166_1, hx166_2, hx166_3, hx166_4, hx166_5, hx166_6, hx166_7, hx166_8, hx166_9, hl166_1, hi166_1, hl166_5, hi166_5, hl166_6, hi166_6, hl166_7, hi166_7, hl166_8, hi166_8, hl166_9, hi166_9⟩ := at_T94 HR0.out x4_1 p166 q166
    cases e166
    replace hx166_0 := (HB.out.cell (World.block_lt_of_cell? w _ hx166_0)).trans hx166_0
    replace hx166_1 := (HB.out.cell (World.block_lt_of_cell? w _ hx166_1)).trans hx166_1
    replace hx166_2 := (HB.out.cell (World.block_lt_of_cell? w _ hx166_2)).trans hx166_2
    replace hx166_3 := (HB.out.cell (World.block_lt_of_cell? w _ hx166_3)).trans hx166_3
    replace hx166_4 := (HB.out.cell (World.block_lt_of_cell? w _ hx166_4)).trans hx166_4
    replace hx166_5 := (HB.out.cell (World.block_lt_of_cell? w _ hx166_5)).trans hx166_5
    replace hx166_6 := (HB.out.cell (World.block_lt_of_cell? w _ hx166_6)).trans hx166_6
    replace hx166_7 := (HB.out.cell (World.block_lt_of_cell? w _ hx166_7)).trans hx166_7
    replace hx166_8 := (HB.out.cell (World.block_lt_of_cell? w _ hx166_8)).trans hx166_8
    replace hx166_9 := (HB.out.cell (World.block_lt_of_cell? w _ hx166_9)).trans hx166_9
    have HR166_1 := Aside0.mk hi166_1
    have HC166_1 := Aside0.mk hl166_1
    clear hi166_1 hl166_1
    have HR166_5 := Aside0.mk hi166_5
    have HC166_5 := Aside0.mk hl166_5
    clear hi166_5 hl166_5
    have HR166_6 := Aside0.mk hi166_6
    have HC166_6 := Aside0.mk hl166_6
    clear hi166_6 hl166_6
    have HR166_7 := Aside0.mk hi166_7
    have HC166_7 := Aside0.mk hl166_7
    clear hi166_7 hl166_7
    have HR166_8 := Aside0.mk hi166_8
    have HC166_8 := Aside0.mk hl166_8
    clear hi166_8 hl166_8
    have HR166_9 := Aside0.mk hi166_9
    have HC166_9 := Aside0.mk hl166_9
    clear hi166_9 hl166_9
    replace p166 := eq_true p166
    replace q166 := eq_true q166
    go_wp2_with (first | (go_at_call 68; (with_reducible refine (spec_l6item.calls k1 ((rd_T94 l0 x4_1).f0) _ _ ((rd_T94 l0 x4_1).f1) ((rd_T94 l0 x4_1).f2) ((rd_T94 l0 x4_1).f3.f0) ((rd_T94 l0 x4_1).f3.f1) _ _ ((rd_T94 l0 x4_1).f3.f2) _ _ ((rd_T94 l0 x4_1).f3.f3) _ _ ((rd_T94 l0 x4_1).f3.f4) _ _ ((rd_T94 l0 x4_1).f4) _ _ ((rd_T94 l0 x4_1).f5) x3_1 t167 _ ?side1 ?side2 ?side3 ?side4 ?side5 ?side6 ?side7 ?side8 ?side9 ?side10 ?side11 ?side12 A5.out).mono ?_); (case side1 => repeat (first | exact (Kd.C_below HR166_1.out HB.out) | (with_reducible refine Kd.C_alloc ?_ _) | (with_reducible refine Kd.C_drewN ?_ _) | (with_reducible refine Kd.C_drew ?_))); (case side2 => exact HC166_1.out); (case side3 => repeat (first | exact (Kd.C_below HR166_5.out HB.out) | (with_reducible refine Kd.C_alloc ?_ _) | (with_reducible refine Kd.C_drewN ?_ _) | (with_reducible refine Kd.C_drew ?_))); (case side4 => exact HC166_5.out); (case side5 => repeat (first | exact (Kd.C_below HR166_6.out HB.out) | (with_reducible refine Kd.C_alloc ?_ _) | (with_reducible refine Kd.C_drewN ?_ _) | (with_reducible refine Kd.C_drew ?_))); (case side6 => exact HC166_6.out); (case side7 => repeat (first | exact (Kd.C_below HR166_7.out HB.out) | (with_reducible refine Kd.C_alloc ?_ _) | (with_reducible refine Kd.C_drewN ?_ _) | (with_reducible refine Kd.C_drew ?_))); (case side8 => exact HC166_7.out); (case side9 => repeat (first | exact (Kd.C_below HR166_8.out HB.out) | (with_reducible refine Kd.C_alloc ?_ _) | (with_reducible refine Kd.C_drewN ?_ _) | (with_reducible refine Kd.C_drew ?_))); (case side10 => exact HC166_8.out); (case side11 => repeat (first | exact (Kd.C_below HR166_9.out HB.out) | (with_reducible refine Kd.C_alloc ?_ _) | (with_reducible refine Kd.C_drewN ?_ _) | (with_reducible refine Kd.C_drew ?_))); (case side12 => exact HC166_9.out); rintro e w7 ⟨rfl, hb⟩; replace HB := (Bw.sw w hb); (try clear hb)))
    repeat (go_quiet (first | (go_at_call 68; (with_reducible refine (spec_l6item.calls k1 ((rd_T94 l0 x4_1).f0) _ _ ((rd_T94 l0 x4_1).f1) ((rd_T94 l0 x4_1).f2) ((rd_T94 l0 x4_1).f3.f0) ((rd_T94 l0 x4_1).f3.f1) _ _ ((rd_T94 l0 x4_1).f3.f2) _ _ ((rd_T94 l0 x4_1).f3.f3) _ _ ((rd_T94 l0 x4_1).f3.f4) _ _ ((rd_T94 l0 x4_1).f4) _ _ ((rd_T94 l0 x4_1).f5) x3_1 t167 _ ?side1 ?side2 ?side3 ?side4 ?side5 ?side6 ?side7 ?side8 ?side9 ?side10 ?side11 ?side12 A5.out).mono ?_); (case side1 => repeat (first | exact (Kd.C_below HR166_1.out HB.out) | (with_reducible refine Kd.C_alloc ?_ _) | (with_reducible refine Kd.C_drewN ?_ _) | (with_reducible refine Kd.C_drew ?_))); (case side2 => exact HC166_1.out); (case side3 => repeat (first | exact (Kd.C_below HR166_5.out HB.out) | (with_reducible refine Kd.C_alloc ?_ _) | (with_reducible refine Kd.C_drewN ?_ _) | (with_reducible refine Kd.C_drew ?_))); (case side4 => exact HC166_5.out); (case side5 => repeat (first | exact (Kd.C_below HR166_6.out HB.out) | (with_reducible refine Kd.C_alloc ?_ _) | (with_reducible refine Kd.C_drewN ?_ _) | (with_reducible refine Kd.C_drew ?_))); (case side6 => exact HC166_6.out); (case side7 => repeat (first | exact (Kd.C_below HR166_7.out HB.out) | (with_reducible refine Kd.C_alloc ?_ _) | (with_reducible refine Kd.C_drewN ?_ _) | (with_reducible refine Kd.C_drew ?_))); (case side8 => exact HC166_7.out); (case side9 => repeat (first | exact (Kd.C_below HR166_8.out HB.out) | (with_reducible refine Kd.C_alloc ?_ _) | (with_reducible refine Kd.C_drewN ?_ _) | (with_reducible refine Kd.C_drew ?_))); (case side10 => exact HC166_8.out); (case side11 => repeat (first | exact (Kd.C_below HR166_9.out HB.out) | (with_reducible refine Kd.C_alloc ?_ _) | (with_reducible refine Kd.C_drewN ?_ _) | (with_reducible refine Kd.C_drew ?_))); (case side12 => exact HC166_9.out); rintro e w7 ⟨rfl, hb⟩; replace HB := (Bw.sw w hb); (try clear hb))); try go_wp2_with (first | (go_at_call 68; (with_reducible refine (spec_l6item.calls k1 ((rd_T94 l0 x4_1).f0) _ _ ((rd_T94 l0 x4_1).f1) ((rd_T94 l0 x4_1).f2) ((rd_T94 l0 x4_1).f3.f0) ((rd_T94 l0 x4_1).f3.f1) _ _ ((rd_T94 l0 x4_1).f3.f2) _ _ ((rd_T94 l0 x4_1).f3.f3) _ _ ((rd_T94 l0 x4_1).f3.f4) _ _ ((rd_T94 l0 x4_1).f4) _ _ ((rd_T94 l0 x4_1).f5) x3_1 t167 _ ?side1 ?side2 ?side3 ?side4 ?side5 ?side6 ?side7 ?side8 ?side9 ?side10 ?side11 ?side12 A5.out).mono ?_); (case side1 => repeat (first | exact (Kd.C_below HR166_1.out HB.out) | (with_reducible refine Kd.C_alloc ?_ _) | (with_reducible refine Kd.C_drewN ?_ _) | (with_reducible refine Kd.C_drew ?_))); (case side2 => exact HC166_1.out); (case side3 => repeat (first | exact (Kd.C_below HR166_5.out HB.out) | (with_reducible refine Kd.C_alloc ?_ _) | (with_reducible refine Kd.C_drewN ?_ _) | (with_reducible refine Kd.C_drew ?_))); (case side4 => exact HC166_5.out); (case side5 => repeat (first | exact (Kd.C_below HR166_6.out HB.out) | (with_reducible refine Kd.C_alloc ?_ _) | (with_reducible refine Kd.C_drewN ?_ _) | (with_reducible refine Kd.C_drew ?_))); (case side6 => exact HC166_6.out); (case side7 => repeat (first | exact (Kd.C_below HR166_7.out HB.out) | (with_reducible refine Kd.C_alloc ?_ _) | (with_reducible refine Kd.C_drewN ?_ _) | (with_reducible refine Kd.C_drew ?_))); (case side8 => exact HC166_7.out); (case side9 => repeat (first | exact (Kd.C_below HR166_8.out HB.out) | (with_reducible refine Kd.C_alloc ?_ _) | (with_reducible refine Kd.C_drewN ?_ _) | (with_reducible refine Kd.C_drew ?_))); (case side10 => exact HC166_8.out); (case side11 => repeat (first | exact (Kd.C_below HR166_9.out HB.out) | (with_reducible refine Kd.C_alloc ?_ _) | (with_reducible refine Kd.C_drewN ?_ _) | (with_reducible refine Kd.C_drew ?_))); (case side12 => exact HC166_9.out); rintro e w7 ⟨rfl, hb⟩; replace HB := (Bw.sw w hb); (try clear hb))))
    go_ret
    exact ⟨by first | rfl | (simp [errW_none, errW_some] <;> rfl) | (simp [*, errW_none, errW_some] <;> rfl), bw⟩
   as_aux_lemma =>
   rw [if_neg c6] at H
   have c6b0 : decide (t167 < 0) = false := decide_eq_false c6
   clear c6
   have H' := Aside0.mk H
   clear H
   have p166 : 0 ≤ (x4_1 : Int) := of_decide_eq_true (by first | (with_reducible assumption) | assumption)
   have q166 : x4_1 < (l0.length : Int) := of_decide_eq_true (by first | (with_reducible assumption) | assumption)
   obtain ⟨ad166, A166_1, c166_1, A166_5, c166_5, A166_6, c166_6, A166_7, c166_7, A166_8, c166_8, A166_9, c166_9, e166, hx166_0, hx166_1, hx166_2, hx166_3, hx166_4, hx166_5, hx166_6, hx166_7, hx166_8, hx166_9, hl166_1, hi166_1, hl166_5, hi166_5, hl166_6, hi166_6, hl166_7, hi166_7, hl166_8, hi166_8, hl166_9, hi166_9⟩ := at_T94 HR0.out x4_1 p166 q166
   cases e166
   replace hx166_0 := (HB.out.cell (World.block_lt_of_cell? w _ hx166_0)).trans hx166_0
   replace hx166_1 := (HB.out.cell (World.block_lt_of_cell? w _ hx166_1)).trans hx166_1
   replace hx166_2 := (HB.out.cell (World.block_lt_of_cell? w _ hx166_2)).trans hx166_2
   replace hx166_3 := (HB.out.cell (World.block_lt_of_cell? w _ hx166_3)).trans hx166_3
   replace hx166_4 := (HB.out.cell (World.block_lt_of_cell? w _ hx166_4)).trans hx166_4
   replace hx166_5 := (HB.out.cell (World.block_lt_of_cell? w _ hx166_5)).trans hx166_5
   replace hx166_6 := (HB.out.cell (World.block_lt_of_cell? w _ hx166_6)).trans hx166_6
   replace hx166_7 := (HB.out.cell (World.block_lt_of_cell? w _ hx166_7)).trans hx166_7
   replace hx166_8 := (HB.out.cell (World.block_lt_of_cell? w _ hx166_8)).trans hx166_8
   replace hx166_9 := (HB.out.cell (World.block_lt_of_cell? w _ hx166_9)).trans hx166_9
   have HR166_1 := Aside0.mk hi166_1
   have HC166_1 := Aside0.mk hl166_1
   clear hi166_1 hl166_1
   have HR166_5 := Aside0.mk hi166_5
   have HC166_5 := Aside0.mk hl166_5
   clear hi166_5 hl166_5
   have HR166_6 := Aside0.mk hi166_6
   have HC166_6 := Aside0.mk hl166_6
   clear hi166_6 hl166_6
   have HR166_7 := Aside0.mk hi166_7
   have HC166_7 := Aside0.mk hl166_7
   clear hi166_7 hl166_7
   have HR166_8 := Aside0.mk hi166_8
   have HC166_8 := Aside0.mk hl166_8
   clear hi166_8 hl166_8
   have HR166_9 := Aside0.mk hi166_9
   have HC166_9 := Aside0.mk hl166_9
   clear hi166_9 hl166_9
   replace p166 := eq_true p166
   replace q166 := eq_true q166
   go_wp2_with (first | (go_at_call 68; (with_reducible refine (spec_l6item.calls k1 ((rd_T94 l0 x4_1).f0) _ _ ((rd_T94 l0 x4_1).f1) ((rd_T94 l0 x4_1).f2) ((rd_T94 l0 x4_1).f3.f0) ((rd_T94 l0 x4_1).f3.f1) _ _ ((rd_T94 l0 x4_1).f3.f2) _ _ ((rd_T94 l0 x4_1).f3.f3) _ _ ((rd_T94 l0 x4_1).f3.f4) _ _ ((rd_T94 l0 x4_1).f4) _ _ ((rd_T94 l0 x4_1).f5) x3_1 t167 _ ?side1 ?side2 ?side3 ?side4 ?side5 ?side6 ?side7 ?side8 ?side9 ?side10 ?side11 ?side12 A5.out).mono ?_); (case side1 => repeat (first | exact (Kd.C_below HR166_1.out HB.out) | (with_reducible refine Kd.C_alloc ?_ _) | (with_reducible refine Kd.C_drewN ?_ _) | (with_reducible refine Kd.C_drew ?_))); (case side2 => exact HC166_1.out); (case side3 => repeat (first | exact (Kd.C_below HR166_5.out HB.out) | (with_reducible refine Kd.C_alloc ?_ _) | (with_reducible refine Kd.C_drewN ?_ _) | (with_reducible refine Kd.C_drew ?_))); (case side4 => exact HC166_5.out); (case side5 => repeat (first | exact (Kd.C_below HR166_6.out HB.out) | (with_reducible refine Kd.C_alloc ?_ _) | (with_reducible refine Kd.C_drewN ?_ _) | (with_reducible refine Kd.C_drew ?_))); (case side6 => exact HC166_6.out); (case side7 => repeat (first | exact (Kd.C_below HR166_7.out HB.out) | (with_reducible refine Kd.C_alloc ?_ _) | (with_reducible refine Kd.C_drewN ?_ _) | (with_reducible refine Kd.C_drew ?_))); (case side8 => exact HC166_7.out); (case side9 => repeat (first | exact (Kd.C_below HR166_8.out HB.out) | (with_reducible refine Kd.C_alloc ?_ _) | (with_reducible refine Kd.C_drewN ?_ _) | (with_reducible refine Kd.C_drew ?_))); (case side10 => exact HC166_8.out); (case side11 => repeat (first | exact (Kd.C_below HR166_9.out HB.out) | (with_reducible refine Kd.C_alloc ?_ _) | (with_reducible refine Kd.C_drewN ?_ _) | (with_reducible refine Kd.C_drew ?_))); (case side12 => exact HC166_9.out); rintro e w8 ⟨rfl, hb⟩; replace HB := (Bw.sw w hb); (try clear hb)))
   repeat (go_quiet (first | (go_at_call 68; (with_reducible refine (spec_l6item.calls k1 ((rd_T94 l0 x4_1).f0) _ _ ((rd_T94 l0 x4_1).f1) ((rd_T94 l0 x4_1).f2) ((rd_T94 l0 x4_1).f3.f0) ((rd_T94 l0 x4_1).f3.f1) _ _ ((rd_T94 l0 x4_1).f3.f2) _ _ ((rd_T94 l0 x4_1).f3.f3) _ _ ((rd_T94 l0 x4_1).f3.f4) _ _ ((rd_T94 l0 x4_1).f4) _ _ ((rd_T94 l0 x4_1).f5) x3_1 t167 _ ?side1 ?side2 ?side3 ?side4 ?side5 ?side6 ?side7 ?side8 ?side9 ?side10 ?side11 ?side12 A5.out).mono ?_); (case side1 => repeat (first | exact (Kd.C_below HR166_1.out HB.out) | (with_reducible refine Kd.C_alloc ?_ _) | (with_reducible refine Kd.C_drewN ?_ _) | (with_reducible refine Kd.C_drew ?_))); (case side2 => exact HC166_1.out); (case side3 => repeat (first | exact (Kd.C_below HR166_5.out HB.out) | (with_reducible refine Kd.C_alloc ?_ _) | (with_reducible refine Kd.C_drewN ?_ _) | (with_reducible refine Kd.C_drew ?_))); (case side4 => exact HC166_5.out); (case side5 => repeat (first | exact (Kd.C_below HR166_6.out HB.out) | (with_reducible refine Kd.C_alloc ?_ _) | (with_reducible refine Kd.C_drewN ?_ _) | (with_reducible refine Kd.C_drew ?_))); (case side6 => exact HC166_6.out); (case side7 => repeat (first | exact (Kd.C_below HR166_7.out HB.out) | (with_reducible refine Kd.C_alloc ?_ _) | (with_reducible refine Kd.C_drewN ?_ _) | (with_reducible refine Kd.C_drew ?_))); (case side8 => exact HC166_7.out); (case side9 => repeat (first | exact (Kd.C_below HR166_8.out HB.out) | (with_reducible refine Kd.C_alloc ?_ _) | (with_reducible refine Kd.C_drewN ?_ _) | (with_reducible refine Kd.C_drew ?_))); (case side10 => exact HC166_8.out); (case side11 => repeat (first | exact (Kd.C_below HR166_9.out HB.out) | (with_reducible refine Kd.C_alloc ?_ _) | (with_reducible refine Kd.C_drewN ?_ _) | (with_reducible refine Kd.C_drew ?_))); (case side12 => exact HC166_9.out); rintro e w8 ⟨rfl, hb⟩; replace HB := (Bw.sw w hb); (try clear hb))); try go_wp2_with (first | (go_at_call 68; (with_reducible refine (spec_l6item.calls k1 ((rd_T94 l0 x4_1).f0) _ _ ((rd_T94 l0 x4_1).f1) ((rd_T94 l0 x4_1).f2) ((rd_T94 l0 x4_1).f3.f0) ((rd_T94 l0 x4_1).f3.f1) _ _ ((rd_T94 l0 x4_1).f3.f2) _ _ ((rd_T94 l0 x4_1).f3.f3) _ _ ((rd_T94 l0 x4_1).f3.f4) _ _ ((rd_T94 l0 x4_1).f4) _ _ ((rd_T94 l0 x4_1).f5) x3_1 t167 _ ?side1 ?side2 ?side3 ?side4 ?side5 ?side6 ?side7 ?side8 ?side9 ?side10 ?side11 ?side12 A5.out).mono ?_); (case side1 => repeat (first | exact (Kd.C_below HR166_1.out HB.out) | (with_reducible refine Kd.C_alloc ?_ _) | (with_reducible refine Kd.C_drewN ?_ _) | (with_reducible refine Kd.C_drew ?_))); (case side2 => exact HC166_1.out); (case side3 => repeat (first | exact (Kd.C_below HR166_5.out HB.out) | (with_reducible refine Kd.C_alloc ?_ _) | (with_reducible refine Kd.C_drewN ?_ _) | (with_reducible refine Kd.C_drew ?_))); (case side4 => exact HC166_5.out); (case side5 => repeat (first | exact (Kd.C_below HR166_6.out HB.out) | (with_reducible refine Kd.C_alloc ?_ _) | (with_reducible refine Kd.C_drewN ?_ _) | (with_reducible refine Kd.C_drew ?_))); (case side6 => exact HC166_6.out); (case side7 => repeat (first | exact (Kd.C_below HR166_7.out HB.out) | (with_reducible refine Kd.C_alloc ?_ _) | (with_reducible refine Kd.C_drewN ?_ _) | (with_reducible refine Kd.C_drew ?_))); (case side8 => exact HC166_7.out); (case side9 => repeat (first | exact (Kd.C_below HR166_8.out HB.out) | (with_reducible refine Kd.C_alloc ?_ _) | (with_reducible refine Kd.C_drewN ?_ _) | (with_reducible refine Kd.C_drew ?_))); (case side10 => exact HC166_8.out); (case side11 => repeat (first | exact (Kd.C_below HR166_9.out HB.out) | (with_reducible refine Kd.C_alloc ?_ _) | (with_reducible refine Kd.C_drewN ?_ _) | (with_reducible refine Kd.C_drew ?_))); (case side12 => exact HC166_9.out); rintro e w8 ⟨rfl, hb⟩; replace HB := (Bw.sw w hb); (try clear hb))))
   go_loopg [5] k1 (fun kq v5 w' => ∃ (x5_2 : Int), v5 = .int .i64 x5_2 ∧ Aside0 (spec_ConfigOk.l1 kq l0 t167 x4_1 x5_2 = some r) ∧ Aside0 (kq ≤ k1) ∧ Bw w w')
   case atStart => exact ⟨(0), (by first | rfl | (simp; done) | (simp [*]; done)), H', ⟨Nat.le_refl _⟩, ⟨bw⟩⟩
   case round =>
    as_aux_lemma =>
    clear H'
    try clear c2
    try clear c2b0
    try clear c2b1
    try clear c3
    try clear c3b0
    try clear c4
    try clear c4b0
    try clear c6
    try clear c6b0
    try clear hx166_0
    try clear hx166_1
    try clear hx166_2
    try clear hx166_3
    try clear hx166_4
    try clear hx166_5
    try clear hx166_6
    try clear hx166_7
    try clear hx166_8
    try clear hx166_9
    try clear p166
    try clear q166
    obtain ⟨x5_2, rfl, HA, HK2, HB⟩ := hrel
    cases gk with
    | zero => exact absurd HA.out (by simp [spec_ConfigOk.l1])
    | succ k2 =>
     have H := HA.out
     clear HA
     simp only [spec_ConfigOk.l1] at H
     by_cases c9 : x5_2 < x4_1
     rotate_left
     ·rw [if_neg c9] at H
      have c9b0 : decide (x5_2 < x4_1) = false := decide_eq_false c9
      clear c9
      have H' := Aside0.mk H
      clear H
      go_wp2
      repeat (go_quiet (fail); try go_wp2)
      go_roundg k2
      case measure => have := HK1.out; have := HK2.out; omega
      case rel => exact ⟨(t167), (wrap64 (x4_1 + 1)), (by first | rfl | (simp; done) | (simp [*]; done)), (by first | rfl | (simp; done) | (simp [*]; done)), H', ⟨by have := HK1.out; have := HK2.out; omega⟩, ⟨bw⟩⟩
     as_aux_lemma =>
     rw [if_pos c9] at H
     have c9b0 : decide (x5_2 < x4_1) = true := decide_eq_true c9
     clear c9
     by_cases c10 : 0 ≤ x5_2
     rotate_left
     ·rw [if_neg c10] at H
      exact absurd H (by simp)
     as_aux_lemma =>
     rw [if_pos c10] at H
     have c10b0 : decide (0 ≤ x5_2) = true := decide_eq_true c10
     clear c10
     by_cases c11 : x5_2 < (l0.length : Int)
     rotate_left
     ·rw [if_neg c11] at H
      exact absurd H (by simp)
     as_aux_lemma =>
     rw [if_pos c11] at H
     have c11b0 : decide (x5_2 < (l0.length : Int)) = true := decide_eq_true c11
     clear c11
     by_cases c12 : 0 ≤ x4_1
     rotate_left
     ·rw [if_neg c12] at H
      exact absurd H (by simp)
     as_aux_lemma =>
     rw [if_pos c12] at H
     have c12b0 : decide (0 ≤ x4_1) = true := decide_eq_true c12
     clear c12
     by_cases c13 : x4_1 < (l0.length : Int)
     rotate_left
     ·rw [if_neg c13] at H
      exact absurd H (by simp)
     as_aux_lemma =>
     rw [if_pos c13] at H
     have c13b0 : decide (x4_1 < (l0.length : Int)) = true := decide_eq_true c13
     clear c13
     by_cases c14 : ((rd_T94 l0 x5_2).f0) = ((rd_T94 l0 x4_1).f0)
     rotate_left
     ·rw [if_neg c14] at H
      have c14b0 : (((rd_T94 l0 x5_2).f0) == ((rd_T94 l0 x4_1).f0)) = false := beq_eq_false_iff_ne.mpr c14
      have c14b1 : (((rd_T94 l0 x5_2).f0) != ((rd_T94 l0 x4_1).f0)) = true := bne_iff_ne.mpr c14
      have H' := Aside0.mk H
      clear H
      have p168 : 0 ≤ (x5_2 : Int) := of_decide_eq_true (by first | (with_reducible assumption) | assumption)
      have q168 : x5_2 < (l0.length : Int) := of_decide_eq_true (by first | (with_reducible assumption) | assumption)
      obtain ⟨ad168, A168_1, c168_1, A168_5, c168_5, A168_6, c168_6, A168_7, c168_7, A168_8, c168_8, A168_9, c168_9, e168, hx168_0, hx168_1, hx168_2, hx168_3, hx168_4, hx168_5, hx168_6, hx168_7, hx168_8, hx168_9, hl168_1, hi168_1, hl168_5, hi168_5, hl168_6, hi168_6, hl168_7, hi168_7, hl168_8, hi168_8, hl168_9, hi168_9⟩ := at_T94 HR0.out x5_2 p168 q168
      obtain rfl : ad166 = ad168 := (by injection e168)
      replace hx168_0 := (HB.out.cell (World.block_lt_of_cell? w _ hx168_0)).trans hx168_0
      replace hx168_1 := (HB.out.cell (World.block_lt_of_cell? w _ hx168_1)).trans hx168_1
      replace hx168_2 := (HB.out.cell (World.block_lt_of_cell? w _ hx168_2)).trans hx168_2
      replace hx168_3 := (HB.out.cell (World.block_lt_of_cell? w _ hx168_3)).trans hx168_3
      replace hx168_4 := (HB.out.cell (World.block_lt_of_cell? w _ hx168_4)).trans hx168_4
      replace hx168_5 := (HB.out.cell (World.block_lt_of_cell? w _ hx168_5)).trans hx168_5
      replace hx168_6 := (HB.out.cell (World.block_lt_of_cell? w _ hx168_6)).trans hx168_6
      replace hx168_7 := (HB.out.cell (World.block_lt_of_cell? w _ hx168_7)).trans hx168_7
      replace hx168_8 := (HB.out.cell (World.block_lt_of_cell? w _ hx168_8)).trans hx168_8
      replace hx168_9 := (HB.out.cell (World.block_lt_of_cell? w _ hx168_9)).trans hx168_9
      have HR168_1 := Aside0.mk hi168_1
      have HC168_1 := Aside0.mk hl168_1
      clear hi168_1 hl168_1
      have HR168_5 := Aside0.mk hi168_5
      have HC168_5 := Aside0.mk hl168_5
      clear hi168_5 hl168_5
      have HR168_6 := Aside0.mk hi168_6
      have HC168_6 := Aside0.mk hl168_6
      clear hi168_6 hl168_6
      have HR168_7 := Aside0.mk hi168_7
      have HC168_7 := Aside0.mk hl168_7
      clear hi168_7 hl168_7
      have HR168_8 := Aside0.mk hi168_8
      have HC168_8 := Aside0.mk hl168_8
      clear hi168_8 hl168_8
      have HR168_9 := Aside0.mk hi168_9
      have HC168_9 := Aside0.mk hl168_9
      clear hi168_9 hl168_9
      replace p168 := eq_true p168
      replace q168 := eq_true q168
      have p169 : 0 ≤ (x4_1 : Int) := of_decide_eq_true (by first | (with_reducible assumption) | assumption)
      have q169 : x4_1 < (l0.length : Int) := of_decide_eq_true (by first | (with_reducible assumption) | assumption)
      obtain ⟨ad169, A169_1, c169_1, A169_5, c169_5, A169_6, c169_6, A169_7, c169_7, A169_8, c169_8, A169_9, c169_9, e169, hx169_0, hx169_1, hx169_2, hx169_3, hx169_4, hx169_5, hx169_6, hx169_7, hx169_8, hx169_9, hl169_1, hi169_1, hl169_5, hi169_5, hl169_6, hi169_6, hl169_7, hi169_7, hl169_8, hi169_8, hl169_9, hi169_9⟩ := at_T94 HR0.out x4_1 p169 q169
      obtain rfl : ad166 = ad169 := (by injection e169)
      replace hx169_0 := (HB.out.cell (World.block_lt_of_cell? w _ hx169_0)).trans hx169_0
      replace hx169_1 := (HB.out.cell (World.block_lt_of_cell? w _ hx169_1)).trans hx169_1
      replace hx169_2 := (HB.out.cell (World.block_lt_of_cell? w _ hx169_2)).trans hx169_2
      replace hx169_3 := (HB.out.cell (World.block_lt_of_cell? w _ hx169_3)).trans hx169_3
      replace hx169_4 := (HB.out.cell (World.block_lt_of_cell? w _ hx169_4)).trans hx169_4
      replace hx169_5 := (HB.out.cell (World.block_lt_of_cell? w _ hx169_5)).trans hx169_5
      replace hx169_6 := (HB.out.cell (World.block_lt_of_cell? w _ hx169_6)).trans hx169_6
      replace hx169_7 := (HB.out.cell (World.block_lt_of_cell? w _ hx169_7)).trans hx169_7
      replace hx169_8 := (HB.out.cell (World.block_lt_of_cell? w _ hx169_8)).trans hx169_8
      replace hx169_9 := (HB.out.cell (World.block_lt_of_cell? w _ hx169_9)).trans hx169_9
      have HR169_1 := Aside0.mk hi169_1
      have HC169_1 := Aside0.mk hl169_1
      clear hi169_1 hl169_1
      have HR169_5 := Aside0.mk hi169_5
      have HC169_5 := Aside0.mk hl169_5
      clear hi169_5 hl169_5
      have HR169_6 := Aside0.mk hi169_6
      have HC169_6 := Aside0.mk hl169_6
      clear hi169_6 hl169_6
      have HR169_7 := Aside0.mk hi169_7
      have HC169_7 := Aside0.mk hl169_7
      clear hi169_7 hl169_7
      have HR169_8 := Aside0.mk hi169_8
      have HC169_8 := Aside0.mk hl169_8
      clear hi169_8 hl169_8
      have HR169_9 := Aside0.mk hi169_9
      have HC169_9 := Aside0.mk hl169_9
      clear hi169_9 hl169_9
      replace p169 := eq_true p169
      replace q169 := eq_true q169
      go_wp2
      repeat (go_quiet (fail); try go_wp2)
      go_roundg k2
      case measure => have := HK1.out; have := HK2.out; omega
      case rel => exact ⟨(wrap64 (x5_2 + 1)), (by first | rfl | (simp; done) | (simp [*]; done)), H', ⟨by have := HK1.out; have := HK2.out; omega⟩, ⟨bw⟩⟩
     as_aux_lemma =>
     rw [if_pos c14] at H
     have c14b0 : (((rd_T94 l0 x5_2).f0) == ((rd_T94 l0 x4_1).f0)) = true := beq_iff_eq.mpr c14
     have c14b1 : (((rd_T94 l0 x5_2).f0) != ((rd_T94 l0 x4_1).f0)) = false := bne_eq_false_iff_eq.mpr c14
     clear c14
     by_cases c15 : (strOfNums ((rd_T94 l0 x5_2).f1)).toList = (strOfNums ((rd_T94 l0 x4_1).f1)).toList
     ·as_aux_lemma =>
      rw [if_pos c15] at H
      have c15b0 : ((strOfNums ((rd_T94 l0 x5_2).f1)).toList == (strOfNums ((rd_T94 l0 x4_1).f1)).toList) = true := beq_iff_eq.mpr c15
      have c15b1 : ((strOfNums ((rd_T94 l0 x5_2).f1)).toList != (strOfNums ((rd_T94 l0 x4_1).f1)).toList) = false := bne_eq_false_iff_eq.mpr c15
      clear c15
      obtain rfl := Option.some.inj H
      have p168 : 0 ≤ (x5_2 : Int) := of_decide_eq_true (by first | (with_reducible assumption) | assumption)
      have q168 : x5_2 < (l0.length : Int) := of_decide_eq_true (by first | (with_reducible assumption) | assumption)
      obtain ⟨ad168, A168_1, c168_1, A168_5, c168_5, A168_6, c168_6, A168_7, c168_7, A168_8, c168_8, A168_9, c168_9, e168, hx168_0, hx168_1, hx168_2, hx168_3, hx168_4, hx168_5, hx168_6, hx168_7, hx168_8, hx168_9, hl168_1, hi168_1, hl168_5, hi168_5, hl168_6, hi168_6, hl168_7, hi168_7, hl168_8, hi168_8, hl168_9, hi168_9⟩ := at_T94 HR0.out x5_2 p168 q168
      obtain rfl : ad166 = ad168 := (by injection e168)
      replace hx168_0 := (HB.out.cell (World.block_lt_of_cell? w _ hx168_0)).trans hx168_0
      replace hx168_1 := (HB.out.cell (World.block_lt_of_cell? w _ hx168_1)).trans hx168_1
      replace hx168_2 := (HB.out.cell (World.block_lt_of_cell? w _ hx168_2)).trans hx168_2
      replace hx168_3 := (HB.out.cell (World.block_lt_of_cell? w _ hx168_3)).trans hx168_3
      replace hx168_4 := (HB.out.cell (World.block_lt_of_cell? w _ hx168_4)).trans hx168_4
      replace hx168_5 := (HB.out.cell (World.block_lt_of_cell? w _ hx168_5)).trans hx168_5
      replace hx168_6 := (HB.out.cell (World.block_lt_of_cell? w _ hx168_6)).trans hx168_6
      replace hx168_7 := (HB.out.cell (World.block_lt_of_cell? w _ hx168_7)).trans hx168_7
      replace hx168_8 := (HB.out.cell (World.block_lt_of_cell? w _ hx168_8)).trans hx168_8
      replace hx168_9 := (HB.out.cell (World.block_lt_of_cell? w _ hx168_9)).trans hx168_9
      have HR168_1 := Aside0.mk hi168_1
      have HC168_1 := Aside0.mk hl168_1
      clear hi168_1 hl168_1
      have HR168_5 := Aside0.mk hi168_5
      have HC168_5 := Aside0.mk hl168_5
      clear hi168_5 hl168_5
      have HR168_6 := Aside0.mk hi168_6
      have HC168_6 := Aside0.mk hl168_6
      clear hi168_6 hl168_6
      have HR168_7 := Aside0.mk hi168_7
      have HC168_7 := Aside0.mk hl168_7
      clear hi168_7 hl168_7
      have HR168_8 := Aside0.mk hi168_8
      have HC168_8 := Aside0.mk hl168_8
      clear hi168_8 hl168_8
      have HR168_9 := Aside0.mk hi168_9
      have HC168_9 := Aside0.mk hl168_9
      clear hi168_9 hl168_9
      replace p168 := eq_true p168
      replace q168 := eq_true q168
      have p169 : 0 ≤ (x4_1 : Int) := of_decide_eq_true (by first | (with_reducible assumption) | assumption)
      have q169 : x4_1 < (l0.length : Int) := of_decide_eq_true (by first | (with_reducible assumption) | assumption)
      obtain ⟨ad169, A169_1, c169_1, A169_5, c169_5, A169_6, c169_6, A169_7, c169_7, A169_8, c169_8, A169_9, c169_9, e169, hx169_0, hx169_1, hx169_2, hx169_3, hx169_4, hx169_5, hx169_6, hx169_7, hx169_8, hx169_9, hl169_1, hi169_1, hl169_5, hi169_5, hl169_6, hi169_6, hl169_7, hi169_7, hl169_8, hi169_8, hl169_9, hi169_9⟩ := at_T94 HR0.out x4_1 p169 q169
      obtain rfl : ad166 = ad169 := (by injection e169)
      replace hx169_0 := (HB.out.cell (World.block_lt_of_cell? w _ hx169_0)).trans hx169_0
      replace hx169_1 := (HB.out.cell (World.block_lt_of_cell? w _ hx169_1)).trans hx169_1
      replace hx169_2 := (HB.out.cell (World.block_lt_of_cell? w _ hx169_2)).trans hx169_2
      replace hx169_3 := (HB.out.cell (World.block_lt_of_cell? w _ hx169_3)).trans hx169_3
      replace hx169_4 := (HB.out.cell (World.block_lt_of_cell? w _ hx169_4)).trans hx169_4
      replace hx169_5 := (HB.out.cell (World.block_lt_of_cell? w _ hx169_5)).trans hx169_5
      replace hx169_6 := (HB.out.cell (World.block_lt_of_cell? w _ hx169_6)).trans hx169_6
      replace hx169_7 := (HB.out.cell (World.block_lt_of_cell? w _ hx169_7)).trans hx169_7
      replace hx169_8 := (HB.out.cell (World.block_lt_of_cell? w _ hx169_8)).trans hx169_8
      replace hx169_9 := (HB.out.cell (World.block_lt_of_cell? w _ hx169_9)).trans hx169_9
      have HR169_1 := Aside0.mk hi169_1
      have HC169_1 := Aside0.mk hl169_1
      clear hi169_1 hl169_1
      have HR169_5 := Aside0.mk hi169_5
      have HC169_5 := Aside0.mk hl169_5
      clear hi169_5 hl169_5
      have HR169_6 := Aside0.mk hi169_6
      have HC169_6 := Aside0.mk hl169_6
      clear hi169_6 hl169_6
      have HR169_7 := Aside0.mk hi169_7
      have HC169_7 := Aside0.mk hl169_7
      clear hi169_7 hl169_7
      have HR169_8 := Aside0.mk hi169_8
      have HC169_8 := Aside0.mk hl169_8
      clear hi169_8 hl169_8
      have HR169_9 := Aside0.mk hi169_9
      have HC169_9 := Aside0.mk hl169_9
      clear hi169_9 hl169_9
      replace p169 := eq_true p169
      replace q169 := eq_true q169
      have p170 : 0 ≤ (x5_2 : Int) := of_decide_eq_true (by first | (with_reducible assumption) | assumption)
      have q170 : x5_2 < (l0.length : Int) := of_decide_eq_true (by first | (with_reducible assumption) | assumption)
      obtain ⟨ad170, A170_1, c170_1, A170_5, c170_5, A170_6, c170_6, A170_7, c170_7, A170_8, c170_8, A170_9, c170_9, e170, hx170_0, hx170_1, hx170_2, hx170_3, hx170_4, hx170_5, hx170_6, hx170_7, hx170_8, hx170_9, hl170_1, hi170_1, hl170_5, hi170_5, hl170_6, hi170_6, hl170_7, hi170_7, hl170_8, hi170_8, hl170_9, hi170_9⟩ := at_T94 HR0.out x5_2 p170 q170
      obtain rfl : ad166 = ad170 := (by injection e170)
      replace hx170_0 := (HB.out.cell (World.block_lt_of_cell? w _ hx170_0)).trans hx170_0
      replace hx170_1 := (HB.out.cell (World.block_lt_of_cell? w _ hx170_1)).trans hx170_1
      replace hx170_2 := (HB.out.cell (World.block_lt_of_cell? w _ hx170_2)).trans hx170_2
      replace hx170_3 := (HB.out.cell (World.block_lt_of_cell? w _ hx170_3)).trans hx170_3
      replace hx170_4 := (HB.out.cell (World.block_lt_of_cell? w _ hx170_4)).trans hx170_4
      replace hx170_5 := (HB.out.cell (World.block_lt_of_cell? w _ hx170_5)).trans hx170_5
      replace hx170_6 := (HB.out.cell (World.block_lt_of_cell? w _ hx170_6)).trans hx170_6
      replace hx170_7 := (HB.out.cell (World.block_lt_of_cell? w _ hx170_7)).trans hx170_7
      replace hx170_8 := (HB.out.cell (World.block_lt_of_cell? w _ hx170_8)).trans hx170_8
      replace hx170_9 := (HB.out.cell (World.block_lt_of_cell? w _ hx170_9)).trans hx170_9
      have HR170_1 := Aside0.mk hi170_1
      have HC170_1 := Aside0.mk hl170_1
      clear hi170_1 hl170_1
      have HR170_5 := Aside0.mk hi170_5
      have HC170_5 := Aside0.mk hl170_5
      clear hi170_5 hl170_5
      have HR170_6 := Aside0.mk hi170_6
      have HC170_6 := Aside0.mk hl170_6
      clear hi170_6 hl170_6
      have HR170_7 := Aside0.mk hi170_7
      have HC170_7 := Aside0.mk hl170_7
      clear hi170_7 hl170_7
      have HR170_8 := Aside0.mk hi170_8
      have HC170_8 := Aside0.mk hl170_8
      clear hi170_8 hl170_8
      have HR170_9 := Aside0.mk hi170_9
      have HC170_9 := Aside0.mk hl170_9
      clear hi170_9 hl170_9
      replace p170 := eq_true p170
      replace q170 := eq_true q170
      have ea_ := Option.some.inj (hx168_1.symm.trans hx170_1)
      injection ea_ with ea_ en_ ec_
      subst ea_
      subst ec_
      clear en_
      have ea_ := Option.some.inj (hx168_5.symm.trans hx170_5)
      injection ea_ with ea_ en_ ec_
      subst ea_
      subst ec_
      clear en_
      have ea_ := Option.some.inj (hx168_6.symm.trans hx170_6)
      injection ea_ with ea_ en_ ec_
      subst ea_
      subst ec_
      clear en_
      have ea_ := Option.some.inj (hx168_7.symm.trans hx170_7)
      injection ea_ with ea_ en_ ec_
      subst ea_
      subst ec_
      clear en_
      have ea_ := Option.some.inj (hx168_8.symm.trans hx170_8)
      injection ea_ with ea_ en_ ec_
      subst ea_
      subst ec_
      clear en_
      have ea_ := Option.some.inj (hx168_9.symm.trans hx170_9)
      injection ea_ with ea_ en_ ec_
      subst ea_
      subst ec_
      clear en_
      have hcv16d := fun (a_ : Nat) => Kd.C_string (P := Try.prog) (A := A168_1) (c := c168_1) Try.underlying22 Try.underlying5 Try.underlying9 (Kd.C_drewN (Kd.C_below HR170_1.out HB.out) a_)
      have hcv16 := Kd.C_string (P := Try.prog) (A := A168_1) (c := c168_1) Try.underlying22 Try.underlying5 Try.underlying9 (Kd.C_below HR170_1.out HB.out)
      have p171 : 0 ≤ (x4_1 : Int) := of_decide_eq_true (by first | (with_reducible assumption) | assumption)
      have q171 : x4_1 < (l0.length : Int) := of_decide_eq_true (by first | (with_reducible assumption) | assumption)
      obtain ⟨ad171, A171_1, c171_1, A171_5, c171_5, A171_6, c171_6, A171_7, c171_7, A171_8, c171_8, A171_9, c171_9, e171, hx171_0, hx171_1, hx171_2, hx171_3, hx171_4, hx171_5, hx171_6, hx171_7, hx171_8, hx171_9, hl171_1, hi171_1, hl171_5, hi171_5, hl171_6, hi171_6, hl171_7, hi171_7, hl171_8, hi171_8, hl171_9, hi171_9⟩ := at_T94 HR0.out x4_1 p171 q171
      obtain rfl : ad166 = ad171 := (by injection e171)
      replace hx171_0 := (HB.out.cell (World.block_lt_of_cell? w _ hx171_0)).trans hx171_0
      replace hx171_1 := (HB.out.cell (World.block_lt_of_cell? w _ hx171_1)).trans hx171_1
      replace hx171_2 := (HB.out.cell (World.block_lt_of_cell? w _ hx171_2)).trans hx171_2
      replace hx171_3 := (HB.out.cell (World.block_lt_of_cell? w _ hx171_3)).trans hx171_3
      replace hx171_4 := (HB.out.cell (World.block_lt_of_cell? w _ hx171_4)).trans hx171_4
      replace hx171_5 := (HB.out.cell (World.block_lt_of_cell? w _ hx171_5)).trans hx171_5
      replace hx171_6 := (HB.out.cell (World.block_lt_of_cell? w _ hx171_6)).trans hx171_6
      replace hx171_7 := (HB.out.cell (World.block_lt_of_cell? w _ hx171_7)).trans hx171_7
      replace hx171_8 := (HB.out.cell (World.block_lt_of_cell? w _ hx171_8)).trans hx171_8
      replace hx171_9 := (HB.out.cell (World.block_lt_of_cell? w _ hx171_9)).trans hx171_9
      have HR171_1 := Aside0.mk hi171_1
      have HC171_1 := Aside0.mk hl171_1
      clear hi171_1 hl171_1
      have HR171_5 := Aside0.mk hi171_5
      have HC171_5 := Aside0.mk hl171_5
      clear hi171_5 hl171_5
      have HR171_6 := Aside0.mk hi171_6
      have HC171_6 := Aside0.mk hl171_6
      clear hi171_6 hl171_6
      have HR171_7 := Aside0.mk hi171_7
      have HC171_7 := Aside0.mk hl171_7
      clear hi171_7 hl171_7
      have HR171_8 := Aside0.mk hi171_8
      have HC171_8 := Aside0.mk hl171_8
      clear hi171_8 hl171_8
      have HR171_9 := Aside0.mk hi171_9
      have HC171_9 := Aside0.mk hl171_9
      clear hi171_9 hl171_9
      replace p171 := eq_true p171
      replace q171 := eq_true q171
      have ea_ := Option.some.inj (hx169_1.symm.trans hx171_1)
      injection ea_ with ea_ en_ ec_
      subst ea_
      subst ec_
      clear en_
      have ea_ := Option.some.inj (hx169_5.symm.trans hx171_5)
      injection ea_ with ea_ en_ ec_
      subst ea_
      subst ec_
      clear en_
      have ea_ := Option.some.inj (hx169_6.symm.trans hx171_6)
      injection ea_ with ea_ en_ ec_
      subst ea_
      subst ec_
      clear en_
      have ea_ := Option.some.inj (hx169_7.symm.trans hx171_7)
      injection ea_ with ea_ en_ ec_
      subst ea_
      subst ec_
      clear en_
      have ea_ := Option.some.inj (hx169_8.symm.trans hx171_8)
      injection ea_ with ea_ en_ ec_
      subst ea_
      subst ec_
      clear en_
      have ea_ := Option.some.inj (hx169_9.symm.trans hx171_9)
      injection ea_ with ea_ en_ ec_
      subst ea_
      subst ec_
      clear en_
      have hcv17d := fun (a_ : Nat) => Kd.C_string (P := Try.prog) (A := A169_1) (c := c169_1) Try.underlying22 Try.underlying5 Try.underlying9 (Kd.C_drewN (Kd.C_below HR171_1.out HB.out) a_)
      have hcv17 := Kd.C_string (P := Try.prog) (A := A169_1) (c := c169_1) Try.underlying22 Try.underlying5 Try.underlying9 (Kd.C_below HR171_1.out HB.out)
      go_wp2
      repeat (go_quiet (fail); try go_wp2)
      go_ret
      exact ⟨by first | rfl | (simp [errW_none, errW_some] <;> rfl) | (simp [*, errW_none, errW_some] <;> rfl), bw⟩
     as_aux_lemma =>
     rw [if_neg c15] at H
     have c15b0 : ((strOfNums ((rd_T94 l0 x5_2).f1)).toList == (strOfNums ((rd_T94 l0 x4_1).f1)).toList) = false := beq_eq_false_iff_ne.mpr c15
     have c15b1 : ((strOfNums ((rd_T94 l0 x5_2).f1)).toList != (strOfNums ((rd_T94 l0 x4_1).f1)).toList) = true := bne_iff_ne.mpr c15
     have H' := Aside0.mk H
     clear H
     have p168 : 0 ≤ (x5_2 : Int) := of_decide_eq_true (by first | (with_reducible assumption) | assumption)
     have q168 : x5_2 < (l0.length : Int) := of_decide_eq_true (by first | (with_reducible assumption) | assumption)
     obtain ⟨ad168, A168_1, c168_1, A168_5, c168_5, A168_6, c168_6, A168_7, c168_7, A168_8, c168_8, A168_9, c168_9, e168, hx168_0, hx168_1, hx168_2, hx168_3, hx168_4, hx168_5, hx168_6, hx168_7, hx168_8, hx168_9, hl168_1, hi168_1, hl168_5, hi168_5, hl168_6, hi168_6, hl168_7, hi168_7, hl168_8, hi168_8, hl168_9, hi168_9⟩ := at_T94 HR0.out x5_2 p168 q168
     obtain rfl : ad166 = ad168 := (by injection e168)
     replace hx168_0 := (HB.out.cell (World.block_lt_of_cell? w _ hx168_0)).trans hx168_0
     replace hx168_1 := (HB.out.cell (World.block_lt_of_cell? w _ hx168_1)).trans hx168_1
     replace hx168_2 := (HB.out.cell (World.block_lt_of_cell? w _ hx168_2)).trans hx168_2
     replace hx168_3 := (HB.out.cell (World.block_lt_of_cell? w _ hx168_3)).trans hx168_3
     replace hx168_4 := (HB.out.cell (World.block_lt_of_cell? w _ hx168_4)).trans hx168_4
     replace hx168_5 := (HB.out.cell (World.block_lt_of_cell? w _ hx168_5)).trans hx168_5
     replace hx168_6 := (HB.out.cell (World.block_lt_of_cell? w _ hx168_6)).trans hx168_6
     replace hx168_7 := (HB.out.cell (World.block_lt_of_cell? w _ hx168_7)).trans hx168_7
     replace hx168_8 := (HB.out.cell (World.block_lt_of_cell? w _ hx168_8)).trans hx168_8
     replace hx168_9 := (HB.out.cell (World.block_lt_of_cell? w _ hx168_9)).trans hx168_9
     have HR168_1 := Aside0.mk hi168_1
     have HC168_1 := Aside0.mk hl168_1
     clear hi168_1 hl168_1
     have HR168_5 := Aside0.mk hi168_5
     have HC168_5 := Aside0.mk hl168_5
     clear hi168_5 hl168_5
     have HR168_6 := Aside0.mk hi168_6
     have HC168_6 := Aside0.mk hl168_6
     clear hi168_6 hl168_6
     have HR168_7 := Aside0.mk hi168_7
     have HC168_7 := Aside0.mk hl168_7
     clear hi168_7 hl168_7
     have HR168_8 := Aside0.mk hi168_8
     have HC168_8 := Aside0.mk hl168_8
     clear hi168_8 hl168_8
     have HR168_9 := Aside0.mk hi168_9
     have HC168_9 := Aside0.mk hl168_9
     clear hi168_9 hl168_9
     replace p168 := eq_true p168
     replace q168 := eq_true q168
     have p169 : 0 ≤ (x4_1 : Int) := of_decide_eq_true (by first | (with_reducible assumption) | assumption)
     have q169 : x4_1 < (l0.length : Int) := of_decide_eq_true (by first | (with_reducible assumption) | assumption)
     obtain ⟨ad169, A169_1, c169_1, A169_5, c169_5, A169_6, c169_6, A169_7, c169_7, A169_8, c169_8, A169_9, c169_9, e169, hx169_0, hx169_1, hx169_2, hx169_3, hx169_4, hx169_5, hx169_6, hx169_7, hx169_8, hx169_9, hl169_1, hi169_1, hl169_5, hi169_5, hl169_6, hi169_6, hl169_7, hi169_7, hl169_8, hi169_8, hl169_9, hi169_9⟩ := at_T94 HR0.out x4_1 p169 q169
     obtain rfl : ad166 = ad169 := (by injection e169)
     replace hx169_0 := (HB.out.cell (World.block_lt_of_cell? w _ hx169_0)).trans hx169_0
     replace hx169_1 := (HB.out.cell (World.block_lt_of_cell? w _ hx169_1)).trans hx169_1
     replace hx169_2 := (HB.out.cell (World.block_lt_of_cell? w _ hx169_2)).trans hx169_2
     replace hx169_3 := (HB.out.cell (World.block_lt_of_cell? w _ hx169_3)).trans hx169_3
     replace hx169_4 := (HB.out.cell (World.block_lt_of_cell? w _ hx169_4)).trans hx169_4
     replace hx169_5 := (HB.out.cell (World.block_lt_of_cell? w _ hx169_5)).trans hx169_5
     replace hx169_6 := (HB.out.cell (World.block_lt_of_cell? w _ hx169_6)).trans hx169_6
     replace hx169_7 := (HB.out.cell (World.block_lt_of_cell? w _ hx169_7)).trans hx169_7
     replace hx169_8 := (HB.out.cell (World.block_lt_of_cell? w _ hx169_8)).trans hx169_8
     replace hx169_9 := (HB.out.cell (World.block_lt_of_cell? w _ hx169_9)).trans hx169_9
     have HR169_1 := Aside0.mk hi169_1
     have HC169_1 := Aside0.mk hl169_1
     clear hi169_1 hl169_1
     have HR169_5 := Aside0.mk hi169_5
     have HC169_5 := Aside0.mk hl169_5
     clear hi169_5 hl169_5
     have HR169_6 := Aside0.mk hi169_6
     have HC169_6 := Aside0.mk hl169_6
     clear hi169_6 hl169_6
     have HR169_7 := Aside0.mk hi169_7
     have HC169_7 := Aside0.mk hl169_7
     clear hi169_7 hl169_7
     have HR169_8 := Aside0.mk hi169_8
     have HC169_8 := Aside0.mk hl169_8
     clear hi169_8 hl169_8
     have HR169_9 := Aside0.mk hi169_9
     have HC169_9 := Aside0.mk hl169_9
     clear hi169_9 hl169_9
     replace p169 := eq_true p169
     replace q169 := eq_true q169
     have p170 : 0 ≤ (x5_2 : Int) := of_decide_eq_true (by first | (with_reducible assumption) | assumption)
     have q170 : x5_2 < (l0.length : Int) := of_decide_eq_true (by first | (with_reducible assumption) | assumption)
     obtain ⟨ad170, A170_1, c170_1, A170_5, c170_5, A170_6, c170_6, A170_7, c170_7, A170_8, c170_8, A170_9, c170_9, e170, hx170_0, hx170_1, hx170_2, hx170_3, hx170_4, hx170_5, hx170_6, hx170_7, hx170_8, hx170_9, hl170_1, hi170_1, hl170_5, hi170_5, hl170_6, hi170_6, hl170_7, hi170_7, hl170_8, hi170_8, hl170_9, hi170_9⟩ := at_T94 HR0.out x5_2 p170 q170
     obtain rfl : ad166 = ad170 := (by injection e170)
     replace hx170_0 := (HB.out.cell (World.block_lt_of_cell? w _ hx170_0)).trans hx170_0
     replace hx170_1 := (HB.out.cell (World.block_lt_of_cell? w _ hx170_1)).trans hx170_1
     replace hx170_2 := (HB.out.cell (World.block_lt_of_cell? w _ hx170_2)).trans hx170_2
     replace hx170_3 := (HB.out.cell (World.block_lt_of_cell? w _ hx170_3)).trans hx170_3
     replace hx170_4 := (HB.out.cell (World.block_lt_of_cell? w _ hx170_4)).trans hx170_4
     replace hx170_5 := (HB.out.cell (World.block_lt_of_cell? w _ hx170_5)).trans hx170_5
     replace hx170_6 := (HB.out.cell (World.block_lt_of_cell? w _ hx170_6)).trans hx170_6
     replace hx170_7 := (HB.out.cell (World.block_lt_of_cell? w _ hx170_7)).trans hx170_7
     replace hx170_8 := (HB.out.cell (World.block_lt_of_cell? w _ hx170_8)).trans hx170_8
     replace hx170_9 := (HB.out.cell (World.block_lt_of_cell? w _ hx170_9)).trans hx170_9
     have HR170_1 := Aside0.mk hi170_1
     have HC170_1 := Aside0.mk hl170_1
     clear hi170_1 hl170_1
     have HR170_5 := Aside0.mk hi170_5
     have HC170_5 := Aside0.mk hl170_5
     clear hi170_5 hl170_5
     have HR170_6 := Aside0.mk hi170_6
     have HC170_6 := Aside0.mk hl170_6
     clear hi170_6 hl170_6
     have HR170_7 := Aside0.mk hi170_7
     have HC170_7 := Aside0.mk hl170_7
     clear hi170_7 hl170_7
     have HR170_8 := Aside0.mk hi170_8
     have HC170_8 := Aside0.mk hl170_8
     clear hi170_8 hl170_8
     have HR170_9 := Aside0.mk hi170_9
     have HC170_9 := Aside0.mk hl170_9
     clear hi170_9 hl170_9
     replace p170 := eq_true p170
     replace q170 := eq_true q170
     have ea_ := Option.some.inj (hx168_1.symm.trans hx170_1)
     injection ea_ with ea_ en_ ec_
     subst ea_
     subst ec_
     clear en_
     have ea_ := Option.some.inj (hx168_5.symm.trans hx170_5)
     injection ea_ with ea_ en_ ec_
     subst ea_
     subst ec_
     clear en_
     have ea_ := Option.some.inj (hx168_6.symm.trans hx170_6)
     injection ea_ with ea_ en_ ec_
     subst ea_
     subst ec_
     clear en_
     have ea_ := Option.some.inj (hx168_7.symm.trans hx170_7)
     injection ea_ with ea_ en_ ec_
     subst ea_
     subst ec_
     clear en_
     have ea_ := Option.some.inj (hx168_8.symm.trans hx170_8)
     injection ea_ with ea_ en_ ec_
     subst ea_
     subst ec_
     clear en_
     have ea_ := Option.some.inj (hx168_9.symm.trans hx170_9)
     injection ea_ with ea_ en_ ec_
     subst ea_
     subst ec_
     clear en_
     have hcv18d := fun (a_ : Nat) => Kd.C_string (P := Try.prog) (A := A168_1) (c := c168_1) Try.underlying22 Try.underlying5 Try.underlying9 (Kd.C_drewN (Kd.C_below HR170_1.out HB.out) a_)
     have hcv18 := Kd.C_string (P := Try.prog) (A := A168_1) (c := c168_1) Try.underlying22 Try.underlying5 Try.underlying9 (Kd.C_below HR170_1.out HB.out)
     have p171 : 0 ≤ (x4_1 : Int) := of_decide_eq_true (by first | (with_reducible assumption) | assumption)
     have q171 : x4_1 < (l0.length : Int) := of_decide_eq_true (by first | (with_reducible assumption) | assumption)
     obtain ⟨ad171, A171_1, c171_1, A171_5, c171_5, A171_6, c171_6, A171_7, c171_7, A171_8, c171_8, A171_9, c171_9, e171, hx171_0, hx171_1, hx171_2, hx171_3, hx171_4, hx171_5, hx171_6, hx171_7, hx171_8, hx171_9, hl171_1, hi171_1, hl171_5, hi171_5, hl171_6, hi171_6, hl171_7, hi171_7, hl171_8, hi171_8, hl171_9, hi171_9⟩ := at_T94 HR0.out x4_1 p171 q171
     obtain rfl : ad166 = ad171 := (by injection e171)
     replace hx171_0 := (HB.out.cell (World.block_lt_of_cell? w _ hx171_0)).trans hx171_0
     replace hx171_1 := (HB.out.cell (World.block_lt_of_cell? w _ hx171_1)).trans hx171_1
     replace hx171_2 := (HB.out.cell (World.block_lt_of_cell? w _ hx171_2)).trans hx171_2
     replace hx171_3 := (HB.out.cell (World.block_lt_of_cell? w _ hx171_3)).trans hx171_3
     replace hx171_4 := (HB.out.cell (World.block_lt_of_cell? w _ hx171_4)).trans hx171_4
     replace hx171_5 := (HB.out.cell (World.block_lt_of_cell? w _ hx171_5)).trans hx171_5
     replace hx171_6 := (HB.out.cell (World.block_lt_of_cell? w _ hx171_6)).trans hx171_6
     replace hx171_7 := (HB.out.cell (World.block_lt_of_cell? w _ hx171_7)).trans hx171_7
     replace hx171_8 := (HB.out.cell (World.block_lt_of_cell? w _ hx171_8)).trans hx171_8
     replace hx171_9 := (HB.out.cell (World.block_lt_of_cell? w _ hx171_9)).trans hx171_9
     have HR171_1 := Aside0.mk hi171_1
     have HC171_1 := Aside0.mk hl171_1
     clear hi171_1 hl171_1
     have HR171_5 := Aside0.mk hi171_5
     have HC171_5 := Aside0.mk hl171_5
     clear hi171_5 hl171_5
     have HR171_6 := Aside0.mk hi171_6
     have HC171_6 := Aside0.mk hl171_6
     clear hi171_6 hl171_6
     have HR171_7 := Aside0.mk hi171_7
     have HC171_7 := Aside0.mk hl171_7
     clear hi171_7 hl171_7
     have HR171_8 := Aside0.mk hi171_8
     have HC171_8 := Aside0.mk hl171_8
     clear hi171_8 hl171_8
     have HR171_9 := Aside0.mk hi171_9
     have HC171_9 := Aside0.mk hl171_9
     clear hi171_9 hl171_9
     replace p171 := eq_true p171
     replace q171 := eq_true q171
     have ea_ := Option.some.inj (hx169_1.symm.trans hx171_1)
     injection ea_ with ea_ en_ ec_
     subst ea_
     subst ec_
     clear en_
     have ea_ := Option.some.inj (hx169_5.symm.trans hx171_5)
     injection ea_ with ea_ en_ ec_
     subst ea_
     subst ec_
     clear en_
     have ea_ := Option.some.inj (hx169_6.symm.trans hx171_6)
     injection ea_ with ea_ en_ ec_
     subst ea_
     subst ec_
     clear en_
     have ea_ := Option.some.inj (hx169_7.symm.trans hx171_7)
     injection ea_ with ea_ en_ ec_
     subst ea_
     subst ec_
     clear en_
     have ea_ := Option.some.inj (hx169_8.symm.trans hx171_8)
     injection ea_ with ea_ en_ ec_
     subst ea_
     subst ec_
     clear en_
     have ea_ := Option.some.inj (hx169_9.symm.trans hx171_9)
     injection ea_ with ea_ en_ ec_
     subst ea_
     subst ec_
     clear en_
     have hcv19d := fun (a_ : Nat) => Kd.C_string (P := Try.prog) (A := A169_1) (c := c169_1) Try.underlying22 Try.underlying5 Try.underlying9 (Kd.C_drewN (Kd.C_below HR171_1.out HB.out) a_)
     have hcv19 := Kd.C_string (P := Try.prog) (A := A169_1) (c := c169_1) Try.underlying22 Try.underlying5 Try.underlying9 (Kd.C_below HR171_1.out HB.out)
     go_wp2
     repeat (go_quiet (fail); try go_wp2)
     go_roundg k2
     case measure => have := HK1.out; have := HK2.out; omega
     case rel => exact ⟨(wrap64 (x5_2 + 1)), (by first | rfl | (simp; done) | (simp [*]; done)), H', ⟨by have := HK1.out; have := HK2.out; omega⟩, ⟨bw⟩⟩

end Go.Proofs.Ytockllljeeakaaa.PFnExactConfigOk
