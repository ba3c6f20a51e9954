/- What the law reaches: each function as a plain Lean function, and that each call comes to it. No condition. -/
import Derived.Test.YtenpjddjmhjdoaaPFnExactAtx0
import Derived.Test.YtenpjddjmhjdoaaPFnExactAtx1
import Derived.Test.YtenpjddjmhjdoaaPFnExactAtx3
namespace Go.Proofs.Ytenpjddjmhjdoaa.PFnExactAt
open Go.RowKit Go.Proofs.YtenpjddjmhjdoaaW.PrintWords Go.Proofs.YtenpjddjmhjdoaaW.PrintLast Go.Proofs.YtenpjddjmhjdoaaW.PrintMore Go.Proofs.Ytenpjddjmhjdoaa.M
attribute [local go_sem] max2_int min2_int max_two min_two max_three min_three max_four min_four Go.Proofs.Ytenpjddjmhjdoaa.M.str_gtr Go.Proofs.Ytenpjddjmhjdoaa.M.str_leq Go.Proofs.Ytenpjddjmhjdoaa.M.str_geq   -- for this text's walks alone
set_option linter.unusedVariables false
set_option linter.unusedSimpArgs false

/-! ### laws_heldByteSS: function 65 -/
def laws_heldByteSS.l0 : Nat → List (List Int) → Int → Int → Option (Int)
 | 0, _, _, _ => none
 | k + 1, x0, x1, x5 => if x5 < (x0.length : Int) then (if 0 ≤ x5 then ((laws_heldByteS.f k (rd_L1 x0 x5) x1).bind fun t226 => (if t226 < 0 then (some (-1)) else (laws_heldByteSS.l0 k x0 t226 (wrap64 (x5 + 1))))) else (none)) else (some x1)
def laws_heldByteSS.f (k : Nat) (l0 : List (List Int)) (a1 : Int) : Option (Int) := laws_heldByteSS.l0 k l0 a1 0
set_option maxHeartbeats 8000000 in
set_option maxRecDepth 100000 in
theorem laws_heldByteSS.calls (k : Nat) (A0 : Option Addr) (c0 : Nat) (l0 : List (List Int)) (a1 : Int) (r : Int) (w : World) (hr0 : Kd.C (Kd.slice 5 (Kd.int .u8)) w A0 l0.length l0) (hc0 : l0.length ≤ c0) (h : laws_heldByteSS.f k l0 a1 = some r) :
  Calls Try.prog 65 #[.slice A0 l0.length c0, .int .i64 a1] w fun e w' => e = .returned (.int .i64 r) ∧ Drawn0 w w' := by
 have HR0 := Aside0.mk hr0; have HC0 := Aside0.mk hc0; clear hr0 hc0; have H : (laws_heldByteSS.l0 k l0 a1 0) = some r := h; clear h; have H' := Aside0.mk H; clear H
 go_enter Try.func65, Try.ntmps65
 go_wp2
 go_loopg [1, 5] k (fun kq v1 v5 w' => ∃ (x1_1 : Int) (x5_1 : Int), v1 = .int .i64 x1_1 ∧ v5 = .int .i64 x5_1 ∧ Aside0 (laws_heldByteSS.l0 kq l0 x1_1 x5_1 = some r) ∧ Aside0 (kq ≤ k) ∧ Drawn0 w w')
 case atStart => exact ⟨(a1), (0), rfl, rfl, H', ⟨Nat.le_refl _⟩, by repeat (first | exact Drawn0.refl _ | apply Drawn0.step)⟩
 case round =>
  clear H'; obtain ⟨x1_1, x5_1, rfl, rfl, HA, HK1, ⟨m1, rfl⟩⟩ := hrel
  cases gk with
  | zero => exact absurd HA.out (by simp [laws_heldByteSS.l0])
  | succ k1 =>
   have H := HA.out; clear HA
   simp only [laws_heldByteSS.l0] at H
   by_cases c3 : x5_1 < (l0.length : Int)
   ·rw [if_pos c3] at H
    have c3b0 : decide (x5_1 < (l0.length : Int)) = true := decide_eq_true c3; clear c3
    by_cases c4 : 0 ≤ x5_1
    ·rw [if_pos c4] at H
     have c4b0 : decide (0 ≤ x5_1) = true := decide_eq_true c4; clear c4; replace H := Option.bind_eq_some_iff.mp H; obtain ⟨t226, A50, H⟩ := H
     replace H : (if t226 < 0 then (some (-1)) else (laws_heldByteSS.l0 k1 l0 t226 (wrap64 (x5_1 + 1)))) = some r := H
     have A5 := Aside0.mk A50; clear A50
     by_cases c6 : t226 < 0
     ·rw [if_pos c6] at H
      have c6b0 : decide (t226 < 0) = true := decide_eq_true c6; clear c6; obtain rfl := Option.some.inj H
      have p225 : 0 ≤ (x5_1 : Int) := of_decide_eq_true (by first | (with_reducible assumption) | assumption)
      have q225 : x5_1 < (l0.length : Int) := of_decide_eq_true (by first | (with_reducible assumption) | assumption)
      obtain ⟨ad225, A225_0, c225_0, e225, hx225_0, hl225_0, hi225_0⟩ := at_L1 HR0.out x5_1 p225 q225; cases e225; have HR225_0 := Aside0.mk hi225_0; have HC225_0 := Aside0.mk hl225_0; clear hi225_0 hl225_0; replace p225 := eq_true p225; replace q225 := eq_true q225
      go_wp2_with (first | ((with_reducible refine gg (f := 64) (some 17) rfl rfl rfl fr64 ?_); refine onc (laws_heldByteS.calls k1 _ _ (rd_L1 l0 x5_1) x1_1 t226 _ (cb HR225_0) HC225_0.out A5.out) rfl ?_; rintro e w' ⟨rfl, ⟨nd, rfl⟩⟩; refine ⟨_, rfl, ?_⟩))
      go_ret
      exact ⟨by first | rfl | (simp; done) | (simp [*]; done), by repeat (first | exact Drawn0.refl _ | apply Drawn0.step)⟩
     ·rw [if_neg c6] at H
      have c6b0 : decide (t226 < 0) = false := decide_eq_false c6; clear c6; have H' := Aside0.mk H; clear H
      have p225 : 0 ≤ (x5_1 : Int) := of_decide_eq_true (by first | (with_reducible assumption) | assumption)
      have q225 : x5_1 < (l0.length : Int) := of_decide_eq_true (by first | (with_reducible assumption) | assumption)
      obtain ⟨ad225, A225_0, c225_0, e225, hx225_0, hl225_0, hi225_0⟩ := at_L1 HR0.out x5_1 p225 q225; cases e225; have HR225_0 := Aside0.mk hi225_0; have HC225_0 := Aside0.mk hl225_0; clear hi225_0 hl225_0; replace p225 := eq_true p225; replace q225 := eq_true q225
      go_wp2_with (first | ((with_reducible refine gg (f := 64) (some 17) rfl rfl rfl fr64 ?_); refine onc (laws_heldByteS.calls k1 _ _ (rd_L1 l0 x5_1) x1_1 t226 _ (cb HR225_0) HC225_0.out A5.out) rfl ?_; rintro e w' ⟨rfl, ⟨nd, rfl⟩⟩; refine ⟨_, rfl, ?_⟩))
      go_roundg k1
      case measure => have := HK1.out; omega
      case rel => exact ⟨(t226), (wrap64 (x5_1 + 1)), rfl, rfl, H', ⟨by have := HK1.out; omega⟩, by repeat (first | exact Drawn0.refl _ | apply Drawn0.step)⟩
    ·rw [if_neg c4] at H
     exact absurd H (by simp)
   ·rw [if_neg c3] at H
    have c3b0 : decide (x5_1 < (l0.length : Int)) = false := decide_eq_false c3; clear c3; obtain rfl := Option.some.inj H; go_wp2; go_ret
    exact ⟨by first | rfl | (simp; done) | (simp [*]; done), by repeat (first | exact Drawn0.refl _ | apply Drawn0.step)⟩

/-! ### laws_heldValueS: function 66 -/
mutual
def laws_heldValueS.l0 : Nat → List (S30) → Int → Int → Option (Int)
 | 0, _, _, _ => none
 | k + 1, x0, x1, x5 => if x5 < (x0.length : Int) then (if 0 ≤ x5 then (if ((rd_T30 x0 x5).f0) = x1 then (if ((rd_T30 x0 x5).f1) = (wrap64 (x1 + 1)) then ((laws_heldByteS.f k ((rd_T30 x0 x5).f2) (wrap64 ((wrap64 (x1 + 1)) + 1))).bind fun t230 => (if t230 < 0 then (some (-1)) else ((laws_heldByteSS.f k ((rd_T30 x0 x5).f3) t230).bind fun t232 => (if t232 < 0 then (some (-1)) else ((laws_heldValueS.f k ((rd_T30 x0 x5).f4) t232).bind fun t234 => (if t234 < 0 then (some (-1)) else (laws_heldValueS.l0 k x0 t234 (wrap64 (x5 + 1))))))))) else (some (-1))) else (some (-1))) else (none)) else (some x1)
def laws_heldValueS.f : Nat → List (S30) → Int → Option (Int)
 | 0, _, _ => none
 | k + 1, l0, a1 => laws_heldValueS.l0 k l0 a1 0
end
set_option maxHeartbeats 8000000 in
set_option maxRecDepth 100000 in
theorem laws_heldValueS.calls (k : Nat) : ∀ (A0 : Option Addr) (c0 : Nat) (l0 : List (S30)) (a1 : Int) (r : Int) (w : World) (hr0 : Kd.C k30 w A0 l0.length l0) (hc0 : l0.length ≤ c0) (h : laws_heldValueS.f k l0 a1 = some r),
  Calls Try.prog 66 #[.slice A0 l0.length c0, .int .i64 a1] w fun e w' => e = .returned (.int .i64 r) ∧ Drawn0 w w' := by
 induction k using Nat.strongRecOn with
 | _ k ih =>
 intro A0 c0 l0 a1 r w hr0 hc0 h
 cases k with
 | zero => exact absurd h (by simp [laws_heldValueS.f])
 | succ k =>
 simp only [laws_heldValueS.f] at h
 have HR0 := Aside0.mk hr0; have HC0 := Aside0.mk hc0; clear hr0 hc0; have H : (laws_heldValueS.l0 k l0 a1 0) = some r := h; clear h; have H' := Aside0.mk H; clear H
 go_enter Try.func66, Try.ntmps66
 go_wp2
 go_loopg [1, 5] k (fun kq v1 v5 w' => ∃ (x1_1 : Int) (x5_1 : Int), v1 = .int .i64 x1_1 ∧ v5 = .int .i64 x5_1 ∧ Aside0 (laws_heldValueS.l0 kq l0 x1_1 x5_1 = some r) ∧ Aside0 (kq ≤ k) ∧ Drawn0 w w')
 case atStart => exact ⟨(a1), (0), rfl, rfl, H', ⟨Nat.le_refl _⟩, by repeat (first | exact Drawn0.refl _ | apply Drawn0.step)⟩
 case round =>
  clear H'; obtain ⟨x1_1, x5_1, rfl, rfl, HA, HK1, ⟨m1, rfl⟩⟩ := hrel
  cases gk with
  | zero => exact absurd HA.out (by simp [laws_heldValueS.l0])
  | succ k1 =>
   have H := HA.out; clear HA
   simp only [laws_heldValueS.l0] at H
   by_cases c3 : x5_1 < (l0.length : Int)
   ·rw [if_pos c3] at H
    have c3b0 : decide (x5_1 < (l0.length : Int)) = true := decide_eq_true c3; clear c3
    by_cases c4 : 0 ≤ x5_1
    ·rw [if_pos c4] at H
     have c4b0 : decide (0 ≤ x5_1) = true := decide_eq_true c4; clear c4
     by_cases c5 : ((rd_T30 l0 x5_1).f0) = x1_1
     ·rw [if_pos c5] at H
      have c5b0 : (((rd_T30 l0 x5_1).f0) == x1_1) = true := beq_iff_eq.mpr c5; have c5b1 : (((rd_T30 l0 x5_1).f0) != x1_1) = false := bne_eq_false_iff_eq.mpr c5; clear c5
      by_cases c6 : ((rd_T30 l0 x5_1).f1) = (wrap64 (x1_1 + 1))
      ·rw [if_pos c6] at H
       have c6b0 : (((rd_T30 l0 x5_1).f1) == (wrap64 (x1_1 + 1))) = true := beq_iff_eq.mpr c6; have c6b1 : (((rd_T30 l0 x5_1).f1) != (wrap64 (x1_1 + 1))) = false := bne_eq_false_iff_eq.mpr c6; clear c6; replace H := Option.bind_eq_some_iff.mp H; obtain ⟨t230, A70, H⟩ := H
       replace H : (if t230 < 0 then (some (-1)) else ((laws_heldByteSS.f k1 ((rd_T30 l0 x5_1).f3) t230).bind fun t232 => (if t232 < 0 then (some (-1)) else ((laws_heldValueS.f k1 ((rd_T30 l0 x5_1).f4) t232).bind fun t234 => (if t234 < 0 then (some (-1)) else (laws_heldValueS.l0 k1 l0 t234 (wrap64 (x5_1 + 1)))))))) = some r := H
       have A7 := Aside0.mk A70; clear A70
       by_cases c8 : t230 < 0
       ·rw [if_pos c8] at H
        have c8b0 : decide (t230 < 0) = true := decide_eq_true c8; clear c8; obtain rfl := Option.some.inj H
        have p227 : 0 ≤ (x5_1 : Int) := of_decide_eq_true (by first | (with_reducible assumption) | assumption)
        have q227 : x5_1 < (l0.length : Int) := of_decide_eq_true (by first | (with_reducible assumption) | assumption)
        obtain ⟨ad227, A227_2, c227_2, A227_3, c227_3, A227_4, c227_4, e227, hx227_0, hx227_1, hx227_2, hx227_3, hx227_4, hl227_2, hi227_2, hl227_3, hi227_3, hl227_4, hi227_4⟩ := at_T30 HR0.out x5_1 p227 q227; cases e227; have HR227_2 := Aside0.mk hi227_2; have HC227_2 := Aside0.mk hl227_2; clear hi227_2 hl227_2; have HR227_3 := Aside0.mk hi227_3; have HC227_3 := Aside0.mk hl227_3; clear hi227_3 hl227_3; have HR227_4 := Aside0.mk hi227_4; have HC227_4 := Aside0.mk hl227_4; clear hi227_4 hl227_4; replace p227 := eq_true p227; replace q227 := eq_true q227
        have p228 : 0 ≤ (x5_1 : Int) := of_decide_eq_true (by first | (with_reducible assumption) | assumption)
        have q228 : x5_1 < (l0.length : Int) := of_decide_eq_true (by first | (with_reducible assumption) | assumption)
        obtain ⟨ad228, A228_2, c228_2, A228_3, c228_3, A228_4, c228_4, e228, hx228_0, hx228_1, hx228_2, hx228_3, hx228_4, hl228_2, hi228_2, hl228_3, hi228_3, hl228_4, hi228_4⟩ := at_T30 HR0.out x5_1 p228 q228
        obtain rfl : ad227 = ad228 := (by injection e228)
        have HR228_2 := Aside0.mk hi228_2; have HC228_2 := Aside0.mk hl228_2; clear hi228_2 hl228_2; have HR228_3 := Aside0.mk hi228_3; have HC228_3 := Aside0.mk hl228_3; clear hi228_3 hl228_3; have HR228_4 := Aside0.mk hi228_4; have HC228_4 := Aside0.mk hl228_4; clear hi228_4 hl228_4; replace p228 := eq_true p228; replace q228 := eq_true q228; have ea_ := Option.some.inj (hx227_2.symm.trans hx228_2)
        injection ea_ with ea_ en_ ec_
        subst ea_; subst ec_; clear en_; have ea_ := Option.some.inj (hx227_3.symm.trans hx228_3)
        injection ea_ with ea_ en_ ec_
        subst ea_; subst ec_; clear en_; have ea_ := Option.some.inj (hx227_4.symm.trans hx228_4)
        injection ea_ with ea_ en_ ec_
        subst ea_; subst ec_; clear en_
        have p229 : 0 ≤ (x5_1 : Int) := of_decide_eq_true (by first | (with_reducible assumption) | assumption)
        have q229 : x5_1 < (l0.length : Int) := of_decide_eq_true (by first | (with_reducible assumption) | assumption)
        obtain ⟨ad229, A229_2, c229_2, A229_3, c229_3, A229_4, c229_4, e229, hx229_0, hx229_1, hx229_2, hx229_3, hx229_4, hl229_2, hi229_2, hl229_3, hi229_3, hl229_4, hi229_4⟩ := at_T30 HR0.out x5_1 p229 q229
        obtain rfl : ad227 = ad229 := (by injection e229)
        have HR229_2 := Aside0.mk hi229_2; have HC229_2 := Aside0.mk hl229_2; clear hi229_2 hl229_2; have HR229_3 := Aside0.mk hi229_3; have HC229_3 := Aside0.mk hl229_3; clear hi229_3 hl229_3; have HR229_4 := Aside0.mk hi229_4; have HC229_4 := Aside0.mk hl229_4; clear hi229_4 hl229_4; replace p229 := eq_true p229; replace q229 := eq_true q229; have ea_ := Option.some.inj (hx227_2.symm.trans hx229_2)
        injection ea_ with ea_ en_ ec_
        subst ea_; subst ec_; clear en_; have ea_ := Option.some.inj (hx227_3.symm.trans hx229_3)
        injection ea_ with ea_ en_ ec_
        subst ea_; subst ec_; clear en_; have ea_ := Option.some.inj (hx227_4.symm.trans hx229_4)
        injection ea_ with ea_ en_ ec_
        subst ea_; subst ec_; clear en_
        go_wp2_with (first | ((with_reducible refine gg (f := 64) (some 36) rfl rfl rfl fr64 ?_); refine onc (laws_heldByteS.calls k1 _ _ ((rd_T30 l0 x5_1).f2) (wrap64 ((wrap64 (x1_1 + 1)) + 1)) t230 _ (cb HR229_2) HC229_2.out A7.out) rfl ?_; rintro e w' ⟨rfl, ⟨nd, rfl⟩⟩; refine ⟨_, rfl, ?_⟩))
        go_ret
        exact ⟨by first | rfl | (simp; done) | (simp [*]; done), by repeat (first | exact Drawn0.refl _ | apply Drawn0.step)⟩
       ·rw [if_neg c8] at H
        have c8b0 : decide (t230 < 0) = false := decide_eq_false c8; clear c8; replace H := Option.bind_eq_some_iff.mp H; obtain ⟨t232, A90, H⟩ := H
        replace H : (if t232 < 0 then (some (-1)) else ((laws_heldValueS.f k1 ((rd_T30 l0 x5_1).f4) t232).bind fun t234 => (if t234 < 0 then (some (-1)) else (laws_heldValueS.l0 k1 l0 t234 (wrap64 (x5_1 + 1)))))) = some r := H
        have A9 := Aside0.mk A90; clear A90
        by_cases c10 : t232 < 0
        ·rw [if_pos c10] at H
         have c10b0 : decide (t232 < 0) = true := decide_eq_true c10; clear c10; obtain rfl := Option.some.inj H
         have p227 : 0 ≤ (x5_1 : Int) := of_decide_eq_true (by first | (with_reducible assumption) | assumption)
         have q227 : x5_1 < (l0.length : Int) := of_decide_eq_true (by first | (with_reducible assumption) | assumption)
         obtain ⟨ad227, A227_2, c227_2, A227_3, c227_3, A227_4, c227_4, e227, hx227_0, hx227_1, hx227_2, hx227_3, hx227_4, hl227_2, hi227_2, hl227_3, hi227_3, hl227_4, hi227_4⟩ := at_T30 HR0.out x5_1 p227 q227; cases e227; have HR227_2 := Aside0.mk hi227_2; have HC227_2 := Aside0.mk hl227_2; clear hi227_2 hl227_2; have HR227_3 := Aside0.mk hi227_3; have HC227_3 := Aside0.mk hl227_3; clear hi227_3 hl227_3; have HR227_4 := Aside0.mk hi227_4; have HC227_4 := Aside0.mk hl227_4; clear hi227_4 hl227_4; replace p227 := eq_true p227; replace q227 := eq_true q227
         have p228 : 0 ≤ (x5_1 : Int) := of_decide_eq_true (by first | (with_reducible assumption) | assumption)
         have q228 : x5_1 < (l0.length : Int) := of_decide_eq_true (by first | (with_reducible assumption) | assumption)
         obtain ⟨ad228, A228_2, c228_2, A228_3, c228_3, A228_4, c228_4, e228, hx228_0, hx228_1, hx228_2, hx228_3, hx228_4, hl228_2, hi228_2, hl228_3, hi228_3, hl228_4, hi228_4⟩ := at_T30 HR0.out x5_1 p228 q228
         obtain rfl : ad227 = ad228 := (by injection e228)
         have HR228_2 := Aside0.mk hi228_2; have HC228_2 := Aside0.mk hl228_2; clear hi228_2 hl228_2; have HR228_3 := Aside0.mk hi228_3; have HC228_3 := Aside0.mk hl228_3; clear hi228_3 hl228_3; have HR228_4 := Aside0.mk hi228_4; have HC228_4 := Aside0.mk hl228_4; clear hi228_4 hl228_4; replace p228 := eq_true p228; replace q228 := eq_true q228; have ea_ := Option.some.inj (hx227_2.symm.trans hx228_2)
         injection ea_ with ea_ en_ ec_
         subst ea_; subst ec_; clear en_; have ea_ := Option.some.inj (hx227_3.symm.trans hx228_3)
         injection ea_ with ea_ en_ ec_
         subst ea_; subst ec_; clear en_; have ea_ := Option.some.inj (hx227_4.symm.trans hx228_4)
         injection ea_ with ea_ en_ ec_
         subst ea_; subst ec_; clear en_
         have p229 : 0 ≤ (x5_1 : Int) := of_decide_eq_true (by first | (with_reducible assumption) | assumption)
         have q229 : x5_1 < (l0.length : Int) := of_decide_eq_true (by first | (with_reducible assumption) | assumption)
         obtain ⟨ad229, A229_2, c229_2, A229_3, c229_3, A229_4, c229_4, e229, hx229_0, hx229_1, hx229_2, hx229_3, hx229_4, hl229_2, hi229_2, hl229_3, hi229_3, hl229_4, hi229_4⟩ := at_T30 HR0.out x5_1 p229 q229
         obtain rfl : ad227 = ad229 := (by injection e229)
         have HR229_2 := Aside0.mk hi229_2; have HC229_2 := Aside0.mk hl229_2; clear hi229_2 hl229_2; have HR229_3 := Aside0.mk hi229_3; have HC229_3 := Aside0.mk hl229_3; clear hi229_3 hl229_3; have HR229_4 := Aside0.mk hi229_4; have HC229_4 := Aside0.mk hl229_4; clear hi229_4 hl229_4; replace p229 := eq_true p229; replace q229 := eq_true q229; have ea_ := Option.some.inj (hx227_2.symm.trans hx229_2)
         injection ea_ with ea_ en_ ec_
         subst ea_; subst ec_; clear en_; have ea_ := Option.some.inj (hx227_3.symm.trans hx229_3)
         injection ea_ with ea_ en_ ec_
         subst ea_; subst ec_; clear en_; have ea_ := Option.some.inj (hx227_4.symm.trans hx229_4)
         injection ea_ with ea_ en_ ec_
         subst ea_; subst ec_; clear en_
         go_wp2_with (first | ((with_reducible refine gg (f := 64) (some 36) rfl rfl rfl fr64 ?_); refine onc (laws_heldByteS.calls k1 _ _ ((rd_T30 l0 x5_1).f2) (wrap64 ((wrap64 (x1_1 + 1)) + 1)) t230 _ (cb HR229_2) HC229_2.out A7.out) rfl ?_; rintro e w' ⟨rfl, ⟨nd, rfl⟩⟩; refine ⟨_, rfl, ?_⟩; have p231 : 0 ≤ (x5_1 : Int) := of_decide_eq_true (by first | (with_reducible assumption) | assumption); have q231 : x5_1 < (l0.length : Int) := of_decide_eq_true (by first | (with_reducible assumption) | assumption); obtain ⟨ad231, A231_2, c231_2, A231_3, c231_3, A231_4, c231_4, e231, hx231_0, hx231_1, hx231_2, hx231_3, hx231_4, hl231_2, hi231_2, hl231_3, hi231_3, hl231_4, hi231_4⟩ := at_T30 HR0.out x5_1 p231 q231; obtain rfl : ad227 = ad231 := (by injection e231); have HR231_2 := Aside0.mk hi231_2; have HC231_2 := Aside0.mk hl231_2; clear hi231_2 hl231_2; have HR231_3 := Aside0.mk hi231_3; have HC231_3 := Aside0.mk hl231_3; clear hi231_3 hl231_3; have HR231_4 := Aside0.mk hi231_4; have HC231_4 := Aside0.mk hl231_4; clear hi231_4 hl231_4; replace p231 := eq_true p231; replace q231 := eq_true q231; have ea_ := Option.some.inj (hx227_2.symm.trans hx231_2); injection ea_ with ea_ en_ ec_; subst ea_; subst ec_; clear en_; have ea_ := Option.some.inj (hx227_3.symm.trans hx231_3); injection ea_ with ea_ en_ ec_; subst ea_; subst ec_; clear en_; have ea_ := Option.some.inj (hx227_4.symm.trans hx231_4); injection ea_ with ea_ en_ ec_; subst ea_; subst ec_; clear en_) | ((with_reducible refine gg (f := 65) (some 45) rfl rfl rfl fr65 ?_); refine onc (laws_heldByteSS.calls k1 _ _ ((rd_T30 l0 x5_1).f3) t230 t232 _ (cb HR231_3) HC231_3.out A9.out) rfl ?_; rintro e w' ⟨rfl, ⟨nd, rfl⟩⟩; refine ⟨_, rfl, ?_⟩))
         go_ret
         exact ⟨by first | rfl | (simp; done) | (simp [*]; done), by repeat (first | exact Drawn0.refl _ | apply Drawn0.step)⟩
        ·rw [if_neg c10] at H
         have c10b0 : decide (t232 < 0) = false := decide_eq_false c10; clear c10; replace H := Option.bind_eq_some_iff.mp H; obtain ⟨t234, A110, H⟩ := H
         replace H : (if t234 < 0 then (some (-1)) else (laws_heldValueS.l0 k1 l0 t234 (wrap64 (x5_1 + 1)))) = some r := H
         have A11 := Aside0.mk A110; clear A110
         by_cases c12 : t234 < 0
         ·rw [if_pos c12] at H
          have c12b0 : decide (t234 < 0) = true := decide_eq_true c12; clear c12; obtain rfl := Option.some.inj H
          have p227 : 0 ≤ (x5_1 : Int) := of_decide_eq_true (by first | (with_reducible assumption) | assumption)
          have q227 : x5_1 < (l0.length : Int) := of_decide_eq_true (by first | (with_reducible assumption) | assumption)
          obtain ⟨ad227, A227_2, c227_2, A227_3, c227_3, A227_4, c227_4, e227, hx227_0, hx227_1, hx227_2, hx227_3, hx227_4, hl227_2, hi227_2, hl227_3, hi227_3, hl227_4, hi227_4⟩ := at_T30 HR0.out x5_1 p227 q227; cases e227; have HR227_2 := Aside0.mk hi227_2; have HC227_2 := Aside0.mk hl227_2; clear hi227_2 hl227_2; have HR227_3 := Aside0.mk hi227_3; have HC227_3 := Aside0.mk hl227_3; clear hi227_3 hl227_3; have HR227_4 := Aside0.mk hi227_4; have HC227_4 := Aside0.mk hl227_4; clear hi227_4 hl227_4; replace p227 := eq_true p227; replace q227 := eq_true q227
          have p228 : 0 ≤ (x5_1 : Int) := of_decide_eq_true (by first | (with_reducible assumption) | assumption)
          have q228 : x5_1 < (l0.length : Int) := of_decide_eq_true (by first | (with_reducible assumption) | assumption)
          obtain ⟨ad228, A228_2, c228_2, A228_3, c228_3, A228_4, c228_4, e228, hx228_0, hx228_1, hx228_2, hx228_3, hx228_4, hl228_2, hi228_2, hl228_3, hi228_3, hl228_4, hi228_4⟩ := at_T30 HR0.out x5_1 p228 q228
          obtain rfl : ad227 = ad228 := (by injection e228)
          have HR228_2 := Aside0.mk hi228_2; have HC228_2 := Aside0.mk hl228_2; clear hi228_2 hl228_2; have HR228_3 := Aside0.mk hi228_3; have HC228_3 := Aside0.mk hl228_3; clear hi228_3 hl228_3; have HR228_4 := Aside0.mk hi228_4; have HC228_4 := Aside0.mk hl228_4; clear hi228_4 hl228_4; replace p228 := eq_true p228; replace q228 := eq_true q228; have ea_ := Option.some.inj (hx227_2.symm.trans hx228_2)
          injection ea_ with ea_ en_ ec_
          subst ea_; subst ec_; clear en_; have ea_ := Option.some.inj (hx227_3.symm.trans hx228_3)
          injection ea_ with ea_ en_ ec_
          subst ea_; subst ec_; clear en_; have ea_ := Option.some.inj (hx227_4.symm.trans hx228_4)
          injection ea_ with ea_ en_ ec_
          subst ea_; subst ec_; clear en_
          have p229 : 0 ≤ (x5_1 : Int) := of_decide_eq_true (by first | (with_reducible assumption) | assumption)
          have q229 : x5_1 < (l0.length : Int) := of_decide_eq_true (by first | (with_reducible assumption) | assumption)
          obtain ⟨ad229, A229_2, c229_2, A229_3, c229_3, A229_4, c229_4, e229, hx229_0, hx229_1, hx229_2, hx229_3, hx229_4, hl229_2, hi229_2, hl229_3, hi229_3, hl229_4, hi229_4⟩ := at_T30 HR0.out x5_1 p229 q229
          obtain rfl : ad227 = ad229 := (by injection e229)
          have HR229_2 := Aside0.mk hi229_2; have HC229_2 := Aside0.mk hl229_2; clear hi229_2 hl229_2; have HR229_3 := Aside0.mk hi229_3; have HC229_3 := Aside0.mk hl229_3; clear hi229_3 hl229_3; have HR229_4 := Aside0.mk hi229_4; have HC229_4 := Aside0.mk hl229_4; clear hi229_4 hl229_4; replace p229 := eq_true p229; replace q229 := eq_true q229; have ea_ := Option.some.inj (hx227_2.symm.trans hx229_2)
          injection ea_ with ea_ en_ ec_
          subst ea_; subst ec_; clear en_; have ea_ := Option.some.inj (hx227_3.symm.trans hx229_3)
          injection ea_ with ea_ en_ ec_
          subst ea_; subst ec_; clear en_; have ea_ := Option.some.inj (hx227_4.symm.trans hx229_4)
          injection ea_ with ea_ en_ ec_
          subst ea_; subst ec_; clear en_
          go_wp2_with (first | ((with_reducible refine gg (f := 64) (some 36) rfl rfl rfl fr64 ?_); refine onc (laws_heldByteS.calls k1 _ _ ((rd_T30 l0 x5_1).f2) (wrap64 ((wrap64 (x1_1 + 1)) + 1)) t230 _ (cb HR229_2) HC229_2.out A7.out) rfl ?_; rintro e w' ⟨rfl, ⟨nd, rfl⟩⟩; refine ⟨_, rfl, ?_⟩; have p231 : 0 ≤ (x5_1 : Int) := of_decide_eq_true (by first | (with_reducible assumption) | assumption); have q231 : x5_1 < (l0.length : Int) := of_decide_eq_true (by first | (with_reducible assumption) | assumption); obtain ⟨ad231, A231_2, c231_2, A231_3, c231_3, A231_4, c231_4, e231, hx231_0, hx231_1, hx231_2, hx231_3, hx231_4, hl231_2, hi231_2, hl231_3, hi231_3, hl231_4, hi231_4⟩ := at_T30 HR0.out x5_1 p231 q231; obtain rfl : ad227 = ad231 := (by injection e231); have HR231_2 := Aside0.mk hi231_2; have HC231_2 := Aside0.mk hl231_2; clear hi231_2 hl231_2; have HR231_3 := Aside0.mk hi231_3; have HC231_3 := Aside0.mk hl231_3; clear hi231_3 hl231_3; have HR231_4 := Aside0.mk hi231_4; have HC231_4 := Aside0.mk hl231_4; clear hi231_4 hl231_4; replace p231 := eq_true p231; replace q231 := eq_true q231; have ea_ := Option.some.inj (hx227_2.symm.trans hx231_2); injection ea_ with ea_ en_ ec_; subst ea_; subst ec_; clear en_; have ea_ := Option.some.inj (hx227_3.symm.trans hx231_3); injection ea_ with ea_ en_ ec_; subst ea_; subst ec_; clear en_; have ea_ := Option.some.inj (hx227_4.symm.trans hx231_4); injection ea_ with ea_ en_ ec_; subst ea_; subst ec_; clear en_) | ((with_reducible refine gg (f := 65) (some 45) rfl rfl rfl fr65 ?_); refine onc (laws_heldByteSS.calls k1 _ _ ((rd_T30 l0 x5_1).f3) t230 t232 _ (cb HR231_3) HC231_3.out A9.out) rfl ?_; rintro e w' ⟨rfl, ⟨nd, rfl⟩⟩; refine ⟨_, rfl, ?_⟩; have p233 : 0 ≤ (x5_1 : Int) := of_decide_eq_true (by first | (with_reducible assumption) | assumption); have q233 : x5_1 < (l0.length : Int) := of_decide_eq_true (by first | (with_reducible assumption) | assumption); obtain ⟨ad233, A233_2, c233_2, A233_3, c233_3, A233_4, c233_4, e233, hx233_0, hx233_1, hx233_2, hx233_3, hx233_4, hl233_2, hi233_2, hl233_3, hi233_3, hl233_4, hi233_4⟩ := at_T30 HR0.out x5_1 p233 q233; obtain rfl : ad227 = ad233 := (by injection e233); have HR233_2 := Aside0.mk hi233_2; have HC233_2 := Aside0.mk hl233_2; clear hi233_2 hl233_2; have HR233_3 := Aside0.mk hi233_3; have HC233_3 := Aside0.mk hl233_3; clear hi233_3 hl233_3; have HR233_4 := Aside0.mk hi233_4; have HC233_4 := Aside0.mk hl233_4; clear hi233_4 hl233_4; replace p233 := eq_true p233; replace q233 := eq_true q233; have ea_ := Option.some.inj (hx227_2.symm.trans hx233_2); injection ea_ with ea_ en_ ec_; subst ea_; subst ec_; clear en_; have ea_ := Option.some.inj (hx227_3.symm.trans hx233_3); injection ea_ with ea_ en_ ec_; subst ea_; subst ec_; clear en_; have ea_ := Option.some.inj (hx227_4.symm.trans hx233_4); injection ea_ with ea_ en_ ec_; subst ea_; subst ec_; clear en_) | ((with_reducible refine gg (f := 66) (some 54) rfl rfl rfl fr66 ?_); refine onc (ih k1 (by have := HK1.out; omega) _ _ ((rd_T30 l0 x5_1).f4) t232 t234 _ (cb HR233_4) HC233_4.out A11.out) rfl ?_; rintro e w' ⟨rfl, ⟨nd, rfl⟩⟩; refine ⟨_, rfl, ?_⟩))
          go_ret
          exact ⟨by first | rfl | (simp; done) | (simp [*]; done), by repeat (first | exact Drawn0.refl _ | apply Drawn0.step)⟩
         ·rw [if_neg c12] at H
          have c12b0 : decide (t234 < 0) = false := decide_eq_false c12; clear c12; have H' := Aside0.mk H; clear H
          have p227 : 0 ≤ (x5_1 : Int) := of_decide_eq_true (by first | (with_reducible assumption) | assumption)
          have q227 : x5_1 < (l0.length : Int) := of_decide_eq_true (by first | (with_reducible assumption) | assumption)
          obtain ⟨ad227, A227_2, c227_2, A227_3, c227_3, A227_4, c227_4, e227, hx227_0, hx227_1, hx227_2, hx227_3, hx227_4, hl227_2, hi227_2, hl227_3, hi227_3, hl227_4, hi227_4⟩ := at_T30 HR0.out x5_1 p227 q227; cases e227; have HR227_2 := Aside0.mk hi227_2; have HC227_2 := Aside0.mk hl227_2; clear hi227_2 hl227_2; have HR227_3 := Aside0.mk hi227_3; have HC227_3 := Aside0.mk hl227_3; clear hi227_3 hl227_3; have HR227_4 := Aside0.mk hi227_4; have HC227_4 := Aside0.mk hl227_4; clear hi227_4 hl227_4; replace p227 := eq_true p227; replace q227 := eq_true q227
          have p228 : 0 ≤ (x5_1 : Int) := of_decide_eq_true (by first | (with_reducible assumption) | assumption)
          have q228 : x5_1 < (l0.length : Int) := of_decide_eq_true (by first | (with_reducible assumption) | assumption)
          obtain ⟨ad228, A228_2, c228_2, A228_3, c228_3, A228_4, c228_4, e228, hx228_0, hx228_1, hx228_2, hx228_3, hx228_4, hl228_2, hi228_2, hl228_3, hi228_3, hl228_4, hi228_4⟩ := at_T30 HR0.out x5_1 p228 q228
          obtain rfl : ad227 = ad228 := (by injection e228)
          have HR228_2 := Aside0.mk hi228_2; have HC228_2 := Aside0.mk hl228_2; clear hi228_2 hl228_2; have HR228_3 := Aside0.mk hi228_3; have HC228_3 := Aside0.mk hl228_3; clear hi228_3 hl228_3; have HR228_4 := Aside0.mk hi228_4; have HC228_4 := Aside0.mk hl228_4; clear hi228_4 hl228_4; replace p228 := eq_true p228; replace q228 := eq_true q228; have ea_ := Option.some.inj (hx227_2.symm.trans hx228_2)
          injection ea_ with ea_ en_ ec_
          subst ea_; subst ec_; clear en_; have ea_ := Option.some.inj (hx227_3.symm.trans hx228_3)
          injection ea_ with ea_ en_ ec_
          subst ea_; subst ec_; clear en_; have ea_ := Option.some.inj (hx227_4.symm.trans hx228_4)
          injection ea_ with ea_ en_ ec_
          subst ea_; subst ec_; clear en_
          have p229 : 0 ≤ (x5_1 : Int) := of_decide_eq_true (by first | (with_reducible assumption) | assumption)
          have q229 : x5_1 < (l0.length : Int) := of_decide_eq_true (by first | (with_reducible assumption) | assumption)
          obtain ⟨ad229, A229_2, c229_2, A229_3, c229_3, A229_4, c229_4, e229, hx229_0, hx229_1, hx229_2, hx229_3, hx229_4, hl229_2, hi229_2, hl229_3, hi229_3, hl229_4, hi229_4⟩ := at_T30 HR0.out x5_1 p229 q229
          obtain rfl : ad227 = ad229 := (by injection e229)
          have HR229_2 := Aside0.mk hi229_2; have HC229_2 := Aside0.mk hl229_2; clear hi229_2 hl229_2; have HR229_3 := Aside0.mk hi229_3; have HC229_3 := Aside0.mk hl229_3; clear hi229_3 hl229_3; have HR229_4 := Aside0.mk hi229_4; have HC229_4 := Aside0.mk hl229_4; clear hi229_4 hl229_4; replace p229 := eq_true p229; replace q229 := eq_true q229; have ea_ := Option.some.inj (hx227_2.symm.trans hx229_2)
          injection ea_ with ea_ en_ ec_
          subst ea_; subst ec_; clear en_; have ea_ := Option.some.inj (hx227_3.symm.trans hx229_3)
          injection ea_ with ea_ en_ ec_
          subst ea_; subst ec_; clear en_; have ea_ := Option.some.inj (hx227_4.symm.trans hx229_4)
          injection ea_ with ea_ en_ ec_
          subst ea_; subst ec_; clear en_
          go_wp2_with (first | ((with_reducible refine gg (f := 64) (some 36) rfl rfl rfl fr64 ?_); refine onc (laws_heldByteS.calls k1 _ _ ((rd_T30 l0 x5_1).f2) (wrap64 ((wrap64 (x1_1 + 1)) + 1)) t230 _ (cb HR229_2) HC229_2.out A7.out) rfl ?_; rintro e w' ⟨rfl, ⟨nd, rfl⟩⟩; refine ⟨_, rfl, ?_⟩; have p231 : 0 ≤ (x5_1 : Int) := of_decide_eq_true (by first | (with_reducible assumption) | assumption); have q231 : x5_1 < (l0.length : Int) := of_decide_eq_true (by first | (with_reducible assumption) | assumption); obtain ⟨ad231, A231_2, c231_2, A231_3, c231_3, A231_4, c231_4, e231, hx231_0, hx231_1, hx231_2, hx231_3, hx231_4, hl231_2, hi231_2, hl231_3, hi231_3, hl231_4, hi231_4⟩ := at_T30 HR0.out x5_1 p231 q231; obtain rfl : ad227 = ad231 := (by injection e231); have HR231_2 := Aside0.mk hi231_2; have HC231_2 := Aside0.mk hl231_2; clear hi231_2 hl231_2; have HR231_3 := Aside0.mk hi231_3; have HC231_3 := Aside0.mk hl231_3; clear hi231_3 hl231_3; have HR231_4 := Aside0.mk hi231_4; have HC231_4 := Aside0.mk hl231_4; clear hi231_4 hl231_4; replace p231 := eq_true p231; replace q231 := eq_true q231; have ea_ := Option.some.inj (hx227_2.symm.trans hx231_2); injection ea_ with ea_ en_ ec_; subst ea_; subst ec_; clear en_; have ea_ := Option.some.inj (hx227_3.symm.trans hx231_3); injection ea_ with ea_ en_ ec_; subst ea_; subst ec_; clear en_; have ea_ := Option.some.inj (hx227_4.symm.trans hx231_4); injection ea_ with ea_ en_ ec_; subst ea_; subst ec_; clear en_) | ((with_reducible refine gg (f := 65) (some 45) rfl rfl rfl fr65 ?_); refine onc (laws_heldByteSS.calls k1 _ _ ((rd_T30 l0 x5_1).f3) t230 t232 _ (cb HR231_3) HC231_3.out A9.out) rfl ?_; rintro e w' ⟨rfl, ⟨nd, rfl⟩⟩; refine ⟨_, rfl, ?_⟩; have p233 : 0 ≤ (x5_1 : Int) := of_decide_eq_true (by first | (with_reducible assumption) | assumption); have q233 : x5_1 < (l0.length : Int) := of_decide_eq_true (by first | (with_reducible assumption) | assumption); obtain ⟨ad233, A233_2, c233_2, A233_3, c233_3, A233_4, c233_4, e233, hx233_0, hx233_1, hx233_2, hx233_3, hx233_4, hl233_2, hi233_2, hl233_3, hi233_3, hl233_4, hi233_4⟩ := at_T30 HR0.out x5_1 p233 q233; obtain rfl : ad227 = ad233 := (by injection e233); have HR233_2 := Aside0.mk hi233_2; have HC233_2 := Aside0.mk hl233_2; clear hi233_2 hl233_2; have HR233_3 := Aside0.mk hi233_3; have HC233_3 := Aside0.mk hl233_3; clear hi233_3 hl233_3; have HR233_4 := Aside0.mk hi233_4; have HC233_4 := Aside0.mk hl233_4; clear hi233_4 hl233_4; replace p233 := eq_true p233; replace q233 := eq_true q233; have ea_ := Option.some.inj (hx227_2.symm.trans hx233_2); injection ea_ with ea_ en_ ec_; subst ea_; subst ec_; clear en_; have ea_ := Option.some.inj (hx227_3.symm.trans hx233_3); injection ea_ with ea_ en_ ec_; subst ea_; subst ec_; clear en_; have ea_ := Option.some.inj (hx227_4.symm.trans hx233_4); injection ea_ with ea_ en_ ec_; subst ea_; subst ec_; clear en_) | ((with_reducible refine gg (f := 66) (some 54) rfl rfl rfl fr66 ?_); refine onc (ih k1 (by have := HK1.out; omega) _ _ ((rd_T30 l0 x5_1).f4) t232 t234 _ (cb HR233_4) HC233_4.out A11.out) rfl ?_; rintro e w' ⟨rfl, ⟨nd, rfl⟩⟩; refine ⟨_, rfl, ?_⟩))
          go_roundg k1
          case measure => have := HK1.out; omega
          case rel => exact ⟨(t234), (wrap64 (x5_1 + 1)), rfl, rfl, H', ⟨by have := HK1.out; omega⟩, by repeat (first | exact Drawn0.refl _ | apply Drawn0.step)⟩
      ·rw [if_neg c6] at H
       have c6b0 : (((rd_T30 l0 x5_1).f1) == (wrap64 (x1_1 + 1))) = false := beq_eq_false_iff_ne.mpr c6; have c6b1 : (((rd_T30 l0 x5_1).f1) != (wrap64 (x1_1 + 1))) = true := bne_iff_ne.mpr c6; obtain rfl := Option.some.inj H
       have p227 : 0 ≤ (x5_1 : Int) := of_decide_eq_true (by first | (with_reducible assumption) | assumption)
       have q227 : x5_1 < (l0.length : Int) := of_decide_eq_true (by first | (with_reducible assumption) | assumption)
       obtain ⟨ad227, A227_2, c227_2, A227_3, c227_3, A227_4, c227_4, e227, hx227_0, hx227_1, hx227_2, hx227_3, hx227_4, hl227_2, hi227_2, hl227_3, hi227_3, hl227_4, hi227_4⟩ := at_T30 HR0.out x5_1 p227 q227; cases e227; have HR227_2 := Aside0.mk hi227_2; have HC227_2 := Aside0.mk hl227_2; clear hi227_2 hl227_2; have HR227_3 := Aside0.mk hi227_3; have HC227_3 := Aside0.mk hl227_3; clear hi227_3 hl227_3; have HR227_4 := Aside0.mk hi227_4; have HC227_4 := Aside0.mk hl227_4; clear hi227_4 hl227_4; replace p227 := eq_true p227; replace q227 := eq_true q227
       have p228 : 0 ≤ (x5_1 : Int) := of_decide_eq_true (by first | (with_reducible assumption) | assumption)
       have q228 : x5_1 < (l0.length : Int) := of_decide_eq_true (by first | (with_reducible assumption) | assumption)
       obtain ⟨ad228, A228_2, c228_2, A228_3, c228_3, A228_4, c228_4, e228, hx228_0, hx228_1, hx228_2, hx228_3, hx228_4, hl228_2, hi228_2, hl228_3, hi228_3, hl228_4, hi228_4⟩ := at_T30 HR0.out x5_1 p228 q228
       obtain rfl : ad227 = ad228 := (by injection e228)
       have HR228_2 := Aside0.mk hi228_2; have HC228_2 := Aside0.mk hl228_2; clear hi228_2 hl228_2; have HR228_3 := Aside0.mk hi228_3; have HC228_3 := Aside0.mk hl228_3; clear hi228_3 hl228_3; have HR228_4 := Aside0.mk hi228_4; have HC228_4 := Aside0.mk hl228_4; clear hi228_4 hl228_4; replace p228 := eq_true p228; replace q228 := eq_true q228; have ea_ := Option.some.inj (hx227_2.symm.trans hx228_2)
       injection ea_ with ea_ en_ ec_
       subst ea_; subst ec_; clear en_; have ea_ := Option.some.inj (hx227_3.symm.trans hx228_3)
       injection ea_ with ea_ en_ ec_
       subst ea_; subst ec_; clear en_; have ea_ := Option.some.inj (hx227_4.symm.trans hx228_4)
       injection ea_ with ea_ en_ ec_
       subst ea_; subst ec_; clear en_; go_wp2; go_ret
       exact ⟨by first | rfl | (simp; done) | (simp [*]; done), by repeat (first | exact Drawn0.refl _ | apply Drawn0.step)⟩
     ·rw [if_neg c5] at H
      have c5b0 : (((rd_T30 l0 x5_1).f0) == x1_1) = false := beq_eq_false_iff_ne.mpr c5; have c5b1 : (((rd_T30 l0 x5_1).f0) != x1_1) = true := bne_iff_ne.mpr c5; obtain rfl := Option.some.inj H
      have p227 : 0 ≤ (x5_1 : Int) := of_decide_eq_true (by first | (with_reducible assumption) | assumption)
      have q227 : x5_1 < (l0.length : Int) := of_decide_eq_true (by first | (with_reducible assumption) | assumption)
      obtain ⟨ad227, A227_2, c227_2, A227_3, c227_3, A227_4, c227_4, e227, hx227_0, hx227_1, hx227_2, hx227_3, hx227_4, hl227_2, hi227_2, hl227_3, hi227_3, hl227_4, hi227_4⟩ := at_T30 HR0.out x5_1 p227 q227; cases e227; have HR227_2 := Aside0.mk hi227_2; have HC227_2 := Aside0.mk hl227_2; clear hi227_2 hl227_2; have HR227_3 := Aside0.mk hi227_3; have HC227_3 := Aside0.mk hl227_3; clear hi227_3 hl227_3; have HR227_4 := Aside0.mk hi227_4; have HC227_4 := Aside0.mk hl227_4; clear hi227_4 hl227_4; replace p227 := eq_true p227; replace q227 := eq_true q227; go_wp2; go_ret
      exact ⟨by first | rfl | (simp; done) | (simp [*]; done), by repeat (first | exact Drawn0.refl _ | apply Drawn0.step)⟩
    ·rw [if_neg c4] at H
     exact absurd H (by simp)
   ·rw [if_neg c3] at H
    have c3b0 : decide (x5_1 < (l0.length : Int)) = false := decide_eq_false c3; clear c3; obtain rfl := Option.some.inj H; go_wp2; go_ret
    exact ⟨by first | rfl | (simp; done) | (simp [*]; done), by repeat (first | exact Drawn0.refl _ | apply Drawn0.step)⟩

/-! ### laws_heldValue: function 21 -/
def laws_heldValue.f (k : Nat) (a0_0 : Int) (a0_1 : Int) (l0_2 : List Int) (l0_3 : List (List Int)) (l0_4 : List (S30)) (a1 : Int) : Option (Int) := (laws_heldByteS.f k l0_2 a1).bind fun t236 => (if t236 < 0 then (some (-1)) else ((laws_heldByteSS.f k l0_3 t236).bind fun t237 => (if t237 < 0 then (some (-1)) else ((laws_heldValueS.f k l0_4 t237).bind fun t238 => (if t238 < 0 then (some (-1)) else (some t238))))))
set_option maxHeartbeats 8000000 in
set_option maxRecDepth 100000 in
theorem laws_heldValue.calls (k : Nat) (a0_0 : Int) (a0_1 : Int) (A0_2 : Option Addr) (c0_2 : Nat) (l0_2 : List Int) (A0_3 : Option Addr) (c0_3 : Nat) (l0_3 : List (List Int)) (A0_4 : Option Addr) (c0_4 : Nat) (l0_4 : List (S30)) (a1 : Int) (r : Int) (w : World) (hr0_2 : Kd.C (Kd.int .u8) w A0_2 l0_2.length l0_2) (hc0_2 : l0_2.length ≤ c0_2) (hr0_3 : Kd.C (Kd.slice 5 (Kd.int .u8)) w A0_3 l0_3.length l0_3) (hc0_3 : l0_3.length ≤ c0_3) (hr0_4 : Kd.C k30 w A0_4 l0_4.length l0_4) (hc0_4 : l0_4.length ≤ c0_4) (h : laws_heldValue.f k a0_0 a0_1 l0_2 l0_3 l0_4 a1 = some r) :
  Calls Try.prog 21 #[.agg #[.int .i64 a0_0, .int .i64 a0_1, .slice A0_2 l0_2.length c0_2, .slice A0_3 l0_3.length c0_3, .slice A0_4 l0_4.length c0_4], .int .i64 a1] w fun e w' => e = .returned (.int .i64 r) ∧ Below w.heap.size w w' := by
 have hu30 := Try.underlying30; have HR0_2 := Aside0.mk hr0_2; have HC0_2 := Aside0.mk hc0_2; clear hr0_2 hc0_2; have HR0_3 := Aside0.mk hr0_3; have HC0_3 := Aside0.mk hc0_3; clear hr0_3 hc0_3; have HR0_4 := Aside0.mk hr0_4; have HC0_4 := Aside0.mk hc0_4; clear hr0_4 hc0_4; have HB := Bw.refl w
 have H : ((laws_heldByteS.f k l0_2 a1).bind fun t236 => (if t236 < 0 then (some (-1)) else ((laws_heldByteSS.f k l0_3 t236).bind fun t237 => (if t237 < 0 then (some (-1)) else ((laws_heldValueS.f k l0_4 t237).bind fun t238 => (if t238 < 0 then (some (-1)) else (some t238))))))) = some r := h
 clear h; replace H := Option.bind_eq_some_iff.mp H; obtain ⟨t236, A30, H⟩ := H
 replace H : (if t236 < 0 then (some (-1)) else ((laws_heldByteSS.f k l0_3 t236).bind fun t237 => (if t237 < 0 then (some (-1)) else ((laws_heldValueS.f k l0_4 t237).bind fun t238 => (if t238 < 0 then (some (-1)) else (some t238)))))) = some r := H
 have A3 := Aside0.mk A30; clear A30
 by_cases c4 : t236 < 0
 ·rw [if_pos c4] at H
  have c4b0 : decide (t236 < 0) = true := decide_eq_true c4; clear c4; obtain rfl := Option.some.inj H
  go_enter Try.func21, Try.ntmps21
  go_wp2_with (first | ((with_reducible refine gate_dst (N := 2) rfl ?_); refine box_event rfl (N := 2) rfl (cs := #[.int .i64 a0_0, .int .i64 a0_1, .slice A0_2 l0_2.length c0_2, .slice A0_3 l0_3.length c0_3, .slice A0_4 l0_4.length c0_4]) (t := 30) (by go_simp <;> rfl) ?_; intro gb235 hg w5 hbox hb; have BK235 := Aside0.mk (hbox); have GE235 := (Ge.of hg : Ge w.heap.size gb235); replace HB := (Bw.sw w hb); clear hb hbox hg; obtain ⟨hcz6_0, hcz6_1, hcz6_2, hcz6_3, hcz6_4, hfz6_0, hfz6_1, hfz6_2, hfz6_3, hfz6_4⟩ := blk5 BK235.out) | ((with_reducible refine gg (f := 64) (some 8) rfl rfl rfl fr64 ?_); refine onc (laws_heldByteS.calls k _ _ l0_2 a1 t236 _ (cb HR0_2) HC0_2.out A3.out) rfl ?_; rintro e w' ⟨rfl, ⟨nd, rfl⟩⟩; refine ⟨_, rfl, ?_⟩))
  go_ret; exact ⟨rfl, bw⟩
 ·rw [if_neg c4] at H
  have c4b0 : decide (t236 < 0) = false := decide_eq_false c4; clear c4; replace H := Option.bind_eq_some_iff.mp H; obtain ⟨t237, A70, H⟩ := H
  replace H : (if t237 < 0 then (some (-1)) else ((laws_heldValueS.f k l0_4 t237).bind fun t238 => (if t238 < 0 then (some (-1)) else (some t238)))) = some r := H
  have A7 := Aside0.mk A70; clear A70
  by_cases c8 : t237 < 0
  ·rw [if_pos c8] at H
   have c8b0 : decide (t237 < 0) = true := decide_eq_true c8; clear c8; obtain rfl := Option.some.inj H
   go_enter Try.func21, Try.ntmps21
   go_wp2_with (first | ((with_reducible refine gate_dst (N := 2) rfl ?_); refine box_event rfl (N := 2) rfl (cs := #[.int .i64 a0_0, .int .i64 a0_1, .slice A0_2 l0_2.length c0_2, .slice A0_3 l0_3.length c0_3, .slice A0_4 l0_4.length c0_4]) (t := 30) (by go_simp <;> rfl) ?_; intro gb235 hg w9 hbox hb; have BK235 := Aside0.mk (hbox); have GE235 := (Ge.of hg : Ge w.heap.size gb235); replace HB := (Bw.sw w hb); clear hb hbox hg; obtain ⟨hcz10_0, hcz10_1, hcz10_2, hcz10_3, hcz10_4, hfz10_0, hfz10_1, hfz10_2, hfz10_3, hfz10_4⟩ := blk5 BK235.out) | ((with_reducible refine gg (f := 64) (some 8) rfl rfl rfl fr64 ?_); refine onc (laws_heldByteS.calls k _ _ l0_2 a1 t236 _ (cb HR0_2) HC0_2.out A3.out) rfl ?_; rintro e w' ⟨rfl, ⟨nd, rfl⟩⟩; refine ⟨_, rfl, ?_⟩) | ((with_reducible refine gg (f := 65) (some 14) rfl rfl rfl fr65 ?_); refine onc (laws_heldByteSS.calls k _ _ l0_3 t236 t237 _ (cb HR0_3) HC0_3.out A7.out) rfl ?_; rintro e w' ⟨rfl, ⟨nd, rfl⟩⟩; refine ⟨_, rfl, ?_⟩))
   go_ret; exact ⟨rfl, bw⟩
  ·rw [if_neg c8] at H
   have c8b0 : decide (t237 < 0) = false := decide_eq_false c8; clear c8; replace H := Option.bind_eq_some_iff.mp H; obtain ⟨t238, A110, H⟩ := H
   replace H : (if t238 < 0 then (some (-1)) else (some t238)) = some r := H
   have A11 := Aside0.mk A110; clear A110
   by_cases c12 : t238 < 0
   ·rw [if_pos c12] at H
    have c12b0 : decide (t238 < 0) = true := decide_eq_true c12; clear c12; obtain rfl := Option.some.inj H
    go_enter Try.func21, Try.ntmps21
    go_wp2_with (first | ((with_reducible refine gate_dst (N := 2) rfl ?_); refine box_event rfl (N := 2) rfl (cs := #[.int .i64 a0_0, .int .i64 a0_1, .slice A0_2 l0_2.length c0_2, .slice A0_3 l0_3.length c0_3, .slice A0_4 l0_4.length c0_4]) (t := 30) (by go_simp <;> rfl) ?_; intro gb235 hg w13 hbox hb; have BK235 := Aside0.mk (hbox); have GE235 := (Ge.of hg : Ge w.heap.size gb235); replace HB := (Bw.sw w hb); clear hb hbox hg; obtain ⟨hcz14_0, hcz14_1, hcz14_2, hcz14_3, hcz14_4, hfz14_0, hfz14_1, hfz14_2, hfz14_3, hfz14_4⟩ := blk5 BK235.out) | ((with_reducible refine gg (f := 64) (some 8) rfl rfl rfl fr64 ?_); refine onc (laws_heldByteS.calls k _ _ l0_2 a1 t236 _ (cb HR0_2) HC0_2.out A3.out) rfl ?_; rintro e w' ⟨rfl, ⟨nd, rfl⟩⟩; refine ⟨_, rfl, ?_⟩) | ((with_reducible refine gg (f := 65) (some 14) rfl rfl rfl fr65 ?_); refine onc (laws_heldByteSS.calls k _ _ l0_3 t236 t237 _ (cb HR0_3) HC0_3.out A7.out) rfl ?_; rintro e w' ⟨rfl, ⟨nd, rfl⟩⟩; refine ⟨_, rfl, ?_⟩) | ((with_reducible refine gg (f := 66) (some 20) rfl rfl rfl fr66 ?_); refine onc (laws_heldValueS.calls k _ _ l0_4 t237 t238 _ (cb HR0_4) HC0_4.out A11.out) rfl ?_; rintro e w' ⟨rfl, ⟨nd, rfl⟩⟩; refine ⟨_, rfl, ?_⟩))
    go_ret; exact ⟨rfl, bw⟩
   ·rw [if_neg c12] at H
    have c12b0 : decide (t238 < 0) = false := decide_eq_false c12; clear c12; obtain rfl := Option.some.inj H
    go_enter Try.func21, Try.ntmps21
    go_wp2_with (first | ((with_reducible refine gate_dst (N := 2) rfl ?_); refine box_event rfl (N := 2) rfl (cs := #[.int .i64 a0_0, .int .i64 a0_1, .slice A0_2 l0_2.length c0_2, .slice A0_3 l0_3.length c0_3, .slice A0_4 l0_4.length c0_4]) (t := 30) (by go_simp <;> rfl) ?_; intro gb235 hg w15 hbox hb; have BK235 := Aside0.mk (hbox); have GE235 := (Ge.of hg : Ge w.heap.size gb235); replace HB := (Bw.sw w hb); clear hb hbox hg; obtain ⟨hcz16_0, hcz16_1, hcz16_2, hcz16_3, hcz16_4, hfz16_0, hfz16_1, hfz16_2, hfz16_3, hfz16_4⟩ := blk5 BK235.out) | ((with_reducible refine gg (f := 64) (some 8) rfl rfl rfl fr64 ?_); refine onc (laws_heldByteS.calls k _ _ l0_2 a1 t236 _ (cb HR0_2) HC0_2.out A3.out) rfl ?_; rintro e w' ⟨rfl, ⟨nd, rfl⟩⟩; refine ⟨_, rfl, ?_⟩) | ((with_reducible refine gg (f := 65) (some 14) rfl rfl rfl fr65 ?_); refine onc (laws_heldByteSS.calls k _ _ l0_3 t236 t237 _ (cb HR0_3) HC0_3.out A7.out) rfl ?_; rintro e w' ⟨rfl, ⟨nd, rfl⟩⟩; refine ⟨_, rfl, ?_⟩) | ((with_reducible refine gg (f := 66) (some 20) rfl rfl rfl fr66 ?_); refine onc (laws_heldValueS.calls k _ _ l0_4 t237 t238 _ (cb HR0_4) HC0_4.out A11.out) rfl ?_; rintro e w' ⟨rfl, ⟨nd, rfl⟩⟩; refine ⟨_, rfl, ?_⟩))
    go_ret; exact ⟨rfl, bw⟩

/-! ### laws_szStep: function 89 -/
def laws_szStep.f (a0_0 : Int) (l0_1 : List Int) (a0_2 : Int) (a1 : Int) : Option (Int) := (laws_szByteS.f l0_1 a1).bind fun t240 => (if t240 < 0 then (some (-1)) else (some t240))
set_option maxHeartbeats 8000000 in
set_option maxRecDepth 100000 in
theorem laws_szStep.calls (a0_0 : Int) (A0_1 : Option Addr) (c0_1 : Nat) (l0_1 : List Int) (a0_2 : Int) (a1 : Int) (r : Int) (w : World) (hr0_1 : Kd.C (Kd.int .u8) w A0_1 l0_1.length l0_1) (hc0_1 : l0_1.length ≤ c0_1) (h : laws_szStep.f a0_0 l0_1 a0_2 a1 = some r) :
  Calls Try.prog 89 #[.agg #[.int .i64 a0_0, .slice A0_1 l0_1.length c0_1, .int .i64 a0_2], .int .i64 a1] w fun e w' => e = .returned (.int .i64 r) ∧ Below w.heap.size w w' := by
 have hu102 := Try.underlying102; have HR0_1 := Aside0.mk hr0_1; have HC0_1 := Aside0.mk hc0_1; clear hr0_1 hc0_1; have HB := Bw.refl w
 have H : ((laws_szByteS.f l0_1 a1).bind fun t240 => (if t240 < 0 then (some (-1)) else (some t240))) = some r := h
 clear h; replace H := Option.bind_eq_some_iff.mp H; obtain ⟨t240, A30, H⟩ := H
 replace H : (if t240 < 0 then (some (-1)) else (some t240)) = some r := H
 have A3 := Aside0.mk A30; clear A30
 by_cases c4 : t240 < 0
 ·rw [if_pos c4] at H
  have c4b0 : decide (t240 < 0) = true := decide_eq_true c4; clear c4; obtain rfl := Option.some.inj H
  go_enter Try.func89, Try.ntmps89
  go_wp2_with (first | ((with_reducible refine gate_dst (N := 2) rfl ?_); refine box_event rfl (N := 2) rfl (cs := #[.int .i64 a0_0, .slice A0_1 l0_1.length c0_1, .int .i64 a0_2]) (t := 102) (by go_simp <;> rfl) ?_; intro gb239 hg w5 hbox hb; have BK239 := Aside0.mk (hbox); have GE239 := (Ge.of hg : Ge w.heap.size gb239); replace HB := (Bw.sw w hb); clear hb hbox hg; obtain ⟨hcz6_0, hcz6_1, hcz6_2, hfz6_0, hfz6_1, hfz6_2⟩ := blk3 BK239.out) | ((with_reducible refine gg (f := 49) (some 8) rfl rfl rfl fr49 ?_); refine onc (laws_szByteS.calls _ _ l0_1 a1 t240 _ (cb HR0_1) HC0_1.out A3.out) rfl ?_; rintro e w' ⟨rfl, ⟨nd, rfl⟩⟩; refine ⟨_, rfl, ?_⟩))
  go_ret; exact ⟨rfl, bw⟩
 ·rw [if_neg c4] at H
  have c4b0 : decide (t240 < 0) = false := decide_eq_false c4; clear c4; obtain rfl := Option.some.inj H
  go_enter Try.func89, Try.ntmps89
  go_wp2_with (first | ((with_reducible refine gate_dst (N := 2) rfl ?_); refine box_event rfl (N := 2) rfl (cs := #[.int .i64 a0_0, .slice A0_1 l0_1.length c0_1, .int .i64 a0_2]) (t := 102) (by go_simp <;> rfl) ?_; intro gb239 hg w7 hbox hb; have BK239 := Aside0.mk (hbox); have GE239 := (Ge.of hg : Ge w.heap.size gb239); replace HB := (Bw.sw w hb); clear hb hbox hg; obtain ⟨hcz8_0, hcz8_1, hcz8_2, hfz8_0, hfz8_1, hfz8_2⟩ := blk3 BK239.out) | ((with_reducible refine gg (f := 49) (some 8) rfl rfl rfl fr49 ?_); refine onc (laws_szByteS.calls _ _ l0_1 a1 t240 _ (cb HR0_1) HC0_1.out A3.out) rfl ?_; rintro e w' ⟨rfl, ⟨nd, rfl⟩⟩; refine ⟨_, rfl, ?_⟩))
  go_ret; exact ⟨rfl, bw⟩

end Go.Proofs.Ytenpjddjmhjdoaa.PFnExactAt
