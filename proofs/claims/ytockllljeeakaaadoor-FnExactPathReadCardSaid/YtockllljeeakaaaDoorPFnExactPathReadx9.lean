/- What the law reaches: each function as a plain Lean function, and that each call comes to it. No condition. -/
import Derived.Test.YtockllljeeakaaaDoorPFnExactPathReadx0
import Derived.Test.YtockllljeeakaaaDoorPFnExactPathReadx8
namespace Go.Proofs.YtockllljeeakaaaDoor.PFnExactPathRead
open Go.RowKit Go.Proofs.YtockllljeeakaaaDoorW.PrintWords Go.Proofs.YtockllljeeakaaaDoorW.PrintLast Go.Proofs.YtockllljeeakaaaDoorW.PrintMore Go.Proofs.YtockllljeeakaaaDoor.M
attribute [local go_sem] max2_int min2_int max_two min_two max_three min_three max_four min_four Go.Proofs.YtockllljeeakaaaDoor.M.str_gtr Go.Proofs.YtockllljeeakaaaDoor.M.str_leq Go.Proofs.YtockllljeeakaaaDoor.M.str_geq   -- for this text's walks alone
set_option linter.unusedVariables false
set_option linter.unusedSimpArgs false

/-! ### laws_heldStepS: function 17 -/
def laws_heldStepS.l0 : Nat → List (S56) → Int → Int → Option (Int)
 | 0, _, _, _ => none
 | k + 1, x0, x1, x5 => if x5 < (x0.length : Int) then (if 0 ≤ x5 then (if ((rd_T56 x0 x5).f0) = x1 then ((laws_heldByteS.f k ((rd_T56 x0 x5).f1) (wrap64 (x1 + 1))).bind fun t356 => (if t356 < 0 then (some (-1)) else (if ((rd_T56 x0 x5).f2) = t356 then (laws_heldStepS.l0 k x0 (wrap64 (t356 + 1)) (wrap64 (x5 + 1))) else (some (-1))))) else (some (-1))) else (none)) else (some x1)
def laws_heldStepS.f (k : Nat) (l0 : List (S56)) (a1 : Int) : Option (Int) := laws_heldStepS.l0 k l0 a1 0
theorem laws_heldStepS.mono_l : ∀ k, (∀ y0 y1 y2, LeO (laws_heldStepS.l0 k y0 y1 y2) (laws_heldStepS.l0 (k + 1) y0 y1 y2))
 | 0 => fun _ _ _ r h => by simp [laws_heldStepS.l0] at h
 | k + 1 => by
  have ih0 := laws_heldStepS.mono_l k
  ·intro y0 y1 y2
   unfold laws_heldStepS.l0
   repeat' first
   | (with_reducible exact ih0 _ _ _)
   | (with_reducible exact laws_heldByteS.mono _ _ _)
   | (with_reducible exact LeO.refl _)
   | (with_reducible exact LeO.none _)
   | (with_reducible refine LeO.ite ?_ ?_)
   | (with_reducible refine LeO.bind ?_ (fun _ => ?_))
   | exact ih0 _ _ _
   | exact laws_heldByteS.mono _ _ _
   | exact LeO.none _
   | refine LeO.ite ?_ ?_
   | refine LeO.bind ?_ (fun _ => ?_)
theorem laws_heldStepS.mono : ∀ a0 a1 k, LeO (laws_heldStepS.f k a0 a1) (laws_heldStepS.f (k + 1) a0 a1) := by
 intro a0 a1 k
 have ih0 := laws_heldStepS.mono_l k
 unfold laws_heldStepS.f
 repeat' first
   | (with_reducible exact ih0 _ _ _)
   | (with_reducible exact laws_heldByteS.mono _ _ _)
   | (with_reducible exact LeO.refl _)
   | (with_reducible exact LeO.none _)
   | (with_reducible refine LeO.ite ?_ ?_)
   | (with_reducible refine LeO.bind ?_ (fun _ => ?_))
   | exact ih0 _ _ _
   | exact laws_heldByteS.mono _ _ _
   | exact LeO.none _
   | refine LeO.ite ?_ ?_
   | refine LeO.bind ?_ (fun _ => ?_)
set_option maxHeartbeats 8000000 in
set_option maxRecDepth 100000 in
theorem laws_heldStepS.calls (k : Nat) (A0 : Option Addr) (c0 : Nat) (l0 : List (S56)) (a1 : Int) (r : Int) (w : World) (hr0 : Kd.C k56 w A0 l0.length l0) (hc0 : l0.length ≤ c0) (h : laws_heldStepS.f k l0 a1 = some r) :
  Calls Tryd.prog 17 #[.slice A0 l0.length c0, .int .i64 a1] w fun e w' => e = .returned (.int .i64 r) ∧ Drawn0 w w' := by
 have HR0 := Aside0.mk hr0
 have HC0 := Aside0.mk hc0
 clear hr0 hc0
 have H : (laws_heldStepS.l0 k l0 a1 0) = some r := h
 clear h
 have H' := Aside0.mk H
 clear H
 go_enter Tryd.func17, Tryd.ntmps17
 go_wp2
 go_loopg [1, 5] k (fun kq v1 v5 w' => ∃ (x1_1 : Int) (x5_1 : Int), v1 = .int .i64 x1_1 ∧ v5 = .int .i64 x5_1 ∧ Aside0 (laws_heldStepS.l0 kq l0 x1_1 x5_1 = some r) ∧ Aside0 (kq ≤ k) ∧ Drawn0 w w')
 case atStart => exact ⟨(a1), (0), (by first | rfl | (simp; done) | (simp [*]; done)), (by first | rfl | (simp; done) | (simp [*]; done)), H', ⟨Nat.le_refl _⟩, by repeat (first | exact Drawn0.refl _ | apply Drawn0.step)⟩
 case round =>
  clear H'
  obtain ⟨x1_1, x5_1, rfl, rfl, HA, HK1, ⟨m1, rfl⟩⟩ := hrel
  cases gk with
  | zero => exact absurd HA.out (by simp [laws_heldStepS.l0])
  | succ k1 =>
   have H := HA.out
   clear HA
   simp only [laws_heldStepS.l0] at H
   by_cases c3 : x5_1 < (l0.length : Int)
   ·rw [if_pos c3] at H
    have c3b0 : decide (x5_1 < (l0.length : Int)) = true := decide_eq_true c3
    clear c3
    by_cases c4 : 0 ≤ x5_1
    ·rw [if_pos c4] at H
     have c4b0 : decide (0 ≤ x5_1) = true := decide_eq_true c4
     clear c4
     by_cases c5 : ((rd_T56 l0 x5_1).f0) = x1_1
     ·rw [if_pos c5] at H
      have c5b0 : (((rd_T56 l0 x5_1).f0) == x1_1) = true := beq_iff_eq.mpr c5
      have c5b1 : (((rd_T56 l0 x5_1).f0) != x1_1) = false := bne_eq_false_iff_eq.mpr c5
      clear c5
      replace H := Option.bind_eq_some_iff.mp H
      obtain ⟨t356, A60, H⟩ := H
      replace H : (if t356 < 0 then (some (-1)) else (if ((rd_T56 l0 x5_1).f2) = t356 then (laws_heldStepS.l0 k1 l0 (wrap64 (t356 + 1)) (wrap64 (x5_1 + 1))) else (some (-1)))) = some r := H
      have A6 := Aside0.mk A60
      clear A60
      by_cases c7 : t356 < 0
      ·rw [if_pos c7] at H
       have c7b0 : decide (t356 < 0) = true := decide_eq_true c7
       clear c7
       obtain rfl := Option.some.inj H
       have p354 : 0 ≤ (x5_1 : Int) := of_decide_eq_true (by first | (with_reducible assumption) | assumption)
       have q354 : x5_1 < (l0.length : Int) := of_decide_eq_true (by first | (with_reducible assumption) | assumption)
       obtain ⟨ad354, A354_1, c354_1, e354, hx354_0, hx354_1, hx354_2, hl354_1, hi354_1⟩ := at_T56 HR0.out x5_1 p354 q354
       cases e354
       have HR354_1 := Aside0.mk hi354_1
       have HC354_1 := Aside0.mk hl354_1
       clear hi354_1 hl354_1
       replace p354 := eq_true p354
       replace q354 := eq_true q354
       have p355 : 0 ≤ (x5_1 : Int) := of_decide_eq_true (by first | (with_reducible assumption) | assumption)
       have q355 : x5_1 < (l0.length : Int) := of_decide_eq_true (by first | (with_reducible assumption) | assumption)
       obtain ⟨ad355, A355_1, c355_1, e355, hx355_0, hx355_1, hx355_2, hl355_1, hi355_1⟩ := at_T56 HR0.out x5_1 p355 q355
       obtain rfl : ad354 = ad355 := (by injection e355)
       have HR355_1 := Aside0.mk hi355_1
       have HC355_1 := Aside0.mk hl355_1
       clear hi355_1 hl355_1
       replace p355 := eq_true p355
       replace q355 := eq_true q355
       have ea_ := Option.some.inj (hx354_1.symm.trans hx355_1)
       injection ea_ with ea_ en_ ec_
       subst ea_
       subst ec_
       clear en_
       go_wp2_with (first | ((with_reducible refine gg (f := 20) (some 27) rfl rfl rfl fr20 ?_); refine onc (laws_heldByteS.calls k1 _ _ ((rd_T56 l0 x5_1).f1) (wrap64 (x1_1 + 1)) t356 _ (cb HR355_1) HC355_1.out A6.out) rfl ?_; rintro e w' ⟨rfl, ⟨nd, rfl⟩⟩; refine ⟨_, rfl, ?_⟩))
       go_ret
       exact ⟨by first | rfl | (simp; done) | (simp [*]; done), by repeat (first | exact Drawn0.refl _ | apply Drawn0.step)⟩
      ·rw [if_neg c7] at H
       have c7b0 : decide (t356 < 0) = false := decide_eq_false c7
       clear c7
       by_cases c8 : ((rd_T56 l0 x5_1).f2) = t356
       ·rw [if_pos c8] at H
        have c8b0 : (((rd_T56 l0 x5_1).f2) == t356) = true := beq_iff_eq.mpr c8
        have c8b1 : (((rd_T56 l0 x5_1).f2) != t356) = false := bne_eq_false_iff_eq.mpr c8
        clear c8
        have H' := Aside0.mk H
        clear H
        have p354 : 0 ≤ (x5_1 : Int) := of_decide_eq_true (by first | (with_reducible assumption) | assumption)
        have q354 : x5_1 < (l0.length : Int) := of_decide_eq_true (by first | (with_reducible assumption) | assumption)
        obtain ⟨ad354, A354_1, c354_1, e354, hx354_0, hx354_1, hx354_2, hl354_1, hi354_1⟩ := at_T56 HR0.out x5_1 p354 q354
        cases e354
        have HR354_1 := Aside0.mk hi354_1
        have HC354_1 := Aside0.mk hl354_1
        clear hi354_1 hl354_1
        replace p354 := eq_true p354
        replace q354 := eq_true q354
        have p355 : 0 ≤ (x5_1 : Int) := of_decide_eq_true (by first | (with_reducible assumption) | assumption)
        have q355 : x5_1 < (l0.length : Int) := of_decide_eq_true (by first | (with_reducible assumption) | assumption)
        obtain ⟨ad355, A355_1, c355_1, e355, hx355_0, hx355_1, hx355_2, hl355_1, hi355_1⟩ := at_T56 HR0.out x5_1 p355 q355
        obtain rfl : ad354 = ad355 := (by injection e355)
        have HR355_1 := Aside0.mk hi355_1
        have HC355_1 := Aside0.mk hl355_1
        clear hi355_1 hl355_1
        replace p355 := eq_true p355
        replace q355 := eq_true q355
        have ea_ := Option.some.inj (hx354_1.symm.trans hx355_1)
        injection ea_ with ea_ en_ ec_
        subst ea_
        subst ec_
        clear en_
        go_wp2_with (first | ((with_reducible refine gg (f := 20) (some 27) rfl rfl rfl fr20 ?_); refine onc (laws_heldByteS.calls k1 _ _ ((rd_T56 l0 x5_1).f1) (wrap64 (x1_1 + 1)) t356 _ (cb HR355_1) HC355_1.out A6.out) rfl ?_; rintro e w' ⟨rfl, ⟨nd, rfl⟩⟩; refine ⟨_, rfl, ?_⟩; have p357 : 0 ≤ (x5_1 : Int) := of_decide_eq_true (by first | (with_reducible assumption) | assumption); have q357 : x5_1 < (l0.length : Int) := of_decide_eq_true (by first | (with_reducible assumption) | assumption); obtain ⟨ad357, A357_1, c357_1, e357, hx357_0, hx357_1, hx357_2, hl357_1, hi357_1⟩ := at_T56 HR0.out x5_1 p357 q357; obtain rfl : ad354 = ad357 := (by injection e357); have HR357_1 := Aside0.mk hi357_1; have HC357_1 := Aside0.mk hl357_1; clear hi357_1 hl357_1; replace p357 := eq_true p357; replace q357 := eq_true q357; have ea_ := Option.some.inj (hx354_1.symm.trans hx357_1); injection ea_ with ea_ en_ ec_; subst ea_; subst ec_; clear en_))
        go_roundg k1
        case measure => have := HK1.out; omega
        case rel => exact ⟨(wrap64 (t356 + 1)), (wrap64 (x5_1 + 1)), (by first | rfl | (simp; done) | (simp [*]; done)), (by first | rfl | (simp; done) | (simp [*]; done)), H', ⟨by have := HK1.out; omega⟩, by repeat (first | exact Drawn0.refl _ | apply Drawn0.step)⟩
       ·rw [if_neg c8] at H
        have c8b0 : (((rd_T56 l0 x5_1).f2) == t356) = false := beq_eq_false_iff_ne.mpr c8
        have c8b1 : (((rd_T56 l0 x5_1).f2) != t356) = true := bne_iff_ne.mpr c8
        obtain rfl := Option.some.inj H
        have p354 : 0 ≤ (x5_1 : Int) := of_decide_eq_true (by first | (with_reducible assumption) | assumption)
        have q354 : x5_1 < (l0.length : Int) := of_decide_eq_true (by first | (with_reducible assumption) | assumption)
        obtain ⟨ad354, A354_1, c354_1, e354, hx354_0, hx354_1, hx354_2, hl354_1, hi354_1⟩ := at_T56 HR0.out x5_1 p354 q354
        cases e354
        have HR354_1 := Aside0.mk hi354_1
        have HC354_1 := Aside0.mk hl354_1
        clear hi354_1 hl354_1
        replace p354 := eq_true p354
        replace q354 := eq_true q354
        have p355 : 0 ≤ (x5_1 : Int) := of_decide_eq_true (by first | (with_reducible assumption) | assumption)
        have q355 : x5_1 < (l0.length : Int) := of_decide_eq_true (by first | (with_reducible assumption) | assumption)
        obtain ⟨ad355, A355_1, c355_1, e355, hx355_0, hx355_1, hx355_2, hl355_1, hi355_1⟩ := at_T56 HR0.out x5_1 p355 q355
        obtain rfl : ad354 = ad355 := (by injection e355)
        have HR355_1 := Aside0.mk hi355_1
        have HC355_1 := Aside0.mk hl355_1
        clear hi355_1 hl355_1
        replace p355 := eq_true p355
        replace q355 := eq_true q355
        have ea_ := Option.some.inj (hx354_1.symm.trans hx355_1)
        injection ea_ with ea_ en_ ec_
        subst ea_
        subst ec_
        clear en_
        go_wp2_with (first | ((with_reducible refine gg (f := 20) (some 27) rfl rfl rfl fr20 ?_); refine onc (laws_heldByteS.calls k1 _ _ ((rd_T56 l0 x5_1).f1) (wrap64 (x1_1 + 1)) t356 _ (cb HR355_1) HC355_1.out A6.out) rfl ?_; rintro e w' ⟨rfl, ⟨nd, rfl⟩⟩; refine ⟨_, rfl, ?_⟩; have p357 : 0 ≤ (x5_1 : Int) := of_decide_eq_true (by first | (with_reducible assumption) | assumption); have q357 : x5_1 < (l0.length : Int) := of_decide_eq_true (by first | (with_reducible assumption) | assumption); obtain ⟨ad357, A357_1, c357_1, e357, hx357_0, hx357_1, hx357_2, hl357_1, hi357_1⟩ := at_T56 HR0.out x5_1 p357 q357; obtain rfl : ad354 = ad357 := (by injection e357); have HR357_1 := Aside0.mk hi357_1; have HC357_1 := Aside0.mk hl357_1; clear hi357_1 hl357_1; replace p357 := eq_true p357; replace q357 := eq_true q357; have ea_ := Option.some.inj (hx354_1.symm.trans hx357_1); injection ea_ with ea_ en_ ec_; subst ea_; subst ec_; clear en_))
        go_ret
        exact ⟨by first | rfl | (simp; done) | (simp [*]; done), by repeat (first | exact Drawn0.refl _ | apply Drawn0.step)⟩
     ·rw [if_neg c5] at H
      have c5b0 : (((rd_T56 l0 x5_1).f0) == x1_1) = false := beq_eq_false_iff_ne.mpr c5
      have c5b1 : (((rd_T56 l0 x5_1).f0) != x1_1) = true := bne_iff_ne.mpr c5
      obtain rfl := Option.some.inj H
      have p354 : 0 ≤ (x5_1 : Int) := of_decide_eq_true (by first | (with_reducible assumption) | assumption)
      have q354 : x5_1 < (l0.length : Int) := of_decide_eq_true (by first | (with_reducible assumption) | assumption)
      obtain ⟨ad354, A354_1, c354_1, e354, hx354_0, hx354_1, hx354_2, hl354_1, hi354_1⟩ := at_T56 HR0.out x5_1 p354 q354
      cases e354
      have HR354_1 := Aside0.mk hi354_1
      have HC354_1 := Aside0.mk hl354_1
      clear hi354_1 hl354_1
      replace p354 := eq_true p354
      replace q354 := eq_true q354
      go_wp2
      go_ret
      exact ⟨by first | rfl | (simp; done) | (simp [*]; done), by repeat (first | exact Drawn0.refl _ | apply Drawn0.step)⟩
    ·rw [if_neg c4] at H
     exact absurd H (by simp)
   ·rw [if_neg c3] at H
    have c3b0 : decide (x5_1 < (l0.length : Int)) = false := decide_eq_false c3
    clear c3
    obtain rfl := Option.some.inj H
    go_wp2
    go_ret
    exact ⟨by first | rfl | (simp; done) | (simp [*]; done), by repeat (first | exact Drawn0.refl _ | apply Drawn0.step)⟩

-- NOT PRINTED: function 4 (laws_FnExactPathRead)

end Go.Proofs.YtockllljeeakaaaDoor.PFnExactPathRead
