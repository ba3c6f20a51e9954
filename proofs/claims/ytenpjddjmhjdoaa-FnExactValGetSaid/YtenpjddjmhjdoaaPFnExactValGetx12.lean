/- What the law reaches: each function as a plain Lean function, and that each call comes to it. No condition. -/
import Derived.Test.YtenpjddjmhjdoaaPFnExactValGetx0
import Derived.Test.YtenpjddjmhjdoaaPFnExactValGetx11
namespace Go.Proofs.Ytenpjddjmhjdoaa.PFnExactValGet
open Go.RowKit Go.Proofs.YtenpjddjmhjdoaaW.PrintWords Go.Proofs.YtenpjddjmhjdoaaW.PrintLast Go.Proofs.YtenpjddjmhjdoaaW.PrintMore Go.Proofs.Ytenpjddjmhjdoaa.M
attribute [local go_sem] max2_int min2_int max_two min_two max_three min_three max_four min_four Go.Proofs.Ytenpjddjmhjdoaa.M.str_gtr Go.Proofs.Ytenpjddjmhjdoaa.M.str_leq Go.Proofs.Ytenpjddjmhjdoaa.M.str_geq   -- for this text's walks alone
set_option linter.unusedVariables false
set_option linter.unusedSimpArgs false

/-! ### laws_heldByteSS: function 65 -/
def laws_heldByteSS.l0 : Nat → List (List Int) → Int → Int → Option (Int)
 | 0, _, _, _ => none
 | k + 1, x0, x1, x5 => if x5 < (x0.length : Int) then (if 0 ≤ x5 then ((laws_heldByteS.f k (rd_L1 x0 x5) x1).bind fun t402 => (if t402 < 0 then (some (-1)) else (laws_heldByteSS.l0 k x0 t402 (wrap64 (x5 + 1))))) else (none)) else (some x1)
def laws_heldByteSS.f (k : Nat) (l0 : List (List Int)) (a1 : Int) : Option (Int) := laws_heldByteSS.l0 k l0 a1 0
theorem laws_heldByteSS.mono_l : ∀ k, (∀ y0 y1 y2, LeO (laws_heldByteSS.l0 k y0 y1 y2) (laws_heldByteSS.l0 (k + 1) y0 y1 y2))
 | 0 => fun _ _ _ r h => by simp [laws_heldByteSS.l0] at h
 | k + 1 => by
  have ih0 := laws_heldByteSS.mono_l k
  ·intro y0 y1 y2
   unfold laws_heldByteSS.l0
   repeat' first
   | (with_reducible exact ih0 _ _ _)
   | (with_reducible exact laws_heldByteS.mono _ _ _)
   | (with_reducible exact LeO.refl _)
   | (with_reducible exact LeO.none _)
   | (with_reducible refine LeO.ite ?_ ?_)
   | (with_reducible refine LeO.bind ?_ (fun _ => ?_))
   | exact ih0 _ _ _
   | exact laws_heldByteS.mono _ _ _
   | exact LeO.none _
   | refine LeO.ite ?_ ?_
   | refine LeO.bind ?_ (fun _ => ?_)
theorem laws_heldByteSS.mono : ∀ a0 a1 k, LeO (laws_heldByteSS.f k a0 a1) (laws_heldByteSS.f (k + 1) a0 a1) := by
 intro a0 a1 k
 have ih0 := laws_heldByteSS.mono_l k
 unfold laws_heldByteSS.f
 repeat' first
   | (with_reducible exact ih0 _ _ _)
   | (with_reducible exact laws_heldByteS.mono _ _ _)
   | (with_reducible exact LeO.refl _)
   | (with_reducible exact LeO.none _)
   | (with_reducible refine LeO.ite ?_ ?_)
   | (with_reducible refine LeO.bind ?_ (fun _ => ?_))
   | exact ih0 _ _ _
   | exact laws_heldByteS.mono _ _ _
   | exact LeO.none _
   | refine LeO.ite ?_ ?_
   | refine LeO.bind ?_ (fun _ => ?_)
set_option maxHeartbeats 8000000 in
set_option maxRecDepth 100000 in
theorem laws_heldByteSS.calls (k : Nat) (A0 : Option Addr) (c0 : Nat) (l0 : List (List Int)) (a1 : Int) (r : Int) (w : World) (hr0 : Kd.C (Kd.slice 5 (Kd.int .u8)) w A0 l0.length l0) (hc0 : l0.length ≤ c0) (h : laws_heldByteSS.f k l0 a1 = some r) :
  Calls Try.prog 65 #[.slice A0 l0.length c0, .int .i64 a1] w fun e w' => e = .returned (.int .i64 r) ∧ Drawn0 w w' := by
 have HR0 := Aside0.mk hr0
 have HC0 := Aside0.mk hc0
 clear hr0 hc0
 have H : (laws_heldByteSS.l0 k l0 a1 0) = some r := h
 clear h
 have H' := Aside0.mk H
 clear H
 go_enter Try.func65, Try.ntmps65
 go_wp2
 go_loopg [1, 5] k (fun kq v1 v5 w' => ∃ (x1_1 : Int) (x5_1 : Int), v1 = .int .i64 x1_1 ∧ v5 = .int .i64 x5_1 ∧ Aside0 (laws_heldByteSS.l0 kq l0 x1_1 x5_1 = some r) ∧ Aside0 (kq ≤ k) ∧ Drawn0 w w')
 case atStart => exact ⟨(a1), (0), (by first | rfl | (simp; done) | (simp [*]; done)), (by first | rfl | (simp; done) | (simp [*]; done)), H', ⟨Nat.le_refl _⟩, by repeat (first | exact Drawn0.refl _ | apply Drawn0.step)⟩
 case round =>
  clear H'
  obtain ⟨x1_1, x5_1, rfl, rfl, HA, HK1, ⟨m1, rfl⟩⟩ := hrel
  cases gk with
  | zero => exact absurd HA.out (by simp [laws_heldByteSS.l0])
  | succ k1 =>
   have H := HA.out
   clear HA
   simp only [laws_heldByteSS.l0] at H
   by_cases c3 : x5_1 < (l0.length : Int)
   ·rw [if_pos c3] at H
    have c3b0 : decide (x5_1 < (l0.length : Int)) = true := decide_eq_true c3
    clear c3
    by_cases c4 : 0 ≤ x5_1
    ·rw [if_pos c4] at H
     have c4b0 : decide (0 ≤ x5_1) = true := decide_eq_true c4
     clear c4
     replace H := Option.bind_eq_some_iff.mp H
     obtain ⟨t402, A50, H⟩ := H
     replace H : (if t402 < 0 then (some (-1)) else (laws_heldByteSS.l0 k1 l0 t402 (wrap64 (x5_1 + 1)))) = some r := H
     have A5 := Aside0.mk A50
     clear A50
     by_cases c6 : t402 < 0
     ·rw [if_pos c6] at H
      have c6b0 : decide (t402 < 0) = true := decide_eq_true c6
      clear c6
      obtain rfl := Option.some.inj H
      have p401 : 0 ≤ (x5_1 : Int) := of_decide_eq_true (by first | (with_reducible assumption) | assumption)
      have q401 : x5_1 < (l0.length : Int) := of_decide_eq_true (by first | (with_reducible assumption) | assumption)
      obtain ⟨ad401, A401_0, c401_0, e401, hx401_0, hl401_0, hi401_0⟩ := at_L1 HR0.out x5_1 p401 q401
      cases e401
      have HR401_0 := Aside0.mk hi401_0
      have HC401_0 := Aside0.mk hl401_0
      clear hi401_0 hl401_0
      replace p401 := eq_true p401
      replace q401 := eq_true q401
      go_wp2_with (first | ((with_reducible refine gg (f := 64) (some 17) rfl rfl rfl fr64 ?_); refine onc (laws_heldByteS.calls k1 _ _ (rd_L1 l0 x5_1) x1_1 t402 _ (cb HR401_0) HC401_0.out A5.out) rfl ?_; rintro e w' ⟨rfl, ⟨nd, rfl⟩⟩; refine ⟨_, rfl, ?_⟩))
      go_ret
      exact ⟨by first | rfl | (simp; done) | (simp [*]; done), by repeat (first | exact Drawn0.refl _ | apply Drawn0.step)⟩
     ·rw [if_neg c6] at H
      have c6b0 : decide (t402 < 0) = false := decide_eq_false c6
      clear c6
      have H' := Aside0.mk H
      clear H
      have p401 : 0 ≤ (x5_1 : Int) := of_decide_eq_true (by first | (with_reducible assumption) | assumption)
      have q401 : x5_1 < (l0.length : Int) := of_decide_eq_true (by first | (with_reducible assumption) | assumption)
      obtain ⟨ad401, A401_0, c401_0, e401, hx401_0, hl401_0, hi401_0⟩ := at_L1 HR0.out x5_1 p401 q401
      cases e401
      have HR401_0 := Aside0.mk hi401_0
      have HC401_0 := Aside0.mk hl401_0
      clear hi401_0 hl401_0
      replace p401 := eq_true p401
      replace q401 := eq_true q401
      go_wp2_with (first | ((with_reducible refine gg (f := 64) (some 17) rfl rfl rfl fr64 ?_); refine onc (laws_heldByteS.calls k1 _ _ (rd_L1 l0 x5_1) x1_1 t402 _ (cb HR401_0) HC401_0.out A5.out) rfl ?_; rintro e w' ⟨rfl, ⟨nd, rfl⟩⟩; refine ⟨_, rfl, ?_⟩))
      go_roundg k1
      case measure => have := HK1.out; omega
      case rel => exact ⟨(t402), (wrap64 (x5_1 + 1)), (by first | rfl | (simp; done) | (simp [*]; done)), (by first | rfl | (simp; done) | (simp [*]; done)), H', ⟨by have := HK1.out; omega⟩, by repeat (first | exact Drawn0.refl _ | apply Drawn0.step)⟩
    ·rw [if_neg c4] at H
     exact absurd H (by simp)
   ·rw [if_neg c3] at H
    have c3b0 : decide (x5_1 < (l0.length : Int)) = false := decide_eq_false c3
    clear c3
    obtain rfl := Option.some.inj H
    go_wp2
    go_ret
    exact ⟨by first | rfl | (simp; done) | (simp [*]; done), by repeat (first | exact Drawn0.refl _ | apply Drawn0.step)⟩

/-! ### laws_heldValueS: function 66 -/
mutual
def laws_heldValueS.l0 : Nat → List (S30) → Int → Int → Option (Int)
 | 0, _, _, _ => none
 | k + 1, x0, x1, x5 => if x5 < (x0.length : Int) then (if 0 ≤ x5 then (if ((rd_T30 x0 x5).f0) = x1 then (if ((rd_T30 x0 x5).f1) = (wrap64 (x1 + 1)) then ((laws_heldByteS.f k ((rd_T30 x0 x5).f2) (wrap64 ((wrap64 (x1 + 1)) + 1))).bind fun t406 => (if t406 < 0 then (some (-1)) else ((laws_heldByteSS.f k ((rd_T30 x0 x5).f3) t406).bind fun t408 => (if t408 < 0 then (some (-1)) else ((laws_heldValueS.f k ((rd_T30 x0 x5).f4) t408).bind fun t410 => (if t410 < 0 then (some (-1)) else (laws_heldValueS.l0 k x0 t410 (wrap64 (x5 + 1))))))))) else (some (-1))) else (some (-1))) else (none)) else (some x1)
def laws_heldValueS.f : Nat → List (S30) → Int → Option (Int)
 | 0, _, _ => none
 | k + 1, l0, a1 => laws_heldValueS.l0 k l0 a1 0
end
theorem laws_heldValueS.mono_l : ∀ k, (∀ y0 y1, LeO (laws_heldValueS.f k y0 y1) (laws_heldValueS.f (k + 1) y0 y1)) ∧ (∀ y0 y1 y2, LeO (laws_heldValueS.l0 k y0 y1 y2) (laws_heldValueS.l0 (k + 1) y0 y1 y2))
 | 0 => ⟨fun _ _ r h => by simp [laws_heldValueS.f] at h, fun _ _ _ r h => by simp [laws_heldValueS.l0] at h⟩
 | k + 1 => by
  obtain ⟨ih0, ih1⟩ := laws_heldValueS.mono_l k
  refine ⟨?_, ?_⟩
  ·intro y0 y1
   unfold laws_heldValueS.f
   repeat' first
   | (with_reducible exact ih0 _ _)
   | (with_reducible exact ih1 _ _ _)
   | (with_reducible exact laws_heldByteS.mono _ _ _)
   | (with_reducible exact laws_heldByteSS.mono _ _ _)
   | (with_reducible exact LeO.refl _)
   | (with_reducible exact LeO.none _)
   | (with_reducible refine LeO.ite ?_ ?_)
   | (with_reducible refine LeO.bind ?_ (fun _ => ?_))
   | exact ih0 _ _
   | exact ih1 _ _ _
   | exact laws_heldByteS.mono _ _ _
   | exact laws_heldByteSS.mono _ _ _
   | exact LeO.none _
   | refine LeO.ite ?_ ?_
   | refine LeO.bind ?_ (fun _ => ?_)
  ·intro y0 y1 y2
   unfold laws_heldValueS.l0
   repeat' first
   | (with_reducible exact ih0 _ _)
   | (with_reducible exact ih1 _ _ _)
   | (with_reducible exact laws_heldByteS.mono _ _ _)
   | (with_reducible exact laws_heldByteSS.mono _ _ _)
   | (with_reducible exact LeO.refl _)
   | (with_reducible exact LeO.none _)
   | (with_reducible refine LeO.ite ?_ ?_)
   | (with_reducible refine LeO.bind ?_ (fun _ => ?_))
   | exact ih0 _ _
   | exact ih1 _ _ _
   | exact laws_heldByteS.mono _ _ _
   | exact laws_heldByteSS.mono _ _ _
   | exact LeO.none _
   | refine LeO.ite ?_ ?_
   | refine LeO.bind ?_ (fun _ => ?_)
theorem laws_heldValueS.mono : ∀ a0 a1 k, LeO (laws_heldValueS.f k a0 a1) (laws_heldValueS.f (k + 1) a0 a1) := by
 intro a0 a1 k
 obtain ⟨ih0, ih1⟩ := laws_heldValueS.mono_l k
 exact ih0 a0 a1
set_option maxHeartbeats 8000000 in
set_option maxRecDepth 100000 in
theorem laws_heldValueS.calls (k : Nat) : ∀ (A0 : Option Addr) (c0 : Nat) (l0 : List (S30)) (a1 : Int) (r : Int) (w : World) (hr0 : Kd.C k30 w A0 l0.length l0) (hc0 : l0.length ≤ c0) (h : laws_heldValueS.f k l0 a1 = some r),
  Calls Try.prog 66 #[.slice A0 l0.length c0, .int .i64 a1] w fun e w' => e = .returned (.int .i64 r) ∧ Drawn0 w w' := by
 induction k using Nat.strongRecOn with
 | _ k ih =>
 intro A0 c0 l0 a1 r w hr0 hc0 h
 cases k with
 | zero => exact absurd h (by simp [laws_heldValueS.f])
 | succ k =>
 simp only [laws_heldValueS.f] at h
 have HR0 := Aside0.mk hr0
 have HC0 := Aside0.mk hc0
 clear hr0 hc0
 have H : (laws_heldValueS.l0 k l0 a1 0) = some r := h
 clear h
 have H' := Aside0.mk H
 clear H
 go_enter Try.func66, Try.ntmps66
 go_wp2
 go_loopg [1, 5] k (fun kq v1 v5 w' => ∃ (x1_1 : Int) (x5_1 : Int), v1 = .int .i64 x1_1 ∧ v5 = .int .i64 x5_1 ∧ Aside0 (laws_heldValueS.l0 kq l0 x1_1 x5_1 = some r) ∧ Aside0 (kq ≤ k) ∧ Drawn0 w w')
 case atStart => exact ⟨(a1), (0), (by first | rfl | (simp; done) | (simp [*]; done)), (by first | rfl | (simp; done) | (simp [*]; done)), H', ⟨Nat.le_refl _⟩, by repeat (first | exact Drawn0.refl _ | apply Drawn0.step)⟩
 case round =>
  clear H'
  obtain ⟨x1_1, x5_1, rfl, rfl, HA, HK1, ⟨m1, rfl⟩⟩ := hrel
  cases gk with
  | zero => exact absurd HA.out (by simp [laws_heldValueS.l0])
  | succ k1 =>
   have H := HA.out
   clear HA
   simp only [laws_heldValueS.l0] at H
   by_cases c3 : x5_1 < (l0.length : Int)
   ·rw [if_pos c3] at H
    have c3b0 : decide (x5_1 < (l0.length : Int)) = true := decide_eq_true c3
    clear c3
    by_cases c4 : 0 ≤ x5_1
    ·rw [if_pos c4] at H
     have c4b0 : decide (0 ≤ x5_1) = true := decide_eq_true c4
     clear c4
     by_cases c5 : ((rd_T30 l0 x5_1).f0) = x1_1
     ·rw [if_pos c5] at H
      have c5b0 : (((rd_T30 l0 x5_1).f0) == x1_1) = true := beq_iff_eq.mpr c5
      have c5b1 : (((rd_T30 l0 x5_1).f0) != x1_1) = false := bne_eq_false_iff_eq.mpr c5
      clear c5
      by_cases c6 : ((rd_T30 l0 x5_1).f1) = (wrap64 (x1_1 + 1))
      ·rw [if_pos c6] at H
       have c6b0 : (((rd_T30 l0 x5_1).f1) == (wrap64 (x1_1 + 1))) = true := beq_iff_eq.mpr c6
       have c6b1 : (((rd_T30 l0 x5_1).f1) != (wrap64 (x1_1 + 1))) = false := bne_eq_false_iff_eq.mpr c6
       clear c6
       replace H := Option.bind_eq_some_iff.mp H
       obtain ⟨t406, A70, H⟩ := H
       replace H : (if t406 < 0 then (some (-1)) else ((laws_heldByteSS.f k1 ((rd_T30 l0 x5_1).f3) t406).bind fun t408 => (if t408 < 0 then (some (-1)) else ((laws_heldValueS.f k1 ((rd_T30 l0 x5_1).f4) t408).bind fun t410 => (if t410 < 0 then (some (-1)) else (laws_heldValueS.l0 k1 l0 t410 (wrap64 (x5_1 + 1)))))))) = some r := H
       have A7 := Aside0.mk A70
       clear A70
       by_cases c8 : t406 < 0
       ·rw [if_pos c8] at H
        have c8b0 : decide (t406 < 0) = true := decide_eq_true c8
        clear c8
        obtain rfl := Option.some.inj H
        have p403 : 0 ≤ (x5_1 : Int) := of_decide_eq_true (by first | (with_reducible assumption) | assumption)
        have q403 : x5_1 < (l0.length : Int) := of_decide_eq_true (by first | (with_reducible assumption) | assumption)
        obtain ⟨ad403, A403_2, c403_2, A403_3, c403_3, A403_4, c403_4, e403, hx403_0, hx403_1, hx403_2, hx403_3, hx403_4, hl403_2, hi403_2, hl403_3, hi403_3, hl403_4, hi403_4⟩ := at_T30 HR0.out x5_1 p403 q403
        cases e403
        have HR403_2 := Aside0.mk hi403_2
        have HC403_2 := Aside0.mk hl403_2
        clear hi403_2 hl403_2
        have HR403_3 := Aside0.mk hi403_3
        have HC403_3 := Aside0.mk hl403_3
        clear hi403_3 hl403_3
        have HR403_4 := Aside0.mk hi403_4
        have HC403_4 := Aside0.mk hl403_4
        clear hi403_4 hl403_4
        replace p403 := eq_true p403
        replace q403 := eq_true q403
        have p404 : 0 ≤ (x5_1 : Int) := of_decide_eq_true (by first | (with_reducible assumption) | assumption)
        have q404 : x5_1 < (l0.length : Int) := of_decide_eq_true (by first | (with_reducible assumption) | assumption)
        obtain ⟨ad404, A404_2, c404_2, A404_3, c404_3, A404_4, c404_4, e404, hx404_0, hx404_1, hx404_2, hx404_3, hx404_4, hl404_2, hi404_2, hl404_3, hi404_3, hl404_4, hi404_4⟩ := at_T30 HR0.out x5_1 p404 q404
        obtain rfl : ad403 = ad404 := (by injection e404)
        have HR404_2 := Aside0.mk hi404_2
        have HC404_2 := Aside0.mk hl404_2
        clear hi404_2 hl404_2
        have HR404_3 := Aside0.mk hi404_3
        have HC404_3 := Aside0.mk hl404_3
        clear hi404_3 hl404_3
        have HR404_4 := Aside0.mk hi404_4
        have HC404_4 := Aside0.mk hl404_4
        clear hi404_4 hl404_4
        replace p404 := eq_true p404
        replace q404 := eq_true q404
        have ea_ := Option.some.inj (hx403_2.symm.trans hx404_2)
        injection ea_ with ea_ en_ ec_
        subst ea_
        subst ec_
        clear en_
        have ea_ := Option.some.inj (hx403_3.symm.trans hx404_3)
        injection ea_ with ea_ en_ ec_
        subst ea_
        subst ec_
        clear en_
        have ea_ := Option.some.inj (hx403_4.symm.trans hx404_4)
        injection ea_ with ea_ en_ ec_
        subst ea_
        subst ec_
        clear en_
        have p405 : 0 ≤ (x5_1 : Int) := of_decide_eq_true (by first | (with_reducible assumption) | assumption)
        have q405 : x5_1 < (l0.length : Int) := of_decide_eq_true (by first | (with_reducible assumption) | assumption)
        obtain ⟨ad405, A405_2, c405_2, A405_3, c405_3, A405_4, c405_4, e405, hx405_0, hx405_1, hx405_2, hx405_3, hx405_4, hl405_2, hi405_2, hl405_3, hi405_3, hl405_4, hi405_4⟩ := at_T30 HR0.out x5_1 p405 q405
        obtain rfl : ad403 = ad405 := (by injection e405)
        have HR405_2 := Aside0.mk hi405_2
        have HC405_2 := Aside0.mk hl405_2
        clear hi405_2 hl405_2
        have HR405_3 := Aside0.mk hi405_3
        have HC405_3 := Aside0.mk hl405_3
        clear hi405_3 hl405_3
        have HR405_4 := Aside0.mk hi405_4
        have HC405_4 := Aside0.mk hl405_4
        clear hi405_4 hl405_4
        replace p405 := eq_true p405
        replace q405 := eq_true q405
        have ea_ := Option.some.inj (hx403_2.symm.trans hx405_2)
        injection ea_ with ea_ en_ ec_
        subst ea_
        subst ec_
        clear en_
        have ea_ := Option.some.inj (hx403_3.symm.trans hx405_3)
        injection ea_ with ea_ en_ ec_
        subst ea_
        subst ec_
        clear en_
        have ea_ := Option.some.inj (hx403_4.symm.trans hx405_4)
        injection ea_ with ea_ en_ ec_
        subst ea_
        subst ec_
        clear en_
        go_wp2_with (first | ((with_reducible refine gg (f := 64) (some 36) rfl rfl rfl fr64 ?_); refine onc (laws_heldByteS.calls k1 _ _ ((rd_T30 l0 x5_1).f2) (wrap64 ((wrap64 (x1_1 + 1)) + 1)) t406 _ (cb HR405_2) HC405_2.out A7.out) rfl ?_; rintro e w' ⟨rfl, ⟨nd, rfl⟩⟩; refine ⟨_, rfl, ?_⟩))
        go_ret
        exact ⟨by first | rfl | (simp; done) | (simp [*]; done), by repeat (first | exact Drawn0.refl _ | apply Drawn0.step)⟩
       ·rw [if_neg c8] at H
        have c8b0 : decide (t406 < 0) = false := decide_eq_false c8
        clear c8
        replace H := Option.bind_eq_some_iff.mp H
        obtain ⟨t408, A90, H⟩ := H
        replace H : (if t408 < 0 then (some (-1)) else ((laws_heldValueS.f k1 ((rd_T30 l0 x5_1).f4) t408).bind fun t410 => (if t410 < 0 then (some (-1)) else (laws_heldValueS.l0 k1 l0 t410 (wrap64 (x5_1 + 1)))))) = some r := H
        have A9 := Aside0.mk A90
        clear A90
        by_cases c10 : t408 < 0
        ·rw [if_pos c10] at H
         have c10b0 : decide (t408 < 0) = true := decide_eq_true c10
         clear c10
         obtain rfl := Option.some.inj H
         have p403 : 0 ≤ (x5_1 : Int) := of_decide_eq_true (by first | (with_reducible assumption) | assumption)
         have q403 : x5_1 < (l0.length : Int) := of_decide_eq_true (by first | (with_reducible assumption) | assumption)
         obtain ⟨ad403, A403_2, c403_2, A403_3, c403_3, A403_4, c403_4, e403, hx403_0, hx403_1, hx403_2, hx403_3, hx403_4, hl403_2, hi403_2, hl403_3, hi403_3, hl403_4, hi403_4⟩ := at_T30 HR0.out x5_1 p403 q403
         cases e403
         have HR403_2 := Aside0.mk hi403_2
         have HC403_2 := Aside0.mk hl403_2
         clear hi403_2 hl403_2
         have HR403_3 := Aside0.mk hi403_3
         have HC403_3 := Aside0.mk hl403_3
         clear hi403_3 hl403_3
         have HR403_4 := Aside0.mk hi403_4
         have HC403_4 := Aside0.mk hl403_4
         clear hi403_4 hl403_4
         replace p403 := eq_true p403
         replace q403 := eq_true q403
         have p404 : 0 ≤ (x5_1 : Int) := of_decide_eq_true (by first | (with_reducible assumption) | assumption)
         have q404 : x5_1 < (l0.length : Int) := of_decide_eq_true (by first | (with_reducible assumption) | assumption)
         obtain ⟨ad404, A404_2, c404_2, A404_3, c404_3, A404_4, c404_4, e404, hx404_0, hx404_1, hx404_2, hx404_3, hx404_4, hl404_2, hi404_2, hl404_3, hi404_3, hl404_4, hi404_4⟩ := at_T30 HR0.out x5_1 p404 q404
         obtain rfl : ad403 = ad404 := (by injection e404)
         have HR404_2 := Aside0.mk hi404_2
         have HC404_2 := Aside0.mk hl404_2
         clear hi404_2 hl404_2
         have HR404_3 := Aside0.mk hi404_3
         have HC404_3 := Aside0.mk hl404_3
         clear hi404_3 hl404_3
         have HR404_4 := Aside0.mk hi404_4
         have HC404_4 := Aside0.mk hl404_4
         clear hi404_4 hl404_4
         replace p404 := eq_true p404
         replace q404 := eq_true q404
         have ea_ := Option.some.inj (hx403_2.symm.trans hx404_2)
         injection ea_ with ea_ en_ ec_
         subst ea_
         subst ec_
         clear en_
         have ea_ := Option.some.inj (hx403_3.symm.trans hx404_3)
         injection ea_ with ea_ en_ ec_
         subst ea_
         subst ec_
         clear en_
         have ea_ := Option.some.inj (hx403_4.symm.trans hx404_4)
         injection ea_ with ea_ en_ ec_
         subst ea_
         subst ec_
         clear en_
         have p405 : 0 ≤ (x5_1 : Int) := of_decide_eq_true (by first | (with_reducible assumption) | assumption)
         have q405 : x5_1 < (l0.length : Int) := of_decide_eq_true (by first | (with_reducible assumption) | assumption)
         obtain ⟨ad405, A405_2, c405_2, A405_3, c405_3, A405_4, c405_4, e405, hx405_0, hx405_1, hx405_2, hx405_3, hx405_4, hl405_2, hi405_2, hl405_3, hi405_3, hl405_4, hi405_4⟩ := at_T30 HR0.out x5_1 p405 q405
         obtain rfl : ad403 = ad405 := (by injection e405)
         have HR405_2 := Aside0.mk hi405_2
         have HC405_2 := Aside0.mk hl405_2
         clear hi405_2 hl405_2
         have HR405_3 := Aside0.mk hi405_3
         have HC405_3 := Aside0.mk hl405_3
         clear hi405_3 hl405_3
         have HR405_4 := Aside0.mk hi405_4
         have HC405_4 := Aside0.mk hl405_4
         clear hi405_4 hl405_4
         replace p405 := eq_true p405
         replace q405 := eq_true q405
         have ea_ := Option.some.inj (hx403_2.symm.trans hx405_2)
         injection ea_ with ea_ en_ ec_
         subst ea_
         subst ec_
         clear en_
         have ea_ := Option.some.inj (hx403_3.symm.trans hx405_3)
         injection ea_ with ea_ en_ ec_
         subst ea_
         subst ec_
         clear en_
         have ea_ := Option.some.inj (hx403_4.symm.trans hx405_4)
         injection ea_ with ea_ en_ ec_
         subst ea_
         subst ec_
         clear en_
         go_wp2_with (first | ((with_reducible refine gg (f := 64) (some 36) rfl rfl rfl fr64 ?_); refine onc (laws_heldByteS.calls k1 _ _ ((rd_T30 l0 x5_1).f2) (wrap64 ((wrap64 (x1_1 + 1)) + 1)) t406 _ (cb HR405_2) HC405_2.out A7.out) rfl ?_; rintro e w' ⟨rfl, ⟨nd, rfl⟩⟩; refine ⟨_, rfl, ?_⟩; have p407 : 0 ≤ (x5_1 : Int) := of_decide_eq_true (by first | (with_reducible assumption) | assumption); have q407 : x5_1 < (l0.length : Int) := of_decide_eq_true (by first | (with_reducible assumption) | assumption); obtain ⟨ad407, A407_2, c407_2, A407_3, c407_3, A407_4, c407_4, e407, hx407_0, hx407_1, hx407_2, hx407_3, hx407_4, hl407_2, hi407_2, hl407_3, hi407_3, hl407_4, hi407_4⟩ := at_T30 HR0.out x5_1 p407 q407; obtain rfl : ad403 = ad407 := (by injection e407); have HR407_2 := Aside0.mk hi407_2; have HC407_2 := Aside0.mk hl407_2; clear hi407_2 hl407_2; have HR407_3 := Aside0.mk hi407_3; have HC407_3 := Aside0.mk hl407_3; clear hi407_3 hl407_3; have HR407_4 := Aside0.mk hi407_4; have HC407_4 := Aside0.mk hl407_4; clear hi407_4 hl407_4; replace p407 := eq_true p407; replace q407 := eq_true q407; have ea_ := Option.some.inj (hx403_2.symm.trans hx407_2); injection ea_ with ea_ en_ ec_; subst ea_; subst ec_; clear en_; have ea_ := Option.some.inj (hx403_3.symm.trans hx407_3); injection ea_ with ea_ en_ ec_; subst ea_; subst ec_; clear en_; have ea_ := Option.some.inj (hx403_4.symm.trans hx407_4); injection ea_ with ea_ en_ ec_; subst ea_; subst ec_; clear en_) | ((with_reducible refine gg (f := 65) (some 45) rfl rfl rfl fr65 ?_); refine onc (laws_heldByteSS.calls k1 _ _ ((rd_T30 l0 x5_1).f3) t406 t408 _ (cb HR407_3) HC407_3.out A9.out) rfl ?_; rintro e w' ⟨rfl, ⟨nd, rfl⟩⟩; refine ⟨_, rfl, ?_⟩))
         go_ret
         exact ⟨by first | rfl | (simp; done) | (simp [*]; done), by repeat (first | exact Drawn0.refl _ | apply Drawn0.step)⟩
        ·rw [if_neg c10] at H
         have c10b0 : decide (t408 < 0) = false := decide_eq_false c10
         clear c10
         replace H := Option.bind_eq_some_iff.mp H
         obtain ⟨t410, A110, H⟩ := H
         replace H : (if t410 < 0 then (some (-1)) else (laws_heldValueS.l0 k1 l0 t410 (wrap64 (x5_1 + 1)))) = some r := H
         have A11 := Aside0.mk A110
         clear A110
         by_cases c12 : t410 < 0
         ·rw [if_pos c12] at H
          have c12b0 : decide (t410 < 0) = true := decide_eq_true c12
          clear c12
          obtain rfl := Option.some.inj H
          have p403 : 0 ≤ (x5_1 : Int) := of_decide_eq_true (by first | (with_reducible assumption) | assumption)
          have q403 : x5_1 < (l0.length : Int) := of_decide_eq_true (by first | (with_reducible assumption) | assumption)
          obtain ⟨ad403, A403_2, c403_2, A403_3, c403_3, A403_4, c403_4, e403, hx403_0, hx403_1, hx403_2, hx403_3, hx403_4, hl403_2, hi403_2, hl403_3, hi403_3, hl403_4, hi403_4⟩ := at_T30 HR0.out x5_1 p403 q403
          cases e403
          have HR403_2 := Aside0.mk hi403_2
          have HC403_2 := Aside0.mk hl403_2
          clear hi403_2 hl403_2
          have HR403_3 := Aside0.mk hi403_3
          have HC403_3 := Aside0.mk hl403_3
          clear hi403_3 hl403_3
          have HR403_4 := Aside0.mk hi403_4
          have HC403_4 := Aside0.mk hl403_4
          clear hi403_4 hl403_4
          replace p403 := eq_true p403
          replace q403 := eq_true q403
          have p404 : 0 ≤ (x5_1 : Int) := of_decide_eq_true (by first | (with_reducible assumption) | assumption)
          have q404 : x5_1 < (l0.length : Int) := of_decide_eq_true (by first | (with_reducible assumption) | assumption)
          obtain ⟨ad404, A404_2, c404_2, A404_3, c404_3, A404_4, c404_4, e404, hx404_0, hx404_1, hx404_2, hx404_3, hx404_4, hl404_2, hi404_2, hl404_3, hi404_3, hl404_4, hi404_4⟩ := at_T30 HR0.out x5_1 p404 q404
          obtain rfl : ad403 = ad404 := (by injection e404)
          have HR404_2 := Aside0.mk hi404_2
          have HC404_2 := Aside0.mk hl404_2
          clear hi404_2 hl404_2
          have HR404_3 := Aside0.mk hi404_3
          have HC404_3 := Aside0.mk hl404_3
          clear hi404_3 hl404_3
          have HR404_4 := Aside0.mk hi404_4
          have HC404_4 := Aside0.mk hl404_4
          clear hi404_4 hl404_4
          replace p404 := eq_true p404
          replace q404 := eq_true q404
          have ea_ := Option.some.inj (hx403_2.symm.trans hx404_2)
          injection ea_ with ea_ en_ ec_
          subst ea_
          subst ec_
          clear en_
          have ea_ := Option.some.inj (hx403_3.symm.trans hx404_3)
          injection ea_ with ea_ en_ ec_
          subst ea_
          subst ec_
          clear en_
          have ea_ := Option.some.inj (hx403_4.symm.trans hx404_4)
          injection ea_ with ea_ en_ ec_
          subst ea_
          subst ec_
          clear en_
          have p405 : 0 ≤ (x5_1 : Int) := of_decide_eq_true (by first | (with_reducible assumption) | assumption)
          have q405 : x5_1 < (l0.length : Int) := of_decide_eq_true (by first | (with_reducible assumption) | assumption)
          obtain ⟨ad405, A405_2, c405_2, A405_3, c405_3, A405_4, c405_4, e405, hx405_0, hx405_1, hx405_2, hx405_3, hx405_4, hl405_2, hi405_2, hl405_3, hi405_3, hl405_4, hi405_4⟩ := at_T30 HR0.out x5_1 p405 q405
          obtain rfl : ad403 = ad405 := (by injection e405)
          have HR405_2 := Aside0.mk hi405_2
          have HC405_2 := Aside0.mk hl405_2
          clear hi405_2 hl405_2
          have HR405_3 := Aside0.mk hi405_3
          have HC405_3 := Aside0.mk hl405_3
          clear hi405_3 hl405_3
          have HR405_4 := Aside0.mk hi405_4
          have HC405_4 := Aside0.mk hl405_4
          clear hi405_4 hl405_4
          replace p405 := eq_true p405
          replace q405 := eq_true q405
          have ea_ := Option.some.inj (hx403_2.symm.trans hx405_2)
          injection ea_ with ea_ en_ ec_
          subst ea_
          subst ec_
          clear en_
          have ea_ := Option.some.inj (hx403_3.symm.trans hx405_3)
          injection ea_ with ea_ en_ ec_
          subst ea_
          subst ec_
          clear en_
          have ea_ := Option.some.inj (hx403_4.symm.trans hx405_4)
          injection ea_ with ea_ en_ ec_
          subst ea_
          subst ec_
          clear en_
          go_wp2_with (first | ((with_reducible refine gg (f := 64) (some 36) rfl rfl rfl fr64 ?_); refine onc (laws_heldByteS.calls k1 _ _ ((rd_T30 l0 x5_1).f2) (wrap64 ((wrap64 (x1_1 + 1)) + 1)) t406 _ (cb HR405_2) HC405_2.out A7.out) rfl ?_; rintro e w' ⟨rfl, ⟨nd, rfl⟩⟩; refine ⟨_, rfl, ?_⟩; have p407 : 0 ≤ (x5_1 : Int) := of_decide_eq_true (by first | (with_reducible assumption) | assumption); have q407 : x5_1 < (l0.length : Int) := of_decide_eq_true (by first | (with_reducible assumption) | assumption); obtain ⟨ad407, A407_2, c407_2, A407_3, c407_3, A407_4, c407_4, e407, hx407_0, hx407_1, hx407_2, hx407_3, hx407_4, hl407_2, hi407_2, hl407_3, hi407_3, hl407_4, hi407_4⟩ := at_T30 HR0.out x5_1 p407 q407; obtain rfl : ad403 = ad407 := (by injection e407); have HR407_2 := Aside0.mk hi407_2; have HC407_2 := Aside0.mk hl407_2; clear hi407_2 hl407_2; have HR407_3 := Aside0.mk hi407_3; have HC407_3 := Aside0.mk hl407_3; clear hi407_3 hl407_3; have HR407_4 := Aside0.mk hi407_4; have HC407_4 := Aside0.mk hl407_4; clear hi407_4 hl407_4; replace p407 := eq_true p407; replace q407 := eq_true q407; have ea_ := Option.some.inj (hx403_2.symm.trans hx407_2); injection ea_ with ea_ en_ ec_; subst ea_; subst ec_; clear en_; have ea_ := Option.some.inj (hx403_3.symm.trans hx407_3); injection ea_ with ea_ en_ ec_; subst ea_; subst ec_; clear en_; have ea_ := Option.some.inj (hx403_4.symm.trans hx407_4); injection ea_ with ea_ en_ ec_; subst ea_; subst ec_; clear en_) | ((with_reducible refine gg (f := 65) (some 45) rfl rfl rfl fr65 ?_); refine onc (laws_heldByteSS.calls k1 _ _ ((rd_T30 l0 x5_1).f3) t406 t408 _ (cb HR407_3) HC407_3.out A9.out) rfl ?_; rintro e w' ⟨rfl, ⟨nd, rfl⟩⟩; refine ⟨_, rfl, ?_⟩; have p409 : 0 ≤ (x5_1 : Int) := of_decide_eq_true (by first | (with_reducible assumption) | assumption); have q409 : x5_1 < (l0.length : Int) := of_decide_eq_true (by first | (with_reducible assumption) | assumption); obtain ⟨ad409, A409_2, c409_2, A409_3, c409_3, A409_4, c409_4, e409, hx409_0, hx409_1, hx409_2, hx409_3, hx409_4, hl409_2, hi409_2, hl409_3, hi409_3, hl409_4, hi409_4⟩ := at_T30 HR0.out x5_1 p409 q409; obtain rfl : ad403 = ad409 := (by injection e409); have HR409_2 := Aside0.mk hi409_2; have HC409_2 := Aside0.mk hl409_2; clear hi409_2 hl409_2; have HR409_3 := Aside0.mk hi409_3; have HC409_3 := Aside0.mk hl409_3; clear hi409_3 hl409_3; have HR409_4 := Aside0.mk hi409_4; have HC409_4 := Aside0.mk hl409_4; clear hi409_4 hl409_4; replace p409 := eq_true p409; replace q409 := eq_true q409; have ea_ := Option.some.inj (hx403_2.symm.trans hx409_2); injection ea_ with ea_ en_ ec_; subst ea_; subst ec_; clear en_; have ea_ := Option.some.inj (hx403_3.symm.trans hx409_3); injection ea_ with ea_ en_ ec_; subst ea_; subst ec_; clear en_; have ea_ := Option.some.inj (hx403_4.symm.trans hx409_4); injection ea_ with ea_ en_ ec_; subst ea_; subst ec_; clear en_) | ((with_reducible refine gg (f := 66) (some 54) rfl rfl rfl fr66 ?_); refine onc (ih k1 (by have := HK1.out; omega) _ _ ((rd_T30 l0 x5_1).f4) t408 t410 _ (cb HR409_4) HC409_4.out A11.out) rfl ?_; rintro e w' ⟨rfl, ⟨nd, rfl⟩⟩; refine ⟨_, rfl, ?_⟩))
          go_ret
          exact ⟨by first | rfl | (simp; done) | (simp [*]; done), by repeat (first | exact Drawn0.refl _ | apply Drawn0.step)⟩
         ·rw [if_neg c12] at H
          have c12b0 : decide (t410 < 0) = false := decide_eq_false c12
          clear c12
          have H' := Aside0.mk H
          clear H
          have p403 : 0 ≤ (x5_1 : Int) := of_decide_eq_true (by first | (with_reducible assumption) | assumption)
          have q403 : x5_1 < (l0.length : Int) := of_decide_eq_true (by first | (with_reducible assumption) | assumption)
          obtain ⟨ad403, A403_2, c403_2, A403_3, c403_3, A403_4, c403_4, e403, hx403_0, hx403_1, hx403_2, hx403_3, hx403_4, hl403_2, hi403_2, hl403_3, hi403_3, hl403_4, hi403_4⟩ := at_T30 HR0.out x5_1 p403 q403
          cases e403
          have HR403_2 := Aside0.mk hi403_2
          have HC403_2 := Aside0.mk hl403_2
          clear hi403_2 hl403_2
          have HR403_3 := Aside0.mk hi403_3
          have HC403_3 := Aside0.mk hl403_3
          clear hi403_3 hl403_3
          have HR403_4 := Aside0.mk hi403_4
          have HC403_4 := Aside0.mk hl403_4
          clear hi403_4 hl403_4
          replace p403 := eq_true p403
          replace q403 := eq_true q403
          have p404 : 0 ≤ (x5_1 : Int) := of_decide_eq_true (by first | (with_reducible assumption) | assumption)
          have q404 : x5_1 < (l0.length : Int) := of_decide_eq_true (by first | (with_reducible assumption) | assumption)
          obtain ⟨ad404, A404_2, c404_2, A404_3, c404_3, A404_4, c404_4, e404, hx404_0, hx404_1, hx404_2, hx404_3, hx404_4, hl404_2, hi404_2, hl404_3, hi404_3, hl404_4, hi404_4⟩ := at_T30 HR0.out x5_1 p404 q404
          obtain rfl : ad403 = ad404 := (by injection e404)
          have HR404_2 := Aside0.mk hi404_2
          have HC404_2 := Aside0.mk hl404_2
          clear hi404_2 hl404_2
          have HR404_3 := Aside0.mk hi404_3
          have HC404_3 := Aside0.mk hl404_3
          clear hi404_3 hl404_3
          have HR404_4 := Aside0.mk hi404_4
          have HC404_4 := Aside0.mk hl404_4
          clear hi404_4 hl404_4
          replace p404 := eq_true p404
          replace q404 := eq_true q404
          have ea_ := Option.some.inj (hx403_2.symm.trans hx404_2)
          injection ea_ with ea_ en_ ec_
          subst ea_
          subst ec_
          clear en_
          have ea_ := Option.some.inj (hx403_3.symm.trans hx404_3)
          injection ea_ with ea_ en_ ec_
          subst ea_
          subst ec_
          clear en_
          have ea_ := Option.some.inj (hx403_4.symm.trans hx404_4)
          injection ea_ with ea_ en_ ec_
          subst ea_
          subst ec_
          clear en_
          have p405 : 0 ≤ (x5_1 : Int) := of_decide_eq_true (by first | (with_reducible assumption) | assumption)
          have q405 : x5_1 < (l0.length : Int) := of_decide_eq_true (by first | (with_reducible assumption) | assumption)
          obtain ⟨ad405, A405_2, c405_2, A405_3, c405_3, A405_4, c405_4, e405, hx405_0, hx405_1, hx405_2, hx405_3, hx405_4, hl405_2, hi405_2, hl405_3, hi405_3, hl405_4, hi405_4⟩ := at_T30 HR0.out x5_1 p405 q405
          obtain rfl : ad403 = ad405 := (by injection e405)
          have HR405_2 := Aside0.mk hi405_2
          have HC405_2 := Aside0.mk hl405_2
          clear hi405_2 hl405_2
          have HR405_3 := Aside0.mk hi405_3
          have HC405_3 := Aside0.mk hl405_3
          clear hi405_3 hl405_3
          have HR405_4 := Aside0.mk hi405_4
          have HC405_4 := Aside0.mk hl405_4
          clear hi405_4 hl405_4
          replace p405 := eq_true p405
          replace q405 := eq_true q405
          have ea_ := Option.some.inj (hx403_2.symm.trans hx405_2)
          injection ea_ with ea_ en_ ec_
          subst ea_
          subst ec_
          clear en_
          have ea_ := Option.some.inj (hx403_3.symm.trans hx405_3)
          injection ea_ with ea_ en_ ec_
          subst ea_
          subst ec_
          clear en_
          have ea_ := Option.some.inj (hx403_4.symm.trans hx405_4)
          injection ea_ with ea_ en_ ec_
          subst ea_
          subst ec_
          clear en_
          go_wp2_with (first | ((with_reducible refine gg (f := 64) (some 36) rfl rfl rfl fr64 ?_); refine onc (laws_heldByteS.calls k1 _ _ ((rd_T30 l0 x5_1).f2) (wrap64 ((wrap64 (x1_1 + 1)) + 1)) t406 _ (cb HR405_2) HC405_2.out A7.out) rfl ?_; rintro e w' ⟨rfl, ⟨nd, rfl⟩⟩; refine ⟨_, rfl, ?_⟩; have p407 : 0 ≤ (x5_1 : Int) := of_decide_eq_true (by first | (with_reducible assumption) | assumption); have q407 : x5_1 < (l0.length : Int) := of_decide_eq_true (by first | (with_reducible assumption) | assumption); obtain ⟨ad407, A407_2, c407_2, A407_3, c407_3, A407_4, c407_4, e407, hx407_0, hx407_1, hx407_2, hx407_3, hx407_4, hl407_2, hi407_2, hl407_3, hi407_3, hl407_4, hi407_4⟩ := at_T30 HR0.out x5_1 p407 q407; obtain rfl : ad403 = ad407 := (by injection e407); have HR407_2 := Aside0.mk hi407_2; have HC407_2 := Aside0.mk hl407_2; clear hi407_2 hl407_2; have HR407_3 := Aside0.mk hi407_3; have HC407_3 := Aside0.mk hl407_3; clear hi407_3 hl407_3; have HR407_4 := Aside0.mk hi407_4; have HC407_4 := Aside0.mk hl407_4; clear hi407_4 hl407_4; replace p407 := eq_true p407; replace q407 := eq_true q407; have ea_ := Option.some.inj (hx403_2.symm.trans hx407_2); injection ea_ with ea_ en_ ec_; subst ea_; subst ec_; clear en_; have ea_ := Option.some.inj (hx403_3.symm.trans hx407_3); injection ea_ with ea_ en_ ec_; subst ea_; subst ec_; clear en_; have ea_ := Option.some.inj (hx403_4.symm.trans hx407_4); injection ea_ with ea_ en_ ec_; subst ea_; subst ec_; clear en_) | ((with_reducible refine gg (f := 65) (some 45) rfl rfl rfl fr65 ?_); refine onc (laws_heldByteSS.calls k1 _ _ ((rd_T30 l0 x5_1).f3) t406 t408 _ (cb HR407_3) HC407_3.out A9.out) rfl ?_; rintro e w' ⟨rfl, ⟨nd, rfl⟩⟩; refine ⟨_, rfl, ?_⟩; have p409 : 0 ≤ (x5_1 : Int) := of_decide_eq_true (by first | (with_reducible assumption) | assumption); have q409 : x5_1 < (l0.length : Int) := of_decide_eq_true (by first | (with_reducible assumption) | assumption); obtain ⟨ad409, A409_2, c409_2, A409_3, c409_3, A409_4, c409_4, e409, hx409_0, hx409_1, hx409_2, hx409_3, hx409_4, hl409_2, hi409_2, hl409_3, hi409_3, hl409_4, hi409_4⟩ := at_T30 HR0.out x5_1 p409 q409; obtain rfl : ad403 = ad409 := (by injection e409); have HR409_2 := Aside0.mk hi409_2; have HC409_2 := Aside0.mk hl409_2; clear hi409_2 hl409_2; have HR409_3 := Aside0.mk hi409_3; have HC409_3 := Aside0.mk hl409_3; clear hi409_3 hl409_3; have HR409_4 := Aside0.mk hi409_4; have HC409_4 := Aside0.mk hl409_4; clear hi409_4 hl409_4; replace p409 := eq_true p409; replace q409 := eq_true q409; have ea_ := Option.some.inj (hx403_2.symm.trans hx409_2); injection ea_ with ea_ en_ ec_; subst ea_; subst ec_; clear en_; have ea_ := Option.some.inj (hx403_3.symm.trans hx409_3); injection ea_ with ea_ en_ ec_; subst ea_; subst ec_; clear en_; have ea_ := Option.some.inj (hx403_4.symm.trans hx409_4); injection ea_ with ea_ en_ ec_; subst ea_; subst ec_; clear en_) | ((with_reducible refine gg (f := 66) (some 54) rfl rfl rfl fr66 ?_); refine onc (ih k1 (by have := HK1.out; omega) _ _ ((rd_T30 l0 x5_1).f4) t408 t410 _ (cb HR409_4) HC409_4.out A11.out) rfl ?_; rintro e w' ⟨rfl, ⟨nd, rfl⟩⟩; refine ⟨_, rfl, ?_⟩))
          go_roundg k1
          case measure => have := HK1.out; omega
          case rel => exact ⟨(t410), (wrap64 (x5_1 + 1)), (by first | rfl | (simp; done) | (simp [*]; done)), (by first | rfl | (simp; done) | (simp [*]; done)), H', ⟨by have := HK1.out; omega⟩, by repeat (first | exact Drawn0.refl _ | apply Drawn0.step)⟩
      ·rw [if_neg c6] at H
       have c6b0 : (((rd_T30 l0 x5_1).f1) == (wrap64 (x1_1 + 1))) = false := beq_eq_false_iff_ne.mpr c6
       have c6b1 : (((rd_T30 l0 x5_1).f1) != (wrap64 (x1_1 + 1))) = true := bne_iff_ne.mpr c6
       obtain rfl := Option.some.inj H
       have p403 : 0 ≤ (x5_1 : Int) := of_decide_eq_true (by first | (with_reducible assumption) | assumption)
       have q403 : x5_1 < (l0.length : Int) := of_decide_eq_true (by first | (with_reducible assumption) | assumption)
       obtain ⟨ad403, A403_2, c403_2, A403_3, c403_3, A403_4, c403_4, e403, hx403_0, hx403_1, hx403_2, hx403_3, hx403_4, hl403_2, hi403_2, hl403_3, hi403_3, hl403_4, hi403_4⟩ := at_T30 HR0.out x5_1 p403 q403
       cases e403
       have HR403_2 := Aside0.mk hi403_2
       have HC403_2 := Aside0.mk hl403_2
       clear hi403_2 hl403_2
       have HR403_3 := Aside0.mk hi403_3
       have HC403_3 := Aside0.mk hl403_3
       clear hi403_3 hl403_3
       have HR403_4 := Aside0.mk hi403_4
       have HC403_4 := Aside0.mk hl403_4
       clear hi403_4 hl403_4
       replace p403 := eq_true p403
       replace q403 := eq_true q403
       have p404 : 0 ≤ (x5_1 : Int) := of_decide_eq_true (by first | (with_reducible assumption) | assumption)
       have q404 : x5_1 < (l0.length : Int) := of_decide_eq_true (by first | (with_reducible assumption) | assumption)
       obtain ⟨ad404, A404_2, c404_2, A404_3, c404_3, A404_4, c404_4, e404, hx404_0, hx404_1, hx404_2, hx404_3, hx404_4, hl404_2, hi404_2, hl404_3, hi404_3, hl404_4, hi404_4⟩ := at_T30 HR0.out x5_1 p404 q404
       obtain rfl : ad403 = ad404 := (by injection e404)
       have HR404_2 := Aside0.mk hi404_2
       have HC404_2 := Aside0.mk hl404_2
       clear hi404_2 hl404_2
       have HR404_3 := Aside0.mk hi404_3
       have HC404_3 := Aside0.mk hl404_3
       clear hi404_3 hl404_3
       have HR404_4 := Aside0.mk hi404_4
       have HC404_4 := Aside0.mk hl404_4
       clear hi404_4 hl404_4
       replace p404 := eq_true p404
       replace q404 := eq_true q404
       have ea_ := Option.some.inj (hx403_2.symm.trans hx404_2)
       injection ea_ with ea_ en_ ec_
       subst ea_
       subst ec_
       clear en_
       have ea_ := Option.some.inj (hx403_3.symm.trans hx404_3)
       injection ea_ with ea_ en_ ec_
       subst ea_
       subst ec_
       clear en_
       have ea_ := Option.some.inj (hx403_4.symm.trans hx404_4)
       injection ea_ with ea_ en_ ec_
       subst ea_
       subst ec_
       clear en_
       go_wp2
       go_ret
       exact ⟨by first | rfl | (simp; done) | (simp [*]; done), by repeat (first | exact Drawn0.refl _ | apply Drawn0.step)⟩
     ·rw [if_neg c5] at H
      have c5b0 : (((rd_T30 l0 x5_1).f0) == x1_1) = false := beq_eq_false_iff_ne.mpr c5
      have c5b1 : (((rd_T30 l0 x5_1).f0) != x1_1) = true := bne_iff_ne.mpr c5
      obtain rfl := Option.some.inj H
      have p403 : 0 ≤ (x5_1 : Int) := of_decide_eq_true (by first | (with_reducible assumption) | assumption)
      have q403 : x5_1 < (l0.length : Int) := of_decide_eq_true (by first | (with_reducible assumption) | assumption)
      obtain ⟨ad403, A403_2, c403_2, A403_3, c403_3, A403_4, c403_4, e403, hx403_0, hx403_1, hx403_2, hx403_3, hx403_4, hl403_2, hi403_2, hl403_3, hi403_3, hl403_4, hi403_4⟩ := at_T30 HR0.out x5_1 p403 q403
      cases e403
      have HR403_2 := Aside0.mk hi403_2
      have HC403_2 := Aside0.mk hl403_2
      clear hi403_2 hl403_2
      have HR403_3 := Aside0.mk hi403_3
      have HC403_3 := Aside0.mk hl403_3
      clear hi403_3 hl403_3
      have HR403_4 := Aside0.mk hi403_4
      have HC403_4 := Aside0.mk hl403_4
      clear hi403_4 hl403_4
      replace p403 := eq_true p403
      replace q403 := eq_true q403
      go_wp2
      go_ret
      exact ⟨by first | rfl | (simp; done) | (simp [*]; done), by repeat (first | exact Drawn0.refl _ | apply Drawn0.step)⟩
    ·rw [if_neg c4] at H
     exact absurd H (by simp)
   ·rw [if_neg c3] at H
    have c3b0 : decide (x5_1 < (l0.length : Int)) = false := decide_eq_false c3
    clear c3
    obtain rfl := Option.some.inj H
    go_wp2
    go_ret
    exact ⟨by first | rfl | (simp; done) | (simp [*]; done), by repeat (first | exact Drawn0.refl _ | apply Drawn0.step)⟩

/-! ### laws_heldValue: function 21 -/
def laws_heldValue.f (k : Nat) (a0_0 : Int) (a0_1 : Int) (l0_2 : List Int) (l0_3 : List (List Int)) (l0_4 : List (S30)) (a1 : Int) : Option (Int) := (laws_heldByteS.f k l0_2 a1).bind fun t412 => (if t412 < 0 then (some (-1)) else ((laws_heldByteSS.f k l0_3 t412).bind fun t413 => (if t413 < 0 then (some (-1)) else ((laws_heldValueS.f k l0_4 t413).bind fun t414 => (if t414 < 0 then (some (-1)) else (some t414))))))
theorem laws_heldValue.mono : ∀ a0 a1 a2 a3 a4 a5 k, LeO (laws_heldValue.f k a0 a1 a2 a3 a4 a5) (laws_heldValue.f (k + 1) a0 a1 a2 a3 a4 a5) := by
 intro a0 a1 a2 a3 a4 a5 k
 unfold laws_heldValue.f
 repeat' first
   | (with_reducible exact laws_heldByteS.mono _ _ _)
   | (with_reducible exact laws_heldByteSS.mono _ _ _)
   | (with_reducible exact laws_heldValueS.mono _ _ _)
   | (with_reducible exact LeO.refl _)
   | (with_reducible exact LeO.none _)
   | (with_reducible refine LeO.ite ?_ ?_)
   | (with_reducible refine LeO.bind ?_ (fun _ => ?_))
   | exact laws_heldByteS.mono _ _ _
   | exact laws_heldByteSS.mono _ _ _
   | exact laws_heldValueS.mono _ _ _
   | exact LeO.none _
   | refine LeO.ite ?_ ?_
   | refine LeO.bind ?_ (fun _ => ?_)
set_option maxHeartbeats 8000000 in
set_option maxRecDepth 100000 in
theorem laws_heldValue.calls (k : Nat) (a0_0 : Int) (a0_1 : Int) (A0_2 : Option Addr) (c0_2 : Nat) (l0_2 : List Int) (A0_3 : Option Addr) (c0_3 : Nat) (l0_3 : List (List Int)) (A0_4 : Option Addr) (c0_4 : Nat) (l0_4 : List (S30)) (a1 : Int) (r : Int) (w : World) (hr0_2 : Kd.C (Kd.int .u8) w A0_2 l0_2.length l0_2) (hc0_2 : l0_2.length ≤ c0_2) (hr0_3 : Kd.C (Kd.slice 5 (Kd.int .u8)) w A0_3 l0_3.length l0_3) (hc0_3 : l0_3.length ≤ c0_3) (hr0_4 : Kd.C k30 w A0_4 l0_4.length l0_4) (hc0_4 : l0_4.length ≤ c0_4) (h : laws_heldValue.f k a0_0 a0_1 l0_2 l0_3 l0_4 a1 = some r) :
  Calls Try.prog 21 #[.agg #[.int .i64 a0_0, .int .i64 a0_1, .slice A0_2 l0_2.length c0_2, .slice A0_3 l0_3.length c0_3, .slice A0_4 l0_4.length c0_4], .int .i64 a1] w fun e w' => e = .returned (.int .i64 r) ∧ Below w.heap.size w w' := by
 have hu30 := Try.underlying30
 have HR0_2 := Aside0.mk hr0_2
 have HC0_2 := Aside0.mk hc0_2
 clear hr0_2 hc0_2
 have HR0_3 := Aside0.mk hr0_3
 have HC0_3 := Aside0.mk hc0_3
 clear hr0_3 hc0_3
 have HR0_4 := Aside0.mk hr0_4
 have HC0_4 := Aside0.mk hc0_4
 clear hr0_4 hc0_4
 have HB := Bw.refl w
 have H : ((laws_heldByteS.f k l0_2 a1).bind fun t412 => (if t412 < 0 then (some (-1)) else ((laws_heldByteSS.f k l0_3 t412).bind fun t413 => (if t413 < 0 then (some (-1)) else ((laws_heldValueS.f k l0_4 t413).bind fun t414 => (if t414 < 0 then (some (-1)) else (some t414))))))) = some r := h
 clear h
 replace H := Option.bind_eq_some_iff.mp H
 obtain ⟨t412, A30, H⟩ := H
 replace H : (if t412 < 0 then (some (-1)) else ((laws_heldByteSS.f k l0_3 t412).bind fun t413 => (if t413 < 0 then (some (-1)) else ((laws_heldValueS.f k l0_4 t413).bind fun t414 => (if t414 < 0 then (some (-1)) else (some t414)))))) = some r := H
 have A3 := Aside0.mk A30
 clear A30
 by_cases c4 : t412 < 0
 ·rw [if_pos c4] at H
  have c4b0 : decide (t412 < 0) = true := decide_eq_true c4
  clear c4
  obtain rfl := Option.some.inj H
  go_enter Try.func21, Try.ntmps21
  go_wp2_with (first | ((with_reducible refine gate_dst (N := 2) rfl ?_); refine box_event rfl (N := 2) rfl (cs := #[.int .i64 a0_0, .int .i64 a0_1, .slice A0_2 l0_2.length c0_2, .slice A0_3 l0_3.length c0_3, .slice A0_4 l0_4.length c0_4]) (t := 30) (by go_simp <;> rfl) ?_; intro gb411 hg w5 hbox hb; have BK411 := Aside0.mk (hbox); have GE411 := (Ge.of hg : Ge w.heap.size gb411); replace HB := (Bw.sw w hb); clear hb hbox hg; obtain ⟨hcz6_0, hcz6_1, hcz6_2, hcz6_3, hcz6_4, hfz6_0, hfz6_1, hfz6_2, hfz6_3, hfz6_4⟩ := blk5 BK411.out) | ((with_reducible refine gg (f := 64) (some 8) rfl rfl rfl fr64 ?_); refine onc (laws_heldByteS.calls k _ _ l0_2 a1 t412 _ (cb HR0_2) HC0_2.out A3.out) rfl ?_; rintro e w' ⟨rfl, ⟨nd, rfl⟩⟩; refine ⟨_, rfl, ?_⟩))
  go_ret
  exact ⟨by first | rfl | (simp [errW_none, errW_some] <;> rfl) | (simp [*, errW_none, errW_some] <;> rfl), bw⟩
 ·rw [if_neg c4] at H
  have c4b0 : decide (t412 < 0) = false := decide_eq_false c4
  clear c4
  replace H := Option.bind_eq_some_iff.mp H
  obtain ⟨t413, A70, H⟩ := H
  replace H : (if t413 < 0 then (some (-1)) else ((laws_heldValueS.f k l0_4 t413).bind fun t414 => (if t414 < 0 then (some (-1)) else (some t414)))) = some r := H
  have A7 := Aside0.mk A70
  clear A70
  by_cases c8 : t413 < 0
  ·rw [if_pos c8] at H
   have c8b0 : decide (t413 < 0) = true := decide_eq_true c8
   clear c8
   obtain rfl := Option.some.inj H
   go_enter Try.func21, Try.ntmps21
   go_wp2_with (first | ((with_reducible refine gate_dst (N := 2) rfl ?_); refine box_event rfl (N := 2) rfl (cs := #[.int .i64 a0_0, .int .i64 a0_1, .slice A0_2 l0_2.length c0_2, .slice A0_3 l0_3.length c0_3, .slice A0_4 l0_4.length c0_4]) (t := 30) (by go_simp <;> rfl) ?_; intro gb411 hg w9 hbox hb; have BK411 := Aside0.mk (hbox); have GE411 := (Ge.of hg : Ge w.heap.size gb411); replace HB := (Bw.sw w hb); clear hb hbox hg; obtain ⟨hcz10_0, hcz10_1, hcz10_2, hcz10_3, hcz10_4, hfz10_0, hfz10_1, hfz10_2, hfz10_3, hfz10_4⟩ := blk5 BK411.out) | ((with_reducible refine gg (f := 64) (some 8) rfl rfl rfl fr64 ?_); refine onc (laws_heldByteS.calls k _ _ l0_2 a1 t412 _ (cb HR0_2) HC0_2.out A3.out) rfl ?_; rintro e w' ⟨rfl, ⟨nd, rfl⟩⟩; refine ⟨_, rfl, ?_⟩) | ((with_reducible refine gg (f := 65) (some 14) rfl rfl rfl fr65 ?_); refine onc (laws_heldByteSS.calls k _ _ l0_3 t412 t413 _ (cb HR0_3) HC0_3.out A7.out) rfl ?_; rintro e w' ⟨rfl, ⟨nd, rfl⟩⟩; refine ⟨_, rfl, ?_⟩))
   go_ret
   exact ⟨by first | rfl | (simp [errW_none, errW_some] <;> rfl) | (simp [*, errW_none, errW_some] <;> rfl), bw⟩
  ·rw [if_neg c8] at H
   have c8b0 : decide (t413 < 0) = false := decide_eq_false c8
   clear c8
   replace H := Option.bind_eq_some_iff.mp H
   obtain ⟨t414, A110, H⟩ := H
   replace H : (if t414 < 0 then (some (-1)) else (some t414)) = some r := H
   have A11 := Aside0.mk A110
   clear A110
   by_cases c12 : t414 < 0
   ·rw [if_pos c12] at H
    have c12b0 : decide (t414 < 0) = true := decide_eq_true c12
    clear c12
    obtain rfl := Option.some.inj H
    go_enter Try.func21, Try.ntmps21
    go_wp2_with (first | ((with_reducible refine gate_dst (N := 2) rfl ?_); refine box_event rfl (N := 2) rfl (cs := #[.int .i64 a0_0, .int .i64 a0_1, .slice A0_2 l0_2.length c0_2, .slice A0_3 l0_3.length c0_3, .slice A0_4 l0_4.length c0_4]) (t := 30) (by go_simp <;> rfl) ?_; intro gb411 hg w13 hbox hb; have BK411 := Aside0.mk (hbox); have GE411 := (Ge.of hg : Ge w.heap.size gb411); replace HB := (Bw.sw w hb); clear hb hbox hg; obtain ⟨hcz14_0, hcz14_1, hcz14_2, hcz14_3, hcz14_4, hfz14_0, hfz14_1, hfz14_2, hfz14_3, hfz14_4⟩ := blk5 BK411.out) | ((with_reducible refine gg (f := 64) (some 8) rfl rfl rfl fr64 ?_); refine onc (laws_heldByteS.calls k _ _ l0_2 a1 t412 _ (cb HR0_2) HC0_2.out A3.out) rfl ?_; rintro e w' ⟨rfl, ⟨nd, rfl⟩⟩; refine ⟨_, rfl, ?_⟩) | ((with_reducible refine gg (f := 65) (some 14) rfl rfl rfl fr65 ?_); refine onc (laws_heldByteSS.calls k _ _ l0_3 t412 t413 _ (cb HR0_3) HC0_3.out A7.out) rfl ?_; rintro e w' ⟨rfl, ⟨nd, rfl⟩⟩; refine ⟨_, rfl, ?_⟩) | ((with_reducible refine gg (f := 66) (some 20) rfl rfl rfl fr66 ?_); refine onc (laws_heldValueS.calls k _ _ l0_4 t413 t414 _ (cb HR0_4) HC0_4.out A11.out) rfl ?_; rintro e w' ⟨rfl, ⟨nd, rfl⟩⟩; refine ⟨_, rfl, ?_⟩))
    go_ret
    exact ⟨by first | rfl | (simp [errW_none, errW_some] <;> rfl) | (simp [*, errW_none, errW_some] <;> rfl), bw⟩
   ·rw [if_neg c12] at H
    have c12b0 : decide (t414 < 0) = false := decide_eq_false c12
    clear c12
    obtain rfl := Option.some.inj H
    go_enter Try.func21, Try.ntmps21
    go_wp2_with (first | ((with_reducible refine gate_dst (N := 2) rfl ?_); refine box_event rfl (N := 2) rfl (cs := #[.int .i64 a0_0, .int .i64 a0_1, .slice A0_2 l0_2.length c0_2, .slice A0_3 l0_3.length c0_3, .slice A0_4 l0_4.length c0_4]) (t := 30) (by go_simp <;> rfl) ?_; intro gb411 hg w15 hbox hb; have BK411 := Aside0.mk (hbox); have GE411 := (Ge.of hg : Ge w.heap.size gb411); replace HB := (Bw.sw w hb); clear hb hbox hg; obtain ⟨hcz16_0, hcz16_1, hcz16_2, hcz16_3, hcz16_4, hfz16_0, hfz16_1, hfz16_2, hfz16_3, hfz16_4⟩ := blk5 BK411.out) | ((with_reducible refine gg (f := 64) (some 8) rfl rfl rfl fr64 ?_); refine onc (laws_heldByteS.calls k _ _ l0_2 a1 t412 _ (cb HR0_2) HC0_2.out A3.out) rfl ?_; rintro e w' ⟨rfl, ⟨nd, rfl⟩⟩; refine ⟨_, rfl, ?_⟩) | ((with_reducible refine gg (f := 65) (some 14) rfl rfl rfl fr65 ?_); refine onc (laws_heldByteSS.calls k _ _ l0_3 t412 t413 _ (cb HR0_3) HC0_3.out A7.out) rfl ?_; rintro e w' ⟨rfl, ⟨nd, rfl⟩⟩; refine ⟨_, rfl, ?_⟩) | ((with_reducible refine gg (f := 66) (some 20) rfl rfl rfl fr66 ?_); refine onc (laws_heldValueS.calls k _ _ l0_4 t413 t414 _ (cb HR0_4) HC0_4.out A11.out) rfl ?_; rintro e w' ⟨rfl, ⟨nd, rfl⟩⟩; refine ⟨_, rfl, ?_⟩))
    go_ret
    exact ⟨by first | rfl | (simp [errW_none, errW_some] <;> rfl) | (simp [*, errW_none, errW_some] <;> rfl), bw⟩

-- NOT PRINTED: function 3 (laws_FnExactValGet)

end Go.Proofs.Ytenpjddjmhjdoaa.PFnExactValGet
