/- What a function comes to, walked by hand. No condition. -/
import Derived.Test.YtenpjddjmhjdoaaPFnExactAtx0
import Derived.Test.YtenpjddjmhjdoaaPFnExactAtx15
import Derived.Test.YtenpjddjmhjdoaaMkx
import Derived.Test.YtenpjddjmhjdoaaMmark
namespace Go.Proofs.Ytenpjddjmhjdoaa.PFnExactAt
open Go.RowKit Go.Proofs.YtenpjddjmhjdoaaW.PrintWords Go.Proofs.YtenpjddjmhjdoaaW.PrintLast Go.Proofs.YtenpjddjmhjdoaaW.PrintMore Go.Proofs.Ytenpjddjmhjdoaa.M
attribute [local go_sem] max2_int min2_int max_two min_two max_three min_three max_four min_four Go.Proofs.Ytenpjddjmhjdoaa.M.str_gtr Go.Proofs.Ytenpjddjmhjdoaa.M.str_leq Go.Proofs.Ytenpjddjmhjdoaa.M.str_geq   -- for this text's walks alone
set_option linter.unusedVariables false
set_option linter.unusedSimpArgs false

/-! ### laws_eqStepS: function 45 -/
def laws_eqStepS.l0 : Nat → List (S79) → List (S79) → Int → Option (Bool)
 | 0, _, _, _ => none
 | k + 1, x0, x1, x5 => if x5 < (x0.length : Int) then (if 0 ≤ x5 then (if x5 < (x1.length : Int) then ((laws_eqStep.f k ((rd_T79 x0 x5).f0) ((rd_T79 x0 x5).f1) ((rd_T79 x0 x5).f2) ((rd_T79 x1 x5).f0) ((rd_T79 x1 x5).f1) ((rd_T79 x1 x5).f2)).bind fun t440 => (if t440 = true then (laws_eqStepS.l0 k x0 x1 (wrap64 (x5 + 1))) else (some false))) else (none)) else (none)) else (some true)
def laws_eqStepS.f (k : Nat) (l0 : List (S79)) (l1 : List (S79)) : Option (Bool) := if (l0.length : Int) = (l1.length : Int) then (laws_eqStepS.l0 k l0 l1 0) else (some false)
def laws_eqStepS.T6 : Bool × List (List Nat × List Nat) := (true, [([], []), ([], []), ([0, 1], [0, 1]), ([2], [2]), ([], []), ([], []), ([4, 5], [4, 5]), ([6], [6]), ([3, 7], [3, 7]), ([8], [8])])
def laws_eqStepS.B6 : List Nat := [0, 0, 3, 7, 0, 0, 48, 112, 255, 511]
theorem laws_eqStepS.tab6 : rtab .any (opsOf Try.f45 6) = laws_eqStepS.T6 := by kernel_rfl
theorem laws_eqStepS.bits6 : waitsOk laws_eqStepS.T6.2 laws_eqStepS.B6 = true := by kernel_rfl
set_option maxHeartbeats 8000000 in
set_option maxRecDepth 100000 in
theorem laws_eqStepS.calls (k : Nat) (A0 : Option Addr) (c0 : Nat) (l0 : List (S79)) (A1 : Option Addr) (c1 : Nat) (l1 : List (S79)) (r : Bool) (w : World) (hr0 : Kd.C k79 w A0 l0.length l0) (hc0 : l0.length ≤ c0) (hr1 : Kd.C k79 w A1 l1.length l1) (hc1 : l1.length ≤ c1) (h : laws_eqStepS.f k l0 l1 = some r) :
  Calls Try.prog 45 #[.slice A0 l0.length c0, .slice A1 l1.length c1] w fun e w' => e = .returned (.bool r) ∧ Below w.heap.size w w' := by
 have hu79 := Try.underlying79
 have HR0 := Aside0.mk hr0
 have HC0 := Aside0.mk hc0
 clear hr0 hc0
 have HR1 := Aside0.mk hr1
 have HC1 := Aside0.mk hc1
 clear hr1 hc1
 have HB := Bw.refl w
 have H : (if (l0.length : Int) = (l1.length : Int) then (laws_eqStepS.l0 k l0 l1 0) else (some false)) = some r := h
 clear h
 by_cases c3 : (l0.length : Int) = (l1.length : Int)
 ·rw [if_pos c3] at H
  have c3b0 : ((l0.length : Int) == (l1.length : Int)) = true := beq_iff_eq.mpr c3
  have c3b1 : ((l0.length : Int) != (l1.length : Int)) = false := bne_eq_false_iff_eq.mpr c3
  have c3b2 : (l0.length == l1.length) = true := by first | simpa using c3 | (simp at c3 ⊢; omega)
  clear c3
  have H' := Aside0.mk H
  clear H
  go_enter Try.func45, Try.ntmps45
  go_wp2
  go_loopg [5] k (fun kq v5 w' => ∃ (x5_1 : Int), v5 = .int .i64 x5_1 ∧ Aside0 (laws_eqStepS.l0 kq l0 l1 x5_1 = some r) ∧ Aside0 (kq ≤ k) ∧ Bw w w')
  case atStart => exact ⟨(0), (by first | rfl | (simp; done) | (simp [*]; done)), H', ⟨Nat.le_refl _⟩, ⟨bw⟩⟩
  case round =>
   clear H'
   try clear c3
   try clear c3b0
   try clear c3b1
   try clear c3b2
   obtain ⟨x5_1, rfl, HA, HK1, HB⟩ := hrel
   cases gk with
   | zero => exact absurd HA.out (by simp [laws_eqStepS.l0])
   | succ k1 =>
    have H := HA.out
    clear HA
    simp only [laws_eqStepS.l0] at H
    by_cases c4 : x5_1 < (l0.length : Int)
    ·rw [if_pos c4] at H
     have c4b0 : decide (x5_1 < (l0.length : Int)) = true := decide_eq_true c4
     clear c4
     by_cases c5 : 0 ≤ x5_1
     ·rw [if_pos c5] at H
      have c5b0 : decide (0 ≤ x5_1) = true := decide_eq_true c5
      clear c5
      by_cases c6 : x5_1 < (l1.length : Int)
      ·rw [if_pos c6] at H
       have c6b0 : decide (x5_1 < (l1.length : Int)) = true := decide_eq_true c6
       clear c6
       replace H := Option.bind_eq_some_iff.mp H
       obtain ⟨t440, A70, H⟩ := H
       replace H : (if t440 = true then (laws_eqStepS.l0 k1 l0 l1 (wrap64 (x5_1 + 1))) else (some false)) = some r := H
       have A7 := Aside0.mk A70
       clear A70
       by_cases c8 : t440 = true
       ·subst c8
        have H1 : (laws_eqStepS.l0 k1 l0 l1 (wrap64 (x5_1 + 1))) = some r := by rw [if_pos rfl] at H; exact H
        clear H
        have H := H1
        clear H1
        have H' := Aside0.mk H
        clear H
        try go_wp2
        replace HB := Bw.mk (w := w) (below_drew1 HB.out)
        have p438 : 0 ≤ (x5_1 : Int) := of_decide_eq_true (by first | (with_reducible assumption) | assumption)
        have q438 : x5_1 < (l0.length : Int) := of_decide_eq_true (by first | (with_reducible assumption) | assumption)
        obtain ⟨ad438, A438_1, c438_1, e438, hx438_0, hx438_1, hx438_2, hl438_1, hi438_1⟩ := at_T79 HR0.out x5_1 p438 q438
        have hw438_2 := hx438_2
        have hw438_1 := hx438_1
        have hw438_0 := hx438_0
        cases e438
        replace hx438_0 := (HB.out.cell (World.block_lt_of_cell? w _ hx438_0)).trans hx438_0
        replace hx438_1 := (HB.out.cell (World.block_lt_of_cell? w _ hx438_1)).trans hx438_1
        replace hx438_2 := (HB.out.cell (World.block_lt_of_cell? w _ hx438_2)).trans hx438_2
        have HR438_1 := Aside0.mk hi438_1
        have HC438_1 := Aside0.mk hl438_1
        clear hi438_1 hl438_1
        replace p438 := eq_true p438
        replace q438 := eq_true q438
        have p439 : 0 ≤ (x5_1 : Int) := of_decide_eq_true (by first | (with_reducible assumption) | assumption)
        have q439 : x5_1 < (l1.length : Int) := of_decide_eq_true (by first | (with_reducible assumption) | assumption)
        obtain ⟨ad439, A439_1, c439_1, e439, hx439_0, hx439_1, hx439_2, hl439_1, hi439_1⟩ := at_T79 HR1.out x5_1 p439 q439
        have hw439_2 := hx439_2
        have hw439_1 := hx439_1
        have hw439_0 := hx439_0
        cases e439
        replace hx439_0 := (HB.out.cell (World.block_lt_of_cell? w _ hx439_0)).trans hx439_0
        replace hx439_1 := (HB.out.cell (World.block_lt_of_cell? w _ hx439_1)).trans hx439_1
        replace hx439_2 := (HB.out.cell (World.block_lt_of_cell? w _ hx439_2)).trans hx439_2
        have HR439_1 := Aside0.mk hi439_1
        have HC439_1 := Aside0.mk hl439_1
        clear hi439_1 hl439_1
        replace p439 := eq_true p439
        replace q439 := eq_true q439
        refine start_ (n := 10) (S := fun w' => w'.cell? (ad438.add ((x5_1).toNat * 3)) = some (.int .i64 ((rd_T79 l0 x5_1).f0)) ∧ w'.cell? ⟨(ad438.add ((x5_1).toNat * 3)).block, (ad438.add ((x5_1).toNat * 3)).off + 1, none⟩ = some (.slice A438_1 ((rd_T79 l0 x5_1).f1).length c438_1) ∧ w'.cell? ⟨(ad438.add ((x5_1).toNat * 3)).block, (ad438.add ((x5_1).toNat * 3)).off + 2, none⟩ = some (.int .i64 ((rd_T79 l0 x5_1).f2)) ∧ w'.cell? (ad439.add ((x5_1).toNat * 3)) = some (.int .i64 ((rd_T79 l1 x5_1).f0)) ∧ w'.cell? ⟨(ad439.add ((x5_1).toNat * 3)).block, (ad439.add ((x5_1).toNat * 3)).off + 1, none⟩ = some (.slice A439_1 ((rd_T79 l1 x5_1).f1).length c439_1) ∧ w'.cell? ⟨(ad439.add ((x5_1).toNat * 3)).block, (ad439.add ((x5_1).toNat * 3)).off + 2, none⟩ = some (.int .i64 ((rd_T79 l1 x5_1).f2))) (ds := []) #[false, false, false, false, false, false, false, false, false, false] (by kernel_rfl) rfl rfl ⟨((HB.out.cell (World.block_lt_of_cell? w _ hw438_0)).trans hw438_0), ((HB.out.cell (World.block_lt_of_cell? w _ hw438_1)).trans hw438_1), ((HB.out.cell (World.block_lt_of_cell? w _ hw438_2)).trans hw438_2), ((HB.out.cell (World.block_lt_of_cell? w _ hw439_0)).trans hw439_0), ((HB.out.cell (World.block_lt_of_cell? w _ hw439_1)).trans hw439_1), ((HB.out.cell (World.block_lt_of_cell? w _ hw439_2)).trans hw439_2)⟩ (fun hHeld => ?_); refine with_tabW laws_eqStepS.tab6 laws_eqStepS.bits6 (fun HT_ HW_ => ?_)
        generalize wr.drew = w9 at HB HR438_1 HR439_1 hx438_0 hx438_1 hx438_2 hx439_0 hx439_1 hx439_2 hHeld ⊢
        refine pure_ (i := 0) (N := some 17) (v := ?_) (a' := ?_) #[true, false, false, false, false, false, false, false, false, false] rfl rfl (any_of HT_.out (by kernel_rfl)) (fun _ _ _ h => h) (Or.inl ⟨by rfl, ?_⟩) ?_ ?_
        rotate_left
        ·intro w'
         go_simp
         with_reducible rfl
        rotate_left
        ·simp only [Act.put, List.setIfInBounds_toArray, List.set_cons_zero, List.set_cons_succ, i64_w, i32_w]
         rfl
        refine pure_ (i := 1) (N := some 18) (v := ?_) (a' := ?_) #[true, true, false, false, false, false, false, false, false, false] rfl rfl (any_of HT_.out (by kernel_rfl)) (fun _ _ _ h => h) (Or.inl ⟨by rfl, ?_⟩) ?_ ?_
        rotate_left
        ·intro w'
         go_simp
         with_reducible rfl
        rotate_left
        ·simp only [Act.put, List.setIfInBounds_toArray, List.set_cons_zero, List.set_cons_succ, i64_w, i32_w]
         rfl
        refine pure_ (i := 2) (N := some 19) (v := ?_) (a' := ?_) #[true, true, true, false, false, false, false, false, false, false] rfl rfl (any_of HT_.out (by kernel_rfl)) (fun _ _ _ h => h) (Or.inl ⟨by rfl, ?_⟩) ?_ ?_
        rotate_left
        ·intro w'
         go_simp
         with_reducible rfl
        rotate_left
        ·simp only [Act.put, List.setIfInBounds_toArray, List.set_cons_zero, List.set_cons_succ, i64_w, i32_w]
         rfl
        refine pure_ (i := 4) (N := some 21) (v := ?_) (a' := ?_) #[true, true, true, false, true, false, false, false, false, false] rfl rfl (any_of HT_.out (by kernel_rfl)) (fun _ _ _ h => h) (Or.inl ⟨by rfl, ?_⟩) ?_ ?_
        rotate_left
        ·intro w'
         go_simp
         with_reducible rfl
        rotate_left
        ·simp only [Act.put, List.setIfInBounds_toArray, List.set_cons_zero, List.set_cons_succ, i64_w, i32_w]
         rfl
        refine pure_ (i := 5) (N := some 22) (v := ?_) (a' := ?_) #[true, true, true, false, true, true, false, false, false, false] rfl rfl (any_of HT_.out (by kernel_rfl)) (fun _ _ _ h => h) (Or.inl ⟨by rfl, ?_⟩) ?_ ?_
        rotate_left
        ·intro w'
         go_simp
         with_reducible rfl
        rotate_left
        ·simp only [Act.put, List.setIfInBounds_toArray, List.set_cons_zero, List.set_cons_succ, i64_w, i32_w]
         rfl
        refine pure_ (i := 6) (N := some 23) (v := ?_) (a' := ?_) #[true, true, true, false, true, true, true, false, false, false] rfl rfl (any_of HT_.out (by kernel_rfl)) (fun _ _ _ h => h) (Or.inl ⟨by rfl, ?_⟩) ?_ ?_
        rotate_left
        ·intro w'
         go_simp
         with_reducible rfl
        rotate_left
        ·simp only [Act.put, List.setIfInBounds_toArray, List.set_cons_zero, List.set_cons_succ, i64_w, i32_w]
         rfl
        refine take_ (i := 3) (N := some 20) (v := ?_) (a' := ?_) #[true, true, true, true, true, true, true, false, false, false] rfl rfl (take_ofW HT_.out HW_.out (by kernel_rfl)) (fun _ _ _ h => h) (Or.inl ⟨by rfl, ?_⟩) hHeld ?_ ?_
        rotate_left
        ·rintro w' ⟨s0, s1, s2, s3, s4, s5⟩
         go_simp
         with_reducible rfl
        rotate_left
        ·simp only [Act.put, List.setIfInBounds_toArray, List.set_cons_zero, List.set_cons_succ, i64_w, i32_w]
         rfl
        refine take_ (i := 7) (N := some 24) (v := ?_) (a' := ?_) #[true, true, true, true, true, true, true, true, false, false] rfl rfl (take_ofW HT_.out HW_.out (by kernel_rfl)) (fun _ _ _ h => h) (Or.inl ⟨by rfl, ?_⟩) hHeld ?_ ?_
        rotate_left
        ·rintro w' ⟨s0, s1, s2, s3, s4, s5⟩
         go_simp
         with_reducible rfl
        rotate_left
        ·simp only [Act.put, List.setIfInBounds_toArray, List.set_cons_zero, List.set_cons_succ, i64_w, i32_w]
         rfl
        refine one_ (i := 8) (N := some 25) #[true, true, true, true, true, true, true, true, true, false] rfl rfl (one_of HT_.out (by kernel_rfl)) (by decide) (fun K hK => ?_)
        refine goes_ Try.func95 (by kernel_rfl) rfl #[.agg #[.int .i64 ((rd_T79 l0 x5_1).f0), .slice A438_1 ((rd_T79 l0 x5_1).f1).length c438_1, .int .i64 ((rd_T79 l0 x5_1).f2)], .agg #[.int .i64 ((rd_T79 l1 x5_1).f0), .slice A439_1 ((rd_T79 l1 x5_1).f1).length c439_1, .int .i64 ((rd_T79 l1 x5_1).f2)]] (by rfl) rfl rfl (by (try simp only [List.map_toArray, List.map_cons, List.map_nil]); first | done | rfl | (simp only [List.length_drop, List.length_take]; rfl)) ?_
        with_reducible refine (laws_eqStep.calls k1 ((rd_T79 l0 x5_1).f0) _ _ ((rd_T79 l0 x5_1).f1) ((rd_T79 l0 x5_1).f2) ((rd_T79 l1 x5_1).f0) _ _ ((rd_T79 l1 x5_1).f1) ((rd_T79 l1 x5_1).f2) true _ ?side1 ?side2 ?side3 ?side4 A7.out).mono ?_
        (case side1 => repeat (first | exact (Kd.C_below HR438_1.out HB.out) | (with_reducible refine Kd.C_alloc ?_ _) | (with_reducible refine Kd.C_drewN ?_ _) | (with_reducible refine Kd.C_drew ?_)))
        (case side2 => exact HC438_1.out)
        (case side3 => repeat (first | exact (Kd.C_below HR439_1.out HB.out) | (with_reducible refine Kd.C_alloc ?_ _) | (with_reducible refine Kd.C_drewN ?_ _) | (with_reducible refine Kd.C_drew ?_)))
        (case side4 => exact HC439_1.out)
        rintro e w10 ⟨rfl, hb⟩
        refine ⟨_, rfl, ?_⟩
        replace HB := (Bw.sw w hb)
        (try clear hb)
        (try clear hb2)
        (try clear hk)
        (try clear hi)
        refine hK.out _ _ ⟨((HB.out.cell (World.block_lt_of_cell? w _ hw438_0)).trans hw438_0), ((HB.out.cell (World.block_lt_of_cell? w _ hw438_1)).trans hw438_1), ((HB.out.cell (World.block_lt_of_cell? w _ hw438_2)).trans hw438_2), ((HB.out.cell (World.block_lt_of_cell? w _ hw439_0)).trans hw439_0), ((HB.out.cell (World.block_lt_of_cell? w _ hw439_1)).trans hw439_1), ((HB.out.cell (World.block_lt_of_cell? w _ hw439_2)).trans hw439_2)⟩ (fun hHeld => ?_)
        clear hK K
        refine norm_ (a' := ?_) ?_ ?_
        rotate_left
        ·show Act.put _ (some 25) _ = _
         simp only [Act.put, List.setIfInBounds_toArray, List.set_cons_zero, List.set_cons_succ, i64_w, i32_w]
         rfl
        refine pure_ (i := 9) (N := some 26) (v := ?_) (a' := ?_) #[true, true, true, true, true, true, true, true, true, true] rfl rfl (any_of HT_.out (by kernel_rfl)) (fun _ _ _ h => h) (Or.inl ⟨by rfl, ?_⟩) ?_ ?_
        rotate_left
        ·intro w'
         go_simp
         with_reducible rfl
        rotate_left
        ·simp only [Act.put, List.setIfInBounds_toArray, List.set_cons_zero, List.set_cons_succ, i64_w, i32_w]
         rfl
        refine done_ (done_of HT_.out (by kernel_rfl)) ?_
        try go_wp2
        go_roundg k1
        case measure => have := HK1.out; omega
        case rel => exact ⟨(wrap64 (x5_1 + 1)), (by first | rfl | (simp; done) | (simp [*]; done)), H', ⟨by have := HK1.out; omega⟩, ⟨bw⟩⟩
       ·replace c8 := Bool.eq_false_iff.mpr c8
        subst c8
        have H1 : (some false) = some r := by rw [if_neg (show ¬ (false = true) by decide)] at H; exact H
        clear H
        have H := H1
        clear H1
        obtain rfl := Option.some.inj H
        try go_wp2
        replace HB := Bw.mk (w := w) (below_drew1 HB.out)
        have p438 : 0 ≤ (x5_1 : Int) := of_decide_eq_true (by first | (with_reducible assumption) | assumption)
        have q438 : x5_1 < (l0.length : Int) := of_decide_eq_true (by first | (with_reducible assumption) | assumption)
        obtain ⟨ad438, A438_1, c438_1, e438, hx438_0, hx438_1, hx438_2, hl438_1, hi438_1⟩ := at_T79 HR0.out x5_1 p438 q438
        have hw438_2 := hx438_2
        have hw438_1 := hx438_1
        have hw438_0 := hx438_0
        cases e438
        replace hx438_0 := (HB.out.cell (World.block_lt_of_cell? w _ hx438_0)).trans hx438_0
        replace hx438_1 := (HB.out.cell (World.block_lt_of_cell? w _ hx438_1)).trans hx438_1
        replace hx438_2 := (HB.out.cell (World.block_lt_of_cell? w _ hx438_2)).trans hx438_2
        have HR438_1 := Aside0.mk hi438_1
        have HC438_1 := Aside0.mk hl438_1
        clear hi438_1 hl438_1
        replace p438 := eq_true p438
        replace q438 := eq_true q438
        have p439 : 0 ≤ (x5_1 : Int) := of_decide_eq_true (by first | (with_reducible assumption) | assumption)
        have q439 : x5_1 < (l1.length : Int) := of_decide_eq_true (by first | (with_reducible assumption) | assumption)
        obtain ⟨ad439, A439_1, c439_1, e439, hx439_0, hx439_1, hx439_2, hl439_1, hi439_1⟩ := at_T79 HR1.out x5_1 p439 q439
        have hw439_2 := hx439_2
        have hw439_1 := hx439_1
        have hw439_0 := hx439_0
        cases e439
        replace hx439_0 := (HB.out.cell (World.block_lt_of_cell? w _ hx439_0)).trans hx439_0
        replace hx439_1 := (HB.out.cell (World.block_lt_of_cell? w _ hx439_1)).trans hx439_1
        replace hx439_2 := (HB.out.cell (World.block_lt_of_cell? w _ hx439_2)).trans hx439_2
        have HR439_1 := Aside0.mk hi439_1
        have HC439_1 := Aside0.mk hl439_1
        clear hi439_1 hl439_1
        replace p439 := eq_true p439
        replace q439 := eq_true q439
        refine start_ (n := 10) (S := fun w' => w'.cell? (ad438.add ((x5_1).toNat * 3)) = some (.int .i64 ((rd_T79 l0 x5_1).f0)) ∧ w'.cell? ⟨(ad438.add ((x5_1).toNat * 3)).block, (ad438.add ((x5_1).toNat * 3)).off + 1, none⟩ = some (.slice A438_1 ((rd_T79 l0 x5_1).f1).length c438_1) ∧ w'.cell? ⟨(ad438.add ((x5_1).toNat * 3)).block, (ad438.add ((x5_1).toNat * 3)).off + 2, none⟩ = some (.int .i64 ((rd_T79 l0 x5_1).f2)) ∧ w'.cell? (ad439.add ((x5_1).toNat * 3)) = some (.int .i64 ((rd_T79 l1 x5_1).f0)) ∧ w'.cell? ⟨(ad439.add ((x5_1).toNat * 3)).block, (ad439.add ((x5_1).toNat * 3)).off + 1, none⟩ = some (.slice A439_1 ((rd_T79 l1 x5_1).f1).length c439_1) ∧ w'.cell? ⟨(ad439.add ((x5_1).toNat * 3)).block, (ad439.add ((x5_1).toNat * 3)).off + 2, none⟩ = some (.int .i64 ((rd_T79 l1 x5_1).f2))) (ds := []) #[false, false, false, false, false, false, false, false, false, false] (by kernel_rfl) rfl rfl ⟨((HB.out.cell (World.block_lt_of_cell? w _ hw438_0)).trans hw438_0), ((HB.out.cell (World.block_lt_of_cell? w _ hw438_1)).trans hw438_1), ((HB.out.cell (World.block_lt_of_cell? w _ hw438_2)).trans hw438_2), ((HB.out.cell (World.block_lt_of_cell? w _ hw439_0)).trans hw439_0), ((HB.out.cell (World.block_lt_of_cell? w _ hw439_1)).trans hw439_1), ((HB.out.cell (World.block_lt_of_cell? w _ hw439_2)).trans hw439_2)⟩ (fun hHeld => ?_); refine with_tabW laws_eqStepS.tab6 laws_eqStepS.bits6 (fun HT_ HW_ => ?_)
        generalize wr.drew = w11 at HB HR438_1 HR439_1 hx438_0 hx438_1 hx438_2 hx439_0 hx439_1 hx439_2 hHeld ⊢
        refine pure_ (i := 0) (N := some 17) (v := ?_) (a' := ?_) #[true, false, false, false, false, false, false, false, false, false] rfl rfl (any_of HT_.out (by kernel_rfl)) (fun _ _ _ h => h) (Or.inl ⟨by rfl, ?_⟩) ?_ ?_
        rotate_left
        ·intro w'
         go_simp
         with_reducible rfl
        rotate_left
        ·simp only [Act.put, List.setIfInBounds_toArray, List.set_cons_zero, List.set_cons_succ, i64_w, i32_w]
         rfl
        refine pure_ (i := 1) (N := some 18) (v := ?_) (a' := ?_) #[true, true, false, false, false, false, false, false, false, false] rfl rfl (any_of HT_.out (by kernel_rfl)) (fun _ _ _ h => h) (Or.inl ⟨by rfl, ?_⟩) ?_ ?_
        rotate_left
        ·intro w'
         go_simp
         with_reducible rfl
        rotate_left
        ·simp only [Act.put, List.setIfInBounds_toArray, List.set_cons_zero, List.set_cons_succ, i64_w, i32_w]
         rfl
        refine pure_ (i := 2) (N := some 19) (v := ?_) (a' := ?_) #[true, true, true, false, false, false, false, false, false, false] rfl rfl (any_of HT_.out (by kernel_rfl)) (fun _ _ _ h => h) (Or.inl ⟨by rfl, ?_⟩) ?_ ?_
        rotate_left
        ·intro w'
         go_simp
         with_reducible rfl
        rotate_left
        ·simp only [Act.put, List.setIfInBounds_toArray, List.set_cons_zero, List.set_cons_succ, i64_w, i32_w]
         rfl
        refine pure_ (i := 4) (N := some 21) (v := ?_) (a' := ?_) #[true, true, true, false, true, false, false, false, false, false] rfl rfl (any_of HT_.out (by kernel_rfl)) (fun _ _ _ h => h) (Or.inl ⟨by rfl, ?_⟩) ?_ ?_
        rotate_left
        ·intro w'
         go_simp
         with_reducible rfl
        rotate_left
        ·simp only [Act.put, List.setIfInBounds_toArray, List.set_cons_zero, List.set_cons_succ, i64_w, i32_w]
         rfl
        refine pure_ (i := 5) (N := some 22) (v := ?_) (a' := ?_) #[true, true, true, false, true, true, false, false, false, false] rfl rfl (any_of HT_.out (by kernel_rfl)) (fun _ _ _ h => h) (Or.inl ⟨by rfl, ?_⟩) ?_ ?_
        rotate_left
        ·intro w'
         go_simp
         with_reducible rfl
        rotate_left
        ·simp only [Act.put, List.setIfInBounds_toArray, List.set_cons_zero, List.set_cons_succ, i64_w, i32_w]
         rfl
        refine pure_ (i := 6) (N := some 23) (v := ?_) (a' := ?_) #[true, true, true, false, true, true, true, false, false, false] rfl rfl (any_of HT_.out (by kernel_rfl)) (fun _ _ _ h => h) (Or.inl ⟨by rfl, ?_⟩) ?_ ?_
        rotate_left
        ·intro w'
         go_simp
         with_reducible rfl
        rotate_left
        ·simp only [Act.put, List.setIfInBounds_toArray, List.set_cons_zero, List.set_cons_succ, i64_w, i32_w]
         rfl
        refine take_ (i := 3) (N := some 20) (v := ?_) (a' := ?_) #[true, true, true, true, true, true, true, false, false, false] rfl rfl (take_ofW HT_.out HW_.out (by kernel_rfl)) (fun _ _ _ h => h) (Or.inl ⟨by rfl, ?_⟩) hHeld ?_ ?_
        rotate_left
        ·rintro w' ⟨s0, s1, s2, s3, s4, s5⟩
         go_simp
         with_reducible rfl
        rotate_left
        ·simp only [Act.put, List.setIfInBounds_toArray, List.set_cons_zero, List.set_cons_succ, i64_w, i32_w]
         rfl
        refine take_ (i := 7) (N := some 24) (v := ?_) (a' := ?_) #[true, true, true, true, true, true, true, true, false, false] rfl rfl (take_ofW HT_.out HW_.out (by kernel_rfl)) (fun _ _ _ h => h) (Or.inl ⟨by rfl, ?_⟩) hHeld ?_ ?_
        rotate_left
        ·rintro w' ⟨s0, s1, s2, s3, s4, s5⟩
         go_simp
         with_reducible rfl
        rotate_left
        ·simp only [Act.put, List.setIfInBounds_toArray, List.set_cons_zero, List.set_cons_succ, i64_w, i32_w]
         rfl
        refine one_ (i := 8) (N := some 25) #[true, true, true, true, true, true, true, true, true, false] rfl rfl (one_of HT_.out (by kernel_rfl)) (by decide) (fun K hK => ?_)
        refine goes_ Try.func95 (by kernel_rfl) rfl #[.agg #[.int .i64 ((rd_T79 l0 x5_1).f0), .slice A438_1 ((rd_T79 l0 x5_1).f1).length c438_1, .int .i64 ((rd_T79 l0 x5_1).f2)], .agg #[.int .i64 ((rd_T79 l1 x5_1).f0), .slice A439_1 ((rd_T79 l1 x5_1).f1).length c439_1, .int .i64 ((rd_T79 l1 x5_1).f2)]] (by rfl) rfl rfl (by (try simp only [List.map_toArray, List.map_cons, List.map_nil]); first | done | rfl | (simp only [List.length_drop, List.length_take]; rfl)) ?_
        with_reducible refine (laws_eqStep.calls k1 ((rd_T79 l0 x5_1).f0) _ _ ((rd_T79 l0 x5_1).f1) ((rd_T79 l0 x5_1).f2) ((rd_T79 l1 x5_1).f0) _ _ ((rd_T79 l1 x5_1).f1) ((rd_T79 l1 x5_1).f2) false _ ?side1 ?side2 ?side3 ?side4 A7.out).mono ?_
        (case side1 => repeat (first | exact (Kd.C_below HR438_1.out HB.out) | (with_reducible refine Kd.C_alloc ?_ _) | (with_reducible refine Kd.C_drewN ?_ _) | (with_reducible refine Kd.C_drew ?_)))
        (case side2 => exact HC438_1.out)
        (case side3 => repeat (first | exact (Kd.C_below HR439_1.out HB.out) | (with_reducible refine Kd.C_alloc ?_ _) | (with_reducible refine Kd.C_drewN ?_ _) | (with_reducible refine Kd.C_drew ?_)))
        (case side4 => exact HC439_1.out)
        rintro e w12 ⟨rfl, hb⟩
        refine ⟨_, rfl, ?_⟩
        replace HB := (Bw.sw w hb)
        (try clear hb)
        (try clear hb2)
        (try clear hk)
        (try clear hi)
        refine hK.out _ _ ⟨((HB.out.cell (World.block_lt_of_cell? w _ hw438_0)).trans hw438_0), ((HB.out.cell (World.block_lt_of_cell? w _ hw438_1)).trans hw438_1), ((HB.out.cell (World.block_lt_of_cell? w _ hw438_2)).trans hw438_2), ((HB.out.cell (World.block_lt_of_cell? w _ hw439_0)).trans hw439_0), ((HB.out.cell (World.block_lt_of_cell? w _ hw439_1)).trans hw439_1), ((HB.out.cell (World.block_lt_of_cell? w _ hw439_2)).trans hw439_2)⟩ (fun hHeld => ?_)
        clear hK K
        refine norm_ (a' := ?_) ?_ ?_
        rotate_left
        ·show Act.put _ (some 25) _ = _
         simp only [Act.put, List.setIfInBounds_toArray, List.set_cons_zero, List.set_cons_succ, i64_w, i32_w]
         rfl
        refine pure_ (i := 9) (N := some 26) (v := ?_) (a' := ?_) #[true, true, true, true, true, true, true, true, true, true] rfl rfl (any_of HT_.out (by kernel_rfl)) (fun _ _ _ h => h) (Or.inl ⟨by rfl, ?_⟩) ?_ ?_
        rotate_left
        ·intro w'
         go_simp
         with_reducible rfl
        rotate_left
        ·simp only [Act.put, List.setIfInBounds_toArray, List.set_cons_zero, List.set_cons_succ, i64_w, i32_w]
         rfl
        refine done_ (done_of HT_.out (by kernel_rfl)) ?_
        try go_wp2
        go_ret
        exact ⟨by first | rfl | (simp [errW_none, errW_some] <;> rfl) | (simp [*, errW_none, errW_some] <;> rfl), bw⟩
      ·rw [if_neg c6] at H
       exact absurd H (by simp)
     ·rw [if_neg c5] at H
      exact absurd H (by simp)
    ·rw [if_neg c4] at H
     have c4b0 : decide (x5_1 < (l0.length : Int)) = false := decide_eq_false c4
     clear c4
     obtain rfl := Option.some.inj H
     go_wp2
     go_ret
     exact ⟨by first | rfl | (simp [errW_none, errW_some] <;> rfl) | (simp [*, errW_none, errW_some] <;> rfl), bw⟩
 ·rw [if_neg c3] at H
  have c3b0 : ((l0.length : Int) == (l1.length : Int)) = false := beq_eq_false_iff_ne.mpr c3
  have c3b1 : ((l0.length : Int) != (l1.length : Int)) = true := bne_iff_ne.mpr c3
  have c3b2 : (l0.length == l1.length) = false := by first | simpa using c3 | (simp at c3 ⊢; omega)
  obtain rfl := Option.some.inj H
  go_enter Try.func45, Try.ntmps45
  go_wp2
  go_ret
  exact ⟨by first | rfl | (simp [errW_none, errW_some] <;> rfl) | (simp [*, errW_none, errW_some] <;> rfl), bw⟩

-- NOT PRINTED: function 46 (laws_markStepS)

-- NOT PRINTED: function 9 (laws_FnExactAt)

/-! Values whose parts lie apart -/
def FdV (d : Kd S30) : Kd S30 := Kd.iso (Kx.pr (Kd.int .i64) (Kx.pr (Kd.int .i64) (Kx.pr (Kd.slice 5 (Kd.int .u8)) (Kx.pr (Kx.sl 22 (Kd.slice 5 (Kd.int .u8))) (Kx.sl 30 d))))) (fun x : S30 => (x.f0, x.f1, x.f2, x.f3, x.f4))
theorem dV_mono : Kd.Mono FdV := Kd.mono_iso _ (Kx.mono_pr (Kd.mono_const _) (Kx.mono_pr (Kd.mono_const _) (Kx.mono_pr (Kd.mono_const _) (Kx.mono_pr (Kd.mono_const _) (Kx.mono_sl 30 Kd.mono_id)))))
theorem dV_sub : Kd.Sub FdV [5, 22, 30] := Kd.sub_iso _ (Kx.sub_pr (Kd.sub_const _ (by decide)) (Kx.sub_pr (Kd.sub_const _ (by decide)) (Kx.sub_pr (Kd.sub_const _ (by decide)) (Kx.sub_pr (Kd.sub_const _ (by decide)) (Kx.sub_sl 30 (by decide) Kd.sub_id)))))
theorem dV_sz : ∀ n, (Kd.upto FdV 5 [5, 22, 30] n).sz = 5 := Kd.upto_sz (fun _ => rfl)
def dV : Kd S30 := Kd.fix FdV 5 [5, 22, 30] dV_sz (Kd.upto_E dV_sub)
theorem dV_toK {w : World} {x : S30} {cs : List Value} (h : dV.K w x cs) : k30.K w x cs := by
  obtain ⟨n, h⟩ := h
  refine ⟨n, ?_⟩
  induction n generalizing w x cs with
  | zero => exact h
  | succ n ih => exact mono30.K (Kd.upto FdV 5 [5, 22, 30] n) (Kd.upto F30 5 [5, 22, 30] n) (by rw [dV_sz, sz30]) (fun w x cs h => ih h) w x cs h
theorem dV_openM {w : World} {base : Nat} {ok : Nat → Prop} {x : S30} {cs : List Value} (h : dV.M w base ok x cs) : ∃ (v2 v3 v4 : Value) (o2 o3 o4 : Nat → Prop), cs = [.int .i64 x.f0, .int .i64 x.f1, v2, v3, v4] ∧ (Kd.int .u8).R 5 w base o2 v2 x.f2 ∧ Kd.S (Kd.slice 5 (Kd.int .u8)) 22 w base o3 v3 x.f3 ∧ Kd.S dV 30 w base o4 v4 x.f4 ∧
    (∀ k, o2 k → ok k) ∧ (∀ k, o3 k → ok k) ∧ (∀ k, o4 k → ok k) ∧ (∀ k, o2 k → ¬ o3 k) ∧ (∀ k, o2 k → ¬ o4 k) ∧ (∀ k, o3 k → ¬ o4 k) := by
  obtain ⟨n, h⟩ := h
  cases n with
  | zero => exact h.elim
  | succ n =>
    obtain ⟨c1, rfl, h1⟩ := Kx.pr_one_open (x := (x.f0, x.f1, x.f2, x.f3, x.f4)) h
    obtain ⟨c2, rfl, h2⟩ := Kx.pr_one_open (x := (x.f1, x.f2, x.f3, x.f4)) h1
    obtain ⟨f, _, _, rfl, ⟨v2, rfl, g2⟩, ⟨f', _, _, rfl, ⟨v3, rfl, g3⟩, ⟨v4, rfl, g4⟩⟩⟩ := h2
    exact ⟨v2, v3, v4, _, _, _, rfl, g2, g3, Kx.fix_S g4, fun _ h => h.1, fun _ h => h.1.1, fun _ h => h.1.1, (fun k h h2 => Bool.noConfusion (h.2.symm.trans h2.1.2)), (fun k h h2 => Bool.noConfusion (h.2.symm.trans h2.1.2)), (fun k h h2 => Bool.noConfusion (h.2.symm.trans h2.2))⟩
theorem dV_mkM {w : World} {base : Nat} {ok o2 o3 o4 : Nat → Prop} (x : S30) {v2 v3 v4 : Value} (g2 : (Kd.int .u8).R 5 w base o2 v2 x.f2) (g3 : Kd.S (Kd.slice 5 (Kd.int .u8)) 22 w base o3 v3 x.f3) (g4 : Kd.S dV 30 w base o4 v4 x.f4)
    (k2 : ∀ k, o2 k → ok k) (k3 : ∀ k, o3 k → ok k) (k4 : ∀ k, o4 k → ok k) (d23 : ∀ k, o2 k → ¬ o3 k) (d24 : ∀ k, o2 k → ¬ o4 k) (d34 : ∀ k, o3 k → ¬ o4 k) : dV.M w base ok x [.int .i64 x.f0, .int .i64 x.f1, v2, v3, v4] := by
  obtain ⟨n, h4⟩ := Kx.fix_S_back dV_mono g4
  refine ⟨n + 1, ?_⟩
  refine Kx.pr_one (x := (x.f0, x.f1, x.f2, x.f3, x.f4)) (Kx.pr_one (x := (x.f1, x.f2, x.f3, x.f4)) ?_)
  exact Kx.pr_mk (x := (x.f2, x.f3, x.f4)) (c0 := [v2]) (c1 := [v3, v4]) (ok0 := o2) (ok1 := fun k => o3 k ∨ o4 k) ⟨v2, rfl, g2⟩ (Kx.pr_mk (x := (x.f3, x.f4)) (c0 := [v3]) (c1 := [v4]) (ok0 := o3) (ok1 := o4) ⟨v3, rfl, g3⟩ ⟨v4, rfl, h4⟩ d34 (fun _ h => .inl h) (fun _ h => .inr h))
    (fun k h h2 => h2.elim (d23 k h) (d24 k h)) k2 (fun k h => h.elim (k3 k) (k4 k))
/-! marks -/
mutual
/-- How many marks a value takes. -/
def dnV : S30 → Nat
  | ⟨_, _, s, ks, l⟩ => s.length + mL ks + dnVs l
def dnVs : List S30 → Nat
  | [] => 0
  | x :: l => 2 + dnV x + dnVs l
end
mutual
/-- A value, marked from k on. -/
def dmkV : Int → S30 → S30
  | k, ⟨a, b, s, ks, l⟩ => ⟨a, b, mk k s.length, mks (k + s.length) ks, dmkVs (k + s.length + mL ks) l⟩
/-- Parts, marked from k on. -/
def dmkVs : Int → List S30 → List S30
  | _, [] => []
  | k, ⟨a, b, s, ks, p⟩ :: l => ⟨k, k + 1, mk (k + 2) s.length, mks (k + 2 + s.length) ks, dmkVs (k + 2 + s.length + mL ks) p⟩ :: dmkVs (k + 2 + s.length + mL ks + dnVs p) l
end
mutual
/-- No row is too long. -/
def dokV : S30 → Prop
  | ⟨_, _, s, ks, l⟩ => ks.length ≤ 4611686018427387904 ∧ dokVs l
def dokVs : List S30 → Prop
  | [] => True
  | x :: l => dokV x ∧ l.length ≤ 4611686018427387904 ∧ dokVs l
end
mutual
/-- How deep. -/
def ddpV : S30 → Nat
  | ⟨_, _, _, _, l⟩ => ddpVs l + 1
def ddpVs : List S30 → Nat
  | [] => 0
  | x :: l => max (ddpV x) (ddpVs l)
end
theorem dmkVs_len (k : Int) (l : List S30) : (dmkVs k l).length = l.length := by
  induction l generalizing k with
  | nil => simp [dmkVs]
  | cons x l ih =>
    obtain ⟨a, b, s, ks, p⟩ := x
    simp [dmkVs, ih]
theorem dnV_eta (x : S30) : dnV x = x.f2.length + mL x.f3 + dnVs x.f4 := by obtain ⟨a, b, s, ks, l⟩ := x; simp [dnV]
theorem dnVs_take (l : List S30) (i : Nat) (h : i < l.length) : dnVs (l.take (i + 1)) = dnVs (l.take i) + (2 + dnV l[i]) := by
  induction l generalizing i with
  | nil => simp at h
  | cons x l ih =>
    cases i with
    | zero => simp [dnVs]
    | succ i => simp only [List.take_succ_cons, dnVs, List.getElem_cons_succ]; rw [ih i (by simpa using h)]; omega
theorem dnVs_le (l : List S30) (i : Nat) : dnVs (l.take i) ≤ dnVs l := by
  induction l generalizing i with
  | nil => simp
  | cons x l ih => cases i with
    | zero => simp [dnVs]
    | succ i => simp only [List.take_succ_cons, dnVs]; have := ih i; omega
theorem dokVs_at (l : List S30) (i : Nat) (h : dokVs l) (hi : i < l.length) : dokV l[i] := by
  induction l generalizing i with
  | nil => simp at hi
  | cons x l ih => cases i with
    | zero => exact h.1
    | succ i => exact ih i h.2.2 (by simpa using hi)
theorem dokVs_len (l : List S30) (h : dokVs l) : l.length ≤ 4611686018427387905 := by
  cases l with
  | nil => simp
  | cons x l => have := h.2.1; simp only [List.length_cons]; omega
theorem dokV_eta (x : S30) (h : dokV x) : x.f3.length ≤ 4611686018427387904 ∧ dokVs x.f4 := by obtain ⟨a, b, s, ks, l⟩ := x; exact h
theorem ddpVs_at (l : List S30) (i : Nat) (hi : i < l.length) : ddpV l[i] ≤ ddpVs l := by
  induction l generalizing i with
  | nil => simp at hi
  | cons x l ih => cases i with
    | zero => simp only [List.getElem_cons_zero, ddpVs]; omega
    | succ i => simp only [List.getElem_cons_succ, ddpVs]; have := ih i (by simpa using hi); omega
theorem ddpV_eta (x : S30) : ddpV x = ddpVs x.f4 + 1 := by obtain ⟨a, b, s, ks, l⟩ := x; simp [ddpV]
theorem dmkVs_snoc (k : Int) (l : List S30) (x : S30) : dmkVs k (l ++ [x]) = dmkVs k l ++ [⟨k + (dnVs l : Nat), k + (dnVs l : Nat) + 1, mk (k + (dnVs l : Nat) + 2) x.f2.length, mks (k + (dnVs l : Nat) + 2 + x.f2.length) x.f3, dmkVs (k + (dnVs l : Nat) + 2 + x.f2.length + mL x.f3) x.f4⟩] := by
  induction l generalizing k with
  | nil => obtain ⟨a, b, s, ks, p⟩ := x; simp [dmkVs, dnVs]
  | cons y l ih =>
    obtain ⟨a, b, s, ks, p⟩ := y
    have e : k + 2 + (s.length : Nat) + (mL ks : Nat) + (dnVs p : Nat) + (dnVs l : Nat) = k + ((2 + (s.length + mL ks + dnVs p) + dnVs l : Nat) : Int) := by omega
    simp only [List.cons_append, dmkVs, dnVs, dnV, ih, e]
theorem dmkVs_step (k : Int) (i : Nat) (l : List S30) (h : i < l.length) : (dmkVs k (l.take i) ++ l.drop i).set i ⟨k + (dnVs (l.take i) : Nat), k + (dnVs (l.take i) : Nat) + 1, mk (k + (dnVs (l.take i) : Nat) + 2) l[i].f2.length, mks (k + (dnVs (l.take i) : Nat) + 2 + l[i].f2.length) l[i].f3, dmkVs (k + (dnVs (l.take i) : Nat) + 2 + l[i].f2.length + mL l[i].f3) l[i].f4⟩ = dmkVs k (l.take (i + 1)) ++ l.drop (i + 1) := by
  have hl : (dmkVs k (l.take i)).length = i := by rw [dmkVs_len, List.length_take]; omega
  rw [List.set_append_right _ _ (by omega), hl, Nat.sub_self, List.drop_eq_getElem_cons h, List.set_cons_zero, List.take_succ_eq_append_getElem h, dmkVs_snoc]
  simp
open Classical in
set_option maxRecDepth 100000 in
set_option maxHeartbeats 8000000 in
/-- Parts that lie apart are marked, each number with its mark. -/
theorem markValueS_own (n : Nat) : ∀ (l : List S30) (v : Value) (k : Int) (w : World) (base : Nat) (ok : Nat → Prop), ddpVs l < n → 0 ≤ k → k + dnVs l ≤ 4611686018427387904 → dokVs l → Kd.S dV 30 w base ok v l →
    Calls Try.prog 63 #[v, .int .i64 k] w fun e w' => e = .returned (.int .i64 (k + dnVs l)) ∧ Kd.S dV 30 w' base ok v (dmkVs k l) ∧ Wr ok w w' := by
  induction n using Nat.strongRecOn with
  | ind n ih =>
  intro l v k w base ok hdp hk hkl hok h
  have hlen := dokVs_len l hok
  obtain ⟨A, c, rfl⟩ := Kd.S_slice h
  have H0 := Aside0.mk h
  have HOK := Aside0.mk hok
  have HDP := Aside0.mk hdp
  clear h hok hdp
  go_enter Try.func63, Try.ntmps63
  go_wp2
  go_loopw [1, 5] (fun v1 v5 wr => ∃ i : Nat, i ≤ l.length ∧ v1 = .int .i64 (k + (dnVs (l.take i) : Nat)) ∧ v5 = .int .i64 i ∧ Aside0 (Kd.S dV 30 wr base ok (.slice A l.length c) (dmkVs k (l.take i) ++ l.drop i)) ∧ Aside0 (Wr ok w wr)) (fun _ v5 _ => l.length - (intOf v5).toNat)
  case atStart => exact ⟨0, Nat.zero_le _, by simp [dnVs], rfl, ⟨by simpa [dmkVs] using H0.out⟩, ⟨Wr.refl _ _⟩⟩
  case round =>
    obtain ⟨i, hil, rfl, rfl, HI, HO⟩ := hrel
    by_cases hlt : i < l.length
    · have hln : (dmkVs k (l.take i) ++ l.drop i).length = l.length := by rw [List.length_append, dmkVs_len, List.length_take, List.length_drop]; omega
      obtain ⟨g, cap, eg, -, -, cells, hg⟩ := Kd.S_form HI.out (by omega)
      injection eg with e1 e2 e3
      subst e1
      obtain ⟨oki, cs, hcl, hM, hcc, hfr, hoki, hH⟩ := Kd.S_elem HI.out z30 (i : Int) (by omega) (by omega)
      have hx : (dmkVs k (l.take i) ++ l.drop i).getD (i : Int).toNat z30 = l[i] := by
        rw [Int.toNat_natCast, List.getD_eq_getElem?_getD, List.getElem?_append_right (by rw [dmkVs_len, List.length_take]; omega), dmkVs_len, List.length_take, Nat.min_eq_left (by omega), Nat.sub_self, List.getElem?_drop, Nat.add_zero, List.getElem?_eq_getElem hlt]
        rfl
      rw [hx] at hM
      have ht := dnVs_take l i hlt
      have hle := dnVs_le l (i + 1)
      have hs := dmkVs_step k i l hlt
      have hxo := dokVs_at l i HOK.out hlt
      have hxd := ddpVs_at l i hlt
      obtain ⟨x, hxx⟩ : ∃ x, x = l[i] := ⟨_, rfl⟩
      rw [← hxx] at hM ht hs hxo hxd
      have he := dnV_eta x
      have hde := ddpV_eta x
      obtain ⟨hx1, hx2⟩ := dokV_eta x hxo
      obtain ⟨v2, v3, v4, o2, o3, o4, rfl, g2, g3, g4, k2, k3, k4, d23, d24, d34⟩ := dV_openM hM
      obtain ⟨k0, hk0⟩ : ∃ k0 : Int, k0 = k + (dnVs (l.take i) : Nat) := ⟨_, rfl⟩
      rw [← hk0] at hs ⊢
      have hk0' : 0 ≤ k0 := by omega
      have hk1 : k0 + 2 + (x.f2.length : Nat) + (mL x.f3 : Nat) + (dnVs x.f4 : Nat) ≤ 4611686018427387904 := by omega
      have HQ := Aside0.mk (show k + (dnVs (l.take (i + 1)) : Nat) = k0 + 1 + 1 + (x.f2.length : Nat) + (mL x.f3 : Nat) + (dnVs x.f4 : Nat) by omega)
      have p1 : (0 ≤ (i : Int)) = True := eq_true (by omega)
      have p2 : ((i : Int) < (l.length : Int)) = True := eq_true (by omega)
      obtain ⟨A2, c2, rfl⟩ := Kd.R_slice g2
      obtain ⟨A3, c3, rfl⟩ := Kd.S_slice g3
      obtain ⟨A4, c4, rfl⟩ := Kd.S_slice g4
      have hsz : dV.sz = 5 := rfl
      have hc0 := hcc 0 _ rfl
      have hc1 := hcc 1 _ rfl
      have hc2 := hcc 2 _ rfl
      have hc3 := hcc 3 _ rfl
      have hc4 := hcc 4 _ rfl
      have hf0 := hfr 0
      have hf1 := hfr 1
      rw [hsz, Int.toNat_natCast] at hc0 hc1 hc2 hc3 hc4 hf0 hf1
      rw [Nat.add_zero] at hc0 hf0
      have q1 := (Kd.H_seg hH (seg := [.int .i64 k0]) (j := 0) (by omega) (by omega) (by simp [hsz]) (by simp [Value.oneCell'])).1
      have q2 := (Kd.H_seg q1 (seg := [.int .i64 (k0 + 1)]) (j := 1) (by omega) (by omega) (by simp [hsz]) (by simp [Value.oneCell'])).1
      rw [hsz, Int.toNat_natCast, Nat.add_zero] at q2
      simp only [World.setCells, List.take_zero, List.nil_append, List.length_cons, List.length_nil, Nat.zero_add, List.drop_succ_cons, List.drop_zero, List.cons_append, List.take_succ_cons, Nat.reduceAdd] at q2
      have hgk : oki g → False := fun h => (hoki g h).2 rfl
      have mv : ∀ (o : Nat → Prop), (∀ z, o z → oki z) → ∀ z, o z → ((wr.setCell ⟨g, i * 5, none⟩ (.int .i64 k0)).setCell ⟨g, i * 5 + 1, none⟩ (.int .i64 (k0 + 1))).heap[z]? = wr.heap[z]? := fun o ho z hz => by
        have hzg : z ≠ g := fun e => hgk (by rw [← e]; exact ho z hz)
        rw [Below.heap_setCell _ _ _ _ hzg, Below.heap_setCell _ _ _ _ hzg]
      have G2 := Aside0.mk (Kd.R_move g2 (mv o2 k2))
      have G3 := Aside0.mk (Kd.S_move g3 (mv o3 k3))
      have G4 := Aside0.mk (Kd.S_move g4 (mv o4 k4))
      have hwo : ok g := HI.out |> Kd.S_R |> (·.1 g (by simp [Value.ownBlock]))
      have HO2 := Aside0.mk (HO.out.trans ((Wr.set (o := i * 5) (v := .int .i64 k0) hwo).trans (Wr.set (o := i * 5 + 1) (v := .int .i64 (k0 + 1)) hwo)))
      have HH := Aside0.mk q2
      have HD := Aside0.mk (And.intro d23 (And.intro d24 d34))
      have HK := Aside0.mk (And.intro k2 (And.intro k3 k4))
      have HOI := Aside0.mk hoki
      have HS := Aside0.mk hs
      have HE := Aside0.mk hk1
      have HP := Aside0.mk hk0'
      have HX1 := Aside0.mk hx1
      have HX2 := Aside0.mk hx2
      have HXD := Aside0.mk (show ddpVs x.f4 < ddpVs l by omega)
      clear hcc hfr hM hH hg hln hx ht hle hs hxo hxd hde he hx1 hx2 hk0 hk1 q1 q2 mv g2 g3 g4 k2 k3 k4 d23 d24 d34 hoki hgk hwo HI HO hcl e2 e3 hxx hsz
      have hk9 : k0 ≤ 4611686018427387902 := by have := HE.out; omega
      go_wp2_with (first
        | (go_at_call 20; refine (markByteS_own _ _ _ _ _ _ (by have := HP.out; omega) (by have := HE.out; omega) G2.out).mono ?_; rintro e w1 ⟨rfl, g1, g2⟩; have G2' := Aside0.mk g1; have b1 := fun (o : Nat → Prop) (ho : ∀ z, o z → ¬ o2 z) (z : Nat) (hz : o z) (hl : z < _) => g2.block z hl (ho z hz); replace G3 := Aside0.mk (Kd.S_step G3.out (b1 o3 (fun z a b => HD.out.1 z b a))); replace G4 := Aside0.mk (Kd.S_step G4.out (b1 o4 (fun z a b => HD.out.2.1 z b a))); have H3 := Aside0.mk (Kd.H_step HH.out (fun z _ hn hl => g2.block z hl (fun h => hn (HK.out.1 z h)))); replace HO2 := Aside0.mk (HO2.out.trans (g2.wide (fun z hz => (HOI.out z (HK.out.1 z hz)).1))); obtain ⟨hd, -⟩ := Kd.H_at H3.out (by omega) (by omega); have hd3 := hd 3 _ rfl; have hd4 := hd 4 _ rfl; rw [show dV.sz = 5 from rfl, Int.toNat_natCast] at hd3 hd4; clear hd g1 g2 b1)
        | (go_at_call 62; refine (markByteSS_own _ _ _ _ _ _ (by have := HP.out; omega) (by have := HE.out; omega) G3.out HX1.out).mono ?_; rintro e w2 ⟨rfl, g1, g2⟩; have G3' := Aside0.mk g1; have b1 := fun (o : Nat → Prop) (ho : ∀ z, o z → ¬ o3 z) (z : Nat) (hz : o z) (hl : z < _) => g2.block z hl (ho z hz); replace G2' := Aside0.mk (Kd.R_step G2'.out (b1 o2 (fun z a b => HD.out.1 z a b))); replace G4 := Aside0.mk (Kd.S_step G4.out (b1 o4 (fun z a b => HD.out.2.2 z b a))); replace H3 := Aside0.mk (Kd.H_step H3.out (fun z _ hn hl => g2.block z hl (fun h => hn (HK.out.2.1 z h)))); replace HO2 := Aside0.mk (HO2.out.trans (g2.wide (fun z hz => (HOI.out z (HK.out.2.1 z hz)).1))); obtain ⟨hd, -⟩ := Kd.H_at H3.out (by omega) (by omega); have he4 := hd 4 _ rfl; rw [show dV.sz = 5 from rfl, Int.toNat_natCast] at he4; clear hd g1 g2 b1)
        | (go_at_call 63; refine (ih (ddpVs x.f4 + 1) (by have := HXD.out; have := HDP.out; omega) _ _ _ _ _ _ (Nat.lt_succ_self _) (by have := HP.out; omega) (by have := HE.out; omega) HX2.out G4.out).mono ?_; rintro e w3 ⟨rfl, g1, g2⟩; have G4' := Aside0.mk g1; have b1 := fun (o : Nat → Prop) (ho : ∀ z, o z → ¬ o4 z) (z : Nat) (hz : o z) (hl : z < _) => g2.block z hl (ho z hz); replace G2' := Aside0.mk (Kd.R_step G2'.out (b1 o2 (fun z a b => HD.out.2.1 z a b))); replace G3' := Aside0.mk (Kd.S_step G3'.out (b1 o3 (fun z a b => HD.out.2.2 z a b))); replace H3 := Aside0.mk (Kd.H_step H3.out (fun z _ hn hl => g2.block z hl (fun h => hn (HK.out.2.2 z h)))); replace HO2 := Aside0.mk (HO2.out.trans (g2.wide (fun z hz => (HOI.out z (HK.out.2.2 z hz)).1))); clear g1 g2 b1))
      have h5 := Kd.H_back H3.out (okp := oki) (dV_mkM ⟨k0, k0 + 1, mk (k0 + 1 + 1) x.f2.length, mks (k0 + 1 + 1 + x.f2.length) x.f3, dmkVs (k0 + 1 + 1 + x.f2.length + mL x.f3) x.f4⟩ G2'.out G3'.out G4'.out HK.out.1 HK.out.2.1 HK.out.2.2 HD.out.1 HD.out.2.1 HD.out.2.2) (fun _ h => h)
      have e2 : k0 + 1 + 1 = k0 + 2 := by omega
      rw [Int.toNat_natCast, e2, HS.out] at h5
      have H5 := Aside0.mk h5
      clear h5 e2
      go_roundw
      case rel => exact ⟨i + 1, by omega, by rw [HQ.out], by go_num, H5, HO2⟩
      case measure => simp [intOf]; omega
    · have hi : i = l.length := by omega
      subst hi
      have H1 := HI.out
      rw [List.drop_length, List.append_nil, List.take_length] at H1
      have p2 : ((l.length : Int) < (l.length : Int)) = False := eq_false (by omega)
      have HQ := Aside0.mk (show dnVs (l.take l.length) = dnVs l by rw [List.take_length])
      go_wp2
      go_ret
      exact ⟨by first | rfl | (rw [← HQ.out]; rfl) | (rw [HQ.out]; rfl), H1, HO.out⟩
theorem dmkV_eta (k : Int) (x : S30) : dmkV k x = ⟨x.f0, x.f1, mk k x.f2.length, mks (k + x.f2.length) x.f3, dmkVs (k + x.f2.length + mL x.f3) x.f4⟩ := by obtain ⟨a, b, s, ks, l⟩ := x; simp [dmkV]
set_option maxRecDepth 100000 in
set_option maxHeartbeats 8000000 in
/-- A value whose parts lie apart is marked, each number of its parts with its mark. -/
theorem markValue_own (x : S30) (bs : Array Value) (k : Int) (w : World) (base : Nat) (ok : Nat → Prop) (hk : 0 ≤ k) (hkl : k + dnV x ≤ 4611686018427387904) (hok : dokV x) (h : dV.M w base ok x bs.toList) :
    Calls Try.prog 19 #[.agg bs, .int .i64 k] w fun e w' => e = .returned (.int .i64 (k + dnV x)) ∧ dV.M w' base ok (dmkV k x) bs.toList ∧ Wr ok w w' := by
  obtain ⟨v2, v3, v4, o2, o3, o4, hc, g2, g3, g4, k2, k3, k4, d23, d24, d34⟩ := dV_openM (dV.M_bound h)
  obtain rfl : bs = #[.int .i64 x.f0, .int .i64 x.f1, v2, v3, v4] := by rw [← bs.toArray_toList, hc]
  obtain ⟨A2, c2, rfl⟩ := Kd.R_slice g2
  obtain ⟨A3, c3, rfl⟩ := Kd.S_slice g3
  obtain ⟨A4, c4, rfl⟩ := Kd.S_slice g4
  have he := dnV_eta x
  obtain ⟨hx1, hx2⟩ := dokV_eta x hok
  have HP := Aside0.mk hk
  have HE := Aside0.mk (show k + (x.f2.length : Nat) + (mL x.f3 : Nat) + (dnVs x.f4 : Nat) ≤ 4611686018427387904 by omega)
  have HQ := Aside0.mk (show k + (dnV x : Nat) = k + (x.f2.length : Nat) + (mL x.f3 : Nat) + (dnVs x.f4 : Nat) by omega)
  have HX1 := Aside0.mk hx1
  have HX2 := Aside0.mk hx2
  have HD := Aside0.mk (And.intro d23 (And.intro d24 d34))
  have HK := Aside0.mk (And.intro (fun z hz => (k2 z hz).1) (And.intro (fun z hz => (k3 z hz).1) (fun z hz => (k4 z hz).1)) : (∀ z, o2 z → ok z) ∧ (∀ z, o3 z → ok z) ∧ (∀ z, o4 z → ok z))
  have HL := Aside0.mk (And.intro (fun z hz => (k2 z hz).2.2.1) (And.intro (fun z hz => (k3 z hz).2.2.1) (fun z hz => (k4 z hz).2.2.1)) : (∀ z, o2 z → z < w.heap.size) ∧ (∀ z, o3 z → z < w.heap.size) ∧ (∀ z, o4 z → z < w.heap.size))
  have G2 := Aside0.mk g2
  have G3 := Aside0.mk g3
  have G4 := Aside0.mk g4
  have HO := Aside0.mk (Wr.refl ok w)
  have hu := Try.underlying30
  clear g2 g3 g4 k2 k3 k4 d23 d24 d34 hx1 hx2 he hok hkl hc h
  go_enter Try.func19, Try.ntmps19
  go_wp2_with (first
    | ((with_reducible refine gate_dst (N := 2) rfl ?_); refine bxb (bs := #[.int .i64 x.f0, .int .i64 x.f1, .slice A2 x.f2.length c2, .slice A3 x.f3.length c3, .slice A4 x.f4.length c4]) 2 rfl rfl rfl rfl ?_; intro gb w1 BX hb1 hle hlt; have GE := Aside0.mk hle; replace G2 := Aside0.mk (Kd.R_below G2.out hb1); replace G3 := Aside0.mk (Kd.S_below G3.out hb1); replace G4 := Aside0.mk (Kd.S_below G4.out hb1); replace HO := Aside0.mk (HO.out.trans (Wr.of_below hb1)); clear hb1 hle hlt; obtain ⟨hc0, hc1, hc2, hc3, hc4, hf0, hf1, hf2, hf3, hf4⟩ := blk5 BX.h; simp only [Act.put, List.setIfInBounds_toArray, List.set_cons_zero, List.set_cons_succ])
    | (go_at_call 20; refine (markByteS_own _ _ _ _ _ _ (by have := HP.out; omega) (by have := HE.out; omega) G2.out).mono ?_; rintro e w1 ⟨rfl, g1, g2⟩; replace G2 := Aside0.mk g1; replace G3 := Aside0.mk (Kd.S_step G3.out (fun z hz hl => g2.block z hl (fun h => HD.out.1 z h hz))); replace G4 := Aside0.mk (Kd.S_step G4.out (fun z hz hl => g2.block z hl (fun h => HD.out.2.1 z h hz))); replace BX := BX.wr g2 (fun h => Nat.not_lt.2 GE.out (HL.out.1 _ h)); replace HO := Aside0.mk (HO.out.trans (g2.wide HK.out.1)); clear g1 g2; obtain ⟨hc0, hc1, hc2, hc3, hc4, hf0, hf1, hf2, hf3, hf4⟩ := blk5 BX.h)
    | (go_at_call 62; refine (markByteSS_own _ _ _ _ _ _ (by have := HP.out; omega) (by have := HE.out; omega) G3.out HX1.out).mono ?_; rintro e w2 ⟨rfl, g1, g2⟩; replace G3 := Aside0.mk g1; replace G2 := Aside0.mk (Kd.R_step G2.out (fun z hz hl => g2.block z hl (fun h => HD.out.1 z hz h))); replace G4 := Aside0.mk (Kd.S_step G4.out (fun z hz hl => g2.block z hl (fun h => HD.out.2.2 z h hz))); replace BX := BX.wr g2 (fun h => Nat.not_lt.2 GE.out (HL.out.2.1 _ h)); replace HO := Aside0.mk (HO.out.trans (g2.wide HK.out.2.1)); clear g1 g2; obtain ⟨hc0, hc1, hc2, hc3, hc4, hf0, hf1, hf2, hf3, hf4⟩ := blk5 BX.h)
    | (go_at_call 63; refine (markValueS_own _ _ _ _ _ _ _ (Nat.lt_succ_self _) (by have := HP.out; omega) (by have := HE.out; omega) HX2.out G4.out).mono ?_; rintro e w3 ⟨rfl, g1, g2⟩; replace G4 := Aside0.mk g1; replace G2 := Aside0.mk (Kd.R_step G2.out (fun z hz hl => g2.block z hl (fun h => HD.out.2.1 z hz h))); replace G3 := Aside0.mk (Kd.S_step G3.out (fun z hz hl => g2.block z hl (fun h => HD.out.2.2 z hz h))); replace HO := Aside0.mk (HO.out.trans (g2.wide HK.out.2.2)); clear g1 g2))
  go_ret
  refine ⟨by rw [HQ.out]; rfl, ?_, HO.out⟩
  rw [dmkV_eta]
  exact dV_mkM ⟨x.f0, x.f1, mk k x.f2.length, mks (k + x.f2.length) x.f3, dmkVs (k + x.f2.length + mL x.f3) x.f4⟩ (by simpa [mk_len] using G2.out) (by simpa [mks_len] using G3.out) (by simpa [dmkVs_len] using G4.out) HK.out.1 HK.out.2.1 HK.out.2.2 HD.out.1 HD.out.2.1 HD.out.2.2
theorem rdD {w : World} {x : S30} {cs : List Value} (h : Rd dV w x cs) : Rd k30 w x cs := ⟨dV_toK h.k⟩
mutual
/-- All the lengths of a value. -/
def dsV : S30 → Nat
  | ⟨_, _, s, ks, l⟩ => s.length + (ks.length + mL ks + (l.length + dsVs l))
def dsVs : List S30 → Nat
  | [] => 0
  | x :: l => dsV x + dsVs l
end
mutual
theorem dnV_le : ∀ x : S30, dnV x ≤ 2 * dsV x
  | ⟨_, _, s, ks, l⟩ => by have := dnVs_le2 l; simp only [dnV, dsV]; omega
theorem dnVs_le2 : ∀ l : List S30, dnVs l ≤ 2 * (l.length + dsVs l)
  | [] => by simp [dnVs]
  | x :: l => by have := dnV_le x; have := dnVs_le2 l; simp only [dnVs, dsVs, List.length_cons]; omega
end
mutual
theorem dokV_of : ∀ x : S30, dsV x ≤ 4611686018427387904 → dokV x
  | ⟨_, _, s, ks, l⟩, h => by
    simp only [dsV] at h
    exact ⟨by omega, dokVs_of l (by omega)⟩
theorem dokVs_of : ∀ l : List S30, l.length + dsVs l ≤ 4611686018427387904 → dokVs l
  | [], _ => trivial
  | x :: l, h => by
    simp only [dsVs, List.length_cons] at h
    exact ⟨dokV_of x (by omega), by omega, dokVs_of l (by omega)⟩
end
/-- A value made apart is marked. -/
theorem laws_markValue.kcd (x0 : S30) (b0 : Array Value) (k mm : Int) (w : World) {lo hi : Nat} (hk : 0 ≤ k) (hm : dsV x0 ≤ 1099511627776) (hk2 : k ≤ 1099511627776) (he : some (k + (dnV x0 : Nat)) = some mm) (h0 : Own dV w lo hi x0 b0.toList) :
    Calls Try.prog 19 #[.agg b0, .int .i64 k] w fun e w' => e = .returned (.int .i64 mm) ∧ Own dV w' lo hi (dmkV k x0) b0.toList ∧ M.Outside lo hi w w' := by
  have he := Option.some.inj he
  subst he
  have h1 := dnV_le x0
  refine (markValue_own x0 b0 k w lo _ hk (by omega) (dokV_of x0 (by omega)) h0.m).mono ?_
  rintro e w' ⟨rfl, g1, g2⟩
  have g := g2.outside (fun _ h => h)
  exact ⟨rfl, ⟨g1, Nat.le_trans h0.le g.size⟩, g⟩
end Go.Proofs.Ytenpjddjmhjdoaa.PFnExactAt
