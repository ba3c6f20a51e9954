/- What the law reaches: each function as a plain Lean function, and that each call comes to it. No condition. -/
import Derived.Test.YtenpjddjmhjdoaaPFnExactAtx0
import Derived.Test.YtenpjddjmhjdoaaPFnExactAtx5
namespace Go.Proofs.Ytenpjddjmhjdoaa.PFnExactAt
open Go.RowKit Go.Proofs.YtenpjddjmhjdoaaW.PrintWords Go.Proofs.YtenpjddjmhjdoaaW.PrintLast Go.Proofs.YtenpjddjmhjdoaaW.PrintMore Go.Proofs.Ytenpjddjmhjdoaa.M
attribute [local go_sem] max2_int min2_int max_two min_two max_three min_three max_four min_four Go.Proofs.Ytenpjddjmhjdoaa.M.str_gtr Go.Proofs.Ytenpjddjmhjdoaa.M.str_leq Go.Proofs.Ytenpjddjmhjdoaa.M.str_geq   -- for this text's walks alone
set_option linter.unusedVariables false
set_option linter.unusedSimpArgs false

/-! ### spec_PathOk: function 90 -/
def spec_PathOk.l0 : Nat → List (S79) → Int → Option (Bool)
 | 0, _, _ => none
 | k + 1, x0, x3 => if x3 < (x0.length : Int) then (if 0 ≤ x3 then (if ((rd_T79 x0 x3).f0) = 0 then ((spec_NameOk.f k ((rd_T79 x0 x3).f1)).bind fun t294 => (if t294 = true then (if ((rd_T79 x0 x3).f2) = 0 then (spec_PathOk.l0 k x0 (wrap64 (x3 + 1))) else (some false)) else (some false))) else (if ((rd_T79 x0 x3).f0) = 1 then (if (((rd_T79 x0 x3).f1).length : Int) > 0 then (some false) else (if ((rd_T79 x0 x3).f2) < 0 then (some false) else (if ((rd_T79 x0 x3).f2) ≥ 40 then (some false) else (spec_PathOk.l0 k x0 (wrap64 (x3 + 1)))))) else (some false))) else (none)) else (some true)
def spec_PathOk.f (k : Nat) (l0 : List (S79)) : Option (Bool) := if (l0.length : Int) > 6 then (some false) else (spec_PathOk.l0 k l0 0)
set_option maxHeartbeats 8000000 in
set_option maxRecDepth 100000 in
theorem spec_PathOk.calls (k : Nat) (A0 : Option Addr) (c0 : Nat) (l0 : List (S79)) (r : Bool) (w : World) (hr0 : Kd.C k79 w A0 l0.length l0) (hc0 : l0.length ≤ c0) (h : spec_PathOk.f k l0 = some r) :
  Calls Try.prog 90 #[.slice A0 l0.length c0] w fun e w' => e = .returned (.bool r) ∧ Below w.heap.size w w' := by
 have hu79 := Try.underlying79; have HR0 := Aside0.mk hr0; have HC0 := Aside0.mk hc0; clear hr0 hc0; have HB := Bw.refl w
 have H : (if (l0.length : Int) > 6 then (some false) else (spec_PathOk.l0 k l0 0)) = some r := h
 clear h
 by_cases c2 : (l0.length : Int) > 6
 ·rw [if_pos c2] at H
  have c2b0 : decide (6 < (l0.length : Int)) = true := decide_eq_true c2
  have c2b1 : decide (6 < l0.length) = true := decide_eq_true (by omega)
  clear c2; obtain rfl := Option.some.inj H
  go_enter Try.func90, Try.ntmps90
  go_wp2; go_ret; exact ⟨rfl, bw⟩
 ·rw [if_neg c2] at H
  have c2b0 : decide (6 < (l0.length : Int)) = false := decide_eq_false c2
  have c2b1 : decide (6 < l0.length) = false := decide_eq_false (by omega)
  clear c2; have H' := Aside0.mk H; clear H
  go_enter Try.func90, Try.ntmps90
  go_wp2
  go_loopg [3] k (fun kq v3 w' => ∃ (x3_1 : Int), v3 = .int .i64 x3_1 ∧ Aside0 (spec_PathOk.l0 kq l0 x3_1 = some r) ∧ Aside0 (kq ≤ k) ∧ Bw w w')
  case atStart => exact ⟨(0), rfl, H', ⟨Nat.le_refl _⟩, ⟨bw⟩⟩
  case round =>
   clear H'; (try clear c2); (try clear c2b0); (try clear c2b1); obtain ⟨x3_1, rfl, HA, HK1, HB⟩ := hrel
   cases gk with
   | zero => exact absurd HA.out (by simp [spec_PathOk.l0])
   | succ k1 =>
    have H := HA.out; clear HA
    simp only [spec_PathOk.l0] at H
    by_cases c3 : x3_1 < (l0.length : Int)
    ·rw [if_pos c3] at H
     have c3b0 : decide (x3_1 < (l0.length : Int)) = true := decide_eq_true c3; clear c3
     by_cases c4 : 0 ≤ x3_1
     ·rw [if_pos c4] at H
      have c4b0 : decide (0 ≤ x3_1) = true := decide_eq_true c4; clear c4
      by_cases c5 : ((rd_T79 l0 x3_1).f0) = 0
      ·rw [if_pos c5] at H
       have c5b0 : (((rd_T79 l0 x3_1).f0) == 0) = true := beq_iff_eq.mpr c5; have c5b1 : (((rd_T79 l0 x3_1).f0) != 0) = false := bne_eq_false_iff_eq.mpr c5; clear c5; replace H := Option.bind_eq_some_iff.mp H; obtain ⟨t294, A60, H⟩ := H
       replace H : (if t294 = true then (if ((rd_T79 l0 x3_1).f2) = 0 then (spec_PathOk.l0 k1 l0 (wrap64 (x3_1 + 1))) else (some false)) else (some false)) = some r := H
       have A6 := Aside0.mk A60; clear A60
       by_cases c7 : t294 = true
       ·subst c7
        have H1 : (if ((rd_T79 l0 x3_1).f2) = 0 then (spec_PathOk.l0 k1 l0 (wrap64 (x3_1 + 1))) else (some false)) = some r := by rw [if_pos rfl] at H; exact H
        clear H; have H := H1; clear H1
        by_cases c8 : ((rd_T79 l0 x3_1).f2) = 0
        ·rw [if_pos c8] at H
         have c8b0 : (((rd_T79 l0 x3_1).f2) == 0) = true := beq_iff_eq.mpr c8; have c8b1 : (((rd_T79 l0 x3_1).f2) != 0) = false := bne_eq_false_iff_eq.mpr c8; clear c8; have H' := Aside0.mk H; clear H
         have p292 : 0 ≤ (x3_1 : Int) := of_decide_eq_true (by first | (with_reducible assumption) | assumption)
         have q292 : x3_1 < (l0.length : Int) := of_decide_eq_true (by first | (with_reducible assumption) | assumption)
         obtain ⟨ad292, A292_1, c292_1, e292, hx292_0, hx292_1, hx292_2, hl292_1, hi292_1⟩ := at_T79 HR0.out x3_1 p292 q292; cases e292; replace hx292_0 := (HB.out.cell (World.block_lt_of_cell? w _ hx292_0)).trans hx292_0; replace hx292_1 := (HB.out.cell (World.block_lt_of_cell? w _ hx292_1)).trans hx292_1; replace hx292_2 := (HB.out.cell (World.block_lt_of_cell? w _ hx292_2)).trans hx292_2; have HR292_1 := Aside0.mk hi292_1; have HC292_1 := Aside0.mk hl292_1; clear hi292_1 hl292_1; replace p292 := eq_true p292; replace q292 := eq_true q292
         go_wp2_with (first | ((with_reducible refine gate_dst (N := 4) rfl ?_); refine box_event rfl (N := 4) rfl (cs := #[.int .i64 0, .slice none 0 0, .int .i64 0]) (t := 79) (by go_simp <;> rfl) ?_; intro gb293 hg w9 hbox hb; have BK293 := Aside0.mk (hbox); have GE293 := (Ge.of hg : Ge w.heap.size gb293); replace HB := (Bw.sw w hb); clear hb hbox hg; obtain ⟨hcz10_0, hcz10_1, hcz10_2, hfz10_0, hfz10_1, hfz10_2⟩ := blk3 BK293.out) | ((with_reducible refine gg (f := 120) (some 24) rfl rfl rfl fr120 ?_); refine onc (spec_NameOk.calls k1 _ _ ((rd_T79 l0 x3_1).f1) true _ (cb HR292_1) HC292_1.out A6.out) rfl ?_; rintro e w' ⟨rfl, ⟨nd, rfl⟩⟩; refine ⟨_, rfl, ?_⟩))
         go_roundg k1
         case measure => have := HK1.out; omega
         case rel => exact ⟨(wrap64 (x3_1 + 1)), rfl, H', ⟨by have := HK1.out; omega⟩, ⟨bw⟩⟩
        ·rw [if_neg c8] at H
         have c8b0 : (((rd_T79 l0 x3_1).f2) == 0) = false := beq_eq_false_iff_ne.mpr c8; have c8b1 : (((rd_T79 l0 x3_1).f2) != 0) = true := bne_iff_ne.mpr c8; obtain rfl := Option.some.inj H
         have p292 : 0 ≤ (x3_1 : Int) := of_decide_eq_true (by first | (with_reducible assumption) | assumption)
         have q292 : x3_1 < (l0.length : Int) := of_decide_eq_true (by first | (with_reducible assumption) | assumption)
         obtain ⟨ad292, A292_1, c292_1, e292, hx292_0, hx292_1, hx292_2, hl292_1, hi292_1⟩ := at_T79 HR0.out x3_1 p292 q292; cases e292; replace hx292_0 := (HB.out.cell (World.block_lt_of_cell? w _ hx292_0)).trans hx292_0; replace hx292_1 := (HB.out.cell (World.block_lt_of_cell? w _ hx292_1)).trans hx292_1; replace hx292_2 := (HB.out.cell (World.block_lt_of_cell? w _ hx292_2)).trans hx292_2; have HR292_1 := Aside0.mk hi292_1; have HC292_1 := Aside0.mk hl292_1; clear hi292_1 hl292_1; replace p292 := eq_true p292; replace q292 := eq_true q292
         go_wp2_with (first | ((with_reducible refine gate_dst (N := 4) rfl ?_); refine box_event rfl (N := 4) rfl (cs := #[.int .i64 0, .slice none 0 0, .int .i64 0]) (t := 79) (by go_simp <;> rfl) ?_; intro gb293 hg w11 hbox hb; have BK293 := Aside0.mk (hbox); have GE293 := (Ge.of hg : Ge w.heap.size gb293); replace HB := (Bw.sw w hb); clear hb hbox hg; obtain ⟨hcz12_0, hcz12_1, hcz12_2, hfz12_0, hfz12_1, hfz12_2⟩ := blk3 BK293.out) | ((with_reducible refine gg (f := 120) (some 24) rfl rfl rfl fr120 ?_); refine onc (spec_NameOk.calls k1 _ _ ((rd_T79 l0 x3_1).f1) true _ (cb HR292_1) HC292_1.out A6.out) rfl ?_; rintro e w' ⟨rfl, ⟨nd, rfl⟩⟩; refine ⟨_, rfl, ?_⟩))
         go_ret; exact ⟨rfl, bw⟩
       ·replace c7 := Bool.eq_false_iff.mpr c7
        subst c7
        have H1 : (some false) = some r := by rw [if_neg (show ¬ (false = true) by decide)] at H; exact H
        clear H; have H := H1; clear H1; obtain rfl := Option.some.inj H
        have p292 : 0 ≤ (x3_1 : Int) := of_decide_eq_true (by first | (with_reducible assumption) | assumption)
        have q292 : x3_1 < (l0.length : Int) := of_decide_eq_true (by first | (with_reducible assumption) | assumption)
        obtain ⟨ad292, A292_1, c292_1, e292, hx292_0, hx292_1, hx292_2, hl292_1, hi292_1⟩ := at_T79 HR0.out x3_1 p292 q292; cases e292; replace hx292_0 := (HB.out.cell (World.block_lt_of_cell? w _ hx292_0)).trans hx292_0; replace hx292_1 := (HB.out.cell (World.block_lt_of_cell? w _ hx292_1)).trans hx292_1; replace hx292_2 := (HB.out.cell (World.block_lt_of_cell? w _ hx292_2)).trans hx292_2; have HR292_1 := Aside0.mk hi292_1; have HC292_1 := Aside0.mk hl292_1; clear hi292_1 hl292_1; replace p292 := eq_true p292; replace q292 := eq_true q292
        go_wp2_with (first | ((with_reducible refine gate_dst (N := 4) rfl ?_); refine box_event rfl (N := 4) rfl (cs := #[.int .i64 0, .slice none 0 0, .int .i64 0]) (t := 79) (by go_simp <;> rfl) ?_; intro gb293 hg w13 hbox hb; have BK293 := Aside0.mk (hbox); have GE293 := (Ge.of hg : Ge w.heap.size gb293); replace HB := (Bw.sw w hb); clear hb hbox hg; obtain ⟨hcz14_0, hcz14_1, hcz14_2, hfz14_0, hfz14_1, hfz14_2⟩ := blk3 BK293.out) | ((with_reducible refine gg (f := 120) (some 24) rfl rfl rfl fr120 ?_); refine onc (spec_NameOk.calls k1 _ _ ((rd_T79 l0 x3_1).f1) false _ (cb HR292_1) HC292_1.out A6.out) rfl ?_; rintro e w' ⟨rfl, ⟨nd, rfl⟩⟩; refine ⟨_, rfl, ?_⟩))
        go_ret; exact ⟨rfl, bw⟩
      ·rw [if_neg c5] at H
       have c5b0 : (((rd_T79 l0 x3_1).f0) == 0) = false := beq_eq_false_iff_ne.mpr c5; have c5b1 : (((rd_T79 l0 x3_1).f0) != 0) = true := bne_iff_ne.mpr c5
       by_cases c15 : ((rd_T79 l0 x3_1).f0) = 1
       ·rw [if_pos c15] at H
        have c15b0 : (((rd_T79 l0 x3_1).f0) == 1) = true := beq_iff_eq.mpr c15; have c15b1 : (((rd_T79 l0 x3_1).f0) != 1) = false := bne_eq_false_iff_eq.mpr c15; clear c15
        by_cases c16 : (((rd_T79 l0 x3_1).f1).length : Int) > 0
        ·rw [if_pos c16] at H
         have c16b0 : decide (0 < (((rd_T79 l0 x3_1).f1).length : Int)) = true := decide_eq_true c16
         have c16b1 : decide (0 < ((rd_T79 l0 x3_1).f1).length) = true := decide_eq_true (by omega)
         clear c16; obtain rfl := Option.some.inj H
         have p292 : 0 ≤ (x3_1 : Int) := of_decide_eq_true (by first | (with_reducible assumption) | assumption)
         have q292 : x3_1 < (l0.length : Int) := of_decide_eq_true (by first | (with_reducible assumption) | assumption)
         obtain ⟨ad292, A292_1, c292_1, e292, hx292_0, hx292_1, hx292_2, hl292_1, hi292_1⟩ := at_T79 HR0.out x3_1 p292 q292; cases e292; replace hx292_0 := (HB.out.cell (World.block_lt_of_cell? w _ hx292_0)).trans hx292_0; replace hx292_1 := (HB.out.cell (World.block_lt_of_cell? w _ hx292_1)).trans hx292_1; replace hx292_2 := (HB.out.cell (World.block_lt_of_cell? w _ hx292_2)).trans hx292_2; have HR292_1 := Aside0.mk hi292_1; have HC292_1 := Aside0.mk hl292_1; clear hi292_1 hl292_1; replace p292 := eq_true p292; replace q292 := eq_true q292
         go_wp2_with (first | ((with_reducible refine gate_dst (N := 4) rfl ?_); refine box_event rfl (N := 4) rfl (cs := #[.int .i64 0, .slice none 0 0, .int .i64 0]) (t := 79) (by go_simp <;> rfl) ?_; intro gb293 hg w17 hbox hb; have BK293 := Aside0.mk (hbox); have GE293 := (Ge.of hg : Ge w.heap.size gb293); replace HB := (Bw.sw w hb); clear hb hbox hg; obtain ⟨hcz18_0, hcz18_1, hcz18_2, hfz18_0, hfz18_1, hfz18_2⟩ := blk3 BK293.out))
         go_ret; exact ⟨rfl, bw⟩
        ·rw [if_neg c16] at H
         have c16b0 : decide (0 < (((rd_T79 l0 x3_1).f1).length : Int)) = false := decide_eq_false c16
         have c16b1 : decide (0 < ((rd_T79 l0 x3_1).f1).length) = false := decide_eq_false (by omega)
         clear c16
         by_cases c19 : ((rd_T79 l0 x3_1).f2) < 0
         ·rw [if_pos c19] at H
          have c19b0 : decide (((rd_T79 l0 x3_1).f2) < 0) = true := decide_eq_true c19; clear c19; obtain rfl := Option.some.inj H
          have p292 : 0 ≤ (x3_1 : Int) := of_decide_eq_true (by first | (with_reducible assumption) | assumption)
          have q292 : x3_1 < (l0.length : Int) := of_decide_eq_true (by first | (with_reducible assumption) | assumption)
          obtain ⟨ad292, A292_1, c292_1, e292, hx292_0, hx292_1, hx292_2, hl292_1, hi292_1⟩ := at_T79 HR0.out x3_1 p292 q292; cases e292; replace hx292_0 := (HB.out.cell (World.block_lt_of_cell? w _ hx292_0)).trans hx292_0; replace hx292_1 := (HB.out.cell (World.block_lt_of_cell? w _ hx292_1)).trans hx292_1; replace hx292_2 := (HB.out.cell (World.block_lt_of_cell? w _ hx292_2)).trans hx292_2; have HR292_1 := Aside0.mk hi292_1; have HC292_1 := Aside0.mk hl292_1; clear hi292_1 hl292_1; replace p292 := eq_true p292; replace q292 := eq_true q292
          go_wp2_with (first | ((with_reducible refine gate_dst (N := 4) rfl ?_); refine box_event rfl (N := 4) rfl (cs := #[.int .i64 0, .slice none 0 0, .int .i64 0]) (t := 79) (by go_simp <;> rfl) ?_; intro gb293 hg w20 hbox hb; have BK293 := Aside0.mk (hbox); have GE293 := (Ge.of hg : Ge w.heap.size gb293); replace HB := (Bw.sw w hb); clear hb hbox hg; obtain ⟨hcz21_0, hcz21_1, hcz21_2, hfz21_0, hfz21_1, hfz21_2⟩ := blk3 BK293.out))
          go_ret; exact ⟨rfl, bw⟩
         ·rw [if_neg c19] at H
          have c19b0 : decide (((rd_T79 l0 x3_1).f2) < 0) = false := decide_eq_false c19; clear c19
          by_cases c22 : ((rd_T79 l0 x3_1).f2) ≥ 40
          ·rw [if_pos c22] at H
           have c22b0 : decide (40 ≤ ((rd_T79 l0 x3_1).f2)) = true := decide_eq_true c22; clear c22; obtain rfl := Option.some.inj H
           have p292 : 0 ≤ (x3_1 : Int) := of_decide_eq_true (by first | (with_reducible assumption) | assumption)
           have q292 : x3_1 < (l0.length : Int) := of_decide_eq_true (by first | (with_reducible assumption) | assumption)
           obtain ⟨ad292, A292_1, c292_1, e292, hx292_0, hx292_1, hx292_2, hl292_1, hi292_1⟩ := at_T79 HR0.out x3_1 p292 q292; cases e292; replace hx292_0 := (HB.out.cell (World.block_lt_of_cell? w _ hx292_0)).trans hx292_0; replace hx292_1 := (HB.out.cell (World.block_lt_of_cell? w _ hx292_1)).trans hx292_1; replace hx292_2 := (HB.out.cell (World.block_lt_of_cell? w _ hx292_2)).trans hx292_2; have HR292_1 := Aside0.mk hi292_1; have HC292_1 := Aside0.mk hl292_1; clear hi292_1 hl292_1; replace p292 := eq_true p292; replace q292 := eq_true q292
           go_wp2_with (first | ((with_reducible refine gate_dst (N := 4) rfl ?_); refine box_event rfl (N := 4) rfl (cs := #[.int .i64 0, .slice none 0 0, .int .i64 0]) (t := 79) (by go_simp <;> rfl) ?_; intro gb293 hg w23 hbox hb; have BK293 := Aside0.mk (hbox); have GE293 := (Ge.of hg : Ge w.heap.size gb293); replace HB := (Bw.sw w hb); clear hb hbox hg; obtain ⟨hcz24_0, hcz24_1, hcz24_2, hfz24_0, hfz24_1, hfz24_2⟩ := blk3 BK293.out))
           go_ret; exact ⟨rfl, bw⟩
          ·rw [if_neg c22] at H
           have c22b0 : decide (40 ≤ ((rd_T79 l0 x3_1).f2)) = false := decide_eq_false c22; clear c22; have H' := Aside0.mk H; clear H
           have p292 : 0 ≤ (x3_1 : Int) := of_decide_eq_true (by first | (with_reducible assumption) | assumption)
           have q292 : x3_1 < (l0.length : Int) := of_decide_eq_true (by first | (with_reducible assumption) | assumption)
           obtain ⟨ad292, A292_1, c292_1, e292, hx292_0, hx292_1, hx292_2, hl292_1, hi292_1⟩ := at_T79 HR0.out x3_1 p292 q292; cases e292; replace hx292_0 := (HB.out.cell (World.block_lt_of_cell? w _ hx292_0)).trans hx292_0; replace hx292_1 := (HB.out.cell (World.block_lt_of_cell? w _ hx292_1)).trans hx292_1; replace hx292_2 := (HB.out.cell (World.block_lt_of_cell? w _ hx292_2)).trans hx292_2; have HR292_1 := Aside0.mk hi292_1; have HC292_1 := Aside0.mk hl292_1; clear hi292_1 hl292_1; replace p292 := eq_true p292; replace q292 := eq_true q292
           go_wp2_with (first | ((with_reducible refine gate_dst (N := 4) rfl ?_); refine box_event rfl (N := 4) rfl (cs := #[.int .i64 0, .slice none 0 0, .int .i64 0]) (t := 79) (by go_simp <;> rfl) ?_; intro gb293 hg w25 hbox hb; have BK293 := Aside0.mk (hbox); have GE293 := (Ge.of hg : Ge w.heap.size gb293); replace HB := (Bw.sw w hb); clear hb hbox hg; obtain ⟨hcz26_0, hcz26_1, hcz26_2, hfz26_0, hfz26_1, hfz26_2⟩ := blk3 BK293.out))
           go_roundg k1
           case measure => have := HK1.out; omega
           case rel => exact ⟨(wrap64 (x3_1 + 1)), rfl, H', ⟨by have := HK1.out; omega⟩, ⟨bw⟩⟩
       ·rw [if_neg c15] at H
        have c15b0 : (((rd_T79 l0 x3_1).f0) == 1) = false := beq_eq_false_iff_ne.mpr c15; have c15b1 : (((rd_T79 l0 x3_1).f0) != 1) = true := bne_iff_ne.mpr c15; obtain rfl := Option.some.inj H
        have p292 : 0 ≤ (x3_1 : Int) := of_decide_eq_true (by first | (with_reducible assumption) | assumption)
        have q292 : x3_1 < (l0.length : Int) := of_decide_eq_true (by first | (with_reducible assumption) | assumption)
        obtain ⟨ad292, A292_1, c292_1, e292, hx292_0, hx292_1, hx292_2, hl292_1, hi292_1⟩ := at_T79 HR0.out x3_1 p292 q292; cases e292; replace hx292_0 := (HB.out.cell (World.block_lt_of_cell? w _ hx292_0)).trans hx292_0; replace hx292_1 := (HB.out.cell (World.block_lt_of_cell? w _ hx292_1)).trans hx292_1; replace hx292_2 := (HB.out.cell (World.block_lt_of_cell? w _ hx292_2)).trans hx292_2; have HR292_1 := Aside0.mk hi292_1; have HC292_1 := Aside0.mk hl292_1; clear hi292_1 hl292_1; replace p292 := eq_true p292; replace q292 := eq_true q292
        go_wp2_with (first | ((with_reducible refine gate_dst (N := 4) rfl ?_); refine box_event rfl (N := 4) rfl (cs := #[.int .i64 0, .slice none 0 0, .int .i64 0]) (t := 79) (by go_simp <;> rfl) ?_; intro gb293 hg w27 hbox hb; have BK293 := Aside0.mk (hbox); have GE293 := (Ge.of hg : Ge w.heap.size gb293); replace HB := (Bw.sw w hb); clear hb hbox hg; obtain ⟨hcz28_0, hcz28_1, hcz28_2, hfz28_0, hfz28_1, hfz28_2⟩ := blk3 BK293.out))
        go_ret; exact ⟨rfl, bw⟩
     ·rw [if_neg c4] at H
      exact absurd H (by simp)
    ·rw [if_neg c3] at H
     have c3b0 : decide (x3_1 < (l0.length : Int)) = false := decide_eq_false c3; clear c3; obtain rfl := Option.some.inj H; go_wp2; go_ret; exact ⟨rfl, bw⟩

/-! ### spec_l2find: function 53 -/
def spec_l2find.l0 : Nat → List Int → Int → Int → Int → List Int → List (List Int) → List (S30) → Option (Int)
 | 0, _, _, _, _, _, _, _ => none
 | k + 1, x1, x5, x296000, x296001, x296002, x296003, x296004 => if x5 < (x296003.length : Int) then (if 0 ≤ x5 then (if (strOfNums (rd_L1 x296003 x5)).toList = (strOfNums x1).toList then (some x5) else (spec_l2find.l0 k x1 (wrap64 (x5 + 1)) x296000 x296001 x296002 x296003 x296004)) else (none)) else (some (-1))
def spec_l2find.f (k : Nat) (a0_0 : Int) (a0_1 : Int) (l0_2 : List Int) (l0_3 : List (List Int)) (l0_4 : List (S30)) (l1 : List Int) : Option (Int) := spec_l2find.l0 k l1 0 a0_0 a0_1 l0_2 l0_3 l0_4
set_option maxHeartbeats 8000000 in
set_option maxRecDepth 100000 in
theorem spec_l2find.calls (k : Nat) (a0_0 : Int) (a0_1 : Int) (A0_2 : Option Addr) (c0_2 : Nat) (l0_2 : List Int) (A0_3 : Option Addr) (c0_3 : Nat) (l0_3 : List (List Int)) (A0_4 : Option Addr) (c0_4 : Nat) (l0_4 : List (S30)) (A1 : Option Addr) (c1 : Nat) (l1 : List Int) (r : Int) (w : World) (hr0_2 : Kd.C (Kd.int .u8) w A0_2 l0_2.length l0_2) (hc0_2 : l0_2.length ≤ c0_2) (hr0_3 : Kd.C (Kd.slice 5 (Kd.int .u8)) w A0_3 l0_3.length l0_3) (hc0_3 : l0_3.length ≤ c0_3) (hr0_4 : Kd.C k30 w A0_4 l0_4.length l0_4) (hc0_4 : l0_4.length ≤ c0_4) (hr1 : Kd.C (Kd.int .u8) w A1 l1.length l1) (hc1 : l1.length ≤ c1) (h : spec_l2find.f k a0_0 a0_1 l0_2 l0_3 l0_4 l1 = some r) :
  Calls Try.prog 53 #[.agg #[.int .i64 a0_0, .int .i64 a0_1, .slice A0_2 l0_2.length c0_2, .slice A0_3 l0_3.length c0_3, .slice A0_4 l0_4.length c0_4], .slice A1 l1.length c1] w fun e w' => e = .returned (.int .i64 r) ∧ Below w.heap.size w w' := by
 have hu30 := Try.underlying30; have HR0_2 := Aside0.mk hr0_2; have HC0_2 := Aside0.mk hc0_2; clear hr0_2 hc0_2; have HR0_3 := Aside0.mk hr0_3; have HC0_3 := Aside0.mk hc0_3; clear hr0_3 hc0_3; have HR0_4 := Aside0.mk hr0_4; have HC0_4 := Aside0.mk hc0_4; clear hr0_4 hc0_4; have HR1 := Aside0.mk hr1; have HC1 := Aside0.mk hc1; clear hr1 hc1; have HB := Bw.refl w; have H : (spec_l2find.l0 k l1 0 a0_0 a0_1 l0_2 l0_3 l0_4) = some r := h; clear h; have H' := Aside0.mk H; clear H
 go_enter Try.func53, Try.ntmps53
 go_wp2_with (first | ((with_reducible refine gate_dst (N := 2) rfl ?_); refine box_event rfl (N := 2) rfl (cs := #[.int .i64 a0_0, .int .i64 a0_1, .slice A0_2 l0_2.length c0_2, .slice A0_3 l0_3.length c0_3, .slice A0_4 l0_4.length c0_4]) (t := 30) (by go_simp <;> rfl) ?_; intro gb295 hg w3 hbox hb; have BK295 := Aside0.mk (hbox); have GE295 := (Ge.of hg : Ge w.heap.size gb295); replace HB := (Bw.sw w hb); clear hb hbox hg))
 repeat (go_quiet (first | ((with_reducible refine gate_dst (N := 2) rfl ?_); refine box_event rfl (N := 2) rfl (cs := #[.int .i64 a0_0, .int .i64 a0_1, .slice A0_2 l0_2.length c0_2, .slice A0_3 l0_3.length c0_3, .slice A0_4 l0_4.length c0_4]) (t := 30) (by go_simp <;> rfl) ?_; intro gb295 hg w3 hbox hb; have BK295 := Aside0.mk (hbox); have GE295 := (Ge.of hg : Ge w.heap.size gb295); replace HB := (Bw.sw w hb); clear hb hbox hg)); try go_wp2_with (first | ((with_reducible refine gate_dst (N := 2) rfl ?_); refine box_event rfl (N := 2) rfl (cs := #[.int .i64 a0_0, .int .i64 a0_1, .slice A0_2 l0_2.length c0_2, .slice A0_3 l0_3.length c0_3, .slice A0_4 l0_4.length c0_4]) (t := 30) (by go_simp <;> rfl) ?_; intro gb295 hg w3 hbox hb; have BK295 := Aside0.mk (hbox); have GE295 := (Ge.of hg : Ge w.heap.size gb295); replace HB := (Bw.sw w hb); clear hb hbox hg)))
 go_loopg [5] k (fun kq v5 w' => ∃ (x5_1 : Int), v5 = .int .i64 x5_1 ∧ Aside0 (spec_l2find.l0 kq l1 x5_1 a0_0 a0_1 l0_2 l0_3 l0_4 = some r) ∧ Aside0 (kq ≤ k) ∧ Aside0 (w'.heap[gb295]? = some (.cells #[.int .i64 a0_0, .int .i64 a0_1, (.slice A0_2 l0_2.length c0_2), (.slice A0_3 l0_3.length c0_3), (.slice A0_4 l0_4.length c0_4)] 30 (0, 0))) ∧ Bw w w')
 case atStart => exact ⟨(0), rfl, H', ⟨Nat.le_refl _⟩, ⟨by exact BK295.out⟩, ⟨bw⟩⟩
 case round =>
  clear H'; obtain ⟨x5_1, rfl, HA, HK1, BK295, HB⟩ := hrel
  cases gk with
  | zero => exact absurd HA.out (by simp [spec_l2find.l0])
  | succ k1 =>
   have H := HA.out; clear HA
   simp only [spec_l2find.l0] at H
   by_cases c4 : x5_1 < (l0_3.length : Int)
   ·rw [if_pos c4] at H
    have c4b0 : decide (x5_1 < (l0_3.length : Int)) = true := decide_eq_true c4; clear c4
    by_cases c5 : 0 ≤ x5_1
    ·rw [if_pos c5] at H
     have c5b0 : decide (0 ≤ x5_1) = true := decide_eq_true c5; clear c5
     by_cases c6 : (strOfNums (rd_L1 l0_3 x5_1)).toList = (strOfNums l1).toList
     ·rw [if_pos c6] at H
      have c6b0 : ((strOfNums (rd_L1 l0_3 x5_1)).toList == (strOfNums l1).toList) = true := beq_iff_eq.mpr c6; have c6b1 : ((strOfNums (rd_L1 l0_3 x5_1)).toList != (strOfNums l1).toList) = false := bne_eq_false_iff_eq.mpr c6; clear c6; obtain rfl := Option.some.inj H; obtain ⟨hcz7_0, hcz7_1, hcz7_2, hcz7_3, hcz7_4, hfz7_0, hfz7_1, hfz7_2, hfz7_3, hfz7_4⟩ := blk5 BK295.out
      have p296 : 0 ≤ (x5_1 : Int) := of_decide_eq_true (by first | (with_reducible assumption) | assumption)
      have q296 : x5_1 < (l0_3.length : Int) := of_decide_eq_true (by first | (with_reducible assumption) | assumption)
      obtain ⟨ad296, A296_0, c296_0, e296, hx296_0, hl296_0, hi296_0⟩ := at_L1 HR0_3.out x5_1 p296 q296; cases e296; replace hx296_0 := (HB.out.cell (World.block_lt_of_cell? w _ hx296_0)).trans hx296_0; have HR296_0 := Aside0.mk hi296_0; have HC296_0 := Aside0.mk hl296_0; clear hi296_0 hl296_0; replace p296 := eq_true p296; replace q296 := eq_true q296
      have hcv8d := fun (a_ : Nat) => Kd.C_string (P := Try.prog) (A := A296_0) (c := c296_0) Try.underlying22 Try.underlying5 Try.underlying9 (Kd.C_drewN (Kd.C_below HR296_0.out HB.out) a_)
      have hcv8 := Kd.C_string (P := Try.prog) (A := A296_0) (c := c296_0) Try.underlying22 Try.underlying5 Try.underlying9 (Kd.C_below HR296_0.out HB.out)
      have hcv9d := fun (a_ : Nat) => Kd.C_string (P := Try.prog) (A := A1) (c := c1) Try.underlying22 Try.underlying5 Try.underlying9 (Kd.C_drewN (Kd.C_below HR1.out HB.out) a_)
      have hcv9 := Kd.C_string (P := Try.prog) (A := A1) (c := c1) Try.underlying22 Try.underlying5 Try.underlying9 (Kd.C_below HR1.out HB.out); go_wp2
      repeat (go_quiet (fail); try go_wp2)
      go_ret; exact ⟨rfl, bw⟩
     ·rw [if_neg c6] at H
      have c6b0 : ((strOfNums (rd_L1 l0_3 x5_1)).toList == (strOfNums l1).toList) = false := beq_eq_false_iff_ne.mpr c6; have c6b1 : ((strOfNums (rd_L1 l0_3 x5_1)).toList != (strOfNums l1).toList) = true := bne_iff_ne.mpr c6; have H' := Aside0.mk H; clear H; obtain ⟨hcz10_0, hcz10_1, hcz10_2, hcz10_3, hcz10_4, hfz10_0, hfz10_1, hfz10_2, hfz10_3, hfz10_4⟩ := blk5 BK295.out
      have p296 : 0 ≤ (x5_1 : Int) := of_decide_eq_true (by first | (with_reducible assumption) | assumption)
      have q296 : x5_1 < (l0_3.length : Int) := of_decide_eq_true (by first | (with_reducible assumption) | assumption)
      obtain ⟨ad296, A296_0, c296_0, e296, hx296_0, hl296_0, hi296_0⟩ := at_L1 HR0_3.out x5_1 p296 q296; cases e296; replace hx296_0 := (HB.out.cell (World.block_lt_of_cell? w _ hx296_0)).trans hx296_0; have HR296_0 := Aside0.mk hi296_0; have HC296_0 := Aside0.mk hl296_0; clear hi296_0 hl296_0; replace p296 := eq_true p296; replace q296 := eq_true q296
      have hcv11d := fun (a_ : Nat) => Kd.C_string (P := Try.prog) (A := A296_0) (c := c296_0) Try.underlying22 Try.underlying5 Try.underlying9 (Kd.C_drewN (Kd.C_below HR296_0.out HB.out) a_)
      have hcv11 := Kd.C_string (P := Try.prog) (A := A296_0) (c := c296_0) Try.underlying22 Try.underlying5 Try.underlying9 (Kd.C_below HR296_0.out HB.out)
      have hcv12d := fun (a_ : Nat) => Kd.C_string (P := Try.prog) (A := A1) (c := c1) Try.underlying22 Try.underlying5 Try.underlying9 (Kd.C_drewN (Kd.C_below HR1.out HB.out) a_)
      have hcv12 := Kd.C_string (P := Try.prog) (A := A1) (c := c1) Try.underlying22 Try.underlying5 Try.underlying9 (Kd.C_below HR1.out HB.out); go_wp2
      repeat (go_quiet (fail); try go_wp2)
      go_roundg k1
      case measure => have := HK1.out; omega
      case rel => exact ⟨(wrap64 (x5_1 + 1)), rfl, H', ⟨by have := HK1.out; omega⟩, ⟨by exact BK295.out⟩, ⟨bw⟩⟩
    ·rw [if_neg c5] at H
     exact absurd H (by simp)
   ·rw [if_neg c4] at H
    have c4b0 : decide (x5_1 < (l0_3.length : Int)) = false := decide_eq_false c4; clear c4; obtain rfl := Option.some.inj H; obtain ⟨hcz13_0, hcz13_1, hcz13_2, hcz13_3, hcz13_4, hfz13_0, hfz13_1, hfz13_2, hfz13_3, hfz13_4⟩ := blk5 BK295.out; go_wp2
    repeat (go_quiet (fail); try go_wp2)
    go_ret; exact ⟨rfl, bw⟩

/-! ### spec_l3kid: function 91 -/
def spec_l3kid.j0 : Nat → Bool → Int → Int → List Int → List (List Int) → List (S30) → Int → List Int → Int → Option (Int)
 | 0, _, _, _, _, _, _, _, _, _ => none
 | k + 1, x12, x298000, x298001, x298002, x298003, x298004, x299000, x299001, x299002 => if x12 = true then ((spec_l2find.f k x298000 x298001 x298002 x298003 x298004 x299001).bind fun t299 => (some t299)) else (if x299000 = 1 then (if x298000 = 4 then (if x299002 < (x298004.length : Int) then (some x299002) else (some (-1))) else (some (-1))) else (some (-1)))
def spec_l3kid.f (k : Nat) (a0_0 : Int) (a0_1 : Int) (l0_2 : List Int) (l0_3 : List (List Int)) (l0_4 : List (S30)) (a1_0 : Int) (l1_1 : List Int) (a1_2 : Int) : Option (Int) := if a1_0 = 0 then (spec_l3kid.j0 k (a0_0 == 5) a0_0 a0_1 l0_2 l0_3 l0_4 a1_0 l1_1 a1_2) else (spec_l3kid.j0 k false a0_0 a0_1 l0_2 l0_3 l0_4 a1_0 l1_1 a1_2)
set_option maxHeartbeats 8000000 in
set_option maxRecDepth 100000 in
theorem spec_l3kid.calls (k : Nat) (a0_0 : Int) (a0_1 : Int) (A0_2 : Option Addr) (c0_2 : Nat) (l0_2 : List Int) (A0_3 : Option Addr) (c0_3 : Nat) (l0_3 : List (List Int)) (A0_4 : Option Addr) (c0_4 : Nat) (l0_4 : List (S30)) (a1_0 : Int) (A1_1 : Option Addr) (c1_1 : Nat) (l1_1 : List Int) (a1_2 : Int) (r : Int) (w : World) (hr0_2 : Kd.C (Kd.int .u8) w A0_2 l0_2.length l0_2) (hc0_2 : l0_2.length ≤ c0_2) (hr0_3 : Kd.C (Kd.slice 5 (Kd.int .u8)) w A0_3 l0_3.length l0_3) (hc0_3 : l0_3.length ≤ c0_3) (hr0_4 : Kd.C k30 w A0_4 l0_4.length l0_4) (hc0_4 : l0_4.length ≤ c0_4) (hr1_1 : Kd.C (Kd.int .u8) w A1_1 l1_1.length l1_1) (hc1_1 : l1_1.length ≤ c1_1) (h : spec_l3kid.f k a0_0 a0_1 l0_2 l0_3 l0_4 a1_0 l1_1 a1_2 = some r) :
  Calls Try.prog 91 #[.agg #[.int .i64 a0_0, .int .i64 a0_1, .slice A0_2 l0_2.length c0_2, .slice A0_3 l0_3.length c0_3, .slice A0_4 l0_4.length c0_4], .agg #[.int .i64 a1_0, .slice A1_1 l1_1.length c1_1, .int .i64 a1_2]] w fun e w' => e = .returned (.int .i64 r) ∧ Below w.heap.size w w' := by
 have hu30 := Try.underlying30; have hu79 := Try.underlying79; have HR0_2 := Aside0.mk hr0_2; have HC0_2 := Aside0.mk hc0_2; clear hr0_2 hc0_2; have HR0_3 := Aside0.mk hr0_3; have HC0_3 := Aside0.mk hc0_3; clear hr0_3 hc0_3; have HR0_4 := Aside0.mk hr0_4; have HC0_4 := Aside0.mk hc0_4; clear hr0_4 hc0_4; have HR1_1 := Aside0.mk hr1_1; have HC1_1 := Aside0.mk hc1_1; clear hr1_1 hc1_1; have HB := Bw.refl w
 have H : (if a1_0 = 0 then (spec_l3kid.j0 k (a0_0 == 5) a0_0 a0_1 l0_2 l0_3 l0_4 a1_0 l1_1 a1_2) else (spec_l3kid.j0 k false a0_0 a0_1 l0_2 l0_3 l0_4 a1_0 l1_1 a1_2)) = some r := h
 clear h; have HC3 := Aside0.mk H; clear H
 go_enter Try.func91, Try.ntmps91
 go_upto_region 1 with (first | ((with_reducible refine gate_dst (N := 2) rfl ?_); (try (refine gate_guard (by rfl) ?_; dsimp only)); refine box_event rfl (N := 2) rfl (cs := #[.int .i64 a0_0, .int .i64 a0_1, .slice A0_2 l0_2.length c0_2, .slice A0_3 l0_3.length c0_3, .slice A0_4 l0_4.length c0_4]) (t := 30) (by go_simp <;> rfl) ?_; intro gb297 hg w4 hbox hb; have BK297 := Aside0.mk (hbox); have GE297 := (Ge.of hg : Ge w.heap.size gb297); replace HB := (Bw.sw w hb); clear hb hbox hg) | ((with_reducible refine gate_dst (N := 3) rfl ?_); (try (refine gate_guard (by rfl) ?_; dsimp only)); refine box_event rfl (N := 3) rfl (cs := #[.int .i64 a1_0, .slice A1_1 l1_1.length c1_1, .int .i64 a1_2]) (t := 79) (by go_simp <;> rfl) ?_; intro gb298 hg w5 hbox hb; have BK298 := Aside0.mk (hbox); have GE298 := (Ge.of hg : Ge w.heap.size gb298); replace HB := (Bw.sw w hb); have NB297_298 := Aside0.mk ((by rw [hg]; exact Nat.ne_of_lt (blk_lt BK297.out) : gb297 ≠ gb298)); have NB298_297 := Aside0.mk ((by rw [hg]; exact Nat.ne_of_gt (blk_lt BK297.out) : gb298 ≠ gb297)); replace BK297 := Aside0.mk (blk_below BK297.out hb); clear hb hbox hg))
 (try simp only [Act.put, List.setIfInBounds_toArray, List.set_cons_zero, List.set_cons_succ])
 go_cut [12] (fun v12 wc => ∃ (kq : Nat) (x12_2 : Bool), v12 = .bool x12_2 ∧ Aside0 (spec_l3kid.j0 kq x12_2 a0_0 a0_1 l0_2 l0_3 l0_4 a1_0 l1_1 a1_2 = some r) ∧ Aside0 (kq ≤ k) ∧ Aside0 (wc.heap[gb297]? = some (.cells #[.int .i64 a0_0, .int .i64 a0_1, (.slice A0_2 l0_2.length c0_2), (.slice A0_3 l0_3.length c0_3), (.slice A0_4 l0_4.length c0_4)] 30 (0, 0))) ∧ Aside0 (wc.heap[gb298]? = some (.cells #[.int .i64 a1_0, (.slice A1_1 l1_1.length c1_1), .int .i64 a1_2] 79 (0, 0))) ∧ Bw w wc)
 case first =>
  have H := HC3.out; clear HC3
  by_cases c6 : a1_0 = 0
  ·rw [if_pos c6] at H
   have c6b0 : (a1_0 == 0) = true := beq_iff_eq.mpr c6; have c6b1 : (a1_0 != 0) = false := bne_eq_false_iff_eq.mpr c6; clear c6
   (first | rw [c6b0] | (simp only [i64_w, i32_w]; rw [c6b0]) | skip)
   have H' := Aside0.mk H; clear H; have hnb7 := NB298_297.out; have hnc7 := NB297_298.out; obtain ⟨hcz8_0, hcz8_1, hcz8_2, hfz8_0, hfz8_1, hfz8_2⟩ := blk3 BK298.out; obtain ⟨hcz9_0, hcz9_1, hcz9_2, hcz9_3, hcz9_4, hfz9_0, hfz9_1, hfz9_2, hfz9_3, hfz9_4⟩ := blk5 BK297.out; go_wp2
   go_meet
   case rel => exact ⟨_, ((a0_0 == 5)), rfl, H', ⟨by first | omega | exact Nat.le_refl _⟩, ⟨by exact BK297.out⟩, ⟨by exact BK298.out⟩, ⟨bw⟩⟩
  ·rw [if_neg c6] at H
   have c6b0 : (a1_0 == 0) = false := beq_eq_false_iff_ne.mpr c6; have c6b1 : (a1_0 != 0) = true := bne_iff_ne.mpr c6
   (first | rw [c6b0] | (simp only [i64_w, i32_w]; rw [c6b0]) | skip)
   have H' := Aside0.mk H; clear H; have hnb10 := NB298_297.out; have hnc10 := NB297_298.out; obtain ⟨hcz11_0, hcz11_1, hcz11_2, hfz11_0, hfz11_1, hfz11_2⟩ := blk3 BK298.out; go_wp2
   go_meet
   case rel => exact ⟨_, (false), rfl, H', ⟨by first | omega | exact Nat.le_refl _⟩, ⟨by exact BK297.out⟩, ⟨by exact BK298.out⟩, ⟨bw⟩⟩
 case rest =>
  clear HC3; (try clear c6); (try clear c6b0); (try clear c6b1); (try clear hcz11_0 hcz11_1 hcz11_2); (try clear hcz8_0 hcz8_1 hcz8_2); (try clear hcz9_0 hcz9_1 hcz9_2 hcz9_3 hcz9_4); (try clear hfz11_0 hfz11_1 hfz11_2); (try clear hfz8_0 hfz8_1 hfz8_2); (try clear hfz9_0 hfz9_1 hfz9_2 hfz9_3 hfz9_4); obtain ⟨kq, x12_2, rfl, HA, HJ2, BK297, BK298, HB⟩ := hcut
  cases kq with
  | zero => exact absurd HA.out (by simp [spec_l3kid.j0])
  | succ kj2 =>
   have H := HA.out; clear HA
   simp only [spec_l3kid.j0] at H
   by_cases c12 : x12_2 = true
   ·subst c12
    have H1 : ((spec_l2find.f kj2 a0_0 a0_1 l0_2 l0_3 l0_4 l1_1).bind fun t299 => (some t299)) = some r := by rw [if_pos rfl] at H; exact H
    clear H; have H := H1; clear H1; replace H := Option.bind_eq_some_iff.mp H; obtain ⟨t299, A130, H⟩ := H; replace H : (some t299) = some r := H; have A13 := Aside0.mk A130; clear A130; obtain rfl := Option.some.inj H; have hnb14 := NB297_298.out; have hnc14 := NB298_297.out; obtain ⟨hcz15_0, hcz15_1, hcz15_2, hcz15_3, hcz15_4, hfz15_0, hfz15_1, hfz15_2, hfz15_3, hfz15_4⟩ := blk5 BK297.out; obtain ⟨hcz16_0, hcz16_1, hcz16_2, hfz16_0, hfz16_1, hfz16_2⟩ := blk3 BK298.out
    go_wp2_with (first | ((with_reducible refine gg (f := 53) (some 16) rfl rfl rfl fr53 ?_); refine onc (spec_l2find.calls kj2 a0_0 a0_1 _ _ l0_2 _ _ l0_3 _ _ l0_4 _ _ l1_1 t299 _ (cb HR0_2) HC0_2.out (cb HR0_3) HC0_3.out (cb HR0_4) HC0_4.out (cb HR1_1) HC1_1.out A13.out) rfl ?_; rintro e w17 ⟨rfl, hb⟩; refine ⟨_, rfl, ?_⟩; replace BK297 := Aside0.mk (blk_below BK297.out hb); replace BK298 := Aside0.mk (blk_below BK298.out hb); replace HB := (Bw.sw w hb); (try clear hb)))
    go_ret; exact ⟨rfl, bw⟩
   ·replace c12 := Bool.eq_false_iff.mpr c12
    subst c12
    have H1 : (if a1_0 = 1 then (if a0_0 = 4 then (if a1_2 < (l0_4.length : Int) then (some a1_2) else (some (-1))) else (some (-1))) else (some (-1))) = some r := by rw [if_neg (show ¬ (false = true) by decide)] at H; exact H
    clear H; have H := H1; clear H1
    by_cases c18 : a1_0 = 1
    ·rw [if_pos c18] at H
     have c18b0 : (a1_0 == 1) = true := beq_iff_eq.mpr c18; have c18b1 : (a1_0 != 1) = false := bne_eq_false_iff_eq.mpr c18; clear c18
     by_cases c19 : a0_0 = 4
     ·rw [if_pos c19] at H
      have c19b0 : (a0_0 == 4) = true := beq_iff_eq.mpr c19; have c19b1 : (a0_0 != 4) = false := bne_eq_false_iff_eq.mpr c19; clear c19
      by_cases c20 : a1_2 < (l0_4.length : Int)
      ·rw [if_pos c20] at H
       have c20b0 : decide (a1_2 < (l0_4.length : Int)) = true := decide_eq_true c20; clear c20; obtain rfl := Option.some.inj H; have hnb21 := NB298_297.out; have hnc21 := NB297_298.out; obtain ⟨hcz22_0, hcz22_1, hcz22_2, hfz22_0, hfz22_1, hfz22_2⟩ := blk3 BK298.out; obtain ⟨hcz23_0, hcz23_1, hcz23_2, hcz23_3, hcz23_4, hfz23_0, hfz23_1, hfz23_2, hfz23_3, hfz23_4⟩ := blk5 BK297.out; go_wp2; go_ret; exact ⟨rfl, bw⟩
      ·rw [if_neg c20] at H
       have c20b0 : decide (a1_2 < (l0_4.length : Int)) = false := decide_eq_false c20; clear c20; obtain rfl := Option.some.inj H; have hnb24 := NB298_297.out; have hnc24 := NB297_298.out; obtain ⟨hcz25_0, hcz25_1, hcz25_2, hfz25_0, hfz25_1, hfz25_2⟩ := blk3 BK298.out; obtain ⟨hcz26_0, hcz26_1, hcz26_2, hcz26_3, hcz26_4, hfz26_0, hfz26_1, hfz26_2, hfz26_3, hfz26_4⟩ := blk5 BK297.out; go_wp2; go_ret; exact ⟨rfl, bw⟩
     ·rw [if_neg c19] at H
      have c19b0 : (a0_0 == 4) = false := beq_eq_false_iff_ne.mpr c19; have c19b1 : (a0_0 != 4) = true := bne_iff_ne.mpr c19; obtain rfl := Option.some.inj H; have hnb27 := NB298_297.out; have hnc27 := NB297_298.out; obtain ⟨hcz28_0, hcz28_1, hcz28_2, hfz28_0, hfz28_1, hfz28_2⟩ := blk3 BK298.out; obtain ⟨hcz29_0, hcz29_1, hcz29_2, hcz29_3, hcz29_4, hfz29_0, hfz29_1, hfz29_2, hfz29_3, hfz29_4⟩ := blk5 BK297.out; go_wp2; go_ret; exact ⟨rfl, bw⟩
    ·rw [if_neg c18] at H
     have c18b0 : (a1_0 == 1) = false := beq_eq_false_iff_ne.mpr c18; have c18b1 : (a1_0 != 1) = true := bne_iff_ne.mpr c18; obtain rfl := Option.some.inj H; have hnb30 := NB298_297.out; have hnc30 := NB297_298.out; obtain ⟨hcz31_0, hcz31_1, hcz31_2, hfz31_0, hfz31_1, hfz31_2⟩ := blk3 BK298.out; go_wp2; go_ret; exact ⟨rfl, bw⟩

end Go.Proofs.Ytenpjddjmhjdoaa.PFnExactAt
