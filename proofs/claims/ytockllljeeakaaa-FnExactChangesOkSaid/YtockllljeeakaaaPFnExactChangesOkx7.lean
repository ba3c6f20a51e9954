/- What the law reaches: each function as a plain Lean function, and that each call comes to it. No condition. -/
import Derived.Test.YtockllljeeakaaaPFnExactChangesOkx0
import Derived.Test.YtockllljeeakaaaPFnExactChangesOkx6
namespace Go.Proofs.Ytockllljeeakaaa.PFnExactChangesOk
open Go.RowKit Go.Proofs.YtockllljeeakaaaW.PrintWords Go.Proofs.YtockllljeeakaaaW.PrintLast Go.Proofs.YtockllljeeakaaaW.PrintMore Go.Proofs.Ytockllljeeakaaa.M
attribute [local go_sem] max2_int min2_int max_two min_two max_three min_three max_four min_four Go.Proofs.Ytockllljeeakaaa.M.str_gtr Go.Proofs.Ytockllljeeakaaa.M.str_leq Go.Proofs.Ytockllljeeakaaa.M.str_geq   -- for this text's walks alone
set_option linter.unusedVariables false
set_option linter.unusedSimpArgs false

/-! ### spec_PathOk: function 72 -/
def spec_PathOk.l0 : Nat → List (S100) → Int → Option (Bool)
 | 0, _, _ => none
 | k + 1, x0, x3 => if x3 < (x0.length : Int) then (if 0 ≤ x3 then (if ((rd_T100 x0 x3).f0) = 0 then ((spec_NameOk.f k ((rd_T100 x0 x3).f1)).bind fun t323 => (if t323 = true then (if ((rd_T100 x0 x3).f2) = 0 then (spec_PathOk.l0 k x0 (wrap64 (x3 + 1))) else (some false)) else (some false))) else (if ((rd_T100 x0 x3).f0) = 1 then (if (((rd_T100 x0 x3).f1).length : Int) > 0 then (some false) else (if ((rd_T100 x0 x3).f2) < 0 then (some false) else (if ((rd_T100 x0 x3).f2) ≥ 40 then (some false) else (spec_PathOk.l0 k x0 (wrap64 (x3 + 1)))))) else (some false))) else (none)) else (some true)
def spec_PathOk.f (k : Nat) (l0 : List (S100)) : Option (Bool) := if (l0.length : Int) > 6 then (some false) else (spec_PathOk.l0 k l0 0)
theorem spec_PathOk.mono_l : ∀ k, (∀ y0 y1, LeO (spec_PathOk.l0 k y0 y1) (spec_PathOk.l0 (k + 1) y0 y1))
 | 0 => fun _ _ r h => by simp [spec_PathOk.l0] at h
 | k + 1 => by
  have ih0 := spec_PathOk.mono_l k
  ·intro y0 y1
   unfold spec_PathOk.l0
   repeat' first
   | (with_reducible exact ih0 _ _)
   | (with_reducible exact spec_NameOk.mono _ _)
   | (with_reducible exact LeO.refl _)
   | (with_reducible exact LeO.none _)
   | (with_reducible refine LeO.ite ?_ ?_)
   | (with_reducible refine LeO.bind ?_ (fun _ => ?_))
   | exact ih0 _ _
   | exact spec_NameOk.mono _ _
   | exact LeO.none _
   | refine LeO.ite ?_ ?_
   | refine LeO.bind ?_ (fun _ => ?_)
theorem spec_PathOk.mono : ∀ a0 k, LeO (spec_PathOk.f k a0) (spec_PathOk.f (k + 1) a0) := by
 intro a0 k
 have ih0 := spec_PathOk.mono_l k
 unfold spec_PathOk.f
 repeat' first
   | (with_reducible exact ih0 _ _)
   | (with_reducible exact spec_NameOk.mono _ _)
   | (with_reducible exact LeO.refl _)
   | (with_reducible exact LeO.none _)
   | (with_reducible refine LeO.ite ?_ ?_)
   | (with_reducible refine LeO.bind ?_ (fun _ => ?_))
   | exact ih0 _ _
   | exact spec_NameOk.mono _ _
   | exact LeO.none _
   | refine LeO.ite ?_ ?_
   | refine LeO.bind ?_ (fun _ => ?_)
set_option maxHeartbeats 8000000 in
set_option maxRecDepth 100000 in
theorem spec_PathOk.calls (k : Nat) (A0 : Option Addr) (c0 : Nat) (l0 : List (S100)) (r : Bool) (w : World) (hr0 : Kd.C k100 w A0 l0.length l0) (hc0 : l0.length ≤ c0) (h : spec_PathOk.f k l0 = some r) :
  Calls Try.prog 72 #[.slice A0 l0.length c0] w fun e w' => e = .returned (.bool r) ∧ Below w.heap.size w w' := by
 have hu100 := Try.underlying100
 have HR0 := Aside0.mk hr0
 have HC0 := Aside0.mk hc0
 clear hr0 hc0
 have HB := Bw.refl w
 have H : (if (l0.length : Int) > 6 then (some false) else (spec_PathOk.l0 k l0 0)) = some r := h
 clear h
 by_cases c2 : (l0.length : Int) > 6
 ·rw [if_pos c2] at H
  have c2b0 : decide (6 < (l0.length : Int)) = true := decide_eq_true c2
  have c2b1 : decide (6 < l0.length) = true := decide_eq_true (by omega)
  clear c2
  obtain rfl := Option.some.inj H
  go_enter Try.func72, Try.ntmps72
  go_wp2
  go_ret
  exact ⟨by first | rfl | (simp [errW_none, errW_some] <;> rfl) | (simp [*, errW_none, errW_some] <;> rfl), bw⟩
 rw [if_neg c2] at H
 have c2b0 : decide (6 < (l0.length : Int)) = false := decide_eq_false c2
 have c2b1 : decide (6 < l0.length) = false := decide_eq_false (by omega)
 clear c2
 have H' := Aside0.mk H
 clear H
 go_enter Try.func72, Try.ntmps72
 go_wp2
 go_loopg [3] k (fun kq v3 w' => ∃ (x3_1 : Int), v3 = .int .i64 x3_1 ∧ Aside0 (spec_PathOk.l0 kq l0 x3_1 = some r) ∧ Aside0 (kq ≤ k) ∧ Bw w w')
 case atStart => exact ⟨(0), (by first | rfl | (simp; done) | (simp [*]; done)), H', ⟨Nat.le_refl _⟩, ⟨bw⟩⟩
 case round =>
  clear H'
  try clear c2
  try clear c2b0
  try clear c2b1
  obtain ⟨x3_1, rfl, HA, HK1, HB⟩ := hrel
  cases gk with
  | zero => exact absurd HA.out (by simp [spec_PathOk.l0])
  | succ k1 =>
   have H := HA.out
   clear HA
   simp only [spec_PathOk.l0] at H
   by_cases c3 : x3_1 < (l0.length : Int)
   rotate_left
   ·rw [if_neg c3] at H
    have c3b0 : decide (x3_1 < (l0.length : Int)) = false := decide_eq_false c3
    clear c3
    obtain rfl := Option.some.inj H
    go_wp2
    go_ret
    exact ⟨by first | rfl | (simp [errW_none, errW_some] <;> rfl) | (simp [*, errW_none, errW_some] <;> rfl), bw⟩
   rw [if_pos c3] at H
   have c3b0 : decide (x3_1 < (l0.length : Int)) = true := decide_eq_true c3
   clear c3
   by_cases c4 : 0 ≤ x3_1
   rotate_left
   ·rw [if_neg c4] at H
    exact absurd H (by simp)
   rw [if_pos c4] at H
   have c4b0 : decide (0 ≤ x3_1) = true := decide_eq_true c4
   clear c4
   by_cases c5 : ((rd_T100 l0 x3_1).f0) = 0
   ·rw [if_pos c5] at H
    have c5b0 : (((rd_T100 l0 x3_1).f0) == 0) = true := beq_iff_eq.mpr c5
    have c5b1 : (((rd_T100 l0 x3_1).f0) != 0) = false := bne_eq_false_iff_eq.mpr c5
    clear c5
    replace H := Option.bind_eq_some_iff.mp H
    obtain ⟨t323, A60, H⟩ := H
    have A6 := Aside0.mk A60
    clear A60
    by_cases c7 : t323 = true
    rotate_left
    ·replace c7 := Bool.eq_false_iff.mpr c7
     subst c7
     replace H := (if_neg (show ¬ (false = true) by decide)).symm.trans H
     obtain rfl := Option.some.inj H
     have p321 : 0 ≤ (x3_1 : Int) := of_decide_eq_true (by first | (with_reducible assumption) | assumption)
     have q321 : x3_1 < (l0.length : Int) := of_decide_eq_true (by first | (with_reducible assumption) | assumption)
     obtain ⟨ad321, A321_1, c321_1, e321, hx321_0, hx321_1, hx321_2, hl321_1, hi321_1⟩ := at_T100 HR0.out x3_1 p321 q321
     cases e321
     replace hx321_0 := (HB.out.cell (World.block_lt_of_cell? w _ hx321_0)).trans hx321_0
     replace hx321_1 := (HB.out.cell (World.block_lt_of_cell? w _ hx321_1)).trans hx321_1
     replace hx321_2 := (HB.out.cell (World.block_lt_of_cell? w _ hx321_2)).trans hx321_2
     have HR321_1 := Aside0.mk hi321_1
     have HC321_1 := Aside0.mk hl321_1
     clear hi321_1 hl321_1
     replace p321 := eq_true p321
     replace q321 := eq_true q321
     go_wp2_with (first | ((with_reducible refine gate_dst (N := 4) rfl ?_); refine box_event rfl (N := 4) rfl (cs := #[.int .i64 0, .slice none 0 0, .int .i64 0]) (t := 100) (by go_simp <;> rfl) ?_; intro gb322 hg w13 hbox hb; have BK322 := Aside0.mk (hbox); have GE322 := (Ge.of hg : Ge w.heap.size gb322); replace HB := (Bw.sw w hb); clear hb hbox hg; obtain ⟨hcz14_0, hcz14_1, hcz14_2, hfz14_0, hfz14_1, hfz14_2⟩ := blk3 BK322.out) | ((with_reducible refine gg (f := 39) (some 24) rfl rfl rfl fr39 ?_); refine onc (spec_NameOk.calls k1 _ _ ((rd_T100 l0 x3_1).f1) false _ (cb HR321_1) HC321_1.out A6.out) rfl ?_; rintro e w' ⟨rfl, ⟨nd, rfl⟩⟩; refine ⟨_, rfl, ?_⟩))
     go_ret
     exact ⟨by first | rfl | (simp [errW_none, errW_some] <;> rfl) | (simp [*, errW_none, errW_some] <;> rfl), bw⟩
    subst c7
    replace H := (if_pos rfl).symm.trans H
    by_cases c8 : ((rd_T100 l0 x3_1).f2) = 0
    ·rw [if_pos c8] at H
     have c8b0 : (((rd_T100 l0 x3_1).f2) == 0) = true := beq_iff_eq.mpr c8
     have c8b1 : (((rd_T100 l0 x3_1).f2) != 0) = false := bne_eq_false_iff_eq.mpr c8
     clear c8
     have H' := Aside0.mk H
     clear H
     have p321 : 0 ≤ (x3_1 : Int) := of_decide_eq_true (by first | (with_reducible assumption) | assumption)
     have q321 : x3_1 < (l0.length : Int) := of_decide_eq_true (by first | (with_reducible assumption) | assumption)
     obtain ⟨ad321, A321_1, c321_1, e321, hx321_0, hx321_1, hx321_2, hl321_1, hi321_1⟩ := at_T100 HR0.out x3_1 p321 q321
     cases e321
     replace hx321_0 := (HB.out.cell (World.block_lt_of_cell? w _ hx321_0)).trans hx321_0
     replace hx321_1 := (HB.out.cell (World.block_lt_of_cell? w _ hx321_1)).trans hx321_1
     replace hx321_2 := (HB.out.cell (World.block_lt_of_cell? w _ hx321_2)).trans hx321_2
     have HR321_1 := Aside0.mk hi321_1
     have HC321_1 := Aside0.mk hl321_1
     clear hi321_1 hl321_1
     replace p321 := eq_true p321
     replace q321 := eq_true q321
     go_wp2_with (first | ((with_reducible refine gate_dst (N := 4) rfl ?_); refine box_event rfl (N := 4) rfl (cs := #[.int .i64 0, .slice none 0 0, .int .i64 0]) (t := 100) (by go_simp <;> rfl) ?_; intro gb322 hg w9 hbox hb; have BK322 := Aside0.mk (hbox); have GE322 := (Ge.of hg : Ge w.heap.size gb322); replace HB := (Bw.sw w hb); clear hb hbox hg; obtain ⟨hcz10_0, hcz10_1, hcz10_2, hfz10_0, hfz10_1, hfz10_2⟩ := blk3 BK322.out) | ((with_reducible refine gg (f := 39) (some 24) rfl rfl rfl fr39 ?_); refine onc (spec_NameOk.calls k1 _ _ ((rd_T100 l0 x3_1).f1) true _ (cb HR321_1) HC321_1.out A6.out) rfl ?_; rintro e w' ⟨rfl, ⟨nd, rfl⟩⟩; refine ⟨_, rfl, ?_⟩))
     go_roundg k1
     case measure => have := HK1.out; omega
     case rel => exact ⟨(wrap64 (x3_1 + 1)), (by first | rfl | (simp; done) | (simp [*]; done)), H', ⟨by have := HK1.out; omega⟩, ⟨bw⟩⟩
    rw [if_neg c8] at H
    have c8b0 : (((rd_T100 l0 x3_1).f2) == 0) = false := beq_eq_false_iff_ne.mpr c8
    have c8b1 : (((rd_T100 l0 x3_1).f2) != 0) = true := bne_iff_ne.mpr c8
    obtain rfl := Option.some.inj H
    have p321 : 0 ≤ (x3_1 : Int) := of_decide_eq_true (by first | (with_reducible assumption) | assumption)
    have q321 : x3_1 < (l0.length : Int) := of_decide_eq_true (by first | (with_reducible assumption) | assumption)
    obtain ⟨ad321, A321_1, c321_1, e321, hx321_0, hx321_1, hx321_2, hl321_1, hi321_1⟩ := at_T100 HR0.out x3_1 p321 q321
    cases e321
    replace hx321_0 := (HB.out.cell (World.block_lt_of_cell? w _ hx321_0)).trans hx321_0
    replace hx321_1 := (HB.out.cell (World.block_lt_of_cell? w _ hx321_1)).trans hx321_1
    replace hx321_2 := (HB.out.cell (World.block_lt_of_cell? w _ hx321_2)).trans hx321_2
    have HR321_1 := Aside0.mk hi321_1
    have HC321_1 := Aside0.mk hl321_1
    clear hi321_1 hl321_1
    replace p321 := eq_true p321
    replace q321 := eq_true q321
    go_wp2_with (first | ((with_reducible refine gate_dst (N := 4) rfl ?_); refine box_event rfl (N := 4) rfl (cs := #[.int .i64 0, .slice none 0 0, .int .i64 0]) (t := 100) (by go_simp <;> rfl) ?_; intro gb322 hg w11 hbox hb; have BK322 := Aside0.mk (hbox); have GE322 := (Ge.of hg : Ge w.heap.size gb322); replace HB := (Bw.sw w hb); clear hb hbox hg; obtain ⟨hcz12_0, hcz12_1, hcz12_2, hfz12_0, hfz12_1, hfz12_2⟩ := blk3 BK322.out) | ((with_reducible refine gg (f := 39) (some 24) rfl rfl rfl fr39 ?_); refine onc (spec_NameOk.calls k1 _ _ ((rd_T100 l0 x3_1).f1) true _ (cb HR321_1) HC321_1.out A6.out) rfl ?_; rintro e w' ⟨rfl, ⟨nd, rfl⟩⟩; refine ⟨_, rfl, ?_⟩))
    go_ret
    exact ⟨by first | rfl | (simp [errW_none, errW_some] <;> rfl) | (simp [*, errW_none, errW_some] <;> rfl), bw⟩
   rw [if_neg c5] at H
   have c5b0 : (((rd_T100 l0 x3_1).f0) == 0) = false := beq_eq_false_iff_ne.mpr c5
   have c5b1 : (((rd_T100 l0 x3_1).f0) != 0) = true := bne_iff_ne.mpr c5
   by_cases c15 : ((rd_T100 l0 x3_1).f0) = 1
   rotate_left
   ·rw [if_neg c15] at H
    have c15b0 : (((rd_T100 l0 x3_1).f0) == 1) = false := beq_eq_false_iff_ne.mpr c15
    have c15b1 : (((rd_T100 l0 x3_1).f0) != 1) = true := bne_iff_ne.mpr c15
    obtain rfl := Option.some.inj H
    have p321 : 0 ≤ (x3_1 : Int) := of_decide_eq_true (by first | (with_reducible assumption) | assumption)
    have q321 : x3_1 < (l0.length : Int) := of_decide_eq_true (by first | (with_reducible assumption) | assumption)
    obtain ⟨ad321, A321_1, c321_1, e321, hx321_0, hx321_1, hx321_2, hl321_1, hi321_1⟩ := at_T100 HR0.out x3_1 p321 q321
    cases e321
    replace hx321_0 := (HB.out.cell (World.block_lt_of_cell? w _ hx321_0)).trans hx321_0
    replace hx321_1 := (HB.out.cell (World.block_lt_of_cell? w _ hx321_1)).trans hx321_1
    replace hx321_2 := (HB.out.cell (World.block_lt_of_cell? w _ hx321_2)).trans hx321_2
    have HR321_1 := Aside0.mk hi321_1
    have HC321_1 := Aside0.mk hl321_1
    clear hi321_1 hl321_1
    replace p321 := eq_true p321
    replace q321 := eq_true q321
    go_wp2_with (first | ((with_reducible refine gate_dst (N := 4) rfl ?_); refine box_event rfl (N := 4) rfl (cs := #[.int .i64 0, .slice none 0 0, .int .i64 0]) (t := 100) (by go_simp <;> rfl) ?_; intro gb322 hg w27 hbox hb; have BK322 := Aside0.mk (hbox); have GE322 := (Ge.of hg : Ge w.heap.size gb322); replace HB := (Bw.sw w hb); clear hb hbox hg; obtain ⟨hcz28_0, hcz28_1, hcz28_2, hfz28_0, hfz28_1, hfz28_2⟩ := blk3 BK322.out))
    go_ret
    exact ⟨by first | rfl | (simp [errW_none, errW_some] <;> rfl) | (simp [*, errW_none, errW_some] <;> rfl), bw⟩
   rw [if_pos c15] at H
   have c15b0 : (((rd_T100 l0 x3_1).f0) == 1) = true := beq_iff_eq.mpr c15
   have c15b1 : (((rd_T100 l0 x3_1).f0) != 1) = false := bne_eq_false_iff_eq.mpr c15
   clear c15
   by_cases c16 : (((rd_T100 l0 x3_1).f1).length : Int) > 0
   ·rw [if_pos c16] at H
    have c16b0 : decide (0 < (((rd_T100 l0 x3_1).f1).length : Int)) = true := decide_eq_true c16
    have c16b1 : decide (0 < ((rd_T100 l0 x3_1).f1).length) = true := decide_eq_true (by omega)
    clear c16
    obtain rfl := Option.some.inj H
    have p321 : 0 ≤ (x3_1 : Int) := of_decide_eq_true (by first | (with_reducible assumption) | assumption)
    have q321 : x3_1 < (l0.length : Int) := of_decide_eq_true (by first | (with_reducible assumption) | assumption)
    obtain ⟨ad321, A321_1, c321_1, e321, hx321_0, hx321_1, hx321_2, hl321_1, hi321_1⟩ := at_T100 HR0.out x3_1 p321 q321
    cases e321
    replace hx321_0 := (HB.out.cell (World.block_lt_of_cell? w _ hx321_0)).trans hx321_0
    replace hx321_1 := (HB.out.cell (World.block_lt_of_cell? w _ hx321_1)).trans hx321_1
    replace hx321_2 := (HB.out.cell (World.block_lt_of_cell? w _ hx321_2)).trans hx321_2
    have HR321_1 := Aside0.mk hi321_1
    have HC321_1 := Aside0.mk hl321_1
    clear hi321_1 hl321_1
    replace p321 := eq_true p321
    replace q321 := eq_true q321
    go_wp2_with (first | ((with_reducible refine gate_dst (N := 4) rfl ?_); refine box_event rfl (N := 4) rfl (cs := #[.int .i64 0, .slice none 0 0, .int .i64 0]) (t := 100) (by go_simp <;> rfl) ?_; intro gb322 hg w17 hbox hb; have BK322 := Aside0.mk (hbox); have GE322 := (Ge.of hg : Ge w.heap.size gb322); replace HB := (Bw.sw w hb); clear hb hbox hg; obtain ⟨hcz18_0, hcz18_1, hcz18_2, hfz18_0, hfz18_1, hfz18_2⟩ := blk3 BK322.out))
    go_ret
    exact ⟨by first | rfl | (simp [errW_none, errW_some] <;> rfl) | (simp [*, errW_none, errW_some] <;> rfl), bw⟩
   rw [if_neg c16] at H
   have c16b0 : decide (0 < (((rd_T100 l0 x3_1).f1).length : Int)) = false := decide_eq_false c16
   have c16b1 : decide (0 < ((rd_T100 l0 x3_1).f1).length) = false := decide_eq_false (by omega)
   clear c16
   by_cases c19 : ((rd_T100 l0 x3_1).f2) < 0
   ·rw [if_pos c19] at H
    have c19b0 : decide (((rd_T100 l0 x3_1).f2) < 0) = true := decide_eq_true c19
    clear c19
    obtain rfl := Option.some.inj H
    have p321 : 0 ≤ (x3_1 : Int) := of_decide_eq_true (by first | (with_reducible assumption) | assumption)
    have q321 : x3_1 < (l0.length : Int) := of_decide_eq_true (by first | (with_reducible assumption) | assumption)
    obtain ⟨ad321, A321_1, c321_1, e321, hx321_0, hx321_1, hx321_2, hl321_1, hi321_1⟩ := at_T100 HR0.out x3_1 p321 q321
    cases e321
    replace hx321_0 := (HB.out.cell (World.block_lt_of_cell? w _ hx321_0)).trans hx321_0
    replace hx321_1 := (HB.out.cell (World.block_lt_of_cell? w _ hx321_1)).trans hx321_1
    replace hx321_2 := (HB.out.cell (World.block_lt_of_cell? w _ hx321_2)).trans hx321_2
    have HR321_1 := Aside0.mk hi321_1
    have HC321_1 := Aside0.mk hl321_1
    clear hi321_1 hl321_1
    replace p321 := eq_true p321
    replace q321 := eq_true q321
    go_wp2_with (first | ((with_reducible refine gate_dst (N := 4) rfl ?_); refine box_event rfl (N := 4) rfl (cs := #[.int .i64 0, .slice none 0 0, .int .i64 0]) (t := 100) (by go_simp <;> rfl) ?_; intro gb322 hg w20 hbox hb; have BK322 := Aside0.mk (hbox); have GE322 := (Ge.of hg : Ge w.heap.size gb322); replace HB := (Bw.sw w hb); clear hb hbox hg; obtain ⟨hcz21_0, hcz21_1, hcz21_2, hfz21_0, hfz21_1, hfz21_2⟩ := blk3 BK322.out))
    go_ret
    exact ⟨by first | rfl | (simp [errW_none, errW_some] <;> rfl) | (simp [*, errW_none, errW_some] <;> rfl), bw⟩
   rw [if_neg c19] at H
   have c19b0 : decide (((rd_T100 l0 x3_1).f2) < 0) = false := decide_eq_false c19
   clear c19
   by_cases c22 : ((rd_T100 l0 x3_1).f2) ≥ 40
   ·rw [if_pos c22] at H
    have c22b0 : decide (40 ≤ ((rd_T100 l0 x3_1).f2)) = true := decide_eq_true c22
    clear c22
    obtain rfl := Option.some.inj H
    have p321 : 0 ≤ (x3_1 : Int) := of_decide_eq_true (by first | (with_reducible assumption) | assumption)
    have q321 : x3_1 < (l0.length : Int) := of_decide_eq_true (by first | (with_reducible assumption) | assumption)
    obtain ⟨ad321, A321_1, c321_1, e321, hx321_0, hx321_1, hx321_2, hl321_1, hi321_1⟩ := at_T100 HR0.out x3_1 p321 q321
    cases e321
    replace hx321_0 := (HB.out.cell (World.block_lt_of_cell? w _ hx321_0)).trans hx321_0
    replace hx321_1 := (HB.out.cell (World.block_lt_of_cell? w _ hx321_1)).trans hx321_1
    replace hx321_2 := (HB.out.cell (World.block_lt_of_cell? w _ hx321_2)).trans hx321_2
    have HR321_1 := Aside0.mk hi321_1
    have HC321_1 := Aside0.mk hl321_1
    clear hi321_1 hl321_1
    replace p321 := eq_true p321
    replace q321 := eq_true q321
    go_wp2_with (first | ((with_reducible refine gate_dst (N := 4) rfl ?_); refine box_event rfl (N := 4) rfl (cs := #[.int .i64 0, .slice none 0 0, .int .i64 0]) (t := 100) (by go_simp <;> rfl) ?_; intro gb322 hg w23 hbox hb; have BK322 := Aside0.mk (hbox); have GE322 := (Ge.of hg : Ge w.heap.size gb322); replace HB := (Bw.sw w hb); clear hb hbox hg; obtain ⟨hcz24_0, hcz24_1, hcz24_2, hfz24_0, hfz24_1, hfz24_2⟩ := blk3 BK322.out))
    go_ret
    exact ⟨by first | rfl | (simp [errW_none, errW_some] <;> rfl) | (simp [*, errW_none, errW_some] <;> rfl), bw⟩
   rw [if_neg c22] at H
   have c22b0 : decide (40 ≤ ((rd_T100 l0 x3_1).f2)) = false := decide_eq_false c22
   clear c22
   have H' := Aside0.mk H
   clear H
   have p321 : 0 ≤ (x3_1 : Int) := of_decide_eq_true (by first | (with_reducible assumption) | assumption)
   have q321 : x3_1 < (l0.length : Int) := of_decide_eq_true (by first | (with_reducible assumption) | assumption)
   obtain ⟨ad321, A321_1, c321_1, e321, hx321_0, hx321_1, hx321_2, hl321_1, hi321_1⟩ := at_T100 HR0.out x3_1 p321 q321
   cases e321
   replace hx321_0 := (HB.out.cell (World.block_lt_of_cell? w _ hx321_0)).trans hx321_0
   replace hx321_1 := (HB.out.cell (World.block_lt_of_cell? w _ hx321_1)).trans hx321_1
   replace hx321_2 := (HB.out.cell (World.block_lt_of_cell? w _ hx321_2)).trans hx321_2
   have HR321_1 := Aside0.mk hi321_1
   have HC321_1 := Aside0.mk hl321_1
   clear hi321_1 hl321_1
   replace p321 := eq_true p321
   replace q321 := eq_true q321
   go_wp2_with (first | ((with_reducible refine gate_dst (N := 4) rfl ?_); refine box_event rfl (N := 4) rfl (cs := #[.int .i64 0, .slice none 0 0, .int .i64 0]) (t := 100) (by go_simp <;> rfl) ?_; intro gb322 hg w25 hbox hb; have BK322 := Aside0.mk (hbox); have GE322 := (Ge.of hg : Ge w.heap.size gb322); replace HB := (Bw.sw w hb); clear hb hbox hg; obtain ⟨hcz26_0, hcz26_1, hcz26_2, hfz26_0, hfz26_1, hfz26_2⟩ := blk3 BK322.out))
   go_roundg k1
   case measure => have := HK1.out; omega
   case rel => exact ⟨(wrap64 (x3_1 + 1)), (by first | rfl | (simp; done) | (simp [*]; done)), H', ⟨by have := HK1.out; omega⟩, ⟨bw⟩⟩

/-! ### spec_l2text: function 101 -/
def spec_l2text.l0 : Nat → List Int → Int → Option (Bool)
 | 0, _, _ => none
 | k + 1, x0, x3 => if x3 < (x0.length : Int) then (if 0 ≤ x3 then (if (rd x0 x3) < 32 then (some false) else (if (rd x0 x3) > 126 then (some false) else (spec_l2text.l0 k x0 (wrap64 (x3 + 1))))) else (none)) else (some true)
def spec_l2text.f (k : Nat) (l0 : List Int) : Option (Bool) := if (l0.length : Int) > 20 then (some false) else (spec_l2text.l0 k l0 0)
theorem spec_l2text.mono_l : ∀ k, (∀ y0 y1, LeO (spec_l2text.l0 k y0 y1) (spec_l2text.l0 (k + 1) y0 y1))
 | 0 => fun _ _ r h => by simp [spec_l2text.l0] at h
 | k + 1 => by
  have ih0 := spec_l2text.mono_l k
  ·intro y0 y1
   unfold spec_l2text.l0
   repeat' first
   | (with_reducible exact ih0 _ _)
   | (with_reducible exact LeO.refl _)
   | (with_reducible exact LeO.none _)
   | (with_reducible refine LeO.ite ?_ ?_)
   | (with_reducible refine LeO.bind ?_ (fun _ => ?_))
   | exact ih0 _ _
   | exact LeO.none _
   | refine LeO.ite ?_ ?_
   | refine LeO.bind ?_ (fun _ => ?_)
theorem spec_l2text.mono : ∀ a0 k, LeO (spec_l2text.f k a0) (spec_l2text.f (k + 1) a0) := by
 intro a0 k
 have ih0 := spec_l2text.mono_l k
 unfold spec_l2text.f
 repeat' first
   | (with_reducible exact ih0 _ _)
   | (with_reducible exact LeO.refl _)
   | (with_reducible exact LeO.none _)
   | (with_reducible refine LeO.ite ?_ ?_)
   | (with_reducible refine LeO.bind ?_ (fun _ => ?_))
   | exact ih0 _ _
   | exact LeO.none _
   | refine LeO.ite ?_ ?_
   | refine LeO.bind ?_ (fun _ => ?_)
set_option maxHeartbeats 8000000 in
set_option maxRecDepth 100000 in
theorem spec_l2text.calls (k : Nat) (A0 : Option Addr) (c0 : Nat) (l0 : List Int) (r : Bool) (w : World) (hr0 : Kd.C (Kd.int .u8) w A0 l0.length l0) (hc0 : l0.length ≤ c0) (h : spec_l2text.f k l0 = some r) :
  Calls Try.prog 101 #[.slice A0 l0.length c0] w fun e w' => e = .returned (.bool r) ∧ Drawn0 w w' := by
 have HR0 := Aside0.mk hr0
 have HC0 := Aside0.mk hc0
 clear hr0 hc0
 have H : (if (l0.length : Int) > 20 then (some false) else (spec_l2text.l0 k l0 0)) = some r := h
 clear h
 by_cases c2 : (l0.length : Int) > 20
 ·rw [if_pos c2] at H
  have c2b0 : decide (20 < (l0.length : Int)) = true := decide_eq_true c2
  have c2b1 : decide (20 < l0.length) = true := decide_eq_true (by omega)
  clear c2
  obtain rfl := Option.some.inj H
  go_enter Try.func101, Try.ntmps101
  go_wp2
  go_ret
  exact ⟨by first | rfl | (simp; done) | (simp [*]; done), by repeat (first | exact Drawn0.refl _ | apply Drawn0.step)⟩
 rw [if_neg c2] at H
 have c2b0 : decide (20 < (l0.length : Int)) = false := decide_eq_false c2
 have c2b1 : decide (20 < l0.length) = false := decide_eq_false (by omega)
 clear c2
 have H' := Aside0.mk H
 clear H
 go_enter Try.func101, Try.ntmps101
 go_wp2
 go_loopg [3] k (fun kq v3 w' => ∃ (x3_1 : Int), v3 = .int .i64 x3_1 ∧ Aside0 (spec_l2text.l0 kq l0 x3_1 = some r) ∧ Aside0 (kq ≤ k) ∧ Drawn0 w w')
 case atStart => exact ⟨(0), (by first | rfl | (simp; done) | (simp [*]; done)), H', ⟨Nat.le_refl _⟩, by repeat (first | exact Drawn0.refl _ | apply Drawn0.step)⟩
 case round =>
  clear H'
  try clear c2
  try clear c2b0
  try clear c2b1
  obtain ⟨x3_1, rfl, HA, HK1, ⟨m1, rfl⟩⟩ := hrel
  cases gk with
  | zero => exact absurd HA.out (by simp [spec_l2text.l0])
  | succ k1 =>
   have H := HA.out
   clear HA
   simp only [spec_l2text.l0] at H
   by_cases c3 : x3_1 < (l0.length : Int)
   rotate_left
   ·rw [if_neg c3] at H
    have c3b0 : decide (x3_1 < (l0.length : Int)) = false := decide_eq_false c3
    clear c3
    obtain rfl := Option.some.inj H
    go_wp2
    go_ret
    exact ⟨by first | rfl | (simp; done) | (simp [*]; done), by repeat (first | exact Drawn0.refl _ | apply Drawn0.step)⟩
   rw [if_pos c3] at H
   have c3b0 : decide (x3_1 < (l0.length : Int)) = true := decide_eq_true c3
   clear c3
   by_cases c4 : 0 ≤ x3_1
   rotate_left
   ·rw [if_neg c4] at H
    exact absurd H (by simp)
   rw [if_pos c4] at H
   have c4b0 : decide (0 ≤ x3_1) = true := decide_eq_true c4
   clear c4
   by_cases c5 : (rd l0 x3_1) < 32
   ·rw [if_pos c5] at H
    have c5b0 : decide ((rd l0 x3_1) < 32) = true := decide_eq_true c5
    clear c5
    obtain rfl := Option.some.inj H
    have p324 : 0 ≤ (x3_1 : Int) := of_decide_eq_true (by first | (with_reducible assumption) | assumption)
    have q324 : x3_1 < (l0.length : Int) := of_decide_eq_true (by first | (with_reducible assumption) | assumption)
    obtain ⟨ad324, e324, hx324_0⟩ := Kd.at_int HR0.out x3_1 p324 q324
    cases e324
    replace p324 := eq_true p324
    replace q324 := eq_true q324
    go_wp2
    go_ret
    exact ⟨by first | rfl | (simp; done) | (simp [*]; done), by repeat (first | exact Drawn0.refl _ | apply Drawn0.step)⟩
   rw [if_neg c5] at H
   have c5b0 : decide ((rd l0 x3_1) < 32) = false := decide_eq_false c5
   clear c5
   by_cases c6 : (rd l0 x3_1) > 126
   ·rw [if_pos c6] at H
    have c6b0 : decide (126 < (rd l0 x3_1)) = true := decide_eq_true c6
    clear c6
    obtain rfl := Option.some.inj H
    have p324 : 0 ≤ (x3_1 : Int) := of_decide_eq_true (by first | (with_reducible assumption) | assumption)
    have q324 : x3_1 < (l0.length : Int) := of_decide_eq_true (by first | (with_reducible assumption) | assumption)
    obtain ⟨ad324, e324, hx324_0⟩ := Kd.at_int HR0.out x3_1 p324 q324
    cases e324
    replace p324 := eq_true p324
    replace q324 := eq_true q324
    have p325 : 0 ≤ (x3_1 : Int) := of_decide_eq_true (by first | (with_reducible assumption) | assumption)
    have q325 : x3_1 < (l0.length : Int) := of_decide_eq_true (by first | (with_reducible assumption) | assumption)
    obtain ⟨ad325, e325, hx325_0⟩ := Kd.at_int HR0.out x3_1 p325 q325
    obtain rfl : ad324 = ad325 := (by injection e325)
    replace p325 := eq_true p325
    replace q325 := eq_true q325
    go_wp2
    go_ret
    exact ⟨by first | rfl | (simp; done) | (simp [*]; done), by repeat (first | exact Drawn0.refl _ | apply Drawn0.step)⟩
   rw [if_neg c6] at H
   have c6b0 : decide (126 < (rd l0 x3_1)) = false := decide_eq_false c6
   clear c6
   have H' := Aside0.mk H
   clear H
   have p324 : 0 ≤ (x3_1 : Int) := of_decide_eq_true (by first | (with_reducible assumption) | assumption)
   have q324 : x3_1 < (l0.length : Int) := of_decide_eq_true (by first | (with_reducible assumption) | assumption)
   obtain ⟨ad324, e324, hx324_0⟩ := Kd.at_int HR0.out x3_1 p324 q324
   cases e324
   replace p324 := eq_true p324
   replace q324 := eq_true q324
   have p325 : 0 ≤ (x3_1 : Int) := of_decide_eq_true (by first | (with_reducible assumption) | assumption)
   have q325 : x3_1 < (l0.length : Int) := of_decide_eq_true (by first | (with_reducible assumption) | assumption)
   obtain ⟨ad325, e325, hx325_0⟩ := Kd.at_int HR0.out x3_1 p325 q325
   obtain rfl : ad324 = ad325 := (by injection e325)
   replace p325 := eq_true p325
   replace q325 := eq_true q325
   go_wp2
   go_roundg k1
   case measure => have := HK1.out; omega
   case rel => exact ⟨(wrap64 (x3_1 + 1)), (by first | rfl | (simp; done) | (simp [*]; done)), H', ⟨by have := HK1.out; omega⟩, by repeat (first | exact Drawn0.refl _ | apply Drawn0.step)⟩

/-! ### spec_l2int: function 141 -/
def spec_l2int.f (a0 : Int) : Option (Bool) := if a0 ≥ (-1000000000000) then (some (decide (a0 ≤ 1000000000000))) else (some false)
set_option maxHeartbeats 8000000 in
set_option maxRecDepth 100000 in
theorem spec_l2int.calls (a0 : Int) (r : Bool) (w : World) (h : spec_l2int.f a0 = some r) :
  Calls Try.prog 141 #[.int .i64 a0] w fun e w' => e = .returned (.bool r) ∧ Drawn0 w w' := by
 have H : (if a0 ≥ (-1000000000000) then (some (decide (a0 ≤ 1000000000000))) else (some false)) = some r := h
 clear h
 by_cases c2 : a0 ≥ (-1000000000000)
 ·rw [if_pos c2] at H
  have c2b0 : decide ((-1000000000000) ≤ a0) = true := decide_eq_true c2
  clear c2
  obtain rfl := Option.some.inj H
  go_enter Try.func141, Try.ntmps141
  go_wp2
  go_ret
  exact ⟨by first | rfl | (simp; done) | (simp [*]; done), by repeat (first | exact Drawn0.refl _ | apply Drawn0.step)⟩
 rw [if_neg c2] at H
 have c2b0 : decide ((-1000000000000) ≤ a0) = false := decide_eq_false c2
 clear c2
 obtain rfl := Option.some.inj H
 go_enter Try.func141, Try.ntmps141
 go_wp2
 go_ret
 exact ⟨by first | rfl | (simp; done) | (simp [*]; done), by repeat (first | exact Drawn0.refl _ | apply Drawn0.step)⟩

end Go.Proofs.Ytockllljeeakaaa.PFnExactChangesOk
