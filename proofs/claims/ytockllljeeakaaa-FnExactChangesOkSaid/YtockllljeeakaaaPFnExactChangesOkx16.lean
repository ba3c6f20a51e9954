/- What the law reaches: each function as a plain Lean function, and that each call comes to it. No condition. -/
import Derived.Test.YtockllljeeakaaaPFnExactChangesOkx0
import Derived.Test.YtockllljeeakaaaPFnExactChangesOkx15
namespace Go.Proofs.Ytockllljeeakaaa.PFnExactChangesOk
open Go.RowKit Go.Proofs.YtockllljeeakaaaW.PrintWords Go.Proofs.YtockllljeeakaaaW.PrintLast Go.Proofs.YtockllljeeakaaaW.PrintMore Go.Proofs.Ytockllljeeakaaa.M
attribute [local go_sem] max2_int min2_int max_two min_two max_three min_three max_four min_four Go.Proofs.Ytockllljeeakaaa.M.str_gtr Go.Proofs.Ytockllljeeakaaa.M.str_leq Go.Proofs.Ytockllljeeakaaa.M.str_geq   -- for this text's walks alone
set_option linter.unusedVariables false
set_option linter.unusedSimpArgs false

/-! ### x_CompareFunc_at_impl_compareSteps: function 134 -/
def x_CompareFunc_at_impl_compareSteps.l0 : Nat → List (S100) → List (S100) → List (S100) → Int → Int → Option (Int)
 | 0, _, _, _, _, _ => none
 | k + 1, x0, x1, x11, x12, x13 => if x13 < x12 then (if 0 ≤ x13 then (if x13 < (x11.length : Int) then (if x13 ≥ (x1.length : Int) then (some 1) else (if x13 < (x1.length : Int) then ((impl_compareSteps.f k ((rd_T100 x11 x13).f0) ((rd_T100 x11 x13).f1) ((rd_T100 x11 x13).f2) ((rd_T100 x1 x13).f0) ((rd_T100 x1 x13).f1) ((rd_T100 x1 x13).f2)).bind fun t447 => (if t447 = 0 then (x_CompareFunc_at_impl_compareSteps.l0 k x0 x1 x11 x12 (wrap64 (x13 + 1))) else (some t447))) else (none))) else (none)) else (none)) else (if (x0.length : Int) < (x1.length : Int) then (some (-1)) else (some 0))
def x_CompareFunc_at_impl_compareSteps.f (k : Nat) (l0 : List (S100)) (l1 : List (S100)) : Option (Int) := x_CompareFunc_at_impl_compareSteps.l0 k l0 l1 l0 (l0.length : Int) 0
theorem x_CompareFunc_at_impl_compareSteps.mono_l : ∀ k, (∀ y0 y1 y2 y3 y4, LeO (x_CompareFunc_at_impl_compareSteps.l0 k y0 y1 y2 y3 y4) (x_CompareFunc_at_impl_compareSteps.l0 (k + 1) y0 y1 y2 y3 y4))
 | 0 => fun _ _ _ _ _ r h => by simp [x_CompareFunc_at_impl_compareSteps.l0] at h
 | k + 1 => by
  have ih0 := x_CompareFunc_at_impl_compareSteps.mono_l k
  ·intro y0 y1 y2 y3 y4
   unfold x_CompareFunc_at_impl_compareSteps.l0
   repeat' first
   | (with_reducible exact ih0 _ _ _ _ _)
   | (with_reducible exact impl_compareSteps.mono _ _ _ _ _ _ _)
   | (with_reducible exact LeO.refl _)
   | (with_reducible exact LeO.none _)
   | (with_reducible refine LeO.ite ?_ ?_)
   | (with_reducible refine LeO.bind ?_ (fun _ => ?_))
   | exact ih0 _ _ _ _ _
   | exact impl_compareSteps.mono _ _ _ _ _ _ _
   | exact LeO.none _
   | refine LeO.ite ?_ ?_
   | refine LeO.bind ?_ (fun _ => ?_)
theorem x_CompareFunc_at_impl_compareSteps.mono : ∀ a0 a1 k, LeO (x_CompareFunc_at_impl_compareSteps.f k a0 a1) (x_CompareFunc_at_impl_compareSteps.f (k + 1) a0 a1) := by
 intro a0 a1 k
 have ih0 := x_CompareFunc_at_impl_compareSteps.mono_l k
 unfold x_CompareFunc_at_impl_compareSteps.f
 repeat' first
   | (with_reducible exact ih0 _ _ _ _ _)
   | (with_reducible exact impl_compareSteps.mono _ _ _ _ _ _ _)
   | (with_reducible exact LeO.refl _)
   | (with_reducible exact LeO.none _)
   | (with_reducible refine LeO.ite ?_ ?_)
   | (with_reducible refine LeO.bind ?_ (fun _ => ?_))
   | exact ih0 _ _ _ _ _
   | exact impl_compareSteps.mono _ _ _ _ _ _ _
   | exact LeO.none _
   | refine LeO.ite ?_ ?_
   | refine LeO.bind ?_ (fun _ => ?_)
set_option maxHeartbeats 8000000 in
set_option maxRecDepth 100000 in
theorem x_CompareFunc_at_impl_compareSteps.calls (k : Nat) (A0 : Option Addr) (c0 : Nat) (l0 : List (S100)) (A1 : Option Addr) (c1 : Nat) (l1 : List (S100)) (r : Int) (w : World) (hr0 : Kd.C k100 w A0 l0.length l0) (hc0 : l0.length ≤ c0) (hr1 : Kd.C k100 w A1 l1.length l1) (hc1 : l1.length ≤ c1) (h : x_CompareFunc_at_impl_compareSteps.f k l0 l1 = some r) :
  Calls Try.prog 134 #[.slice A0 l0.length c0, .slice A1 l1.length c1, .func (.func 135) #[] #[]] w fun e w' => e = .returned (.int .i64 r) ∧ Below w.heap.size w w' := by
 have hu100 := Try.underlying100
 have HR0 := Aside0.mk hr0
 have HC0 := Aside0.mk hc0
 clear hr0 hc0
 have HR1 := Aside0.mk hr1
 have HC1 := Aside0.mk hc1
 clear hr1 hc1
 have HB := Bw.refl w
 have H : (x_CompareFunc_at_impl_compareSteps.l0 k l0 l1 l0 (l0.length : Int) 0) = some r := h
 clear h
 have H' := Aside0.mk H
 clear H
 go_enter Try.func134, Try.ntmps134
 go_wp2
 go_loopg [13] k (fun kq v13 w' => ∃ (x13_1 : Int), v13 = .int .i64 x13_1 ∧ Aside0 (x_CompareFunc_at_impl_compareSteps.l0 kq l0 l1 l0 (l0.length : Int) x13_1 = some r) ∧ Aside0 (kq ≤ k) ∧ Bw w w')
 case atStart => exact ⟨(0), (by first | rfl | (simp; done) | (simp [*]; done)), H', ⟨Nat.le_refl _⟩, ⟨bw⟩⟩
 case round =>
  clear H'
  obtain ⟨x13_1, rfl, HA, HK1, HB⟩ := hrel
  cases gk with
  | zero => exact absurd HA.out (by simp [x_CompareFunc_at_impl_compareSteps.l0])
  | succ k1 =>
   have H := HA.out
   clear HA
   simp only [x_CompareFunc_at_impl_compareSteps.l0] at H
   by_cases c3 : x13_1 < (l0.length : Int)
   rotate_left
   ·rw [if_neg c3] at H
    have c3b0 : decide (x13_1 < (l0.length : Int)) = false := decide_eq_false c3
    clear c3
    by_cases c26 : (l0.length : Int) < (l1.length : Int)
    ·rw [if_pos c26] at H
     have c26b0 : decide ((l0.length : Int) < (l1.length : Int)) = true := decide_eq_true c26
     have c26b1 : decide (l0.length < l1.length) = true := decide_eq_true (Int.ofNat_lt.mp c26)
     clear c26
     obtain rfl := Option.some.inj H
     go_wp2
     go_ret
     exact ⟨by first | rfl | (simp [errW_none, errW_some] <;> rfl) | (simp [*, errW_none, errW_some] <;> rfl), bw⟩
    rw [if_neg c26] at H
    have c26b0 : decide ((l0.length : Int) < (l1.length : Int)) = false := decide_eq_false c26
    have c26b1 : decide (l0.length < l1.length) = false := decide_eq_false (fun h => c26 (Int.ofNat_lt.mpr h))
    clear c26
    obtain rfl := Option.some.inj H
    go_wp2
    go_ret
    exact ⟨by first | rfl | (simp [errW_none, errW_some] <;> rfl) | (simp [*, errW_none, errW_some] <;> rfl), bw⟩
   rw [if_pos c3] at H
   have c3b0 : decide (x13_1 < (l0.length : Int)) = true := decide_eq_true c3
   clear c3
   by_cases c4 : 0 ≤ x13_1
   rotate_left
   ·rw [if_neg c4] at H
    exact absurd H (by simp)
   rw [if_pos c4] at H
   have c4b0 : decide (0 ≤ x13_1) = true := decide_eq_true c4
   clear c4
   by_cases c5 : x13_1 < (l0.length : Int)
   rotate_left
   ·rw [if_neg c5] at H
    exact absurd H (by simp)
   rw [if_pos c5] at H
   have c5b0 : decide (x13_1 < (l0.length : Int)) = true := decide_eq_true c5
   clear c5
   by_cases c6 : x13_1 ≥ (l1.length : Int)
   ·rw [if_pos c6] at H
    have c6b0 : decide ((l1.length : Int) ≤ x13_1) = true := decide_eq_true c6
    clear c6
    obtain rfl := Option.some.inj H
    have p443 : 0 ≤ (x13_1 : Int) := of_decide_eq_true (by first | (with_reducible assumption) | assumption)
    have q443 : x13_1 < (l0.length : Int) := of_decide_eq_true (by first | (with_reducible assumption) | assumption)
    obtain ⟨ad443, A443_1, c443_1, e443, hx443_0, hx443_1, hx443_2, hl443_1, hi443_1⟩ := at_T100 HR0.out x13_1 p443 q443
    cases e443
    replace hx443_0 := (HB.out.cell (World.block_lt_of_cell? w _ hx443_0)).trans hx443_0
    replace hx443_1 := (HB.out.cell (World.block_lt_of_cell? w _ hx443_1)).trans hx443_1
    replace hx443_2 := (HB.out.cell (World.block_lt_of_cell? w _ hx443_2)).trans hx443_2
    have HR443_1 := Aside0.mk hi443_1
    have HC443_1 := Aside0.mk hl443_1
    clear hi443_1 hl443_1
    replace p443 := eq_true p443
    replace q443 := eq_true q443
    go_wp2_with (first | ((with_reducible refine gate_dst (N := 8) rfl ?_); refine box_event rfl (N := 8) rfl (cs := #[.int .i64 0, .slice none 0 0, .int .i64 0]) (t := 100) (by go_simp <;> rfl) ?_; intro gb444 hg w7 hbox hb; have BK444 := Aside0.mk (hbox); have GE444 := (Ge.of hg : Ge w.heap.size gb444); replace HB := (Bw.sw w hb); clear hb hbox hg; obtain ⟨hcz8_0, hcz8_1, hcz8_2, hfz8_0, hfz8_1, hfz8_2⟩ := blk3 BK444.out))
    go_ret
    exact ⟨by first | rfl | (simp [errW_none, errW_some] <;> rfl) | (simp [*, errW_none, errW_some] <;> rfl), bw⟩
   rw [if_neg c6] at H
   have c6b0 : decide ((l1.length : Int) ≤ x13_1) = false := decide_eq_false c6
   clear c6
   by_cases c9 : x13_1 < (l1.length : Int)
   rotate_left
   ·rw [if_neg c9] at H
    exact absurd H (by simp)
   rw [if_pos c9] at H
   have c9b0 : decide (x13_1 < (l1.length : Int)) = true := decide_eq_true c9
   clear c9
   replace H := Option.bind_eq_some_iff.mp H
   obtain ⟨t447, A100, H⟩ := H
   have A10 := Aside0.mk A100
   clear A100
   by_cases c11 : t447 = 0
   ·rw [if_pos c11] at H
    have c11b0 : (t447 == 0) = true := beq_iff_eq.mpr c11
    have c11b1 : (t447 != 0) = false := bne_eq_false_iff_eq.mpr c11
    clear c11
    have H' := Aside0.mk H
    clear H
    have p443 : 0 ≤ (x13_1 : Int) := of_decide_eq_true (by first | (with_reducible assumption) | assumption)
    have q443 : x13_1 < (l0.length : Int) := of_decide_eq_true (by first | (with_reducible assumption) | assumption)
    obtain ⟨ad443, A443_1, c443_1, e443, hx443_0, hx443_1, hx443_2, hl443_1, hi443_1⟩ := at_T100 HR0.out x13_1 p443 q443
    cases e443
    replace hx443_0 := (HB.out.cell (World.block_lt_of_cell? w _ hx443_0)).trans hx443_0
    replace hx443_1 := (HB.out.cell (World.block_lt_of_cell? w _ hx443_1)).trans hx443_1
    replace hx443_2 := (HB.out.cell (World.block_lt_of_cell? w _ hx443_2)).trans hx443_2
    have HR443_1 := Aside0.mk hi443_1
    have HC443_1 := Aside0.mk hl443_1
    clear hi443_1 hl443_1
    replace p443 := eq_true p443
    replace q443 := eq_true q443
    go_wp2_with (first | ((with_reducible refine gate_dst (N := 8) rfl ?_); refine box_event rfl (N := 8) rfl (cs := #[.int .i64 0, .slice none 0 0, .int .i64 0]) (t := 100) (by go_simp <;> rfl) ?_; intro gb444 hg w12 hbox hb; have BK444 := Aside0.mk (hbox); have GE444 := (Ge.of hg : Ge w.heap.size gb444); replace HB := (Bw.sw w hb); clear hb hbox hg; obtain ⟨hcz13_0, hcz13_1, hcz13_2, hfz13_0, hfz13_1, hfz13_2⟩ := blk3 BK444.out; have p445 : 0 ≤ (x13_1 : Int) := of_decide_eq_true (by first | (with_reducible assumption) | assumption); have q445 : x13_1 < (l1.length : Int) := of_decide_eq_true (by first | (with_reducible assumption) | assumption); obtain ⟨ad445, A445_1, c445_1, e445, hx445_0, hx445_1, hx445_2, hl445_1, hi445_1⟩ := at_T100 HR1.out x13_1 p445 q445; cases e445; have hn445_0 : ad445.block ≠ gb444 := Nat.ne_of_lt (Nat.lt_of_lt_of_le (by have := World.block_lt_of_cell? _ _ hx445_0; first | rwa [add_block] at this | exact this) GE444.out); have hn445_1 : ad445.block ≠ gb444 := Nat.ne_of_lt (Nat.lt_of_lt_of_le (by have := World.block_lt_of_cell? _ _ hx445_0; first | rwa [add_block] at this | exact this) GE444.out); have hn445_2 : ad445.block ≠ gb444 := Nat.ne_of_lt (Nat.lt_of_lt_of_le (by have := World.block_lt_of_cell? _ _ hx445_0; first | rwa [add_block] at this | exact this) GE444.out); replace hx445_0 := (HB.out.cell (World.block_lt_of_cell? w _ hx445_0)).trans hx445_0; replace hx445_1 := (HB.out.cell (World.block_lt_of_cell? w _ hx445_1)).trans hx445_1; replace hx445_2 := (HB.out.cell (World.block_lt_of_cell? w _ hx445_2)).trans hx445_2; have HR445_1 := Aside0.mk hi445_1; have HC445_1 := Aside0.mk hl445_1; clear hi445_1 hl445_1; replace hx445_0 := (cell_far (p := ⟨gb444, 0, none⟩) (by first | (rw [add_block]; exact hn445_0) | (show (Addr.add _ _).block ≠ _; rw [add_block]; exact hn445_0) | exact hn445_0) (.int .i64 ((rd_T100 l0 x13_1).f0))).trans hx445_0; replace hx445_1 := (cell_far (p := ⟨gb444, 0, none⟩) (by first | (rw [add_block]; exact hn445_0) | (show (Addr.add _ _).block ≠ _; rw [add_block]; exact hn445_0) | exact hn445_0) (.int .i64 ((rd_T100 l0 x13_1).f0))).trans hx445_1; replace hx445_2 := (cell_far (p := ⟨gb444, 0, none⟩) (by first | (rw [add_block]; exact hn445_0) | (show (Addr.add _ _).block ≠ _; rw [add_block]; exact hn445_0) | exact hn445_0) (.int .i64 ((rd_T100 l0 x13_1).f0))).trans hx445_2; replace hx445_0 := (cell_far (p := ⟨gb444, 1, none⟩) (by first | (rw [add_block]; exact hn445_1) | (show (Addr.add _ _).block ≠ _; rw [add_block]; exact hn445_1) | exact hn445_1) (.slice A443_1 ((rd_T100 l0 x13_1).f1).length c443_1)).trans hx445_0; replace hx445_1 := (cell_far (p := ⟨gb444, 1, none⟩) (by first | (rw [add_block]; exact hn445_1) | (show (Addr.add _ _).block ≠ _; rw [add_block]; exact hn445_1) | exact hn445_1) (.slice A443_1 ((rd_T100 l0 x13_1).f1).length c443_1)).trans hx445_1; replace hx445_2 := (cell_far (p := ⟨gb444, 1, none⟩) (by first | (rw [add_block]; exact hn445_1) | (show (Addr.add _ _).block ≠ _; rw [add_block]; exact hn445_1) | exact hn445_1) (.slice A443_1 ((rd_T100 l0 x13_1).f1).length c443_1)).trans hx445_2; replace hx445_0 := (cell_far (p := ⟨gb444, 2, none⟩) (by first | (rw [add_block]; exact hn445_2) | (show (Addr.add _ _).block ≠ _; rw [add_block]; exact hn445_2) | exact hn445_2) (.int .i64 ((rd_T100 l0 x13_1).f2))).trans hx445_0; replace hx445_1 := (cell_far (p := ⟨gb444, 2, none⟩) (by first | (rw [add_block]; exact hn445_2) | (show (Addr.add _ _).block ≠ _; rw [add_block]; exact hn445_2) | exact hn445_2) (.int .i64 ((rd_T100 l0 x13_1).f2))).trans hx445_1; replace hx445_2 := (cell_far (p := ⟨gb444, 2, none⟩) (by first | (rw [add_block]; exact hn445_2) | (show (Addr.add _ _).block ≠ _; rw [add_block]; exact hn445_2) | exact hn445_2) (.int .i64 ((rd_T100 l0 x13_1).f2))).trans hx445_2; clear hn445_0; clear hn445_1; clear hn445_2; replace p445 := eq_true p445; replace q445 := eq_true q445) | ((with_reducible refine gate_dst (N := 9) rfl ?_); refine box_event rfl (N := 9) rfl (cs := #[.int .i64 0, .slice none 0 0, .int .i64 0]) (t := 100) (by go_simp <;> rfl) ?_; intro gb446 hg w14 hbox hb; have BK446 := Aside0.mk (hbox); have GE446 := (Ge.of hg : Ge w.heap.size gb446); have NB444_446 := Aside0.mk ((by rw [hg]; exact Nat.ne_of_lt (blk_lt (g := gb444) (o := .cells #[.int .i64 ((rd_T100 l0 x13_1).f0), .slice A443_1 ((rd_T100 l0 x13_1).f1).length c443_1, .int .i64 ((rd_T100 l0 x13_1).f2)] 100 (0, 0)) (by (with_reducible repeat (first | refine blk_drewN ?_ _ | refine blk_drew ?_ | refine blk_alloc ?_ _)); refine blk_put (cs := #[.int .i64 ((rd_T100 l0 x13_1).f0), .slice A443_1 ((rd_T100 l0 x13_1).f1).length c443_1, .int .i64 0]) ?_ 2 _ rfl; (with_reducible repeat (first | refine blk_drewN ?_ _ | refine blk_drew ?_ | refine blk_alloc ?_ _)); refine blk_put (cs := #[.int .i64 ((rd_T100 l0 x13_1).f0), .slice none 0 0, .int .i64 0]) ?_ 1 _ rfl; (with_reducible repeat (first | refine blk_drewN ?_ _ | refine blk_drew ?_ | refine blk_alloc ?_ _)); refine blk_put (cs := #[.int .i64 0, .slice none 0 0, .int .i64 0]) ?_ 0 _ rfl; (with_reducible repeat (first | refine blk_drewN ?_ _ | refine blk_drew ?_ | refine blk_alloc ?_ _)); exact BK444.out)) : gb444 ≠ gb446)); have NB446_444 := Aside0.mk ((by rw [hg]; exact Nat.ne_of_gt (blk_lt (g := gb444) (o := .cells #[.int .i64 ((rd_T100 l0 x13_1).f0), .slice A443_1 ((rd_T100 l0 x13_1).f1).length c443_1, .int .i64 ((rd_T100 l0 x13_1).f2)] 100 (0, 0)) (by (with_reducible repeat (first | refine blk_drewN ?_ _ | refine blk_drew ?_ | refine blk_alloc ?_ _)); refine blk_put (cs := #[.int .i64 ((rd_T100 l0 x13_1).f0), .slice A443_1 ((rd_T100 l0 x13_1).f1).length c443_1, .int .i64 0]) ?_ 2 _ rfl; (with_reducible repeat (first | refine blk_drewN ?_ _ | refine blk_drew ?_ | refine blk_alloc ?_ _)); refine blk_put (cs := #[.int .i64 ((rd_T100 l0 x13_1).f0), .slice none 0 0, .int .i64 0]) ?_ 1 _ rfl; (with_reducible repeat (first | refine blk_drewN ?_ _ | refine blk_drew ?_ | refine blk_alloc ?_ _)); refine blk_put (cs := #[.int .i64 0, .slice none 0 0, .int .i64 0]) ?_ 0 _ rfl; (with_reducible repeat (first | refine blk_drewN ?_ _ | refine blk_drew ?_ | refine blk_alloc ?_ _)); exact BK444.out)) : gb446 ≠ gb444)); replace BK444 := Aside0.mk (blk_below (g := gb444) (o := .cells #[.int .i64 ((rd_T100 l0 x13_1).f0), .slice A443_1 ((rd_T100 l0 x13_1).f1).length c443_1, .int .i64 ((rd_T100 l0 x13_1).f2)] 100 (0, 0)) (by (with_reducible repeat (first | refine blk_drewN ?_ _ | refine blk_drew ?_ | refine blk_alloc ?_ _)); refine blk_put (cs := #[.int .i64 ((rd_T100 l0 x13_1).f0), .slice A443_1 ((rd_T100 l0 x13_1).f1).length c443_1, .int .i64 0]) ?_ 2 _ rfl; (with_reducible repeat (first | refine blk_drewN ?_ _ | refine blk_drew ?_ | refine blk_alloc ?_ _)); refine blk_put (cs := #[.int .i64 ((rd_T100 l0 x13_1).f0), .slice none 0 0, .int .i64 0]) ?_ 1 _ rfl; (with_reducible repeat (first | refine blk_drewN ?_ _ | refine blk_drew ?_ | refine blk_alloc ?_ _)); refine blk_put (cs := #[.int .i64 0, .slice none 0 0, .int .i64 0]) ?_ 0 _ rfl; (with_reducible repeat (first | refine blk_drewN ?_ _ | refine blk_drew ?_ | refine blk_alloc ?_ _)); exact BK444.out) hb); replace HB := (Bw.sw w hb); clear hb hbox hg; have hnb15 := NB446_444.out; have hnc15 := NB444_446.out; obtain ⟨hcz16_0, hcz16_1, hcz16_2, hfz16_0, hfz16_1, hfz16_2⟩ := blk3 BK446.out; obtain ⟨hcz17_0, hcz17_1, hcz17_2, hfz17_0, hfz17_1, hfz17_2⟩ := blk3 BK444.out) | (go_at_call 135; (with_reducible refine (impl_compareSteps.calls k1 ((rd_T100 l0 x13_1).f0) _ _ ((rd_T100 l0 x13_1).f1) ((rd_T100 l0 x13_1).f2) ((rd_T100 l1 x13_1).f0) _ _ ((rd_T100 l1 x13_1).f1) ((rd_T100 l1 x13_1).f2) t447 _ ?side1 ?side2 ?side3 ?side4 A10.out).mono ?_); (case side1 => exact Kd.C_below HR443_1.out bw); (case side2 => exact HC443_1.out); (case side3 => exact Kd.C_below HR445_1.out bw); (case side4 => exact HC445_1.out); rintro e w18 ⟨rfl, hb⟩; replace BK444 := Aside0.mk (blk_below (g := gb444) (o := .cells #[.int .i64 ((rd_T100 l0 x13_1).f0), .slice A443_1 ((rd_T100 l0 x13_1).f1).length c443_1, .int .i64 ((rd_T100 l0 x13_1).f2)] 100 (0, 0)) (by (with_reducible repeat (first | refine blk_drewN ?_ _ | refine blk_drew ?_ | refine blk_alloc ?_ _)); refine blk_far ?_ NB444_446.out _; (with_reducible repeat (first | refine blk_drewN ?_ _ | refine blk_drew ?_ | refine blk_alloc ?_ _)); refine blk_far ?_ NB444_446.out _; (with_reducible repeat (first | refine blk_drewN ?_ _ | refine blk_drew ?_ | refine blk_alloc ?_ _)); refine blk_far ?_ NB444_446.out _; (with_reducible repeat (first | refine blk_drewN ?_ _ | refine blk_drew ?_ | refine blk_alloc ?_ _)); exact BK444.out) hb); replace BK446 := Aside0.mk (blk_below (g := gb446) (o := .cells #[.int .i64 ((rd_T100 l1 x13_1).f0), .slice A445_1 ((rd_T100 l1 x13_1).f1).length c445_1, .int .i64 ((rd_T100 l1 x13_1).f2)] 100 (0, 0)) (by (with_reducible repeat (first | refine blk_drewN ?_ _ | refine blk_drew ?_ | refine blk_alloc ?_ _)); refine blk_put (cs := #[.int .i64 ((rd_T100 l1 x13_1).f0), .slice A445_1 ((rd_T100 l1 x13_1).f1).length c445_1, .int .i64 0]) ?_ 2 _ rfl; (with_reducible repeat (first | refine blk_drewN ?_ _ | refine blk_drew ?_ | refine blk_alloc ?_ _)); refine blk_put (cs := #[.int .i64 ((rd_T100 l1 x13_1).f0), .slice none 0 0, .int .i64 0]) ?_ 1 _ rfl; (with_reducible repeat (first | refine blk_drewN ?_ _ | refine blk_drew ?_ | refine blk_alloc ?_ _)); refine blk_put (cs := #[.int .i64 0, .slice none 0 0, .int .i64 0]) ?_ 0 _ rfl; (with_reducible repeat (first | refine blk_drewN ?_ _ | refine blk_drew ?_ | refine blk_alloc ?_ _)); exact BK446.out) hb); replace HB := (Bw.sw w hb); (try clear hb)))
    go_roundg k1
    case measure => have := HK1.out; omega
    case rel => exact ⟨(wrap64 (x13_1 + 1)), (by first | rfl | (simp; done) | (simp [*]; done)), H', ⟨by have := HK1.out; omega⟩, ⟨bw⟩⟩
   rw [if_neg c11] at H
   have c11b0 : (t447 == 0) = false := beq_eq_false_iff_ne.mpr c11
   have c11b1 : (t447 != 0) = true := bne_iff_ne.mpr c11
   obtain rfl := Option.some.inj H
   have p443 : 0 ≤ (x13_1 : Int) := of_decide_eq_true (by first | (with_reducible assumption) | assumption)
   have q443 : x13_1 < (l0.length : Int) := of_decide_eq_true (by first | (with_reducible assumption) | assumption)
   obtain ⟨ad443, A443_1, c443_1, e443, hx443_0, hx443_1, hx443_2, hl443_1, hi443_1⟩ := at_T100 HR0.out x13_1 p443 q443
   cases e443
   replace hx443_0 := (HB.out.cell (World.block_lt_of_cell? w _ hx443_0)).trans hx443_0
   replace hx443_1 := (HB.out.cell (World.block_lt_of_cell? w _ hx443_1)).trans hx443_1
   replace hx443_2 := (HB.out.cell (World.block_lt_of_cell? w _ hx443_2)).trans hx443_2
   have HR443_1 := Aside0.mk hi443_1
   have HC443_1 := Aside0.mk hl443_1
   clear hi443_1 hl443_1
   replace p443 := eq_true p443
   replace q443 := eq_true q443
   go_wp2_with (first | ((with_reducible refine gate_dst (N := 8) rfl ?_); refine box_event rfl (N := 8) rfl (cs := #[.int .i64 0, .slice none 0 0, .int .i64 0]) (t := 100) (by go_simp <;> rfl) ?_; intro gb444 hg w19 hbox hb; have BK444 := Aside0.mk (hbox); have GE444 := (Ge.of hg : Ge w.heap.size gb444); replace HB := (Bw.sw w hb); clear hb hbox hg; obtain ⟨hcz20_0, hcz20_1, hcz20_2, hfz20_0, hfz20_1, hfz20_2⟩ := blk3 BK444.out; have p445 : 0 ≤ (x13_1 : Int) := of_decide_eq_true (by first | (with_reducible assumption) | assumption); have q445 : x13_1 < (l1.length : Int) := of_decide_eq_true (by first | (with_reducible assumption) | assumption); obtain ⟨ad445, A445_1, c445_1, e445, hx445_0, hx445_1, hx445_2, hl445_1, hi445_1⟩ := at_T100 HR1.out x13_1 p445 q445; cases e445; have hn445_0 : ad445.block ≠ gb444 := Nat.ne_of_lt (Nat.lt_of_lt_of_le (by have := World.block_lt_of_cell? _ _ hx445_0; first | rwa [add_block] at this | exact this) GE444.out); have hn445_1 : ad445.block ≠ gb444 := Nat.ne_of_lt (Nat.lt_of_lt_of_le (by have := World.block_lt_of_cell? _ _ hx445_0; first | rwa [add_block] at this | exact this) GE444.out); have hn445_2 : ad445.block ≠ gb444 := Nat.ne_of_lt (Nat.lt_of_lt_of_le (by have := World.block_lt_of_cell? _ _ hx445_0; first | rwa [add_block] at this | exact this) GE444.out); replace hx445_0 := (HB.out.cell (World.block_lt_of_cell? w _ hx445_0)).trans hx445_0; replace hx445_1 := (HB.out.cell (World.block_lt_of_cell? w _ hx445_1)).trans hx445_1; replace hx445_2 := (HB.out.cell (World.block_lt_of_cell? w _ hx445_2)).trans hx445_2; have HR445_1 := Aside0.mk hi445_1; have HC445_1 := Aside0.mk hl445_1; clear hi445_1 hl445_1; replace hx445_0 := (cell_far (p := ⟨gb444, 0, none⟩) (by first | (rw [add_block]; exact hn445_0) | (show (Addr.add _ _).block ≠ _; rw [add_block]; exact hn445_0) | exact hn445_0) (.int .i64 ((rd_T100 l0 x13_1).f0))).trans hx445_0; replace hx445_1 := (cell_far (p := ⟨gb444, 0, none⟩) (by first | (rw [add_block]; exact hn445_0) | (show (Addr.add _ _).block ≠ _; rw [add_block]; exact hn445_0) | exact hn445_0) (.int .i64 ((rd_T100 l0 x13_1).f0))).trans hx445_1; replace hx445_2 := (cell_far (p := ⟨gb444, 0, none⟩) (by first | (rw [add_block]; exact hn445_0) | (show (Addr.add _ _).block ≠ _; rw [add_block]; exact hn445_0) | exact hn445_0) (.int .i64 ((rd_T100 l0 x13_1).f0))).trans hx445_2; replace hx445_0 := (cell_far (p := ⟨gb444, 1, none⟩) (by first | (rw [add_block]; exact hn445_1) | (show (Addr.add _ _).block ≠ _; rw [add_block]; exact hn445_1) | exact hn445_1) (.slice A443_1 ((rd_T100 l0 x13_1).f1).length c443_1)).trans hx445_0; replace hx445_1 := (cell_far (p := ⟨gb444, 1, none⟩) (by first | (rw [add_block]; exact hn445_1) | (show (Addr.add _ _).block ≠ _; rw [add_block]; exact hn445_1) | exact hn445_1) (.slice A443_1 ((rd_T100 l0 x13_1).f1).length c443_1)).trans hx445_1; replace hx445_2 := (cell_far (p := ⟨gb444, 1, none⟩) (by first | (rw [add_block]; exact hn445_1) | (show (Addr.add _ _).block ≠ _; rw [add_block]; exact hn445_1) | exact hn445_1) (.slice A443_1 ((rd_T100 l0 x13_1).f1).length c443_1)).trans hx445_2; replace hx445_0 := (cell_far (p := ⟨gb444, 2, none⟩) (by first | (rw [add_block]; exact hn445_2) | (show (Addr.add _ _).block ≠ _; rw [add_block]; exact hn445_2) | exact hn445_2) (.int .i64 ((rd_T100 l0 x13_1).f2))).trans hx445_0; replace hx445_1 := (cell_far (p := ⟨gb444, 2, none⟩) (by first | (rw [add_block]; exact hn445_2) | (show (Addr.add _ _).block ≠ _; rw [add_block]; exact hn445_2) | exact hn445_2) (.int .i64 ((rd_T100 l0 x13_1).f2))).trans hx445_1; replace hx445_2 := (cell_far (p := ⟨gb444, 2, none⟩) (by first | (rw [add_block]; exact hn445_2) | (show (Addr.add _ _).block ≠ _; rw [add_block]; exact hn445_2) | exact hn445_2) (.int .i64 ((rd_T100 l0 x13_1).f2))).trans hx445_2; clear hn445_0; clear hn445_1; clear hn445_2; replace p445 := eq_true p445; replace q445 := eq_true q445) | ((with_reducible refine gate_dst (N := 9) rfl ?_); refine box_event rfl (N := 9) rfl (cs := #[.int .i64 0, .slice none 0 0, .int .i64 0]) (t := 100) (by go_simp <;> rfl) ?_; intro gb446 hg w21 hbox hb; have BK446 := Aside0.mk (hbox); have GE446 := (Ge.of hg : Ge w.heap.size gb446); have NB444_446 := Aside0.mk ((by rw [hg]; exact Nat.ne_of_lt (blk_lt (g := gb444) (o := .cells #[.int .i64 ((rd_T100 l0 x13_1).f0), .slice A443_1 ((rd_T100 l0 x13_1).f1).length c443_1, .int .i64 ((rd_T100 l0 x13_1).f2)] 100 (0, 0)) (by (with_reducible repeat (first | refine blk_drewN ?_ _ | refine blk_drew ?_ | refine blk_alloc ?_ _)); refine blk_put (cs := #[.int .i64 ((rd_T100 l0 x13_1).f0), .slice A443_1 ((rd_T100 l0 x13_1).f1).length c443_1, .int .i64 0]) ?_ 2 _ rfl; (with_reducible repeat (first | refine blk_drewN ?_ _ | refine blk_drew ?_ | refine blk_alloc ?_ _)); refine blk_put (cs := #[.int .i64 ((rd_T100 l0 x13_1).f0), .slice none 0 0, .int .i64 0]) ?_ 1 _ rfl; (with_reducible repeat (first | refine blk_drewN ?_ _ | refine blk_drew ?_ | refine blk_alloc ?_ _)); refine blk_put (cs := #[.int .i64 0, .slice none 0 0, .int .i64 0]) ?_ 0 _ rfl; (with_reducible repeat (first | refine blk_drewN ?_ _ | refine blk_drew ?_ | refine blk_alloc ?_ _)); exact BK444.out)) : gb444 ≠ gb446)); have NB446_444 := Aside0.mk ((by rw [hg]; exact Nat.ne_of_gt (blk_lt (g := gb444) (o := .cells #[.int .i64 ((rd_T100 l0 x13_1).f0), .slice A443_1 ((rd_T100 l0 x13_1).f1).length c443_1, .int .i64 ((rd_T100 l0 x13_1).f2)] 100 (0, 0)) (by (with_reducible repeat (first | refine blk_drewN ?_ _ | refine blk_drew ?_ | refine blk_alloc ?_ _)); refine blk_put (cs := #[.int .i64 ((rd_T100 l0 x13_1).f0), .slice A443_1 ((rd_T100 l0 x13_1).f1).length c443_1, .int .i64 0]) ?_ 2 _ rfl; (with_reducible repeat (first | refine blk_drewN ?_ _ | refine blk_drew ?_ | refine blk_alloc ?_ _)); refine blk_put (cs := #[.int .i64 ((rd_T100 l0 x13_1).f0), .slice none 0 0, .int .i64 0]) ?_ 1 _ rfl; (with_reducible repeat (first | refine blk_drewN ?_ _ | refine blk_drew ?_ | refine blk_alloc ?_ _)); refine blk_put (cs := #[.int .i64 0, .slice none 0 0, .int .i64 0]) ?_ 0 _ rfl; (with_reducible repeat (first | refine blk_drewN ?_ _ | refine blk_drew ?_ | refine blk_alloc ?_ _)); exact BK444.out)) : gb446 ≠ gb444)); replace BK444 := Aside0.mk (blk_below (g := gb444) (o := .cells #[.int .i64 ((rd_T100 l0 x13_1).f0), .slice A443_1 ((rd_T100 l0 x13_1).f1).length c443_1, .int .i64 ((rd_T100 l0 x13_1).f2)] 100 (0, 0)) (by (with_reducible repeat (first | refine blk_drewN ?_ _ | refine blk_drew ?_ | refine blk_alloc ?_ _)); refine blk_put (cs := #[.int .i64 ((rd_T100 l0 x13_1).f0), .slice A443_1 ((rd_T100 l0 x13_1).f1).length c443_1, .int .i64 0]) ?_ 2 _ rfl; (with_reducible repeat (first | refine blk_drewN ?_ _ | refine blk_drew ?_ | refine blk_alloc ?_ _)); refine blk_put (cs := #[.int .i64 ((rd_T100 l0 x13_1).f0), .slice none 0 0, .int .i64 0]) ?_ 1 _ rfl; (with_reducible repeat (first | refine blk_drewN ?_ _ | refine blk_drew ?_ | refine blk_alloc ?_ _)); refine blk_put (cs := #[.int .i64 0, .slice none 0 0, .int .i64 0]) ?_ 0 _ rfl; (with_reducible repeat (first | refine blk_drewN ?_ _ | refine blk_drew ?_ | refine blk_alloc ?_ _)); exact BK444.out) hb); replace HB := (Bw.sw w hb); clear hb hbox hg; have hnb22 := NB446_444.out; have hnc22 := NB444_446.out; obtain ⟨hcz23_0, hcz23_1, hcz23_2, hfz23_0, hfz23_1, hfz23_2⟩ := blk3 BK446.out; obtain ⟨hcz24_0, hcz24_1, hcz24_2, hfz24_0, hfz24_1, hfz24_2⟩ := blk3 BK444.out) | (go_at_call 135; (with_reducible refine (impl_compareSteps.calls k1 ((rd_T100 l0 x13_1).f0) _ _ ((rd_T100 l0 x13_1).f1) ((rd_T100 l0 x13_1).f2) ((rd_T100 l1 x13_1).f0) _ _ ((rd_T100 l1 x13_1).f1) ((rd_T100 l1 x13_1).f2) t447 _ ?side1 ?side2 ?side3 ?side4 A10.out).mono ?_); (case side1 => exact Kd.C_below HR443_1.out bw); (case side2 => exact HC443_1.out); (case side3 => exact Kd.C_below HR445_1.out bw); (case side4 => exact HC445_1.out); rintro e w25 ⟨rfl, hb⟩; replace BK444 := Aside0.mk (blk_below (g := gb444) (o := .cells #[.int .i64 ((rd_T100 l0 x13_1).f0), .slice A443_1 ((rd_T100 l0 x13_1).f1).length c443_1, .int .i64 ((rd_T100 l0 x13_1).f2)] 100 (0, 0)) (by (with_reducible repeat (first | refine blk_drewN ?_ _ | refine blk_drew ?_ | refine blk_alloc ?_ _)); refine blk_far ?_ NB444_446.out _; (with_reducible repeat (first | refine blk_drewN ?_ _ | refine blk_drew ?_ | refine blk_alloc ?_ _)); refine blk_far ?_ NB444_446.out _; (with_reducible repeat (first | refine blk_drewN ?_ _ | refine blk_drew ?_ | refine blk_alloc ?_ _)); refine blk_far ?_ NB444_446.out _; (with_reducible repeat (first | refine blk_drewN ?_ _ | refine blk_drew ?_ | refine blk_alloc ?_ _)); exact BK444.out) hb); replace BK446 := Aside0.mk (blk_below (g := gb446) (o := .cells #[.int .i64 ((rd_T100 l1 x13_1).f0), .slice A445_1 ((rd_T100 l1 x13_1).f1).length c445_1, .int .i64 ((rd_T100 l1 x13_1).f2)] 100 (0, 0)) (by (with_reducible repeat (first | refine blk_drewN ?_ _ | refine blk_drew ?_ | refine blk_alloc ?_ _)); refine blk_put (cs := #[.int .i64 ((rd_T100 l1 x13_1).f0), .slice A445_1 ((rd_T100 l1 x13_1).f1).length c445_1, .int .i64 0]) ?_ 2 _ rfl; (with_reducible repeat (first | refine blk_drewN ?_ _ | refine blk_drew ?_ | refine blk_alloc ?_ _)); refine blk_put (cs := #[.int .i64 ((rd_T100 l1 x13_1).f0), .slice none 0 0, .int .i64 0]) ?_ 1 _ rfl; (with_reducible repeat (first | refine blk_drewN ?_ _ | refine blk_drew ?_ | refine blk_alloc ?_ _)); refine blk_put (cs := #[.int .i64 0, .slice none 0 0, .int .i64 0]) ?_ 0 _ rfl; (with_reducible repeat (first | refine blk_drewN ?_ _ | refine blk_drew ?_ | refine blk_alloc ?_ _)); exact BK446.out) hb); replace HB := (Bw.sw w hb); (try clear hb)))
   go_ret
   exact ⟨by first | rfl | (simp [errW_none, errW_some] <;> rfl) | (simp [*, errW_none, errW_some] <;> rfl), bw⟩

/-! ### impl_comparePaths: function 96 -/
def impl_comparePaths.f (k : Nat) (l0 : List (S100)) (l1 : List (S100)) : Option (Int) := (x_CompareFunc_at_impl_compareSteps.f k l0 l1).bind fun t448 => (some t448)
theorem impl_comparePaths.mono : ∀ a0 a1 k, LeO (impl_comparePaths.f k a0 a1) (impl_comparePaths.f (k + 1) a0 a1) := by
 intro a0 a1 k
 unfold impl_comparePaths.f
 repeat' first
   | (with_reducible exact x_CompareFunc_at_impl_compareSteps.mono _ _ _)
   | (with_reducible exact LeO.refl _)
   | (with_reducible exact LeO.none _)
   | (with_reducible refine LeO.ite ?_ ?_)
   | (with_reducible refine LeO.bind ?_ (fun _ => ?_))
   | exact x_CompareFunc_at_impl_compareSteps.mono _ _ _
   | exact LeO.none _
   | refine LeO.ite ?_ ?_
   | refine LeO.bind ?_ (fun _ => ?_)
set_option maxHeartbeats 8000000 in
set_option maxRecDepth 100000 in
theorem impl_comparePaths.calls (k : Nat) (A0 : Option Addr) (c0 : Nat) (l0 : List (S100)) (A1 : Option Addr) (c1 : Nat) (l1 : List (S100)) (r : Int) (w : World) (hr0 : Kd.C k100 w A0 l0.length l0) (hc0 : l0.length ≤ c0) (hr1 : Kd.C k100 w A1 l1.length l1) (hc1 : l1.length ≤ c1) (h : impl_comparePaths.f k l0 l1 = some r) :
  Calls Try.prog 96 #[.slice A0 l0.length c0, .slice A1 l1.length c1] w fun e w' => e = .returned (.int .i64 r) ∧ Below w.heap.size w w' := by
 have HR0 := Aside0.mk hr0
 have HC0 := Aside0.mk hc0
 clear hr0 hc0
 have HR1 := Aside0.mk hr1
 have HC1 := Aside0.mk hc1
 clear hr1 hc1
 have HB := Bw.refl w
 have H : ((x_CompareFunc_at_impl_compareSteps.f k l0 l1).bind fun t448 => (some t448)) = some r := h
 clear h
 replace H := Option.bind_eq_some_iff.mp H
 obtain ⟨t448, A30, H⟩ := H
 have A3 := Aside0.mk A30
 clear A30
 obtain rfl := Option.some.inj H
 go_enter Try.func96, Try.ntmps96
 go_wp2_with (first | ((with_reducible refine gg (f := 134) (some 7) rfl rfl rfl fr134 ?_); refine onc (x_CompareFunc_at_impl_compareSteps.calls k _ _ l0 _ _ l1 t448 _ (cb HR0) HC0.out (cb HR1) HC1.out A3.out) rfl ?_; rintro e w4 ⟨rfl, hb⟩; refine ⟨_, rfl, ?_⟩; replace HB := (Bw.sw w hb); (try clear hb)))
 go_ret
 exact ⟨by first | rfl | (simp [errW_none, errW_some] <;> rfl) | (simp [*, errW_none, errW_some] <;> rfl), bw⟩

end Go.Proofs.Ytockllljeeakaaa.PFnExactChangesOk
