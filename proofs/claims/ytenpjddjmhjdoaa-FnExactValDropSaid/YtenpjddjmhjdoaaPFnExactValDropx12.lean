/- What the law reaches: each function as a plain Lean function, and that each call comes to it. No condition. -/
import Derived.Test.YtenpjddjmhjdoaaPFnExactValDropx0
import Derived.Test.YtenpjddjmhjdoaaPFnExactValDropx10
import Derived.Test.YtenpjddjmhjdoaaPFnExactValDropx11
namespace Go.Proofs.Ytenpjddjmhjdoaa.PFnExactValDrop
open Go.RowKit Go.Proofs.YtenpjddjmhjdoaaW.PrintWords Go.Proofs.YtenpjddjmhjdoaaW.PrintLast Go.Proofs.YtenpjddjmhjdoaaW.PrintMore Go.Proofs.Ytenpjddjmhjdoaa.M
attribute [local go_sem] max2_int min2_int max_two min_two max_three min_three max_four min_four Go.Proofs.Ytenpjddjmhjdoaa.M.str_gtr Go.Proofs.Ytenpjddjmhjdoaa.M.str_leq Go.Proofs.Ytenpjddjmhjdoaa.M.str_geq   -- for this text's walks alone
set_option linter.unusedVariables false
set_option linter.unusedSimpArgs false

/-! ### impl_Value_parts: function 103 -/
mutual
def impl_Value_parts.l0 : Nat → Int → List (S30) → Int → Int → Option (Int)
 | 0, _, _, _, _ => none
 | k + 1, x3, x7, x8, x9 => if x9 < x8 then (if 0 ≤ x9 then (if x9 < (x7.length : Int) then ((impl_Value_parts.f k ((rd_T30 x7 x9).f0) ((rd_T30 x7 x9).f1) ((rd_T30 x7 x9).f2) ((rd_T30 x7 x9).f3) ((rd_T30 x7 x9).f4)).bind fun t400 => (impl_Value_parts.l0 k (wrap64 (x3 + t400)) x7 x8 (wrap64 (x9 + 1)))) else (none)) else (none)) else (some x3)
def impl_Value_parts.f : Nat → Int → Int → List Int → List (List Int) → List (S30) → Option (Int)
 | 0, _, _, _, _, _ => none
 | k + 1, a0_0, a0_1, l0_2, l0_3, l0_4 => impl_Value_parts.l0 k 1 l0_4 (l0_4.length : Int) 0
end
set_option maxHeartbeats 8000000 in
set_option maxRecDepth 100000 in
theorem impl_Value_parts.calls (k : Nat) : ∀ (a0_0 : Int) (a0_1 : Int) (A0_2 : Option Addr) (c0_2 : Nat) (l0_2 : List Int) (A0_3 : Option Addr) (c0_3 : Nat) (l0_3 : List (List Int)) (A0_4 : Option Addr) (c0_4 : Nat) (l0_4 : List (S30)) (r : Int) (w : World) (hr0_2 : Kd.C (Kd.int .u8) w A0_2 l0_2.length l0_2) (hc0_2 : l0_2.length ≤ c0_2) (hr0_3 : Kd.C (Kd.slice 5 (Kd.int .u8)) w A0_3 l0_3.length l0_3) (hc0_3 : l0_3.length ≤ c0_3) (hr0_4 : Kd.C k30 w A0_4 l0_4.length l0_4) (hc0_4 : l0_4.length ≤ c0_4) (h : impl_Value_parts.f k a0_0 a0_1 l0_2 l0_3 l0_4 = some r),
  Calls Try.prog 103 #[.agg #[.int .i64 a0_0, .int .i64 a0_1, .slice A0_2 l0_2.length c0_2, .slice A0_3 l0_3.length c0_3, .slice A0_4 l0_4.length c0_4]] w fun e w' => e = .returned (.int .i64 r) ∧ Below w.heap.size w w' := by
 induction k using Nat.strongRecOn with
 | _ k ih =>
 intro a0_0 a0_1 A0_2 c0_2 l0_2 A0_3 c0_3 l0_3 A0_4 c0_4 l0_4 r w hr0_2 hc0_2 hr0_3 hc0_3 hr0_4 hc0_4 h
 cases k with
 | zero => exact absurd h (by simp [impl_Value_parts.f])
 | succ k =>
 simp only [impl_Value_parts.f] at h
 have hu30 := Try.underlying30; have HR0_2 := Aside0.mk hr0_2; have HC0_2 := Aside0.mk hc0_2; clear hr0_2 hc0_2; have HR0_3 := Aside0.mk hr0_3; have HC0_3 := Aside0.mk hc0_3; clear hr0_3 hc0_3; have HR0_4 := Aside0.mk hr0_4; have HC0_4 := Aside0.mk hc0_4; clear hr0_4 hc0_4; have HB := Bw.refl w; have H : (impl_Value_parts.l0 k 1 l0_4 (l0_4.length : Int) 0) = some r := h; clear h; have H' := Aside0.mk H; clear H
 go_enter Try.func103, Try.ntmps103
 go_wp2_with (first | ((with_reducible refine gate_dst (N := 1) rfl ?_); refine box_event rfl (N := 1) rfl (cs := #[.int .i64 a0_0, .int .i64 a0_1, .slice A0_2 l0_2.length c0_2, .slice A0_3 l0_3.length c0_3, .slice A0_4 l0_4.length c0_4]) (t := 30) (by go_simp <;> rfl) ?_; intro gb397 hg w2 hbox hb; have BK397 := Aside0.mk (hbox); have GE397 := (Ge.of hg : Ge w.heap.size gb397); replace HB := (Bw.sw w hb); clear hb hbox hg; obtain ⟨hcz3_0, hcz3_1, hcz3_2, hcz3_3, hcz3_4, hfz3_0, hfz3_1, hfz3_2, hfz3_3, hfz3_4⟩ := blk5 BK397.out))
 go_loopg [3, 9] k (fun kq v3 v9 w' => ∃ (x3_1 : Int) (x9_1 : Int), v3 = .int .i64 x3_1 ∧ v9 = .int .i64 x9_1 ∧ Aside0 (impl_Value_parts.l0 kq x3_1 l0_4 (l0_4.length : Int) x9_1 = some r) ∧ Aside0 (kq ≤ k) ∧ Aside0 (w'.heap[gb397]? = some (.cells #[.int .i64 a0_0, .int .i64 a0_1, (.slice A0_2 l0_2.length c0_2), (.slice A0_3 l0_3.length c0_3), (.slice A0_4 l0_4.length c0_4)] 30 (0, 0))) ∧ Bw w w')
 case atStart => exact ⟨(1), (0), rfl, rfl, H', ⟨Nat.le_refl _⟩, ⟨by exact BK397.out⟩, ⟨bw⟩⟩
 case round =>
  clear H'; (try clear hcz3_0 hcz3_1 hcz3_2 hcz3_3 hcz3_4); (try clear hfz3_0 hfz3_1 hfz3_2 hfz3_3 hfz3_4); obtain ⟨x3_1, x9_1, rfl, rfl, HA, HK1, BK397, HB⟩ := hrel
  cases gk with
  | zero => exact absurd HA.out (by simp [impl_Value_parts.l0])
  | succ k1 =>
   have H := HA.out; clear HA
   simp only [impl_Value_parts.l0] at H
   by_cases c4 : x9_1 < (l0_4.length : Int)
   ·rw [if_pos c4] at H
    have c4b0 : decide (x9_1 < (l0_4.length : Int)) = true := decide_eq_true c4; clear c4
    by_cases c5 : 0 ≤ x9_1
    ·rw [if_pos c5] at H
     have c5b0 : decide (0 ≤ x9_1) = true := decide_eq_true c5; clear c5
     by_cases c6 : x9_1 < (l0_4.length : Int)
     ·rw [if_pos c6] at H
      have c6b0 : decide (x9_1 < (l0_4.length : Int)) = true := decide_eq_true c6; clear c6; replace H := Option.bind_eq_some_iff.mp H; obtain ⟨t400, A70, H⟩ := H; replace H : (impl_Value_parts.l0 k1 (wrap64 (x3_1 + t400)) l0_4 (l0_4.length : Int) (wrap64 (x9_1 + 1))) = some r := H; have A7 := Aside0.mk A70; clear A70; have H' := Aside0.mk H; clear H
      have p398 : 0 ≤ (x9_1 : Int) := of_decide_eq_true (by first | (with_reducible assumption) | assumption)
      have q398 : x9_1 < (l0_4.length : Int) := of_decide_eq_true (by first | (with_reducible assumption) | assumption)
      obtain ⟨ad398, A398_2, c398_2, A398_3, c398_3, A398_4, c398_4, e398, hx398_0, hx398_1, hx398_2, hx398_3, hx398_4, hl398_2, hi398_2, hl398_3, hi398_3, hl398_4, hi398_4⟩ := at_T30 HR0_4.out x9_1 p398 q398; cases e398; replace hx398_0 := (HB.out.cell (World.block_lt_of_cell? w _ hx398_0)).trans hx398_0; replace hx398_1 := (HB.out.cell (World.block_lt_of_cell? w _ hx398_1)).trans hx398_1; replace hx398_2 := (HB.out.cell (World.block_lt_of_cell? w _ hx398_2)).trans hx398_2; replace hx398_3 := (HB.out.cell (World.block_lt_of_cell? w _ hx398_3)).trans hx398_3; replace hx398_4 := (HB.out.cell (World.block_lt_of_cell? w _ hx398_4)).trans hx398_4
      have HR398_2 := Aside0.mk hi398_2; have HC398_2 := Aside0.mk hl398_2; clear hi398_2 hl398_2; have HR398_3 := Aside0.mk hi398_3; have HC398_3 := Aside0.mk hl398_3; clear hi398_3 hl398_3; have HR398_4 := Aside0.mk hi398_4; have HC398_4 := Aside0.mk hl398_4; clear hi398_4 hl398_4; replace p398 := eq_true p398; replace q398 := eq_true q398
      go_wp2_with (first | ((with_reducible refine gate_dst (N := 5) rfl ?_); refine box_event rfl (N := 5) rfl (cs := #[.int .i64 0, .int .i64 0, .slice none 0 0, .slice none 0 0, .slice none 0 0]) (t := 30) (by go_simp <;> rfl) ?_; intro gb399 hg w8 hbox hb; have BK399 := Aside0.mk (hbox); have GE399 := (Ge.of hg : Ge w.heap.size gb399); replace HB := (Bw.sw w hb); have NB397_399 := Aside0.mk ((by rw [hg]; exact Nat.ne_of_lt (blk_lt BK397.out) : gb397 ≠ gb399)); have NB399_397 := Aside0.mk ((by rw [hg]; exact Nat.ne_of_gt (blk_lt BK397.out) : gb399 ≠ gb397)); replace BK397 := Aside0.mk (blk_below BK397.out hb); clear hb hbox hg; have hnb9 := NB399_397.out; have hnc9 := NB397_399.out; obtain ⟨hcz10_0, hcz10_1, hcz10_2, hcz10_3, hcz10_4, hfz10_0, hfz10_1, hfz10_2, hfz10_3, hfz10_4⟩ := blk5 BK399.out) | ((with_reducible refine gg (f := 103) (some 15) rfl rfl rfl fr103 ?_); refine onc (ih k1 (by have := HK1.out; omega) ((rd_T30 l0_4 x9_1).f0) ((rd_T30 l0_4 x9_1).f1) _ _ ((rd_T30 l0_4 x9_1).f2) _ _ ((rd_T30 l0_4 x9_1).f3) _ _ ((rd_T30 l0_4 x9_1).f4) t400 _ (cb HR398_2) HC398_2.out (cb HR398_3) HC398_3.out (cb HR398_4) HC398_4.out A7.out) rfl ?_; rintro e w11 ⟨rfl, hb⟩; refine ⟨_, rfl, ?_⟩; replace BK397 := Aside0.mk (blk_below (g := gb397) (o := .cells #[.int .i64 a0_0, .int .i64 a0_1, .slice A0_2 l0_2.length c0_2, .slice A0_3 l0_3.length c0_3, .slice (some ad398) l0_4.length c0_4] 30 (0, 0)) (by refine blk_far ?_ NB397_399.out _; refine blk_far ?_ NB397_399.out _; refine blk_far ?_ NB397_399.out _; refine blk_far ?_ NB397_399.out _; refine blk_far ?_ NB397_399.out _; exact BK397.out) hb); replace BK399 := Aside0.mk (blk_below (g := gb399) (o := .cells #[.int .i64 ((rd_T30 l0_4 x9_1).f0), .int .i64 ((rd_T30 l0_4 x9_1).f1), .slice A398_2 ((rd_T30 l0_4 x9_1).f2).length c398_2, .slice A398_3 ((rd_T30 l0_4 x9_1).f3).length c398_3, .slice A398_4 ((rd_T30 l0_4 x9_1).f4).length c398_4] 30 (0, 0)) (by refine blk_put (cs := #[.int .i64 ((rd_T30 l0_4 x9_1).f0), .int .i64 ((rd_T30 l0_4 x9_1).f1), .slice A398_2 ((rd_T30 l0_4 x9_1).f2).length c398_2, .slice A398_3 ((rd_T30 l0_4 x9_1).f3).length c398_3, .slice none 0 0]) ?_ 4 _ rfl; refine blk_put (cs := #[.int .i64 ((rd_T30 l0_4 x9_1).f0), .int .i64 ((rd_T30 l0_4 x9_1).f1), .slice A398_2 ((rd_T30 l0_4 x9_1).f2).length c398_2, .slice none 0 0, .slice none 0 0]) ?_ 3 _ rfl; refine blk_put (cs := #[.int .i64 ((rd_T30 l0_4 x9_1).f0), .int .i64 ((rd_T30 l0_4 x9_1).f1), .slice none 0 0, .slice none 0 0, .slice none 0 0]) ?_ 2 _ rfl; refine blk_put (cs := #[.int .i64 ((rd_T30 l0_4 x9_1).f0), .int .i64 0, .slice none 0 0, .slice none 0 0, .slice none 0 0]) ?_ 1 _ rfl; refine blk_put (cs := #[.int .i64 0, .int .i64 0, .slice none 0 0, .slice none 0 0, .slice none 0 0]) ?_ 0 _ rfl; exact BK399.out) hb); replace HB := (Bw.sw w hb); (try clear hb)))
      go_roundg k1
      case measure => have := HK1.out; omega
      case rel => exact ⟨(wrap64 (x3_1 + t400)), (wrap64 (x9_1 + 1)), rfl, rfl, H', ⟨by have := HK1.out; omega⟩, ⟨by exact BK397.out⟩, ⟨bw⟩⟩
     ·rw [if_neg c6] at H
      exact absurd H (by simp)
    ·rw [if_neg c5] at H
     exact absurd H (by simp)
   ·rw [if_neg c4] at H
    have c4b0 : decide (x9_1 < (l0_4.length : Int)) = false := decide_eq_false c4; clear c4; obtain rfl := Option.some.inj H; go_wp2; go_ret; exact ⟨rfl, bw⟩

/-! ### impl_isValue: function 68 -/
def impl_isValue.f (k : Nat) (a0_0 : Int) (a0_1 : Int) (l0_2 : List Int) (l0_3 : List (List Int)) (l0_4 : List (S30)) : Option (Bool) := (impl_isShaped.f k a0_0 a0_1 l0_2 l0_3 l0_4 5).bind fun t402 => (if t402 = true then ((impl_Value_parts.f k a0_0 a0_1 l0_2 l0_3 l0_4).bind fun t403 => (some (decide (t403 ≤ 40)))) else (some false))
set_option maxHeartbeats 8000000 in
set_option maxRecDepth 100000 in
theorem impl_isValue.calls (k : Nat) (a0_0 : Int) (a0_1 : Int) (A0_2 : Option Addr) (c0_2 : Nat) (l0_2 : List Int) (A0_3 : Option Addr) (c0_3 : Nat) (l0_3 : List (List Int)) (A0_4 : Option Addr) (c0_4 : Nat) (l0_4 : List (S30)) (r : Bool) (w : World) (hr0_2 : Kd.C (Kd.int .u8) w A0_2 l0_2.length l0_2) (hc0_2 : l0_2.length ≤ c0_2) (hr0_3 : Kd.C (Kd.slice 5 (Kd.int .u8)) w A0_3 l0_3.length l0_3) (hc0_3 : l0_3.length ≤ c0_3) (hr0_4 : Kd.C k30 w A0_4 l0_4.length l0_4) (hc0_4 : l0_4.length ≤ c0_4) (h : impl_isValue.f k a0_0 a0_1 l0_2 l0_3 l0_4 = some r) :
  Calls Try.prog 68 #[.agg #[.int .i64 a0_0, .int .i64 a0_1, .slice A0_2 l0_2.length c0_2, .slice A0_3 l0_3.length c0_3, .slice A0_4 l0_4.length c0_4]] w fun e w' => e = .returned (.bool r) ∧ Below w.heap.size w w' := by
 have hu30 := Try.underlying30; have HR0_2 := Aside0.mk hr0_2; have HC0_2 := Aside0.mk hc0_2; clear hr0_2 hc0_2; have HR0_3 := Aside0.mk hr0_3; have HC0_3 := Aside0.mk hc0_3; clear hr0_3 hc0_3; have HR0_4 := Aside0.mk hr0_4; have HC0_4 := Aside0.mk hc0_4; clear hr0_4 hc0_4; have HB := Bw.refl w
 have H : ((impl_isShaped.f k a0_0 a0_1 l0_2 l0_3 l0_4 5).bind fun t402 => (if t402 = true then ((impl_Value_parts.f k a0_0 a0_1 l0_2 l0_3 l0_4).bind fun t403 => (some (decide (t403 ≤ 40)))) else (some false))) = some r := h
 clear h; replace H := Option.bind_eq_some_iff.mp H; obtain ⟨t402, A20, H⟩ := H
 replace H : (if t402 = true then ((impl_Value_parts.f k a0_0 a0_1 l0_2 l0_3 l0_4).bind fun t403 => (some (decide (t403 ≤ 40)))) else (some false)) = some r := H
 have A2 := Aside0.mk A20; clear A20
 by_cases c3 : t402 = true
 ·subst c3
  have H1 : ((impl_Value_parts.f k a0_0 a0_1 l0_2 l0_3 l0_4).bind fun t403 => (some (decide (t403 ≤ 40)))) = some r := by rw [if_pos rfl] at H; exact H
  clear H; have H := H1; clear H1; replace H := Option.bind_eq_some_iff.mp H; obtain ⟨t403, A40, H⟩ := H; replace H : (some (decide (t403 ≤ 40))) = some r := H; have A4 := Aside0.mk A40; clear A40; obtain rfl := Option.some.inj H
  go_enter Try.func68, Try.ntmps68
  go_wp2_with (first | ((with_reducible refine gate_dst (N := 1) rfl ?_); refine box_event rfl (N := 1) rfl (cs := #[.int .i64 a0_0, .int .i64 a0_1, .slice A0_2 l0_2.length c0_2, .slice A0_3 l0_3.length c0_3, .slice A0_4 l0_4.length c0_4]) (t := 30) (by go_simp <;> rfl) ?_; intro gb401 hg w5 hbox hb; have BK401 := Aside0.mk (hbox); have GE401 := (Ge.of hg : Ge w.heap.size gb401); replace HB := (Bw.sw w hb); clear hb hbox hg; obtain ⟨hcz6_0, hcz6_1, hcz6_2, hcz6_3, hcz6_4, hfz6_0, hfz6_1, hfz6_2, hfz6_3, hfz6_4⟩ := blk5 BK401.out) | ((with_reducible refine gg (f := 102) (some 4) rfl rfl rfl fr102 ?_); refine onc (impl_isShaped.calls k a0_0 a0_1 _ _ l0_2 _ _ l0_3 _ _ l0_4 5 true _ (cb HR0_2) HC0_2.out (cb HR0_3) HC0_3.out (cb HR0_4) HC0_4.out A2.out) rfl ?_; rintro e w7 ⟨rfl, hb⟩; refine ⟨_, rfl, ?_⟩; replace BK401 := Aside0.mk (blk_below BK401.out hb); replace HB := (Bw.sw w hb); (try clear hb); obtain ⟨hcz8_0, hcz8_1, hcz8_2, hcz8_3, hcz8_4, hfz8_0, hfz8_1, hfz8_2, hfz8_3, hfz8_4⟩ := blk5 BK401.out) | (go_at_call 103; (with_reducible refine (impl_Value_parts.calls k a0_0 a0_1 _ _ l0_2 _ _ l0_3 _ _ l0_4 t403 _ ?side1 ?side2 ?side3 ?side4 ?side5 ?side6 A4.out).mono ?_); (case side1 => exact (Kd.C_below HR0_2.out HB.out)); (case side2 => exact HC0_2.out); (case side3 => exact (Kd.C_below HR0_3.out HB.out)); (case side4 => exact HC0_3.out); (case side5 => exact (Kd.C_below HR0_4.out HB.out)); (case side6 => exact HC0_4.out); rintro e w9 ⟨rfl, hb⟩; replace BK401 := Aside0.mk (blk_below BK401.out hb); replace HB := (Bw.sw w hb); (try clear hb)))
  go_ret; exact ⟨rfl, bw⟩
 ·replace c3 := Bool.eq_false_iff.mpr c3
  subst c3
  have H1 : (some false) = some r := by rw [if_neg (show ¬ (false = true) by decide)] at H; exact H
  clear H; have H := H1; clear H1; obtain rfl := Option.some.inj H
  go_enter Try.func68, Try.ntmps68
  go_wp2_with (first | ((with_reducible refine gate_dst (N := 1) rfl ?_); refine box_event rfl (N := 1) rfl (cs := #[.int .i64 a0_0, .int .i64 a0_1, .slice A0_2 l0_2.length c0_2, .slice A0_3 l0_3.length c0_3, .slice A0_4 l0_4.length c0_4]) (t := 30) (by go_simp <;> rfl) ?_; intro gb401 hg w10 hbox hb; have BK401 := Aside0.mk (hbox); have GE401 := (Ge.of hg : Ge w.heap.size gb401); replace HB := (Bw.sw w hb); clear hb hbox hg; obtain ⟨hcz11_0, hcz11_1, hcz11_2, hcz11_3, hcz11_4, hfz11_0, hfz11_1, hfz11_2, hfz11_3, hfz11_4⟩ := blk5 BK401.out) | ((with_reducible refine gg (f := 102) (some 4) rfl rfl rfl fr102 ?_); refine onc (impl_isShaped.calls k a0_0 a0_1 _ _ l0_2 _ _ l0_3 _ _ l0_4 5 false _ (cb HR0_2) HC0_2.out (cb HR0_3) HC0_3.out (cb HR0_4) HC0_4.out A2.out) rfl ?_; rintro e w12 ⟨rfl, hb⟩; refine ⟨_, rfl, ?_⟩; replace BK401 := Aside0.mk (blk_below BK401.out hb); replace HB := (Bw.sw w hb); (try clear hb)))
  go_ret; exact ⟨rfl, bw⟩

/-! ### impl_isMap: function 57 -/
def impl_isMap.f (k : Nat) (a0_0 : Int) (a0_1 : Int) (l0_2 : List Int) (l0_3 : List (List Int)) (l0_4 : List (S30)) : Option (Bool) := if a0_0 = 5 then ((impl_isValue.f k a0_0 a0_1 l0_2 l0_3 l0_4).bind fun t405 => (some t405)) else (some false)
set_option maxHeartbeats 8000000 in
set_option maxRecDepth 100000 in
theorem impl_isMap.calls (k : Nat) (a0_0 : Int) (a0_1 : Int) (A0_2 : Option Addr) (c0_2 : Nat) (l0_2 : List Int) (A0_3 : Option Addr) (c0_3 : Nat) (l0_3 : List (List Int)) (A0_4 : Option Addr) (c0_4 : Nat) (l0_4 : List (S30)) (r : Bool) (w : World) (hr0_2 : Kd.C (Kd.int .u8) w A0_2 l0_2.length l0_2) (hc0_2 : l0_2.length ≤ c0_2) (hr0_3 : Kd.C (Kd.slice 5 (Kd.int .u8)) w A0_3 l0_3.length l0_3) (hc0_3 : l0_3.length ≤ c0_3) (hr0_4 : Kd.C k30 w A0_4 l0_4.length l0_4) (hc0_4 : l0_4.length ≤ c0_4) (h : impl_isMap.f k a0_0 a0_1 l0_2 l0_3 l0_4 = some r) :
  Calls Try.prog 57 #[.agg #[.int .i64 a0_0, .int .i64 a0_1, .slice A0_2 l0_2.length c0_2, .slice A0_3 l0_3.length c0_3, .slice A0_4 l0_4.length c0_4]] w fun e w' => e = .returned (.bool r) ∧ Below w.heap.size w w' := by
 have hu30 := Try.underlying30; have HR0_2 := Aside0.mk hr0_2; have HC0_2 := Aside0.mk hc0_2; clear hr0_2 hc0_2; have HR0_3 := Aside0.mk hr0_3; have HC0_3 := Aside0.mk hc0_3; clear hr0_3 hc0_3; have HR0_4 := Aside0.mk hr0_4; have HC0_4 := Aside0.mk hc0_4; clear hr0_4 hc0_4; have HB := Bw.refl w
 have H : (if a0_0 = 5 then ((impl_isValue.f k a0_0 a0_1 l0_2 l0_3 l0_4).bind fun t405 => (some t405)) else (some false)) = some r := h
 clear h
 by_cases c2 : a0_0 = 5
 ·rw [if_pos c2] at H
  have c2b0 : (a0_0 == 5) = true := beq_iff_eq.mpr c2; have c2b1 : (a0_0 != 5) = false := bne_eq_false_iff_eq.mpr c2; clear c2; replace H := Option.bind_eq_some_iff.mp H; obtain ⟨t405, A30, H⟩ := H; replace H : (some t405) = some r := H; have A3 := Aside0.mk A30; clear A30; obtain rfl := Option.some.inj H
  go_enter Try.func57, Try.ntmps57
  go_wp2_with (first | ((with_reducible refine gate_dst (N := 1) rfl ?_); refine box_event rfl (N := 1) rfl (cs := #[.int .i64 a0_0, .int .i64 a0_1, .slice A0_2 l0_2.length c0_2, .slice A0_3 l0_3.length c0_3, .slice A0_4 l0_4.length c0_4]) (t := 30) (by go_simp <;> rfl) ?_; intro gb404 hg w4 hbox hb; have BK404 := Aside0.mk (hbox); have GE404 := (Ge.of hg : Ge w.heap.size gb404); replace HB := (Bw.sw w hb); clear hb hbox hg; obtain ⟨hcz5_0, hcz5_1, hcz5_2, hcz5_3, hcz5_4, hfz5_0, hfz5_1, hfz5_2, hfz5_3, hfz5_4⟩ := blk5 BK404.out) | (go_at_call 68; (with_reducible refine (impl_isValue.calls k a0_0 a0_1 _ _ l0_2 _ _ l0_3 _ _ l0_4 t405 _ ?side1 ?side2 ?side3 ?side4 ?side5 ?side6 A3.out).mono ?_); (case side1 => exact (Kd.C_below HR0_2.out HB.out)); (case side2 => exact HC0_2.out); (case side3 => exact (Kd.C_below HR0_3.out HB.out)); (case side4 => exact HC0_3.out); (case side5 => exact (Kd.C_below HR0_4.out HB.out)); (case side6 => exact HC0_4.out); rintro e w6 ⟨rfl, hb⟩; replace BK404 := Aside0.mk (blk_below BK404.out hb); replace HB := (Bw.sw w hb); (try clear hb)))
  go_ret; exact ⟨rfl, bw⟩
 ·rw [if_neg c2] at H
  have c2b0 : (a0_0 == 5) = false := beq_eq_false_iff_ne.mpr c2; have c2b1 : (a0_0 != 5) = true := bne_iff_ne.mpr c2; obtain rfl := Option.some.inj H
  go_enter Try.func57, Try.ntmps57
  go_wp2_with (first | ((with_reducible refine gate_dst (N := 1) rfl ?_); refine box_event rfl (N := 1) rfl (cs := #[.int .i64 a0_0, .int .i64 a0_1, .slice A0_2 l0_2.length c0_2, .slice A0_3 l0_3.length c0_3, .slice A0_4 l0_4.length c0_4]) (t := 30) (by go_simp <;> rfl) ?_; intro gb404 hg w7 hbox hb; have BK404 := Aside0.mk (hbox); have GE404 := (Ge.of hg : Ge w.heap.size gb404); replace HB := (Bw.sw w hb); clear hb hbox hg; obtain ⟨hcz8_0, hcz8_1, hcz8_2, hcz8_3, hcz8_4, hfz8_0, hfz8_1, hfz8_2, hfz8_3, hfz8_4⟩ := blk5 BK404.out))
  go_ret; exact ⟨rfl, bw⟩

/-! ### x_BinarySearchFunc_at_bytes_Compare: function 98 -/
def x_BinarySearchFunc_at_bytes_Compare.l0 : Nat → List (List Int) → List Int → Int → Int → Int → Option (Int × Bool)
 | 0, _, _, _, _, _ => none
 | k + 1, x0, x1, x8, x9, x10 => if x9 < x10 then (if 0 ≤ (wrap64 ((IntKind.u64.wrap (wrap64 (x9 + x10))) / 2)) then (if (wrap64 ((IntKind.u64.wrap (wrap64 (x9 + x10))) / 2)) < (x0.length : Int) then ((bytes_Compare.f (rd_L1 x0 (wrap64 ((IntKind.u64.wrap (wrap64 (x9 + x10))) / 2))) x1).bind fun t407 => (if t407 < 0 then (x_BinarySearchFunc_at_bytes_Compare.l0 k x0 x1 x8 (wrap64 ((wrap64 ((IntKind.u64.wrap (wrap64 (x9 + x10))) / 2)) + 1)) x10) else (x_BinarySearchFunc_at_bytes_Compare.l0 k x0 x1 x8 x9 (wrap64 ((IntKind.u64.wrap (wrap64 (x9 + x10))) / 2))))) else (none)) else (none)) else (if x9 < x8 then (if 0 ≤ x9 then (if x9 < (x0.length : Int) then ((bytes_Compare.f (rd_L1 x0 x9) x1).bind fun t409 => (some (x9, (t409 == 0)))) else (none)) else (none)) else (some (x9, false)))
def x_BinarySearchFunc_at_bytes_Compare.f (k : Nat) (l0 : List (List Int)) (l1 : List Int) : Option (Int × Bool) := x_BinarySearchFunc_at_bytes_Compare.l0 k l0 l1 (l0.length : Int) 0 (l0.length : Int)
set_option maxHeartbeats 8000000 in
set_option maxRecDepth 100000 in
theorem x_BinarySearchFunc_at_bytes_Compare.calls (k : Nat) (A0 : Option Addr) (c0 : Nat) (l0 : List (List Int)) (A1 : Option Addr) (c1 : Nat) (l1 : List Int) (r1 : Int) (r2 : Bool) (w : World) (hr0 : Kd.C (Kd.slice 5 (Kd.int .u8)) w A0 l0.length l0) (hc0 : l0.length ≤ c0) (hr1 : Kd.C (Kd.int .u8) w A1 l1.length l1) (hc1 : l1.length ≤ c1) (h : x_BinarySearchFunc_at_bytes_Compare.f k l0 l1 = some (r1, r2)) :
  Calls Try.prog 98 #[.slice A0 l0.length c0, .slice A1 l1.length c1, .func (.func 99) #[] #[]] w fun e w' => e = .returned (.tuple #[.int .i64 r1, .bool r2]) ∧ Drawn0 w w' := by
 have HR0 := Aside0.mk hr0; have HC0 := Aside0.mk hc0; clear hr0 hc0; have HR1 := Aside0.mk hr1; have HC1 := Aside0.mk hc1; clear hr1 hc1; have H : (x_BinarySearchFunc_at_bytes_Compare.l0 k l0 l1 (l0.length : Int) 0 (l0.length : Int)) = some (r1, r2) := h; clear h; have H' := Aside0.mk H; clear H
 go_enter Try.func98, Try.ntmps98
 go_wp2
 go_loopg [9, 10] k (fun kq v9 v10 w' => ∃ (x9_1 : Int) (x10_1 : Int), v9 = .int .i64 x9_1 ∧ v10 = .int .i64 x10_1 ∧ Aside0 (x_BinarySearchFunc_at_bytes_Compare.l0 kq l0 l1 (l0.length : Int) x9_1 x10_1 = some (r1, r2)) ∧ Aside0 (kq ≤ k) ∧ Drawn0 w w')
 case atStart => exact ⟨(0), ((l0.length : Int)), rfl, rfl, H', ⟨Nat.le_refl _⟩, by repeat (first | exact Drawn0.refl _ | apply Drawn0.step)⟩
 case round =>
  clear H'; obtain ⟨x9_1, x10_1, rfl, rfl, HA, HK1, ⟨m1, rfl⟩⟩ := hrel
  cases gk with
  | zero => exact absurd HA.out (by simp [x_BinarySearchFunc_at_bytes_Compare.l0])
  | succ k1 =>
   have H := HA.out; clear HA
   simp only [x_BinarySearchFunc_at_bytes_Compare.l0] at H
   by_cases c3 : x9_1 < x10_1
   ·rw [if_pos c3] at H
    have c3b0 : decide (x9_1 < x10_1) = true := decide_eq_true c3; clear c3
    obtain ⟨ji4, hji4⟩ : ∃ j_ : Int, (wrap64 ((IntKind.u64.wrap (wrap64 (x9_1 + x10_1))) / 2)) = j_ := ⟨_, rfl⟩
    replace H : (if 0 ≤ (ji4) then (if (ji4) < (l0.length : Int) then ((bytes_Compare.f (rd_L1 l0 (ji4)) l1).bind fun t407 => (if t407 < 0 then (x_BinarySearchFunc_at_bytes_Compare.l0 k1 l0 l1 (l0.length : Int) (wrap64 ((ji4) + 1)) x10_1) else (x_BinarySearchFunc_at_bytes_Compare.l0 k1 l0 l1 (l0.length : Int) x9_1 ji4))) else (none)) else (none)) = some (r1, r2) := by first | (rw [hji4] at H; exact H) | (simp only [hji4] at H ⊢; exact H)
    have hji4w : (IntKind.i64.wrap ((IntKind.u64.wrap (wrap64 (x9_1 + x10_1))) / 2)) = ji4 := (i64_w _).trans hji4
    by_cases c5 : 0 ≤ (ji4)
    ·rw [if_pos c5] at H
     have c5b0 : decide (0 ≤ (ji4)) = true := decide_eq_true c5; clear c5
     by_cases c6 : (ji4) < (l0.length : Int)
     ·rw [if_pos c6] at H
      have c6b0 : decide ((ji4) < (l0.length : Int)) = true := decide_eq_true c6; clear c6; replace H := Option.bind_eq_some_iff.mp H; obtain ⟨t407, A70, H⟩ := H
      replace H : (if t407 < 0 then (x_BinarySearchFunc_at_bytes_Compare.l0 k1 l0 l1 (l0.length : Int) (wrap64 ((ji4) + 1)) x10_1) else (x_BinarySearchFunc_at_bytes_Compare.l0 k1 l0 l1 (l0.length : Int) x9_1 ji4)) = some (r1, r2) := H
      have A7 := Aside0.mk A70; clear A70
      by_cases c8 : t407 < 0
      ·rw [if_pos c8] at H
       have c8b0 : decide (t407 < 0) = true := decide_eq_true c8; clear c8; have H' := Aside0.mk H; clear H
       have p406 : 0 ≤ ((ji4) : Int) := of_decide_eq_true (by first | (with_reducible assumption) | assumption)
       have q406 : (ji4) < (l0.length : Int) := of_decide_eq_true (by first | (with_reducible assumption) | assumption)
       obtain ⟨ad406, A406_0, c406_0, e406, hx406_0, hl406_0, hi406_0⟩ := at_L1 HR0.out (ji4) p406 q406; cases e406; have HR406_0 := Aside0.mk hi406_0; have HC406_0 := Aside0.mk hl406_0; clear hi406_0 hl406_0; replace p406 := eq_true p406; replace q406 := eq_true q406
       go_wp2_with (first | (go_at_call 99; (with_reducible refine (bytes_Compare.calls _ _ (rd_L1 l0 (ji4)) _ _ l1 t407 _ ?side1 ?side2 ?side3 ?side4 A7.out).mono ?_); (case side1 => repeat (first | exact HR406_0.out | (with_reducible refine Kd.C_alloc ?_ _) | (with_reducible refine Kd.C_drewN ?_ _) | (with_reducible refine Kd.C_drew ?_))); (case side2 => exact HC406_0.out); (case side3 => repeat (first | exact HR1.out | (with_reducible refine Kd.C_alloc ?_ _) | (with_reducible refine Kd.C_drewN ?_ _) | (with_reducible refine Kd.C_drew ?_))); (case side4 => exact HC1.out); rintro e w' ⟨rfl, ⟨nd, rfl⟩⟩))
       go_roundg k1
       case measure => have := HK1.out; omega
       case rel => exact ⟨(wrap64 ((ji4) + 1)), (x10_1), (by first | rfl | (simp; done) | (simp only [← hji4] <;> (first | rfl | simp)) | (simp [*]; done)), rfl, H', ⟨by have := HK1.out; omega⟩, by repeat (first | exact Drawn0.refl _ | apply Drawn0.step)⟩
      ·rw [if_neg c8] at H
       have c8b0 : decide (t407 < 0) = false := decide_eq_false c8; clear c8; have H' := Aside0.mk H; clear H
       have p406 : 0 ≤ ((ji4) : Int) := of_decide_eq_true (by first | (with_reducible assumption) | assumption)
       have q406 : (ji4) < (l0.length : Int) := of_decide_eq_true (by first | (with_reducible assumption) | assumption)
       obtain ⟨ad406, A406_0, c406_0, e406, hx406_0, hl406_0, hi406_0⟩ := at_L1 HR0.out (ji4) p406 q406; cases e406; have HR406_0 := Aside0.mk hi406_0; have HC406_0 := Aside0.mk hl406_0; clear hi406_0 hl406_0; replace p406 := eq_true p406; replace q406 := eq_true q406
       go_wp2_with (first | (go_at_call 99; (with_reducible refine (bytes_Compare.calls _ _ (rd_L1 l0 (ji4)) _ _ l1 t407 _ ?side1 ?side2 ?side3 ?side4 A7.out).mono ?_); (case side1 => repeat (first | exact HR406_0.out | (with_reducible refine Kd.C_alloc ?_ _) | (with_reducible refine Kd.C_drewN ?_ _) | (with_reducible refine Kd.C_drew ?_))); (case side2 => exact HC406_0.out); (case side3 => repeat (first | exact HR1.out | (with_reducible refine Kd.C_alloc ?_ _) | (with_reducible refine Kd.C_drewN ?_ _) | (with_reducible refine Kd.C_drew ?_))); (case side4 => exact HC1.out); rintro e w' ⟨rfl, ⟨nd, rfl⟩⟩))
       go_roundg k1
       case measure => have := HK1.out; omega
       case rel => exact ⟨(x9_1), (ji4), rfl, (by first | rfl | (simp; done) | (simp only [← hji4] <;> (first | rfl | simp)) | (simp [*]; done)), H', ⟨by have := HK1.out; omega⟩, by repeat (first | exact Drawn0.refl _ | apply Drawn0.step)⟩
     ·rw [if_neg c6] at H
      exact absurd H (by simp)
    ·rw [if_neg c5] at H
     exact absurd H (by simp)
   ·rw [if_neg c3] at H
    have c3b0 : decide (x9_1 < x10_1) = false := decide_eq_false c3; clear c3
    by_cases c9 : x9_1 < (l0.length : Int)
    ·rw [if_pos c9] at H
     have c9b0 : decide (x9_1 < (l0.length : Int)) = true := decide_eq_true c9; clear c9
     by_cases c10 : 0 ≤ x9_1
     ·rw [if_pos c10] at H
      have c10b0 : decide (0 ≤ x9_1) = true := decide_eq_true c10; clear c10
      by_cases c11 : x9_1 < (l0.length : Int)
      ·rw [if_pos c11] at H
       have c11b0 : decide (x9_1 < (l0.length : Int)) = true := decide_eq_true c11; clear c11; replace H := Option.bind_eq_some_iff.mp H; obtain ⟨t409, A120, H⟩ := H; replace H : (some (x9_1, (t409 == 0))) = some (r1, r2) := H; have A12 := Aside0.mk A120; clear A120
       simp only [Option.some.injEq, Prod.mk.injEq] at H
       obtain ⟨rfl, rfl⟩ := H
       have p408 : 0 ≤ (x9_1 : Int) := of_decide_eq_true (by first | (with_reducible assumption) | assumption)
       have q408 : x9_1 < (l0.length : Int) := of_decide_eq_true (by first | (with_reducible assumption) | assumption)
       obtain ⟨ad408, A408_0, c408_0, e408, hx408_0, hl408_0, hi408_0⟩ := at_L1 HR0.out x9_1 p408 q408; cases e408; have HR408_0 := Aside0.mk hi408_0; have HC408_0 := Aside0.mk hl408_0; clear hi408_0 hl408_0; replace p408 := eq_true p408; replace q408 := eq_true q408
       go_wp2_with (first | (go_at_call 99; (with_reducible refine (bytes_Compare.calls _ _ (rd_L1 l0 x9_1) _ _ l1 t409 _ ?side1 ?side2 ?side3 ?side4 A12.out).mono ?_); (case side1 => repeat (first | exact HR408_0.out | (with_reducible refine Kd.C_alloc ?_ _) | (with_reducible refine Kd.C_drewN ?_ _) | (with_reducible refine Kd.C_drew ?_))); (case side2 => exact HC408_0.out); (case side3 => repeat (first | exact HR1.out | (with_reducible refine Kd.C_alloc ?_ _) | (with_reducible refine Kd.C_drewN ?_ _) | (with_reducible refine Kd.C_drew ?_))); (case side4 => exact HC1.out); rintro e w' ⟨rfl, ⟨nd, rfl⟩⟩))
       go_ret2
       exact ⟨by first | rfl | (simp; done) | (simp [*]; done), by repeat (first | exact Drawn0.refl _ | apply Drawn0.step)⟩
      ·rw [if_neg c11] at H
       exact absurd H (by simp)
     ·rw [if_neg c10] at H
      exact absurd H (by simp)
    ·rw [if_neg c9] at H
     have c9b0 : decide (x9_1 < (l0.length : Int)) = false := decide_eq_false c9; clear c9
     simp only [Option.some.injEq, Prod.mk.injEq] at H
     obtain ⟨rfl, rfl⟩ := H; go_wp2
     go_ret2
     exact ⟨by first | rfl | (simp; done) | (simp [*]; done), by repeat (first | exact Drawn0.refl _ | apply Drawn0.step)⟩

/-! ### impl_Value_keyAt: function 58 -/
def impl_Value_keyAt.f (k : Nat) (a0_0 : Int) (a0_1 : Int) (l0_2 : List Int) (l0_3 : List (List Int)) (l0_4 : List (S30)) (l1 : List Int) : Option (Int × Bool) := (x_BinarySearchFunc_at_bytes_Compare.f k l0_3 l1).bind fun bt411 => (some (bt411.1, bt411.2))
set_option maxHeartbeats 8000000 in
set_option maxRecDepth 100000 in
theorem impl_Value_keyAt.calls (k : Nat) (a0_0 : Int) (a0_1 : Int) (A0_2 : Option Addr) (c0_2 : Nat) (l0_2 : List Int) (A0_3 : Option Addr) (c0_3 : Nat) (l0_3 : List (List Int)) (A0_4 : Option Addr) (c0_4 : Nat) (l0_4 : List (S30)) (A1 : Option Addr) (c1 : Nat) (l1 : List Int) (r1 : Int) (r2 : Bool) (w : World) (hr0_2 : Kd.C (Kd.int .u8) w A0_2 l0_2.length l0_2) (hc0_2 : l0_2.length ≤ c0_2) (hr0_3 : Kd.C (Kd.slice 5 (Kd.int .u8)) w A0_3 l0_3.length l0_3) (hc0_3 : l0_3.length ≤ c0_3) (hr0_4 : Kd.C k30 w A0_4 l0_4.length l0_4) (hc0_4 : l0_4.length ≤ c0_4) (hr1 : Kd.C (Kd.int .u8) w A1 l1.length l1) (hc1 : l1.length ≤ c1) (h : impl_Value_keyAt.f k a0_0 a0_1 l0_2 l0_3 l0_4 l1 = some (r1, r2)) :
  Calls Try.prog 58 #[.agg #[.int .i64 a0_0, .int .i64 a0_1, .slice A0_2 l0_2.length c0_2, .slice A0_3 l0_3.length c0_3, .slice A0_4 l0_4.length c0_4], .slice A1 l1.length c1] w fun e w' => e = .returned (.tuple #[.int .i64 r1, .bool r2]) ∧ Below w.heap.size w w' := by
 have hu30 := Try.underlying30; have HR0_2 := Aside0.mk hr0_2; have HC0_2 := Aside0.mk hc0_2; clear hr0_2 hc0_2; have HR0_3 := Aside0.mk hr0_3; have HC0_3 := Aside0.mk hc0_3; clear hr0_3 hc0_3; have HR0_4 := Aside0.mk hr0_4; have HC0_4 := Aside0.mk hc0_4; clear hr0_4 hc0_4; have HR1 := Aside0.mk hr1; have HC1 := Aside0.mk hc1; clear hr1 hc1; have HB := Bw.refl w
 have H : ((x_BinarySearchFunc_at_bytes_Compare.f k l0_3 l1).bind fun bt411 => (some (bt411.1, bt411.2))) = some (r1, r2) := h
 clear h; replace H := Option.bind_eq_some_iff.mp H; obtain ⟨⟨t411, t412⟩, A30, H⟩ := H; replace H : (some (t411, t412)) = some (r1, r2) := H; have A3 := Aside0.mk A30; clear A30
 simp only [Option.some.injEq, Prod.mk.injEq] at H
 obtain ⟨rfl, rfl⟩ := H
 go_enter Try.func58, Try.ntmps58
 go_wp2_with (first | ((with_reducible refine gate_dst (N := 2) rfl ?_); refine box_event rfl (N := 2) rfl (cs := #[.int .i64 a0_0, .int .i64 a0_1, .slice A0_2 l0_2.length c0_2, .slice A0_3 l0_3.length c0_3, .slice A0_4 l0_4.length c0_4]) (t := 30) (by go_simp <;> rfl) ?_; intro gb410 hg w4 hbox hb; have BK410 := Aside0.mk (hbox); have GE410 := (Ge.of hg : Ge w.heap.size gb410); replace HB := (Bw.sw w hb); clear hb hbox hg; obtain ⟨hcz5_0, hcz5_1, hcz5_2, hcz5_3, hcz5_4, hfz5_0, hfz5_1, hfz5_2, hfz5_3, hfz5_4⟩ := blk5 BK410.out) | ((with_reducible refine gg (f := 98) (some 9) rfl rfl rfl fr98 ?_); refine onc (x_BinarySearchFunc_at_bytes_Compare.calls k _ _ l0_3 _ _ l1 t411 t412 _ (cb HR0_3) HC0_3.out (cb HR1) HC1.out A3.out) rfl ?_; rintro e w' ⟨rfl, ⟨nd, rfl⟩⟩; refine ⟨_, rfl, ?_⟩))
 go_ret2
 exact ⟨rfl, bw⟩

/-! ### impl_copyBytes: function 100 -/
def impl_copyBytes.f (l0 : List Int) : Option (List Int) := (some (([] : List Int) : List Int)).bind fun y413 => (if y413.length + l0.length < 140737488355328 then (some (y413 ++ l0)) else (none))
set_option maxHeartbeats 8000000 in
set_option maxRecDepth 100000 in
theorem impl_copyBytes.calls (A0 : Option Addr) (c0 : Nat) (l0 : List Int) (r : List Int) (w : World) (hr0 : Kd.C (Kd.int .u8) w A0 l0.length l0) (hc0 : l0.length ≤ c0) (h : impl_copyBytes.f l0 = some r) :
  Calls Try.prog 100 #[.slice A0 l0.length c0] w fun e w' => ∃ v0_ : Value, e = .returned (v0_) ∧ Kd.R (Kd.int .u8) 5 w' w.heap.size (fun _ => True) v0_ r ∧ Below w.heap.size w w' := by
 have HR0 := Aside0.mk hr0; have HC0 := Aside0.mk hc0; clear hr0 hc0; have HB := Bw.refl w
 have H : ((some (([] : List Int) : List Int)).bind fun y413 => (if y413.length + l0.length < 140737488355328 then (some (y413 ++ l0)) else (none))) = some r := h
 clear h
 obtain ⟨y413, hy413⟩ : ∃ y_ : List Int, y_ = (([] : List Int)) := ⟨_, rfl⟩
 replace H : (if y413.length + l0.length < 140737488355328 then (some (y413 ++ l0)) else (none)) = some r := by first | (rw [hy413]; with_reducible exact H) | (have H2_ := (Option.bind_some _ _).symm.trans H; rw [hy413]; with_reducible exact H2_) | (have H2_ := (Option.bind_some _ _).symm.trans H; with_reducible exact H2_) | with_reducible exact H | (rw [hy413]; exact H) | exact H
 have Ny413 := Aside0.mk hy413; clear hy413
 by_cases c2 : y413.length + l0.length < 140737488355328
 ·rw [if_pos c2] at H
  have LMc2 := Aside0.mk c2; clear c2
  obtain ⟨y416, hy416⟩ : ∃ y_ : List Int, y_ = (y413 ++ l0) := ⟨_, rfl⟩
  replace H : (some y416) = some r := by first | (rw [hy416]; with_reducible exact H) | (have H2_ := (Option.bind_some _ _).symm.trans H; rw [hy416]; with_reducible exact H2_) | (have H2_ := (Option.bind_some _ _).symm.trans H; with_reducible exact H2_) | with_reducible exact H | (rw [hy416]; exact H) | exact H
  have Ny416 := Aside0.mk hy416; clear hy416; obtain rfl := Option.some.inj H
  go_enter Try.func100, Try.ntmps100
  go_wp2_with (first | ((with_reducible refine gate_dst (N := 3) rfl ?_); refine Kd.R_lit (Kd.int .u8) _ 5 ?hg (N := 3) ?hd (xs := ([] : List Int)) (inner := []) (ok := fun _ => True) (okp := fun _ => True) ?hr ?hp (fun _ hk => hk) trivial (Below.refl _ _) (Nat.le_refl _) (by simp) ?_; (case hd => rfl); (case hg => rfl); (case hr => first | (go_simp; done) | (go_simp; rfl)); (case hp => exact (Reps.none _ _)); intro v414 w3 ho4 hb hg_ hnew_; clear hg_ hnew_; (first | rw [← Ny413.out] at ho4 | (simp only [Int.reduceToNat] at ho4; rw [← Ny413.out] at ho4)); have HO415 := Aside0.mk (Kd.R_lower ho4 (bzz w)); replace HB := (Bw.sw w hb); clear hb ho4) | ((with_reducible refine gate_builtin (b := .append) (xs := #[.tmp 3, .tmp 4]) rfl ?_); at_builtin; refine Kd.R_append_rows (Kd.int .u8) (w0 := w) w.heap.size rfl (.tmp 3) (.tmp 4) 22 5 (.int .u8 0) 1 rfl Try.underlying22 info5 rfl (by decide) (by omega) v414 y413 l0 _ _ _ (fun _ => True) (fun _ => False) rfl rfl ?aO ?aR (fun _ _ h => h) (fun _ h => h.elim) ?aF ?aB ?aS ?aL ?_; (case aR => exact (Kd.C_below HR0.out HB.out)); (case aB => exact bw); (case aF => exact (fun _ _ => trivial)); (case aO => exact (by exact HO415.out)); (case aS => exact (bzz w)); (case aL => have := LMc2.out; omega); intro v417 w5 ho hb hg hat; rw [← Ny416.out] at ho; replace HB := Bw.mk (w := w) (hb); have HO418 := Aside0.mk (ho); clear HO415; clear ho hb hg hat))
  go_ret
  exact ⟨_, rfl, by exact HO418.out, bw⟩
 ·rw [if_neg c2] at H
  exact absurd H (by simp)

/-! ### impl_copyTexts: function 78 -/
def impl_copyTexts.l0 : Nat → List (List Int) → List (List Int) → Int → Int → Option ((List (List Int)))
 | 0, _, _, _, _ => none
 | k + 1, x3, x7, x8, x9 => if x9 < x8 then (if 0 ≤ x9 then (if x9 < (x7.length : Int) then ((impl_copyBytes.f (rd_L1 x7 x9)).bind fun t423 => (if x3.length < 5864062014805 then (impl_copyTexts.l0 k (x3 ++ [t423]) x7 x8 (wrap64 (x9 + 1))) else (none))) else (none)) else (none)) else (some x3)
def impl_copyTexts.f (k : Nat) (l0 : List (List Int)) : Option ((List (List Int))) := impl_copyTexts.l0 k (([] : List (List Int))) l0 (l0.length : Int) 0
set_option maxHeartbeats 8000000 in
set_option maxRecDepth 100000 in
theorem impl_copyTexts.calls (k : Nat) (A0 : Option Addr) (c0 : Nat) (l0 : List (List Int)) (r : List (List Int)) (w : World) (hr0 : Kd.C (Kd.slice 5 (Kd.int .u8)) w A0 l0.length l0) (hc0 : l0.length ≤ c0) (h : impl_copyTexts.f k l0 = some r) :
  Calls Try.prog 78 #[.slice A0 l0.length c0] w fun e w' => ∃ v0_ : Value, e = .returned (v0_) ∧ Kd.S (Kd.slice 5 (Kd.int .u8)) 22 w' w.heap.size (fun _ => True) v0_ r ∧ Below w.heap.size w w' := by
 have HR0 := Aside0.mk hr0; have HC0 := Aside0.mk hc0; clear hr0 hc0; have HB := Bw.refl w; have H : (impl_copyTexts.l0 k (([] : List (List Int))) l0 (l0.length : Int) 0) = some r := h; clear h
 obtain ⟨y419, hy419⟩ : ∃ y_ : List (List Int), y_ = (([] : List (List Int))) := ⟨_, rfl⟩
 replace H : (impl_copyTexts.l0 k y419 l0 (l0.length : Int) 0) = some r := by first | (rw [hy419]; with_reducible exact H) | (have H2_ := (Option.bind_some _ _).symm.trans H; rw [hy419]; with_reducible exact H2_) | (have H2_ := (Option.bind_some _ _).symm.trans H; with_reducible exact H2_) | with_reducible exact H | (rw [hy419]; exact H) | exact H
 have Ny419 := Aside0.mk hy419; clear hy419; have H' := Aside0.mk H; clear H
 go_enter Try.func78, Try.ntmps78
 go_wp2_with (first | ((with_reducible refine gate_dst (N := 6) rfl ?_); refine Kd.S_lit (Kd.slice 5 (Kd.int .u8)) _ 22 ?hg (N := 6) ?hd (xs := ([] : List (List Int))) (inner := []) (ok := fun _ => True) (okp := fun _ => True) ?hr ?hp (fun _ hk => hk) trivial (Below.refl _ _) (Nat.le_refl _) (by simp) ?_; (case hd => rfl); (case hg => rfl); (case hr => first | (go_simp; done) | (go_simp; rfl)); (case hp => exact (Reps.none _ _)); intro v420 w2 ho3 hb hg_ hnew_; clear hg_ hnew_; (first | rw [← Ny419.out] at ho3 | (simp only [Int.reduceToNat] at ho3; rw [← Ny419.out] at ho3)); have HO421 := Aside0.mk (Kd.S_lower ho3 (bzz w)); replace HB := (Bw.sw w hb); clear hb ho3))
 go_loopg [3, 9] k (fun kq v3 v9 w' => ∃ (x3_1 : List (List Int)) (x9_1 : Int), v9 = .int .i64 x9_1 ∧ Aside0 (impl_copyTexts.l0 kq x3_1 l0 (l0.length : Int) x9_1 = some r) ∧ Aside0 (kq ≤ k) ∧ Aside0 (Kd.S (Kd.slice 5 (Kd.int .u8)) 22 w' w.heap.size (fun _ => True) v3 x3_1) ∧ Bw w w')
 case atStart => exact ⟨(y419), (0), rfl, H', ⟨Nat.le_refl _⟩, ⟨by exact HO421.out⟩, ⟨bw⟩⟩
 case round =>
  clear H'; obtain ⟨x3_1, x9_1, rfl, HA, HK1, HO_3, HB⟩ := hrel
  cases gk with
  | zero => exact absurd HA.out (by simp [impl_copyTexts.l0])
  | succ k1 =>
   have H := HA.out; clear HA
   simp only [impl_copyTexts.l0] at H
   by_cases c4 : x9_1 < (l0.length : Int)
   ·rw [if_pos c4] at H
    have c4b0 : decide (x9_1 < (l0.length : Int)) = true := decide_eq_true c4; clear c4
    by_cases c5 : 0 ≤ x9_1
    ·rw [if_pos c5] at H
     have c5b0 : decide (0 ≤ x9_1) = true := decide_eq_true c5; clear c5
     by_cases c6 : x9_1 < (l0.length : Int)
     ·rw [if_pos c6] at H
      have c6b0 : decide (x9_1 < (l0.length : Int)) = true := decide_eq_true c6; clear c6; replace H := Option.bind_eq_some_iff.mp H; obtain ⟨t423, A70, H⟩ := H
      replace H : (if x3_1.length < 5864062014805 then (impl_copyTexts.l0 k1 (x3_1 ++ [t423]) l0 (l0.length : Int) (wrap64 (x9_1 + 1))) else (none)) = some r := H
      have A7 := Aside0.mk A70; clear A70
      by_cases c8 : x3_1.length < 5864062014805
      ·rw [if_pos c8] at H
       have LMc8 := Aside0.mk c8; clear c8
       obtain ⟨y426, hy426⟩ : ∃ y_ : List (List Int), y_ = (x3_1 ++ [t423]) := ⟨_, rfl⟩
       replace H : (impl_copyTexts.l0 k1 y426 l0 (l0.length : Int) (wrap64 (x9_1 + 1))) = some r := by first | (rw [hy426]; with_reducible exact H) | (have H2_ := (Option.bind_some _ _).symm.trans H; rw [hy426]; with_reducible exact H2_) | (have H2_ := (Option.bind_some _ _).symm.trans H; with_reducible exact H2_) | with_reducible exact H | (rw [hy426]; exact H) | exact H
       have Ny426 := Aside0.mk hy426; clear hy426; have H' := Aside0.mk H; clear H
       have p422 : 0 ≤ (x9_1 : Int) := of_decide_eq_true (by first | (with_reducible assumption) | assumption)
       have q422 : x9_1 < (l0.length : Int) := of_decide_eq_true (by first | (with_reducible assumption) | assumption)
       obtain ⟨ad422, A422_0, c422_0, e422, hx422_0, hl422_0, hi422_0⟩ := at_L1 HR0.out x9_1 p422 q422; cases e422; replace hx422_0 := (HB.out.cell (World.block_lt_of_cell? w _ hx422_0)).trans hx422_0; have HR422_0 := Aside0.mk hi422_0; have HC422_0 := Aside0.mk hl422_0; clear hi422_0 hl422_0; replace p422 := eq_true p422; replace q422 := eq_true q422
       go_wp2_with (first | ((with_reducible refine gg (f := 100) (some 15) rfl rfl rfl fr100 ?_); refine onc (impl_copyBytes.calls _ _ (rd_L1 l0 x9_1) t423 _ (cb HR422_0) HC422_0.out A7.out) rfl ?_; rintro e w9 ⟨v424, rfl, ho0, hb⟩; refine ⟨_, rfl, ?_⟩; replace HO_3 := Aside0.mk (Kd.S_elder' (by exact HO_3.out) (Kd.R_base ho0) hb); have HO425 := Aside0.mk (Kd.R_lower ho0 (bzz w)); replace HB := (Bw.sw w hb); (try clear hb); (try clear ho0); obtain ⟨Ao11, co11, eo11⟩ := Kd.R_slice HO425.out; subst eo11) | ((with_reducible refine gate_builtin (b := .append) (xs := #[.tmp 13, .tmp 16]) rfl ?_); at_builtin; refine Kd.S_append (Kd.slice 5 (Kd.int .u8)) (w0 := w) w.heap.size rfl (.tmp 13) (.tmp 16) 23 22 (.slice none 0 0) 24 rfl Try.underlying23 info22 rfl (by decide) (by omega) u3 x3_1 t423 [.slice Ao11 t423.length co11] (fun _ => True) (fun k_ => some k_ = (.slice Ao11 t423.length co11 : Value).ownBlock) rfl rfl ?aP (fun k_ hk_ => ((Kd.R_mono (ok' := fun k_ => ((fun _ => True)) k_ ∧ some k_ ≠ (u3 : Value).ownBlock) (Kd.R_apart' (HO425.out) (Kd.S_typed HO_3.out) (by decide)) (fun k_ hk => ⟨trivial, hk.2⟩))).1 k_ hk_.symm) ?aF ?aO ?aB ?aS ?aL ?_; (case aP => exact Kd.M_row (Kd.R_mono (Kd.R_tight rfl (Kd.R_mono (ok' := fun k_ => ((fun _ => True)) k_ ∧ some k_ ≠ (u3 : Value).ownBlock) (Kd.R_apart' (HO425.out) (Kd.S_typed HO_3.out) (by decide)) (fun k_ hk => ⟨trivial, hk.2⟩))) (fun _ h_ => h_))); (case aB => exact bw); (case aF => exact (fun _ _ => trivial)); (case aO => exact (by exact Kd.S_mono HO_3.out (fun k_ hk => ⟨trivial, fun e_ => hk.2 e_⟩))); (case aS => exact (bzz w)); (case aL => have := LMc8.out; omega); intro v427 w10 ho hb hg hat; rw [← Ny426.out] at ho; replace HB := Bw.mk (w := w) (hb); have HO428 := Aside0.mk (ho); clear HO_3 HO425; clear ho hb hg hat))
       go_roundg k1
       case measure => have := HK1.out; omega
       case rel => exact ⟨(y426), (wrap64 (x9_1 + 1)), rfl, H', ⟨by have := HK1.out; omega⟩, ⟨by exact HO428.out⟩, ⟨bw⟩⟩
      ·rw [if_neg c8] at H
       exact absurd H (by simp)
     ·rw [if_neg c6] at H
      exact absurd H (by simp)
    ·rw [if_neg c5] at H
     exact absurd H (by simp)
   ·rw [if_neg c4] at H
    have c4b0 : decide (x9_1 < (l0.length : Int)) = false := decide_eq_false c4; clear c4; obtain rfl := Option.some.inj H; go_wp2; go_ret
    exact ⟨_, rfl, by exact HO_3.out, bw⟩

end Go.Proofs.Ytenpjddjmhjdoaa.PFnExactValDrop
