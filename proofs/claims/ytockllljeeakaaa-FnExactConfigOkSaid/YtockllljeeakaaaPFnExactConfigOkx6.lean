/- What the law reaches: each function as a plain Lean function, and that each call comes to it. No condition. -/
import Derived.Test.YtockllljeeakaaaMtodo
import Derived.Test.YtockllljeeakaaaPFnExactConfigOkx0
import Derived.Test.YtockllljeeakaaaPFnExactConfigOkx2
import Derived.Test.YtockllljeeakaaaPFnExactConfigOkx3
import Derived.Test.YtockllljeeakaaaPFnExactConfigOkx4
import Derived.Test.YtockllljeeakaaaPFnExactConfigOkx5
namespace Go.Proofs.Ytockllljeeakaaa.PFnExactConfigOk
open Go.RowKit Go.Proofs.YtockllljeeakaaaW.PrintWords Go.Proofs.YtockllljeeakaaaW.PrintLast Go.Proofs.YtockllljeeakaaaW.PrintMore Go.Proofs.Ytockllljeeakaaa.M
attribute [local go_sem] max2_int min2_int max_two min_two max_three min_three max_four min_four Go.Proofs.Ytockllljeeakaaa.M.str_gtr Go.Proofs.Ytockllljeeakaaa.M.str_leq Go.Proofs.Ytockllljeeakaaa.M.str_geq   -- for this text's walks alone
set_option linter.unusedVariables false
set_option linter.unusedSimpArgs false

/-! ### spec_l6item: function 68 -/
mutual
def spec_l6item.j0 : Nat → Int → Bool → Int → List Int → Int → Int → Int → List Int → List (List Int) → List (S31) → List (List Int) → List (S31) → Option (Int)
 | 0, _, _, _, _, _, _, _, _, _, _, _, _ => none
 | k + 1, x1, x25, x152000, x152001, x152002, x152003, x152004, x152005, x152006, x152007, x152008, x152009 => if x25 = true then (some (-1)) else (if x152000 = 1 then (if x152002 < 0 then (some (-1)) else (if x152002 > 2 then (some (-1)) else (if x152002 = 0 then ((spec_l6zero.f x152003 x152004 x152005 x152006 x152007).bind fun t153 => (if t153 = true then (if (x152008.length : Int) = (x152009.length : Int) then (spec_l6item.j1 k x1 x152000 x152001 x152002 x152003 x152004 x152005 x152006 x152007 x152008 x152009) else (some (-1))) else (some (-1)))) else (if (x152008.length : Int) = (x152009.length : Int) then (spec_l6item.j1 k x1 x152000 x152001 x152002 x152003 x152004 x152005 x152006 x152007 x152008 x152009) else (some (-1)))))) else (if x152002 = 0 then ((spec_l6zero.f x152003 x152004 x152005 x152006 x152007).bind fun t154 => (if t154 = true then (if (x152008.length : Int) > 0 then (some (-1)) else (if (x152009.length : Int) = 1 then (spec_l6item.j1 k x1 x152000 x152001 x152002 x152003 x152004 x152005 x152006 x152007 x152008 x152009) else (some (-1)))) else (some (-1)))) else (some (-1))))
def spec_l6item.j1 : Nat → Int → Int → List Int → Int → Int → Int → List Int → List (List Int) → List (S31) → List (List Int) → List (S31) → Option (Int)
 | 0, _, _, _, _, _, _, _, _, _, _, _ => none
 | k + 1, x1, x152000, x152001, x152002, x152003, x152004, x152005, x152006, x152007, x152008, x152009 => if x152002 = 0 then (spec_l6item.j2 k x1 x152000 x152001 x152002 x152003 x152004 x152005 x152006 x152007 x152008 x152009) else ((spec_l6expr.f k x152003 x152004 x152005 x152006 x152007 1 x1).bind fun t155 => (spec_l6item.j2 k t155 x152000 x152001 x152002 x152003 x152004 x152005 x152006 x152007 x152008 x152009))
def spec_l6item.j2 : Nat → Int → Int → List Int → Int → Int → Int → List Int → List (List Int) → List (S31) → List (List Int) → List (S31) → Option (Int)
 | 0, _, _, _, _, _, _, _, _, _, _, _ => none
 | k + 1, x1, x152000, x152001, x152002, x152003, x152004, x152005, x152006, x152007, x152008, x152009 => spec_l6item.l0 k x1 0 x152000 x152001 x152002 x152003 x152004 x152005 x152006 x152007 x152008 x152009
def spec_l6item.l0 : Nat → Int → Int → Int → List Int → Int → Int → Int → List Int → List (List Int) → List (S31) → List (List Int) → List (S31) → Option (Int)
 | 0, _, _, _, _, _, _, _, _, _, _, _, _ => none
 | k + 1, x1, x5, x152000, x152001, x152002, x152003, x152004, x152005, x152006, x152007, x152008, x152009 => if x5 < (x152009.length : Int) then (spec_l6item.j4 k x1 x5 (decide (x1 ≥ 0)) x152000 x152001 x152002 x152003 x152004 x152005 x152006 x152007 x152008 x152009) else (spec_l6item.j4 k x1 x5 false x152000 x152001 x152002 x152003 x152004 x152005 x152006 x152007 x152008 x152009)
def spec_l6item.j4 : Nat → Int → Int → Bool → Int → List Int → Int → Int → Int → List Int → List (List Int) → List (S31) → List (List Int) → List (S31) → Option (Int)
 | 0, _, _, _, _, _, _, _, _, _, _, _, _, _ => none
 | k + 1, x1, x5, x93, x152000, x152001, x152002, x152003, x152004, x152005, x152006, x152007, x152008, x152009 => if x93 = true then (if x152000 = 1 then (if 0 ≤ x5 then (if x5 < (x152008.length : Int) then ((spec_NameOk.f k (rd_L1 x152008 x5)).bind fun t157 => (if t157 = true then (if x5 > 0 then (if 0 ≤ (wrap64 (x5 - 1)) then (if (wrap64 (x5 - 1)) < (x152008.length : Int) then (if ((Op.bytesLess ((strOfNums (rd_L1 x152008 (wrap64 (x5 - 1)))).toList) ((strOfNums (rd_L1 x152008 x5)).toList)) = true) then (if x5 < (x152009.length : Int) then ((spec_l6expr.f k ((rd_T31 x152009 x5).f0) ((rd_T31 x152009 x5).f1) ((rd_T31 x152009 x5).f2) ((rd_T31 x152009 x5).f3) ((rd_T31 x152009 x5).f4) 1 x1).bind fun t161 => (spec_l6item.l0 k t161 (wrap64 (x5 + 1)) x152000 x152001 x152002 x152003 x152004 x152005 x152006 x152007 x152008 x152009)) else (none)) else (some (-1))) else (none)) else (none)) else (if x5 < (x152009.length : Int) then ((spec_l6expr.f k ((rd_T31 x152009 x5).f0) ((rd_T31 x152009 x5).f1) ((rd_T31 x152009 x5).f2) ((rd_T31 x152009 x5).f3) ((rd_T31 x152009 x5).f4) 1 x1).bind fun t163 => (spec_l6item.l0 k t163 (wrap64 (x5 + 1)) x152000 x152001 x152002 x152003 x152004 x152005 x152006 x152007 x152008 x152009)) else (none))) else (some (-1)))) else (none)) else (none)) else (if 0 ≤ x5 then (if x5 < (x152009.length : Int) then ((spec_l6expr.f k ((rd_T31 x152009 x5).f0) ((rd_T31 x152009 x5).f1) ((rd_T31 x152009 x5).f2) ((rd_T31 x152009 x5).f3) ((rd_T31 x152009 x5).f4) 1 x1).bind fun t165 => (spec_l6item.l0 k t165 (wrap64 (x5 + 1)) x152000 x152001 x152002 x152003 x152004 x152005 x152006 x152007 x152008 x152009)) else (none)) else (none))) else (some x1)
end
def spec_l6item.f (k : Nat) (a0_0 : Int) (l0_1 : List Int) (a0_2 : Int) (a0_3 : Int) (a0_4 : Int) (l0_5 : List Int) (l0_6 : List (List Int)) (l0_7 : List (S31)) (l0_8 : List (List Int)) (l0_9 : List (S31)) (a1 : Int) : Option (Int) := if a0_0 < 0 then (spec_l6item.j0 k a1 true a0_0 l0_1 a0_2 a0_3 a0_4 l0_5 l0_6 l0_7 l0_8 l0_9) else (if a0_0 > 2 then (spec_l6item.j0 k a1 true a0_0 l0_1 a0_2 a0_3 a0_4 l0_5 l0_6 l0_7 l0_8 l0_9) else ((spec_l6free.f k l0_1).bind fun t152 => (if t152 = true then (spec_l6item.j0 k a1 (decide ((l0_9.length : Int) > 6)) a0_0 l0_1 a0_2 a0_3 a0_4 l0_5 l0_6 l0_7 l0_8 l0_9) else (spec_l6item.j0 k a1 true a0_0 l0_1 a0_2 a0_3 a0_4 l0_5 l0_6 l0_7 l0_8 l0_9))))
def spec_l6item.T13 : Bool × List (List Nat × List Nat) := (true, [([], []), ([0], [0]), ([1], [1]), ([2], [2]), ([3], [3]), ([4, 3], [3, 4]), ([3], [3]), ([5, 6, 3], [3, 5, 6]), ([7, 3], [3, 7]), ([8, 3, 3], [3, 8]), ([9, 3], [3, 9]), ([10, 9, 3], [3, 10]), ([11], [11]), ([12, 11], [11, 12]), ([13, 11, 11], [11, 13]), ([14], [14]), ([15, 14], [14, 15]), ([14], [14]), ([17, 14], [14, 17]), ([16, 18, 14], [14, 16, 18]), ([19, 14], [14, 19]), ([20, 14], [14, 20]), ([14], [14]), ([22, 14], [14, 22]), ([14], [14]), ([23, 24, 14], [14, 23, 24]), ([25, 14], [14, 25]), ([26, 14], [14, 26]), ([21, 27, 14], [14, 21, 27]), ([14, 28, 11], [11, 14, 28]), ([11, 29, 3], [3, 11, 29]), ([3, 30], [3, 30])])
def spec_l6item.B13 : List Nat := [0, 1, 3, 7, 15, 31, 15, 127, 255, 511, 1023, 2047, 4095, 8191, 16383, 32767, 65535, 32767, 163839, 524287, 1048575, 2097151, 32767, 4227071, 32767, 29392895, 62947327, 130056191, 268435455, 536870911, 1073741823, 2147483647]
theorem spec_l6item.tab13 : rtab .any (opsOf Try.f68 13) = spec_l6item.T13 := by kernel_rfl
theorem spec_l6item.bits13 : waitsOk spec_l6item.T13.2 spec_l6item.B13 = true := by kernel_rfl
set_option maxHeartbeats 8000000 in
set_option maxRecDepth 100000 in
theorem spec_l6item.calls (k : Nat) (a0_0 : Int) (A0_1 : Option Addr) (c0_1 : Nat) (l0_1 : List Int) (a0_2 : Int) (a0_3 : Int) (a0_4 : Int) (A0_5 : Option Addr) (c0_5 : Nat) (l0_5 : List Int) (A0_6 : Option Addr) (c0_6 : Nat) (l0_6 : List (List Int)) (A0_7 : Option Addr) (c0_7 : Nat) (l0_7 : List (S31)) (A0_8 : Option Addr) (c0_8 : Nat) (l0_8 : List (List Int)) (A0_9 : Option Addr) (c0_9 : Nat) (l0_9 : List (S31)) (a1 : Int) (r : Int) (w : World) (hr0_1 : Kd.C (Kd.int .u8) w A0_1 l0_1.length l0_1) (hc0_1 : l0_1.length ≤ c0_1) (hr0_5 : Kd.C (Kd.int .u8) w A0_5 l0_5.length l0_5) (hc0_5 : l0_5.length ≤ c0_5) (hr0_6 : Kd.C (Kd.slice 5 (Kd.int .u8)) w A0_6 l0_6.length l0_6) (hc0_6 : l0_6.length ≤ c0_6) (hr0_7 : Kd.C k31 w A0_7 l0_7.length l0_7) (hc0_7 : l0_7.length ≤ c0_7) (hr0_8 : Kd.C (Kd.slice 5 (Kd.int .u8)) w A0_8 l0_8.length l0_8) (hc0_8 : l0_8.length ≤ c0_8) (hr0_9 : Kd.C k31 w A0_9 l0_9.length l0_9) (hc0_9 : l0_9.length ≤ c0_9) (h : spec_l6item.f k a0_0 l0_1 a0_2 a0_3 a0_4 l0_5 l0_6 l0_7 l0_8 l0_9 a1 = some r) :
  Calls Try.prog 68 #[.agg #[.int .i64 a0_0, .slice A0_1 l0_1.length c0_1, .int .i64 a0_2, .int .i64 a0_3, .int .i64 a0_4, .slice A0_5 l0_5.length c0_5, .slice A0_6 l0_6.length c0_6, .slice A0_7 l0_7.length c0_7, .slice A0_8 l0_8.length c0_8, .slice A0_9 l0_9.length c0_9], .int .i64 a1] w fun e w' => e = .returned (.int .i64 r) ∧ Below w.heap.size w w' := by
 have hu94 := Try.underlying94
 have hu31 := Try.underlying31
 have HR0_1 := Aside0.mk hr0_1
 have HC0_1 := Aside0.mk hc0_1
 clear hr0_1 hc0_1
 have HR0_5 := Aside0.mk hr0_5
 have HC0_5 := Aside0.mk hc0_5
 clear hr0_5 hc0_5
 have HR0_6 := Aside0.mk hr0_6
 have HC0_6 := Aside0.mk hc0_6
 clear hr0_6 hc0_6
 have HR0_7 := Aside0.mk hr0_7
 have HC0_7 := Aside0.mk hc0_7
 clear hr0_7 hc0_7
 have HR0_8 := Aside0.mk hr0_8
 have HC0_8 := Aside0.mk hc0_8
 clear hr0_8 hc0_8
 have HR0_9 := Aside0.mk hr0_9
 have HC0_9 := Aside0.mk hc0_9
 clear hr0_9 hc0_9
 have HB := Bw.refl w
 have H : (if a0_0 < 0 then (spec_l6item.j0 k a1 true a0_0 l0_1 a0_2 a0_3 a0_4 l0_5 l0_6 l0_7 l0_8 l0_9) else (if a0_0 > 2 then (spec_l6item.j0 k a1 true a0_0 l0_1 a0_2 a0_3 a0_4 l0_5 l0_6 l0_7 l0_8 l0_9) else ((spec_l6free.f k l0_1).bind fun t152 => (if t152 = true then (spec_l6item.j0 k a1 (decide ((l0_9.length : Int) > 6)) a0_0 l0_1 a0_2 a0_3 a0_4 l0_5 l0_6 l0_7 l0_8 l0_9) else (spec_l6item.j0 k a1 true a0_0 l0_1 a0_2 a0_3 a0_4 l0_5 l0_6 l0_7 l0_8 l0_9))))) = some r := h
 clear h
 have HC3 := Aside0.mk H
 clear H
 go_enter Try.func68, Try.ntmps68
 go_upto_region 1 with (first | ((with_reducible refine gate_dst (N := 2) rfl ?_); (try (refine gate_guard (by rfl) ?_; dsimp only)); refine box_event rfl (N := 2) rfl (cs := #[.int .i64 a0_0, .slice A0_1 l0_1.length c0_1, .int .i64 a0_2, .int .i64 a0_3, .int .i64 a0_4, .slice A0_5 l0_5.length c0_5, .slice A0_6 l0_6.length c0_6, .slice A0_7 l0_7.length c0_7, .slice A0_8 l0_8.length c0_8, .slice A0_9 l0_9.length c0_9]) (t := 94) (by go_simp <;> rfl) ?_; intro gb151 hg w4 hbox hb; have BK151 := Aside0.mk (hbox); have GE151 := (Ge.of hg : Ge w.heap.size gb151); replace HB := (Bw.sw w hb); clear hb hbox hg))
 (try simp only [Act.put, List.setIfInBounds_toArray, List.set_cons_zero, List.set_cons_succ])
 go_cut [25] (fun v25 wc => ∃ (kq : Nat) (x25_2 : Bool), v25 = .bool x25_2 ∧ Aside0 (spec_l6item.j0 kq a1 x25_2 a0_0 l0_1 a0_2 a0_3 a0_4 l0_5 l0_6 l0_7 l0_8 l0_9 = some r) ∧ Aside0 (kq ≤ k) ∧ Aside0 (wc.heap[gb151]? = some (.cells #[.int .i64 a0_0, (.slice A0_1 l0_1.length c0_1), .int .i64 a0_2, .int .i64 a0_3, .int .i64 a0_4, (.slice A0_5 l0_5.length c0_5), (.slice A0_6 l0_6.length c0_6), (.slice A0_7 l0_7.length c0_7), (.slice A0_8 l0_8.length c0_8), (.slice A0_9 l0_9.length c0_9)] 94 (0, 0))) ∧ Bw w wc)
 case first =>
  as_aux_lemma =>
  have H := HC3.out
  clear HC3
  by_cases c5 : a0_0 < 0
  ·rw [if_pos c5] at H
   have c5b0 : decide (a0_0 < 0) = true := decide_eq_true c5
   clear c5
   (first | rw [c5b0] | (simp only [i64_w, i32_w]; rw [c5b0]) | skip)
   have H' := Aside0.mk H
   clear H
   have hcz6_0 : w4.cell? ⟨gb151, 0, none⟩ = some (.int .i64 a0_0) := (blk_cell BK151.out 0).trans rfl
   have hcz6_1 : w4.cell? ⟨gb151, 1, none⟩ = some (.slice A0_1 l0_1.length c0_1) := (blk_cell BK151.out 1).trans rfl
   have hcz6_2 : w4.cell? ⟨gb151, 2, none⟩ = some (.int .i64 a0_2) := (blk_cell BK151.out 2).trans rfl
   have hcz6_3 : w4.cell? ⟨gb151, 3, none⟩ = some (.int .i64 a0_3) := (blk_cell BK151.out 3).trans rfl
   have hcz6_4 : w4.cell? ⟨gb151, 4, none⟩ = some (.int .i64 a0_4) := (blk_cell BK151.out 4).trans rfl
   have hcz6_5 : w4.cell? ⟨gb151, 5, none⟩ = some (.slice A0_5 l0_5.length c0_5) := (blk_cell BK151.out 5).trans rfl
   have hcz6_6 : w4.cell? ⟨gb151, 6, none⟩ = some (.slice A0_6 l0_6.length c0_6) := (blk_cell BK151.out 6).trans rfl
   have hcz6_7 : w4.cell? ⟨gb151, 7, none⟩ = some (.slice A0_7 l0_7.length c0_7) := (blk_cell BK151.out 7).trans rfl
   have hcz6_8 : w4.cell? ⟨gb151, 8, none⟩ = some (.slice A0_8 l0_8.length c0_8) := (blk_cell BK151.out 8).trans rfl
   have hcz6_9 : w4.cell? ⟨gb151, 9, none⟩ = some (.slice A0_9 l0_9.length c0_9) := (blk_cell BK151.out 9).trans rfl
   have hfz6_0 := blk_frozen BK151.out 0
   have hfz6_1 := blk_frozen BK151.out 1
   have hfz6_2 := blk_frozen BK151.out 2
   have hfz6_3 := blk_frozen BK151.out 3
   have hfz6_4 := blk_frozen BK151.out 4
   have hfz6_5 := blk_frozen BK151.out 5
   have hfz6_6 := blk_frozen BK151.out 6
   have hfz6_7 := blk_frozen BK151.out 7
   have hfz6_8 := blk_frozen BK151.out 8
   have hfz6_9 := blk_frozen BK151.out 9
   go_wp2
   go_meet
   case rel => exact ⟨_, (true), (by first | rfl | (simp; done) | (simp [*]; done)), H', ⟨by first | omega | exact Nat.le_refl _⟩, ⟨by (with_reducible repeat (first | refine blk_drewN ?_ _ | refine blk_drew ?_ | refine blk_alloc ?_ _)); exact BK151.out⟩, ⟨bw⟩⟩
  as_aux_lemma =>
  rw [if_neg c5] at H
  have c5b0 : decide (a0_0 < 0) = false := decide_eq_false c5
  clear c5
  (first | rw [c5b0] | (simp only [i64_w, i32_w]; rw [c5b0]) | skip)
  by_cases c7 : a0_0 > 2
  ·rw [if_pos c7] at H
   have c7b0 : decide (2 < a0_0) = true := decide_eq_true c7
   clear c7
   have H' := Aside0.mk H
   clear H
   have hcz8_0 : w4.cell? ⟨gb151, 0, none⟩ = some (.int .i64 a0_0) := (blk_cell BK151.out 0).trans rfl
   have hcz8_1 : w4.cell? ⟨gb151, 1, none⟩ = some (.slice A0_1 l0_1.length c0_1) := (blk_cell BK151.out 1).trans rfl
   have hcz8_2 : w4.cell? ⟨gb151, 2, none⟩ = some (.int .i64 a0_2) := (blk_cell BK151.out 2).trans rfl
   have hcz8_3 : w4.cell? ⟨gb151, 3, none⟩ = some (.int .i64 a0_3) := (blk_cell BK151.out 3).trans rfl
   have hcz8_4 : w4.cell? ⟨gb151, 4, none⟩ = some (.int .i64 a0_4) := (blk_cell BK151.out 4).trans rfl
   have hcz8_5 : w4.cell? ⟨gb151, 5, none⟩ = some (.slice A0_5 l0_5.length c0_5) := (blk_cell BK151.out 5).trans rfl
   have hcz8_6 : w4.cell? ⟨gb151, 6, none⟩ = some (.slice A0_6 l0_6.length c0_6) := (blk_cell BK151.out 6).trans rfl
   have hcz8_7 : w4.cell? ⟨gb151, 7, none⟩ = some (.slice A0_7 l0_7.length c0_7) := (blk_cell BK151.out 7).trans rfl
   have hcz8_8 : w4.cell? ⟨gb151, 8, none⟩ = some (.slice A0_8 l0_8.length c0_8) := (blk_cell BK151.out 8).trans rfl
   have hcz8_9 : w4.cell? ⟨gb151, 9, none⟩ = some (.slice A0_9 l0_9.length c0_9) := (blk_cell BK151.out 9).trans rfl
   have hfz8_0 := blk_frozen BK151.out 0
   have hfz8_1 := blk_frozen BK151.out 1
   have hfz8_2 := blk_frozen BK151.out 2
   have hfz8_3 := blk_frozen BK151.out 3
   have hfz8_4 := blk_frozen BK151.out 4
   have hfz8_5 := blk_frozen BK151.out 5
   have hfz8_6 := blk_frozen BK151.out 6
   have hfz8_7 := blk_frozen BK151.out 7
   have hfz8_8 := blk_frozen BK151.out 8
   have hfz8_9 := blk_frozen BK151.out 9
   go_wp2
   go_meet
   case rel => exact ⟨_, (true), (by first | rfl | (simp; done) | (simp [*]; done)), H', ⟨by first | omega | exact Nat.le_refl _⟩, ⟨by (with_reducible repeat (first | refine blk_drewN ?_ _ | refine blk_drew ?_ | refine blk_alloc ?_ _)); exact BK151.out⟩, ⟨bw⟩⟩
  rw [if_neg c7] at H
  have c7b0 : decide (2 < a0_0) = false := decide_eq_false c7
  clear c7
  replace H := Option.bind_eq_some_iff.mp H
  obtain ⟨t152, A90, H⟩ := H
  have A9 := Aside0.mk A90
  clear A90
  by_cases c10 : t152 = true
  ·subst c10
   replace H := (if_pos rfl).symm.trans H
   have H' := Aside0.mk H
   clear H
   have hcz11_0 : w4.cell? ⟨gb151, 0, none⟩ = some (.int .i64 a0_0) := (blk_cell BK151.out 0).trans rfl
   have hcz11_1 : w4.cell? ⟨gb151, 1, none⟩ = some (.slice A0_1 l0_1.length c0_1) := (blk_cell BK151.out 1).trans rfl
   have hcz11_2 : w4.cell? ⟨gb151, 2, none⟩ = some (.int .i64 a0_2) := (blk_cell BK151.out 2).trans rfl
   have hcz11_3 : w4.cell? ⟨gb151, 3, none⟩ = some (.int .i64 a0_3) := (blk_cell BK151.out 3).trans rfl
   have hcz11_4 : w4.cell? ⟨gb151, 4, none⟩ = some (.int .i64 a0_4) := (blk_cell BK151.out 4).trans rfl
   have hcz11_5 : w4.cell? ⟨gb151, 5, none⟩ = some (.slice A0_5 l0_5.length c0_5) := (blk_cell BK151.out 5).trans rfl
   have hcz11_6 : w4.cell? ⟨gb151, 6, none⟩ = some (.slice A0_6 l0_6.length c0_6) := (blk_cell BK151.out 6).trans rfl
   have hcz11_7 : w4.cell? ⟨gb151, 7, none⟩ = some (.slice A0_7 l0_7.length c0_7) := (blk_cell BK151.out 7).trans rfl
   have hcz11_8 : w4.cell? ⟨gb151, 8, none⟩ = some (.slice A0_8 l0_8.length c0_8) := (blk_cell BK151.out 8).trans rfl
   have hcz11_9 : w4.cell? ⟨gb151, 9, none⟩ = some (.slice A0_9 l0_9.length c0_9) := (blk_cell BK151.out 9).trans rfl
   have hfz11_0 := blk_frozen BK151.out 0
   have hfz11_1 := blk_frozen BK151.out 1
   have hfz11_2 := blk_frozen BK151.out 2
   have hfz11_3 := blk_frozen BK151.out 3
   have hfz11_4 := blk_frozen BK151.out 4
   have hfz11_5 := blk_frozen BK151.out 5
   have hfz11_6 := blk_frozen BK151.out 6
   have hfz11_7 := blk_frozen BK151.out 7
   have hfz11_8 := blk_frozen BK151.out 8
   have hfz11_9 := blk_frozen BK151.out 9
   go_wp2_with (first | (go_at_call 103; (with_reducible refine (spec_l6free.calls k _ _ l0_1 true _ ?side1 ?side2 A9.out).mono ?_); (case side1 => repeat (first | exact (Kd.C_below HR0_1.out HB.out) | (with_reducible refine Kd.C_alloc ?_ _) | (with_reducible refine Kd.C_drewN ?_ _) | (with_reducible refine Kd.C_drew ?_))); (case side2 => exact HC0_1.out); rintro e w12 ⟨rfl, hb⟩; replace BK151 := Aside0.mk (blk_below (g := gb151) (o := .cells #[.int .i64 a0_0, .slice A0_1 l0_1.length c0_1, .int .i64 a0_2, .int .i64 a0_3, .int .i64 a0_4, .slice A0_5 l0_5.length c0_5, .slice A0_6 l0_6.length c0_6, .slice A0_7 l0_7.length c0_7, .slice A0_8 l0_8.length c0_8, .slice A0_9 l0_9.length c0_9] 94 (0, 0)) (by (with_reducible repeat (first | refine blk_drewN ?_ _ | refine blk_drew ?_ | refine blk_alloc ?_ _)); exact BK151.out) hb); replace HB := (Bw.sw w hb); (try clear hb); have hcz13_0 : w12.cell? ⟨gb151, 0, none⟩ = some (.int .i64 a0_0) := (blk_cell BK151.out 0).trans rfl; have hcz13_1 : w12.cell? ⟨gb151, 1, none⟩ = some (.slice A0_1 l0_1.length c0_1) := (blk_cell BK151.out 1).trans rfl; have hcz13_2 : w12.cell? ⟨gb151, 2, none⟩ = some (.int .i64 a0_2) := (blk_cell BK151.out 2).trans rfl; have hcz13_3 : w12.cell? ⟨gb151, 3, none⟩ = some (.int .i64 a0_3) := (blk_cell BK151.out 3).trans rfl; have hcz13_4 : w12.cell? ⟨gb151, 4, none⟩ = some (.int .i64 a0_4) := (blk_cell BK151.out 4).trans rfl; have hcz13_5 : w12.cell? ⟨gb151, 5, none⟩ = some (.slice A0_5 l0_5.length c0_5) := (blk_cell BK151.out 5).trans rfl; have hcz13_6 : w12.cell? ⟨gb151, 6, none⟩ = some (.slice A0_6 l0_6.length c0_6) := (blk_cell BK151.out 6).trans rfl; have hcz13_7 : w12.cell? ⟨gb151, 7, none⟩ = some (.slice A0_7 l0_7.length c0_7) := (blk_cell BK151.out 7).trans rfl; have hcz13_8 : w12.cell? ⟨gb151, 8, none⟩ = some (.slice A0_8 l0_8.length c0_8) := (blk_cell BK151.out 8).trans rfl; have hcz13_9 : w12.cell? ⟨gb151, 9, none⟩ = some (.slice A0_9 l0_9.length c0_9) := (blk_cell BK151.out 9).trans rfl; have hfz13_0 := blk_frozen BK151.out 0; have hfz13_1 := blk_frozen BK151.out 1; have hfz13_2 := blk_frozen BK151.out 2; have hfz13_3 := blk_frozen BK151.out 3; have hfz13_4 := blk_frozen BK151.out 4; have hfz13_5 := blk_frozen BK151.out 5; have hfz13_6 := blk_frozen BK151.out 6; have hfz13_7 := blk_frozen BK151.out 7; have hfz13_8 := blk_frozen BK151.out 8; have hfz13_9 := blk_frozen BK151.out 9))
   go_meet
   case rel => exact ⟨_, (decide ((l0_9.length : Int) > 6)), (by first | rfl | (simp; done) | (simp [*]; done)), H', ⟨by first | omega | exact Nat.le_refl _⟩, ⟨by (with_reducible repeat (first | refine blk_drewN ?_ _ | refine blk_drew ?_ | refine blk_alloc ?_ _)); exact BK151.out⟩, ⟨bw⟩⟩
  replace c10 := Bool.eq_false_iff.mpr c10
  subst c10
  replace H := (if_neg (show ¬ (false = true) by decide)).symm.trans H
  have H' := Aside0.mk H
  clear H
  have hcz14_0 : w4.cell? ⟨gb151, 0, none⟩ = some (.int .i64 a0_0) := (blk_cell BK151.out 0).trans rfl
  have hcz14_1 : w4.cell? ⟨gb151, 1, none⟩ = some (.slice A0_1 l0_1.length c0_1) := (blk_cell BK151.out 1).trans rfl
  have hcz14_2 : w4.cell? ⟨gb151, 2, none⟩ = some (.int .i64 a0_2) := (blk_cell BK151.out 2).trans rfl
  have hcz14_3 : w4.cell? ⟨gb151, 3, none⟩ = some (.int .i64 a0_3) := (blk_cell BK151.out 3).trans rfl
  have hcz14_4 : w4.cell? ⟨gb151, 4, none⟩ = some (.int .i64 a0_4) := (blk_cell BK151.out 4).trans rfl
  have hcz14_5 : w4.cell? ⟨gb151, 5, none⟩ = some (.slice A0_5 l0_5.length c0_5) := (blk_cell BK151.out 5).trans rfl
  have hcz14_6 : w4.cell? ⟨gb151, 6, none⟩ = some (.slice A0_6 l0_6.length c0_6) := (blk_cell BK151.out 6).trans rfl
  have hcz14_7 : w4.cell? ⟨gb151, 7, none⟩ = some (.slice A0_7 l0_7.length c0_7) := (blk_cell BK151.out 7).trans rfl
  have hcz14_8 : w4.cell? ⟨gb151, 8, none⟩ = some (.slice A0_8 l0_8.length c0_8) := (blk_cell BK151.out 8).trans rfl
  have hcz14_9 : w4.cell? ⟨gb151, 9, none⟩ = some (.slice A0_9 l0_9.length c0_9) := (blk_cell BK151.out 9).trans rfl
  have hfz14_0 := blk_frozen BK151.out 0
  have hfz14_1 := blk_frozen BK151.out 1
  have hfz14_2 := blk_frozen BK151.out 2
  have hfz14_3 := blk_frozen BK151.out 3
  have hfz14_4 := blk_frozen BK151.out 4
  have hfz14_5 := blk_frozen BK151.out 5
  have hfz14_6 := blk_frozen BK151.out 6
  have hfz14_7 := blk_frozen BK151.out 7
  have hfz14_8 := blk_frozen BK151.out 8
  have hfz14_9 := blk_frozen BK151.out 9
  go_wp2_with (first | (go_at_call 103; (with_reducible refine (spec_l6free.calls k _ _ l0_1 false _ ?side1 ?side2 A9.out).mono ?_); (case side1 => repeat (first | exact (Kd.C_below HR0_1.out HB.out) | (with_reducible refine Kd.C_alloc ?_ _) | (with_reducible refine Kd.C_drewN ?_ _) | (with_reducible refine Kd.C_drew ?_))); (case side2 => exact HC0_1.out); rintro e w15 ⟨rfl, hb⟩; replace BK151 := Aside0.mk (blk_below (g := gb151) (o := .cells #[.int .i64 a0_0, .slice A0_1 l0_1.length c0_1, .int .i64 a0_2, .int .i64 a0_3, .int .i64 a0_4, .slice A0_5 l0_5.length c0_5, .slice A0_6 l0_6.length c0_6, .slice A0_7 l0_7.length c0_7, .slice A0_8 l0_8.length c0_8, .slice A0_9 l0_9.length c0_9] 94 (0, 0)) (by (with_reducible repeat (first | refine blk_drewN ?_ _ | refine blk_drew ?_ | refine blk_alloc ?_ _)); exact BK151.out) hb); replace HB := (Bw.sw w hb); (try clear hb)))
  go_meet
  case rel => exact ⟨_, (true), (by first | rfl | (simp; done) | (simp [*]; done)), H', ⟨by first | omega | exact Nat.le_refl _⟩, ⟨by (with_reducible repeat (first | refine blk_drewN ?_ _ | refine blk_drew ?_ | refine blk_alloc ?_ _)); exact BK151.out⟩, ⟨bw⟩⟩
 case rest =>
  as_aux_lemma =>
  clear HC3
  try clear c5
  try clear c5b0
  try clear c7
  try clear c7b0
  try clear c10
  try clear hcz11_0 hcz11_1 hcz11_2 hcz11_3 hcz11_4 hcz11_5 hcz11_6 hcz11_7 hcz11_8 hcz11_9
  try clear hcz13_0 hcz13_1 hcz13_2 hcz13_3 hcz13_4 hcz13_5 hcz13_6 hcz13_7 hcz13_8 hcz13_9
  try clear hcz14_0 hcz14_1 hcz14_2 hcz14_3 hcz14_4 hcz14_5 hcz14_6 hcz14_7 hcz14_8 hcz14_9
  try clear hcz6_0 hcz6_1 hcz6_2 hcz6_3 hcz6_4 hcz6_5 hcz6_6 hcz6_7 hcz6_8 hcz6_9
  try clear hcz8_0 hcz8_1 hcz8_2 hcz8_3 hcz8_4 hcz8_5 hcz8_6 hcz8_7 hcz8_8 hcz8_9
  try clear hfz11_0 hfz11_1 hfz11_2 hfz11_3 hfz11_4 hfz11_5 hfz11_6 hfz11_7 hfz11_8 hfz11_9
  try clear hfz13_0 hfz13_1 hfz13_2 hfz13_3 hfz13_4 hfz13_5 hfz13_6 hfz13_7 hfz13_8 hfz13_9
  try clear hfz14_0 hfz14_1 hfz14_2 hfz14_3 hfz14_4 hfz14_5 hfz14_6 hfz14_7 hfz14_8 hfz14_9
  try clear hfz6_0 hfz6_1 hfz6_2 hfz6_3 hfz6_4 hfz6_5 hfz6_6 hfz6_7 hfz6_8 hfz6_9
  try clear hfz8_0 hfz8_1 hfz8_2 hfz8_3 hfz8_4 hfz8_5 hfz8_6 hfz8_7 hfz8_8 hfz8_9
  obtain ⟨kq, x25_2, rfl, HA, HJ2, BK151, HB⟩ := hcut
  cases kq with
  | zero => exact absurd HA.out (by simp [spec_l6item.j0])
  | succ kj2 =>
   have H := HA.out
   clear HA
   simp only [spec_l6item.j0] at H
   by_cases c16 : x25_2 = true
   ·subst c16
    replace H := (if_pos rfl).symm.trans H
    obtain rfl := Option.some.inj H
    go_wp2
    go_ret
    exact ⟨by first | rfl | (simp [errW_none, errW_some] <;> rfl) | (simp [*, errW_none, errW_some] <;> rfl), bw⟩
   as_aux_lemma =>
   replace c16 := Bool.eq_false_iff.mpr c16
   subst c16
   replace H := (if_neg (show ¬ (false = true) by decide)).symm.trans H
   have HC17 := Aside0.mk H
   clear H
   have hcz18_0 : wc.cell? ⟨gb151, 0, none⟩ = some (.int .i64 a0_0) := (blk_cell BK151.out 0).trans rfl
   have hcz18_1 : wc.cell? ⟨gb151, 1, none⟩ = some (.slice A0_1 l0_1.length c0_1) := (blk_cell BK151.out 1).trans rfl
   have hcz18_2 : wc.cell? ⟨gb151, 2, none⟩ = some (.int .i64 a0_2) := (blk_cell BK151.out 2).trans rfl
   have hcz18_3 : wc.cell? ⟨gb151, 3, none⟩ = some (.int .i64 a0_3) := (blk_cell BK151.out 3).trans rfl
   have hcz18_4 : wc.cell? ⟨gb151, 4, none⟩ = some (.int .i64 a0_4) := (blk_cell BK151.out 4).trans rfl
   have hcz18_5 : wc.cell? ⟨gb151, 5, none⟩ = some (.slice A0_5 l0_5.length c0_5) := (blk_cell BK151.out 5).trans rfl
   have hcz18_6 : wc.cell? ⟨gb151, 6, none⟩ = some (.slice A0_6 l0_6.length c0_6) := (blk_cell BK151.out 6).trans rfl
   have hcz18_7 : wc.cell? ⟨gb151, 7, none⟩ = some (.slice A0_7 l0_7.length c0_7) := (blk_cell BK151.out 7).trans rfl
   have hcz18_8 : wc.cell? ⟨gb151, 8, none⟩ = some (.slice A0_8 l0_8.length c0_8) := (blk_cell BK151.out 8).trans rfl
   have hcz18_9 : wc.cell? ⟨gb151, 9, none⟩ = some (.slice A0_9 l0_9.length c0_9) := (blk_cell BK151.out 9).trans rfl
   have hfz18_0 := blk_frozen BK151.out 0
   have hfz18_1 := blk_frozen BK151.out 1
   have hfz18_2 := blk_frozen BK151.out 2
   have hfz18_3 := blk_frozen BK151.out 3
   have hfz18_4 := blk_frozen BK151.out 4
   have hfz18_5 := blk_frozen BK151.out 5
   have hfz18_6 := blk_frozen BK151.out 6
   have hfz18_7 := blk_frozen BK151.out 7
   have hfz18_8 := blk_frozen BK151.out 8
   have hfz18_9 := blk_frozen BK151.out 9
   go_upto_if 28 with (fail)
   go_cut [] (fun wc => ∃ (kq : Nat), Aside0 (spec_l6item.j1 kq a1 a0_0 l0_1 a0_2 a0_3 a0_4 l0_5 l0_6 l0_7 l0_8 l0_9 = some r) ∧ Aside0 (kq ≤ kj2) ∧ Aside0 (wc.heap[gb151]? = some (.cells #[.int .i64 a0_0, (.slice A0_1 l0_1.length c0_1), .int .i64 a0_2, .int .i64 a0_3, .int .i64 a0_4, (.slice A0_5 l0_5.length c0_5), (.slice A0_6 l0_6.length c0_6), (.slice A0_7 l0_7.length c0_7), (.slice A0_8 l0_8.length c0_8), (.slice A0_9 l0_9.length c0_9)] 94 (0, 0))) ∧ Bw w wc)
   case first =>
    as_aux_lemma =>
    have H := HC17.out
    clear HC17
    by_cases c19 : a0_0 = 1
    rotate_left
    ·as_aux_lemma =>
     rw [if_neg c19] at H
     have c19b0 : (a0_0 == 1) = false := beq_eq_false_iff_ne.mpr c19
     have c19b1 : (a0_0 != 1) = true := bne_iff_ne.mpr c19
     (first | rw [c19b0] | (simp only [i64_w, i32_w]; rw [c19b0]) | skip)
     by_cases c39 : a0_2 = 0
     rotate_left
     ·rw [if_neg c39] at H
      have c39b0 : (a0_2 == 0) = false := beq_eq_false_iff_ne.mpr c39
      have c39b1 : (a0_2 != 0) = true := bne_iff_ne.mpr c39
      obtain rfl := Option.some.inj H
      have hcz55_0 : wc.cell? ⟨gb151, 0, none⟩ = some (.int .i64 a0_0) := (blk_cell BK151.out 0).trans rfl
      have hcz55_1 : wc.cell? ⟨gb151, 1, none⟩ = some (.slice A0_1 l0_1.length c0_1) := (blk_cell BK151.out 1).trans rfl
      have hcz55_2 : wc.cell? ⟨gb151, 2, none⟩ = some (.int .i64 a0_2) := (blk_cell BK151.out 2).trans rfl
      have hcz55_3 : wc.cell? ⟨gb151, 3, none⟩ = some (.int .i64 a0_3) := (blk_cell BK151.out 3).trans rfl
      have hcz55_4 : wc.cell? ⟨gb151, 4, none⟩ = some (.int .i64 a0_4) := (blk_cell BK151.out 4).trans rfl
      have hcz55_5 : wc.cell? ⟨gb151, 5, none⟩ = some (.slice A0_5 l0_5.length c0_5) := (blk_cell BK151.out 5).trans rfl
      have hcz55_6 : wc.cell? ⟨gb151, 6, none⟩ = some (.slice A0_6 l0_6.length c0_6) := (blk_cell BK151.out 6).trans rfl
      have hcz55_7 : wc.cell? ⟨gb151, 7, none⟩ = some (.slice A0_7 l0_7.length c0_7) := (blk_cell BK151.out 7).trans rfl
      have hcz55_8 : wc.cell? ⟨gb151, 8, none⟩ = some (.slice A0_8 l0_8.length c0_8) := (blk_cell BK151.out 8).trans rfl
      have hcz55_9 : wc.cell? ⟨gb151, 9, none⟩ = some (.slice A0_9 l0_9.length c0_9) := (blk_cell BK151.out 9).trans rfl
      have hfz55_0 := blk_frozen BK151.out 0
      have hfz55_1 := blk_frozen BK151.out 1
      have hfz55_2 := blk_frozen BK151.out 2
      have hfz55_3 := blk_frozen BK151.out 3
      have hfz55_4 := blk_frozen BK151.out 4
      have hfz55_5 := blk_frozen BK151.out 5
      have hfz55_6 := blk_frozen BK151.out 6
      have hfz55_7 := blk_frozen BK151.out 7
      have hfz55_8 := blk_frozen BK151.out 8
      have hfz55_9 := blk_frozen BK151.out 9
      go_wp2
      go_ret
      exact ⟨by first | rfl | (simp [errW_none, errW_some] <;> rfl) | (simp [*, errW_none, errW_some] <;> rfl), bw⟩
     as_aux_lemma =>
     rw [if_pos c39] at H
     have c39b0 : (a0_2 == 0) = true := beq_iff_eq.mpr c39
     have c39b1 : (a0_2 != 0) = false := bne_eq_false_iff_eq.mpr c39
     clear c39
     replace H := Option.bind_eq_some_iff.mp H
     obtain ⟨t154, A400, H⟩ := H
     have A40 := Aside0.mk A400
     clear A400
     by_cases c41 : t154 = true
     rotate_left
     ·replace c41 := Bool.eq_false_iff.mpr c41
      subst c41
      replace H := (if_neg (show ¬ (false = true) by decide)).symm.trans H
      obtain rfl := Option.some.inj H
      have hcz53_0 : wc.cell? ⟨gb151, 0, none⟩ = some (.int .i64 a0_0) := (blk_cell BK151.out 0).trans rfl
      have hcz53_1 : wc.cell? ⟨gb151, 1, none⟩ = some (.slice A0_1 l0_1.length c0_1) := (blk_cell BK151.out 1).trans rfl
      have hcz53_2 : wc.cell? ⟨gb151, 2, none⟩ = some (.int .i64 a0_2) := (blk_cell BK151.out 2).trans rfl
      have hcz53_3 : wc.cell? ⟨gb151, 3, none⟩ = some (.int .i64 a0_3) := (blk_cell BK151.out 3).trans rfl
      have hcz53_4 : wc.cell? ⟨gb151, 4, none⟩ = some (.int .i64 a0_4) := (blk_cell BK151.out 4).trans rfl
      have hcz53_5 : wc.cell? ⟨gb151, 5, none⟩ = some (.slice A0_5 l0_5.length c0_5) := (blk_cell BK151.out 5).trans rfl
      have hcz53_6 : wc.cell? ⟨gb151, 6, none⟩ = some (.slice A0_6 l0_6.length c0_6) := (blk_cell BK151.out 6).trans rfl
      have hcz53_7 : wc.cell? ⟨gb151, 7, none⟩ = some (.slice A0_7 l0_7.length c0_7) := (blk_cell BK151.out 7).trans rfl
      have hcz53_8 : wc.cell? ⟨gb151, 8, none⟩ = some (.slice A0_8 l0_8.length c0_8) := (blk_cell BK151.out 8).trans rfl
      have hcz53_9 : wc.cell? ⟨gb151, 9, none⟩ = some (.slice A0_9 l0_9.length c0_9) := (blk_cell BK151.out 9).trans rfl
      have hfz53_0 := blk_frozen BK151.out 0
      have hfz53_1 := blk_frozen BK151.out 1
      have hfz53_2 := blk_frozen BK151.out 2
      have hfz53_3 := blk_frozen BK151.out 3
      have hfz53_4 := blk_frozen BK151.out 4
      have hfz53_5 := blk_frozen BK151.out 5
      have hfz53_6 := blk_frozen BK151.out 6
      have hfz53_7 := blk_frozen BK151.out 7
      have hfz53_8 := blk_frozen BK151.out 8
      have hfz53_9 := blk_frozen BK151.out 9
      go_wp2_with (first | (go_at_call 104; (with_reducible refine (spec_l6zero.calls a0_3 a0_4 _ _ l0_5 _ _ l0_6 _ _ l0_7 false _ ?side1 ?side2 ?side3 ?side4 ?side5 ?side6 A40.out).mono ?_); (case side1 => repeat (first | exact (Kd.C_below HR0_5.out HB.out) | (with_reducible refine Kd.C_alloc ?_ _) | (with_reducible refine Kd.C_drewN ?_ _) | (with_reducible refine Kd.C_drew ?_))); (case side2 => exact HC0_5.out); (case side3 => repeat (first | exact (Kd.C_below HR0_6.out HB.out) | (with_reducible refine Kd.C_alloc ?_ _) | (with_reducible refine Kd.C_drewN ?_ _) | (with_reducible refine Kd.C_drew ?_))); (case side4 => exact HC0_6.out); (case side5 => repeat (first | exact (Kd.C_below HR0_7.out HB.out) | (with_reducible refine Kd.C_alloc ?_ _) | (with_reducible refine Kd.C_drewN ?_ _) | (with_reducible refine Kd.C_drew ?_))); (case side6 => exact HC0_7.out); rintro e w54 ⟨rfl, hb⟩; replace BK151 := Aside0.mk (blk_below (g := gb151) (o := .cells #[.int .i64 a0_0, .slice A0_1 l0_1.length c0_1, .int .i64 a0_2, .int .i64 a0_3, .int .i64 a0_4, .slice A0_5 l0_5.length c0_5, .slice A0_6 l0_6.length c0_6, .slice A0_7 l0_7.length c0_7, .slice A0_8 l0_8.length c0_8, .slice A0_9 l0_9.length c0_9] 94 (0, 0)) (by (with_reducible repeat (first | refine blk_drewN ?_ _ | refine blk_drew ?_ | refine blk_alloc ?_ _)); exact BK151.out) hb); replace HB := (Bw.sw w hb); (try clear hb)))
      go_ret
      exact ⟨by first | rfl | (simp [errW_none, errW_some] <;> rfl) | (simp [*, errW_none, errW_some] <;> rfl), bw⟩
     as_aux_lemma =>
     subst c41
     replace H := (if_pos rfl).symm.trans H
     by_cases c42 : (l0_8.length : Int) > 0
     ·rw [if_pos c42] at H
      have c42b0 : decide (0 < (l0_8.length : Int)) = true := decide_eq_true c42
      have c42b1 : decide (0 < l0_8.length) = true := decide_eq_true (by omega)
      clear c42
      obtain rfl := Option.some.inj H
      have hcz43_0 : wc.cell? ⟨gb151, 0, none⟩ = some (.int .i64 a0_0) := (blk_cell BK151.out 0).trans rfl
      have hcz43_1 : wc.cell? ⟨gb151, 1, none⟩ = some (.slice A0_1 l0_1.length c0_1) := (blk_cell BK151.out 1).trans rfl
      have hcz43_2 : wc.cell? ⟨gb151, 2, none⟩ = some (.int .i64 a0_2) := (blk_cell BK151.out 2).trans rfl
      have hcz43_3 : wc.cell? ⟨gb151, 3, none⟩ = some (.int .i64 a0_3) := (blk_cell BK151.out 3).trans rfl
      have hcz43_4 : wc.cell? ⟨gb151, 4, none⟩ = some (.int .i64 a0_4) := (blk_cell BK151.out 4).trans rfl
      have hcz43_5 : wc.cell? ⟨gb151, 5, none⟩ = some (.slice A0_5 l0_5.length c0_5) := (blk_cell BK151.out 5).trans rfl
      have hcz43_6 : wc.cell? ⟨gb151, 6, none⟩ = some (.slice A0_6 l0_6.length c0_6) := (blk_cell BK151.out 6).trans rfl
      have hcz43_7 : wc.cell? ⟨gb151, 7, none⟩ = some (.slice A0_7 l0_7.length c0_7) := (blk_cell BK151.out 7).trans rfl
      have hcz43_8 : wc.cell? ⟨gb151, 8, none⟩ = some (.slice A0_8 l0_8.length c0_8) := (blk_cell BK151.out 8).trans rfl
      have hcz43_9 : wc.cell? ⟨gb151, 9, none⟩ = some (.slice A0_9 l0_9.length c0_9) := (blk_cell BK151.out 9).trans rfl
      have hfz43_0 := blk_frozen BK151.out 0
      have hfz43_1 := blk_frozen BK151.out 1
      have hfz43_2 := blk_frozen BK151.out 2
      have hfz43_3 := blk_frozen BK151.out 3
      have hfz43_4 := blk_frozen BK151.out 4
      have hfz43_5 := blk_frozen BK151.out 5
      have hfz43_6 := blk_frozen BK151.out 6
      have hfz43_7 := blk_frozen BK151.out 7
      have hfz43_8 := blk_frozen BK151.out 8
      have hfz43_9 := blk_frozen BK151.out 9
      go_wp2_with (first | (go_at_call 104; (with_reducible refine (spec_l6zero.calls a0_3 a0_4 _ _ l0_5 _ _ l0_6 _ _ l0_7 true _ ?side1 ?side2 ?side3 ?side4 ?side5 ?side6 A40.out).mono ?_); (case side1 => repeat (first | exact (Kd.C_below HR0_5.out HB.out) | (with_reducible refine Kd.C_alloc ?_ _) | (with_reducible refine Kd.C_drewN ?_ _) | (with_reducible refine Kd.C_drew ?_))); (case side2 => exact HC0_5.out); (case side3 => repeat (first | exact (Kd.C_below HR0_6.out HB.out) | (with_reducible refine Kd.C_alloc ?_ _) | (with_reducible refine Kd.C_drewN ?_ _) | (with_reducible refine Kd.C_drew ?_))); (case side4 => exact HC0_6.out); (case side5 => repeat (first | exact (Kd.C_below HR0_7.out HB.out) | (with_reducible refine Kd.C_alloc ?_ _) | (with_reducible refine Kd.C_drewN ?_ _) | (with_reducible refine Kd.C_drew ?_))); (case side6 => exact HC0_7.out); rintro e w44 ⟨rfl, hb⟩; replace BK151 := Aside0.mk (blk_below (g := gb151) (o := .cells #[.int .i64 a0_0, .slice A0_1 l0_1.length c0_1, .int .i64 a0_2, .int .i64 a0_3, .int .i64 a0_4, .slice A0_5 l0_5.length c0_5, .slice A0_6 l0_6.length c0_6, .slice A0_7 l0_7.length c0_7, .slice A0_8 l0_8.length c0_8, .slice A0_9 l0_9.length c0_9] 94 (0, 0)) (by (with_reducible repeat (first | refine blk_drewN ?_ _ | refine blk_drew ?_ | refine blk_alloc ?_ _)); exact BK151.out) hb); replace HB := (Bw.sw w hb); (try clear hb); have hcz45_0 : w44.cell? ⟨gb151, 0, none⟩ = some (.int .i64 a0_0) := (blk_cell BK151.out 0).trans rfl; have hcz45_1 : w44.cell? ⟨gb151, 1, none⟩ = some (.slice A0_1 l0_1.length c0_1) := (blk_cell BK151.out 1).trans rfl; have hcz45_2 : w44.cell? ⟨gb151, 2, none⟩ = some (.int .i64 a0_2) := (blk_cell BK151.out 2).trans rfl; have hcz45_3 : w44.cell? ⟨gb151, 3, none⟩ = some (.int .i64 a0_3) := (blk_cell BK151.out 3).trans rfl; have hcz45_4 : w44.cell? ⟨gb151, 4, none⟩ = some (.int .i64 a0_4) := (blk_cell BK151.out 4).trans rfl; have hcz45_5 : w44.cell? ⟨gb151, 5, none⟩ = some (.slice A0_5 l0_5.length c0_5) := (blk_cell BK151.out 5).trans rfl; have hcz45_6 : w44.cell? ⟨gb151, 6, none⟩ = some (.slice A0_6 l0_6.length c0_6) := (blk_cell BK151.out 6).trans rfl; have hcz45_7 : w44.cell? ⟨gb151, 7, none⟩ = some (.slice A0_7 l0_7.length c0_7) := (blk_cell BK151.out 7).trans rfl; have hcz45_8 : w44.cell? ⟨gb151, 8, none⟩ = some (.slice A0_8 l0_8.length c0_8) := (blk_cell BK151.out 8).trans rfl; have hcz45_9 : w44.cell? ⟨gb151, 9, none⟩ = some (.slice A0_9 l0_9.length c0_9) := (blk_cell BK151.out 9).trans rfl; have hfz45_0 := blk_frozen BK151.out 0; have hfz45_1 := blk_frozen BK151.out 1; have hfz45_2 := blk_frozen BK151.out 2; have hfz45_3 := blk_frozen BK151.out 3; have hfz45_4 := blk_frozen BK151.out 4; have hfz45_5 := blk_frozen BK151.out 5; have hfz45_6 := blk_frozen BK151.out 6; have hfz45_7 := blk_frozen BK151.out 7; have hfz45_8 := blk_frozen BK151.out 8; have hfz45_9 := blk_frozen BK151.out 9))
      go_ret
      exact ⟨by first | rfl | (simp [errW_none, errW_some] <;> rfl) | (simp [*, errW_none, errW_some] <;> rfl), bw⟩
     as_aux_lemma =>
     rw [if_neg c42] at H
     have c42b0 : decide (0 < (l0_8.length : Int)) = false := decide_eq_false c42
     have c42b1 : decide (0 < l0_8.length) = false := decide_eq_false (by omega)
     clear c42
     by_cases c46 : (l0_9.length : Int) = 1
     ·rw [if_pos c46] at H
      have c46b0 : ((l0_9.length : Int) == 1) = true := beq_iff_eq.mpr c46
      have c46b1 : ((l0_9.length : Int) != 1) = false := bne_eq_false_iff_eq.mpr c46
      clear c46
      have H' := Aside0.mk H
      clear H
      have hcz47_0 : wc.cell? ⟨gb151, 0, none⟩ = some (.int .i64 a0_0) := (blk_cell BK151.out 0).trans rfl
      have hcz47_1 : wc.cell? ⟨gb151, 1, none⟩ = some (.slice A0_1 l0_1.length c0_1) := (blk_cell BK151.out 1).trans rfl
      have hcz47_2 : wc.cell? ⟨gb151, 2, none⟩ = some (.int .i64 a0_2) := (blk_cell BK151.out 2).trans rfl
      have hcz47_3 : wc.cell? ⟨gb151, 3, none⟩ = some (.int .i64 a0_3) := (blk_cell BK151.out 3).trans rfl
      have hcz47_4 : wc.cell? ⟨gb151, 4, none⟩ = some (.int .i64 a0_4) := (blk_cell BK151.out 4).trans rfl
      have hcz47_5 : wc.cell? ⟨gb151, 5, none⟩ = some (.slice A0_5 l0_5.length c0_5) := (blk_cell BK151.out 5).trans rfl
      have hcz47_6 : wc.cell? ⟨gb151, 6, none⟩ = some (.slice A0_6 l0_6.length c0_6) := (blk_cell BK151.out 6).trans rfl
      have hcz47_7 : wc.cell? ⟨gb151, 7, none⟩ = some (.slice A0_7 l0_7.length c0_7) := (blk_cell BK151.out 7).trans rfl
      have hcz47_8 : wc.cell? ⟨gb151, 8, none⟩ = some (.slice A0_8 l0_8.length c0_8) := (blk_cell BK151.out 8).trans rfl
      have hcz47_9 : wc.cell? ⟨gb151, 9, none⟩ = some (.slice A0_9 l0_9.length c0_9) := (blk_cell BK151.out 9).trans rfl
      have hfz47_0 := blk_frozen BK151.out 0
      have hfz47_1 := blk_frozen BK151.out 1
      have hfz47_2 := blk_frozen BK151.out 2
      have hfz47_3 := blk_frozen BK151.out 3
      have hfz47_4 := blk_frozen BK151.out 4
      have hfz47_5 := blk_frozen BK151.out 5
      have hfz47_6 := blk_frozen BK151.out 6
      have hfz47_7 := blk_frozen BK151.out 7
      have hfz47_8 := blk_frozen BK151.out 8
      have hfz47_9 := blk_frozen BK151.out 9
      go_wp2_with (first | (go_at_call 104; (with_reducible refine (spec_l6zero.calls a0_3 a0_4 _ _ l0_5 _ _ l0_6 _ _ l0_7 true _ ?side1 ?side2 ?side3 ?side4 ?side5 ?side6 A40.out).mono ?_); (case side1 => repeat (first | exact (Kd.C_below HR0_5.out HB.out) | (with_reducible refine Kd.C_alloc ?_ _) | (with_reducible refine Kd.C_drewN ?_ _) | (with_reducible refine Kd.C_drew ?_))); (case side2 => exact HC0_5.out); (case side3 => repeat (first | exact (Kd.C_below HR0_6.out HB.out) | (with_reducible refine Kd.C_alloc ?_ _) | (with_reducible refine Kd.C_drewN ?_ _) | (with_reducible refine Kd.C_drew ?_))); (case side4 => exact HC0_6.out); (case side5 => repeat (first | exact (Kd.C_below HR0_7.out HB.out) | (with_reducible refine Kd.C_alloc ?_ _) | (with_reducible refine Kd.C_drewN ?_ _) | (with_reducible refine Kd.C_drew ?_))); (case side6 => exact HC0_7.out); rintro e w48 ⟨rfl, hb⟩; replace BK151 := Aside0.mk (blk_below (g := gb151) (o := .cells #[.int .i64 a0_0, .slice A0_1 l0_1.length c0_1, .int .i64 a0_2, .int .i64 a0_3, .int .i64 a0_4, .slice A0_5 l0_5.length c0_5, .slice A0_6 l0_6.length c0_6, .slice A0_7 l0_7.length c0_7, .slice A0_8 l0_8.length c0_8, .slice A0_9 l0_9.length c0_9] 94 (0, 0)) (by (with_reducible repeat (first | refine blk_drewN ?_ _ | refine blk_drew ?_ | refine blk_alloc ?_ _)); exact BK151.out) hb); replace HB := (Bw.sw w hb); (try clear hb); have hcz49_0 : w48.cell? ⟨gb151, 0, none⟩ = some (.int .i64 a0_0) := (blk_cell BK151.out 0).trans rfl; have hcz49_1 : w48.cell? ⟨gb151, 1, none⟩ = some (.slice A0_1 l0_1.length c0_1) := (blk_cell BK151.out 1).trans rfl; have hcz49_2 : w48.cell? ⟨gb151, 2, none⟩ = some (.int .i64 a0_2) := (blk_cell BK151.out 2).trans rfl; have hcz49_3 : w48.cell? ⟨gb151, 3, none⟩ = some (.int .i64 a0_3) := (blk_cell BK151.out 3).trans rfl; have hcz49_4 : w48.cell? ⟨gb151, 4, none⟩ = some (.int .i64 a0_4) := (blk_cell BK151.out 4).trans rfl; have hcz49_5 : w48.cell? ⟨gb151, 5, none⟩ = some (.slice A0_5 l0_5.length c0_5) := (blk_cell BK151.out 5).trans rfl; have hcz49_6 : w48.cell? ⟨gb151, 6, none⟩ = some (.slice A0_6 l0_6.length c0_6) := (blk_cell BK151.out 6).trans rfl; have hcz49_7 : w48.cell? ⟨gb151, 7, none⟩ = some (.slice A0_7 l0_7.length c0_7) := (blk_cell BK151.out 7).trans rfl; have hcz49_8 : w48.cell? ⟨gb151, 8, none⟩ = some (.slice A0_8 l0_8.length c0_8) := (blk_cell BK151.out 8).trans rfl; have hcz49_9 : w48.cell? ⟨gb151, 9, none⟩ = some (.slice A0_9 l0_9.length c0_9) := (blk_cell BK151.out 9).trans rfl; have hfz49_0 := blk_frozen BK151.out 0; have hfz49_1 := blk_frozen BK151.out 1; have hfz49_2 := blk_frozen BK151.out 2; have hfz49_3 := blk_frozen BK151.out 3; have hfz49_4 := blk_frozen BK151.out 4; have hfz49_5 := blk_frozen BK151.out 5; have hfz49_6 := blk_frozen BK151.out 6; have hfz49_7 := blk_frozen BK151.out 7; have hfz49_8 := blk_frozen BK151.out 8; have hfz49_9 := blk_frozen BK151.out 9))
      go_meet
      case rel => exact ⟨_, H', ⟨by have := HJ2.out; first | omega | exact Nat.le_refl _⟩, ⟨by (with_reducible repeat (first | refine blk_drewN ?_ _ | refine blk_drew ?_ | refine blk_alloc ?_ _)); exact BK151.out⟩, ⟨bw⟩⟩
     rw [if_neg c46] at H
     have c46b0 : ((l0_9.length : Int) == 1) = false := beq_eq_false_iff_ne.mpr c46
     have c46b1 : ((l0_9.length : Int) != 1) = true := bne_iff_ne.mpr c46
     obtain rfl := Option.some.inj H
     have hcz50_0 : wc.cell? ⟨gb151, 0, none⟩ = some (.int .i64 a0_0) := (blk_cell BK151.out 0).trans rfl
     have hcz50_1 : wc.cell? ⟨gb151, 1, none⟩ = some (.slice A0_1 l0_1.length c0_1) := (blk_cell BK151.out 1).trans rfl
     have hcz50_2 : wc.cell? ⟨gb151, 2, none⟩ = some (.int .i64 a0_2) := (blk_cell BK151.out 2).trans rfl
     have hcz50_3 : wc.cell? ⟨gb151, 3, none⟩ = some (.int .i64 a0_3) := (blk_cell BK151.out 3).trans rfl
     have hcz50_4 : wc.cell? ⟨gb151, 4, none⟩ = some (.int .i64 a0_4) := (blk_cell BK151.out 4).trans rfl
     have hcz50_5 : wc.cell? ⟨gb151, 5, none⟩ = some (.slice A0_5 l0_5.length c0_5) := (blk_cell BK151.out 5).trans rfl
     have hcz50_6 : wc.cell? ⟨gb151, 6, none⟩ = some (.slice A0_6 l0_6.length c0_6) := (blk_cell BK151.out 6).trans rfl
     have hcz50_7 : wc.cell? ⟨gb151, 7, none⟩ = some (.slice A0_7 l0_7.length c0_7) := (blk_cell BK151.out 7).trans rfl
     have hcz50_8 : wc.cell? ⟨gb151, 8, none⟩ = some (.slice A0_8 l0_8.length c0_8) := (blk_cell BK151.out 8).trans rfl
     have hcz50_9 : wc.cell? ⟨gb151, 9, none⟩ = some (.slice A0_9 l0_9.length c0_9) := (blk_cell BK151.out 9).trans rfl
     have hfz50_0 := blk_frozen BK151.out 0
     have hfz50_1 := blk_frozen BK151.out 1
     have hfz50_2 := blk_frozen BK151.out 2
     have hfz50_3 := blk_frozen BK151.out 3
     have hfz50_4 := blk_frozen BK151.out 4
     have hfz50_5 := blk_frozen BK151.out 5
     have hfz50_6 := blk_frozen BK151.out 6
     have hfz50_7 := blk_frozen BK151.out 7
     have hfz50_8 := blk_frozen BK151.out 8
     have hfz50_9 := blk_frozen BK151.out 9
     go_wp2_with (first | (go_at_call 104; (with_reducible refine (spec_l6zero.calls a0_3 a0_4 _ _ l0_5 _ _ l0_6 _ _ l0_7 true _ ?side1 ?side2 ?side3 ?side4 ?side5 ?side6 A40.out).mono ?_); (case side1 => repeat (first | exact (Kd.C_below HR0_5.out HB.out) | (with_reducible refine Kd.C_alloc ?_ _) | (with_reducible refine Kd.C_drewN ?_ _) | (with_reducible refine Kd.C_drew ?_))); (case side2 => exact HC0_5.out); (case side3 => repeat (first | exact (Kd.C_below HR0_6.out HB.out) | (with_reducible refine Kd.C_alloc ?_ _) | (with_reducible refine Kd.C_drewN ?_ _) | (with_reducible refine Kd.C_drew ?_))); (case side4 => exact HC0_6.out); (case side5 => repeat (first | exact (Kd.C_below HR0_7.out HB.out) | (with_reducible refine Kd.C_alloc ?_ _) | (with_reducible refine Kd.C_drewN ?_ _) | (with_reducible refine Kd.C_drew ?_))); (case side6 => exact HC0_7.out); rintro e w51 ⟨rfl, hb⟩; replace BK151 := Aside0.mk (blk_below (g := gb151) (o := .cells #[.int .i64 a0_0, .slice A0_1 l0_1.length c0_1, .int .i64 a0_2, .int .i64 a0_3, .int .i64 a0_4, .slice A0_5 l0_5.length c0_5, .slice A0_6 l0_6.length c0_6, .slice A0_7 l0_7.length c0_7, .slice A0_8 l0_8.length c0_8, .slice A0_9 l0_9.length c0_9] 94 (0, 0)) (by (with_reducible repeat (first | refine blk_drewN ?_ _ | refine blk_drew ?_ | refine blk_alloc ?_ _)); exact BK151.out) hb); replace HB := (Bw.sw w hb); (try clear hb); have hcz52_0 : w51.cell? ⟨gb151, 0, none⟩ = some (.int .i64 a0_0) := (blk_cell BK151.out 0).trans rfl; have hcz52_1 : w51.cell? ⟨gb151, 1, none⟩ = some (.slice A0_1 l0_1.length c0_1) := (blk_cell BK151.out 1).trans rfl; have hcz52_2 : w51.cell? ⟨gb151, 2, none⟩ = some (.int .i64 a0_2) := (blk_cell BK151.out 2).trans rfl; have hcz52_3 : w51.cell? ⟨gb151, 3, none⟩ = some (.int .i64 a0_3) := (blk_cell BK151.out 3).trans rfl; have hcz52_4 : w51.cell? ⟨gb151, 4, none⟩ = some (.int .i64 a0_4) := (blk_cell BK151.out 4).trans rfl; have hcz52_5 : w51.cell? ⟨gb151, 5, none⟩ = some (.slice A0_5 l0_5.length c0_5) := (blk_cell BK151.out 5).trans rfl; have hcz52_6 : w51.cell? ⟨gb151, 6, none⟩ = some (.slice A0_6 l0_6.length c0_6) := (blk_cell BK151.out 6).trans rfl; have hcz52_7 : w51.cell? ⟨gb151, 7, none⟩ = some (.slice A0_7 l0_7.length c0_7) := (blk_cell BK151.out 7).trans rfl; have hcz52_8 : w51.cell? ⟨gb151, 8, none⟩ = some (.slice A0_8 l0_8.length c0_8) := (blk_cell BK151.out 8).trans rfl; have hcz52_9 : w51.cell? ⟨gb151, 9, none⟩ = some (.slice A0_9 l0_9.length c0_9) := (blk_cell BK151.out 9).trans rfl; have hfz52_0 := blk_frozen BK151.out 0; have hfz52_1 := blk_frozen BK151.out 1; have hfz52_2 := blk_frozen BK151.out 2; have hfz52_3 := blk_frozen BK151.out 3; have hfz52_4 := blk_frozen BK151.out 4; have hfz52_5 := blk_frozen BK151.out 5; have hfz52_6 := blk_frozen BK151.out 6; have hfz52_7 := blk_frozen BK151.out 7; have hfz52_8 := blk_frozen BK151.out 8; have hfz52_9 := blk_frozen BK151.out 9))
     go_ret
     exact ⟨by first | rfl | (simp [errW_none, errW_some] <;> rfl) | (simp [*, errW_none, errW_some] <;> rfl), bw⟩
    as_aux_lemma =>
    rw [if_pos c19] at H
    have c19b0 : (a0_0 == 1) = true := beq_iff_eq.mpr c19
    have c19b1 : (a0_0 != 1) = false := bne_eq_false_iff_eq.mpr c19
    clear c19
    (first | rw [c19b0] | (simp only [i64_w, i32_w]; rw [c19b0]) | skip)
    by_cases c20 : a0_2 < 0
    ·rw [if_pos c20] at H
     have c20b0 : decide (a0_2 < 0) = true := decide_eq_true c20
     clear c20
     obtain rfl := Option.some.inj H
     have hcz21_0 : wc.cell? ⟨gb151, 0, none⟩ = some (.int .i64 a0_0) := (blk_cell BK151.out 0).trans rfl
     have hcz21_1 : wc.cell? ⟨gb151, 1, none⟩ = some (.slice A0_1 l0_1.length c0_1) := (blk_cell BK151.out 1).trans rfl
     have hcz21_2 : wc.cell? ⟨gb151, 2, none⟩ = some (.int .i64 a0_2) := (blk_cell BK151.out 2).trans rfl
     have hcz21_3 : wc.cell? ⟨gb151, 3, none⟩ = some (.int .i64 a0_3) := (blk_cell BK151.out 3).trans rfl
     have hcz21_4 : wc.cell? ⟨gb151, 4, none⟩ = some (.int .i64 a0_4) := (blk_cell BK151.out 4).trans rfl
     have hcz21_5 : wc.cell? ⟨gb151, 5, none⟩ = some (.slice A0_5 l0_5.length c0_5) := (blk_cell BK151.out 5).trans rfl
     have hcz21_6 : wc.cell? ⟨gb151, 6, none⟩ = some (.slice A0_6 l0_6.length c0_6) := (blk_cell BK151.out 6).trans rfl
     have hcz21_7 : wc.cell? ⟨gb151, 7, none⟩ = some (.slice A0_7 l0_7.length c0_7) := (blk_cell BK151.out 7).trans rfl
     have hcz21_8 : wc.cell? ⟨gb151, 8, none⟩ = some (.slice A0_8 l0_8.length c0_8) := (blk_cell BK151.out 8).trans rfl
     have hcz21_9 : wc.cell? ⟨gb151, 9, none⟩ = some (.slice A0_9 l0_9.length c0_9) := (blk_cell BK151.out 9).trans rfl
     have hfz21_0 := blk_frozen BK151.out 0
     have hfz21_1 := blk_frozen BK151.out 1
     have hfz21_2 := blk_frozen BK151.out 2
     have hfz21_3 := blk_frozen BK151.out 3
     have hfz21_4 := blk_frozen BK151.out 4
     have hfz21_5 := blk_frozen BK151.out 5
     have hfz21_6 := blk_frozen BK151.out 6
     have hfz21_7 := blk_frozen BK151.out 7
     have hfz21_8 := blk_frozen BK151.out 8
     have hfz21_9 := blk_frozen BK151.out 9
     go_wp2
     go_ret
     exact ⟨by first | rfl | (simp [errW_none, errW_some] <;> rfl) | (simp [*, errW_none, errW_some] <;> rfl), bw⟩
    as_aux_lemma =>
    rw [if_neg c20] at H
    have c20b0 : decide (a0_2 < 0) = false := decide_eq_false c20
    clear c20
    by_cases c22 : a0_2 > 2
    ·rw [if_pos c22] at H
     have c22b0 : decide (2 < a0_2) = true := decide_eq_true c22
     clear c22
     obtain rfl := Option.some.inj H
     have hcz23_0 : wc.cell? ⟨gb151, 0, none⟩ = some (.int .i64 a0_0) := (blk_cell BK151.out 0).trans rfl
     have hcz23_1 : wc.cell? ⟨gb151, 1, none⟩ = some (.slice A0_1 l0_1.length c0_1) := (blk_cell BK151.out 1).trans rfl
     have hcz23_2 : wc.cell? ⟨gb151, 2, none⟩ = some (.int .i64 a0_2) := (blk_cell BK151.out 2).trans rfl
     have hcz23_3 : wc.cell? ⟨gb151, 3, none⟩ = some (.int .i64 a0_3) := (blk_cell BK151.out 3).trans rfl
     have hcz23_4 : wc.cell? ⟨gb151, 4, none⟩ = some (.int .i64 a0_4) := (blk_cell BK151.out 4).trans rfl
     have hcz23_5 : wc.cell? ⟨gb151, 5, none⟩ = some (.slice A0_5 l0_5.length c0_5) := (blk_cell BK151.out 5).trans rfl
     have hcz23_6 : wc.cell? ⟨gb151, 6, none⟩ = some (.slice A0_6 l0_6.length c0_6) := (blk_cell BK151.out 6).trans rfl
     have hcz23_7 : wc.cell? ⟨gb151, 7, none⟩ = some (.slice A0_7 l0_7.length c0_7) := (blk_cell BK151.out 7).trans rfl
     have hcz23_8 : wc.cell? ⟨gb151, 8, none⟩ = some (.slice A0_8 l0_8.length c0_8) := (blk_cell BK151.out 8).trans rfl
     have hcz23_9 : wc.cell? ⟨gb151, 9, none⟩ = some (.slice A0_9 l0_9.length c0_9) := (blk_cell BK151.out 9).trans rfl
     have hfz23_0 := blk_frozen BK151.out 0
     have hfz23_1 := blk_frozen BK151.out 1
     have hfz23_2 := blk_frozen BK151.out 2
     have hfz23_3 := blk_frozen BK151.out 3
     have hfz23_4 := blk_frozen BK151.out 4
     have hfz23_5 := blk_frozen BK151.out 5
     have hfz23_6 := blk_frozen BK151.out 6
     have hfz23_7 := blk_frozen BK151.out 7
     have hfz23_8 := blk_frozen BK151.out 8
     have hfz23_9 := blk_frozen BK151.out 9
     go_wp2
     go_ret
     exact ⟨by first | rfl | (simp [errW_none, errW_some] <;> rfl) | (simp [*, errW_none, errW_some] <;> rfl), bw⟩
    as_aux_lemma =>
    rw [if_neg c22] at H
    have c22b0 : decide (2 < a0_2) = false := decide_eq_false c22
    clear c22
    by_cases c24 : a0_2 = 0
    rotate_left
    ·rw [if_neg c24] at H
     have c24b0 : (a0_2 == 0) = false := beq_eq_false_iff_ne.mpr c24
     have c24b1 : (a0_2 != 0) = true := bne_iff_ne.mpr c24
     by_cases c36 : (l0_8.length : Int) = (l0_9.length : Int)
     ·rw [if_pos c36] at H
      have c36b0 : ((l0_8.length : Int) == (l0_9.length : Int)) = true := beq_iff_eq.mpr c36
      have c36b1 : ((l0_8.length : Int) != (l0_9.length : Int)) = false := bne_eq_false_iff_eq.mpr c36
      have c36b2 : (l0_8.length == l0_9.length) = true := by first | simpa using c36 | (simp at c36 ⊢; omega)
      clear c36
      have H' := Aside0.mk H
      clear H
      have hcz37_0 : wc.cell? ⟨gb151, 0, none⟩ = some (.int .i64 a0_0) := (blk_cell BK151.out 0).trans rfl
      have hcz37_1 : wc.cell? ⟨gb151, 1, none⟩ = some (.slice A0_1 l0_1.length c0_1) := (blk_cell BK151.out 1).trans rfl
      have hcz37_2 : wc.cell? ⟨gb151, 2, none⟩ = some (.int .i64 a0_2) := (blk_cell BK151.out 2).trans rfl
      have hcz37_3 : wc.cell? ⟨gb151, 3, none⟩ = some (.int .i64 a0_3) := (blk_cell BK151.out 3).trans rfl
      have hcz37_4 : wc.cell? ⟨gb151, 4, none⟩ = some (.int .i64 a0_4) := (blk_cell BK151.out 4).trans rfl
      have hcz37_5 : wc.cell? ⟨gb151, 5, none⟩ = some (.slice A0_5 l0_5.length c0_5) := (blk_cell BK151.out 5).trans rfl
      have hcz37_6 : wc.cell? ⟨gb151, 6, none⟩ = some (.slice A0_6 l0_6.length c0_6) := (blk_cell BK151.out 6).trans rfl
      have hcz37_7 : wc.cell? ⟨gb151, 7, none⟩ = some (.slice A0_7 l0_7.length c0_7) := (blk_cell BK151.out 7).trans rfl
      have hcz37_8 : wc.cell? ⟨gb151, 8, none⟩ = some (.slice A0_8 l0_8.length c0_8) := (blk_cell BK151.out 8).trans rfl
      have hcz37_9 : wc.cell? ⟨gb151, 9, none⟩ = some (.slice A0_9 l0_9.length c0_9) := (blk_cell BK151.out 9).trans rfl
      have hfz37_0 := blk_frozen BK151.out 0
      have hfz37_1 := blk_frozen BK151.out 1
      have hfz37_2 := blk_frozen BK151.out 2
      have hfz37_3 := blk_frozen BK151.out 3
      have hfz37_4 := blk_frozen BK151.out 4
      have hfz37_5 := blk_frozen BK151.out 5
      have hfz37_6 := blk_frozen BK151.out 6
      have hfz37_7 := blk_frozen BK151.out 7
      have hfz37_8 := blk_frozen BK151.out 8
      have hfz37_9 := blk_frozen BK151.out 9
      go_wp2
      go_meet
      case rel => exact ⟨_, H', ⟨by have := HJ2.out; first | omega | exact Nat.le_refl _⟩, ⟨by (with_reducible repeat (first | refine blk_drewN ?_ _ | refine blk_drew ?_ | refine blk_alloc ?_ _)); exact BK151.out⟩, ⟨bw⟩⟩
     rw [if_neg c36] at H
     have c36b0 : ((l0_8.length : Int) == (l0_9.length : Int)) = false := beq_eq_false_iff_ne.mpr c36
     have c36b1 : ((l0_8.length : Int) != (l0_9.length : Int)) = true := bne_iff_ne.mpr c36
     have c36b2 : (l0_8.length == l0_9.length) = false := by first | simpa using c36 | (simp at c36 ⊢; omega)
     obtain rfl := Option.some.inj H
     have hcz38_0 : wc.cell? ⟨gb151, 0, none⟩ = some (.int .i64 a0_0) := (blk_cell BK151.out 0).trans rfl
     have hcz38_1 : wc.cell? ⟨gb151, 1, none⟩ = some (.slice A0_1 l0_1.length c0_1) := (blk_cell BK151.out 1).trans rfl
     have hcz38_2 : wc.cell? ⟨gb151, 2, none⟩ = some (.int .i64 a0_2) := (blk_cell BK151.out 2).trans rfl
     have hcz38_3 : wc.cell? ⟨gb151, 3, none⟩ = some (.int .i64 a0_3) := (blk_cell BK151.out 3).trans rfl
     have hcz38_4 : wc.cell? ⟨gb151, 4, none⟩ = some (.int .i64 a0_4) := (blk_cell BK151.out 4).trans rfl
     have hcz38_5 : wc.cell? ⟨gb151, 5, none⟩ = some (.slice A0_5 l0_5.length c0_5) := (blk_cell BK151.out 5).trans rfl
     have hcz38_6 : wc.cell? ⟨gb151, 6, none⟩ = some (.slice A0_6 l0_6.length c0_6) := (blk_cell BK151.out 6).trans rfl
     have hcz38_7 : wc.cell? ⟨gb151, 7, none⟩ = some (.slice A0_7 l0_7.length c0_7) := (blk_cell BK151.out 7).trans rfl
     have hcz38_8 : wc.cell? ⟨gb151, 8, none⟩ = some (.slice A0_8 l0_8.length c0_8) := (blk_cell BK151.out 8).trans rfl
     have hcz38_9 : wc.cell? ⟨gb151, 9, none⟩ = some (.slice A0_9 l0_9.length c0_9) := (blk_cell BK151.out 9).trans rfl
     have hfz38_0 := blk_frozen BK151.out 0
     have hfz38_1 := blk_frozen BK151.out 1
     have hfz38_2 := blk_frozen BK151.out 2
     have hfz38_3 := blk_frozen BK151.out 3
     have hfz38_4 := blk_frozen BK151.out 4
     have hfz38_5 := blk_frozen BK151.out 5
     have hfz38_6 := blk_frozen BK151.out 6
     have hfz38_7 := blk_frozen BK151.out 7
     have hfz38_8 := blk_frozen BK151.out 8
     have hfz38_9 := blk_frozen BK151.out 9
     go_wp2
     go_ret
     exact ⟨by first | rfl | (simp [errW_none, errW_some] <;> rfl) | (simp [*, errW_none, errW_some] <;> rfl), bw⟩
    as_aux_lemma =>
    rw [if_pos c24] at H
    have c24b0 : (a0_2 == 0) = true := beq_iff_eq.mpr c24
    have c24b1 : (a0_2 != 0) = false := bne_eq_false_iff_eq.mpr c24
    clear c24
    replace H := Option.bind_eq_some_iff.mp H
    obtain ⟨t153, A250, H⟩ := H
    have A25 := Aside0.mk A250
    clear A250
    by_cases c26 : t153 = true
    rotate_left
    ·replace c26 := Bool.eq_false_iff.mpr c26
     subst c26
     replace H := (if_neg (show ¬ (false = true) by decide)).symm.trans H
     obtain rfl := Option.some.inj H
     have hcz34_0 : wc.cell? ⟨gb151, 0, none⟩ = some (.int .i64 a0_0) := (blk_cell BK151.out 0).trans rfl
     have hcz34_1 : wc.cell? ⟨gb151, 1, none⟩ = some (.slice A0_1 l0_1.length c0_1) := (blk_cell BK151.out 1).trans rfl
     have hcz34_2 : wc.cell? ⟨gb151, 2, none⟩ = some (.int .i64 a0_2) := (blk_cell BK151.out 2).trans rfl
     have hcz34_3 : wc.cell? ⟨gb151, 3, none⟩ = some (.int .i64 a0_3) := (blk_cell BK151.out 3).trans rfl
     have hcz34_4 : wc.cell? ⟨gb151, 4, none⟩ = some (.int .i64 a0_4) := (blk_cell BK151.out 4).trans rfl
     have hcz34_5 : wc.cell? ⟨gb151, 5, none⟩ = some (.slice A0_5 l0_5.length c0_5) := (blk_cell BK151.out 5).trans rfl
     have hcz34_6 : wc.cell? ⟨gb151, 6, none⟩ = some (.slice A0_6 l0_6.length c0_6) := (blk_cell BK151.out 6).trans rfl
     have hcz34_7 : wc.cell? ⟨gb151, 7, none⟩ = some (.slice A0_7 l0_7.length c0_7) := (blk_cell BK151.out 7).trans rfl
     have hcz34_8 : wc.cell? ⟨gb151, 8, none⟩ = some (.slice A0_8 l0_8.length c0_8) := (blk_cell BK151.out 8).trans rfl
     have hcz34_9 : wc.cell? ⟨gb151, 9, none⟩ = some (.slice A0_9 l0_9.length c0_9) := (blk_cell BK151.out 9).trans rfl
     have hfz34_0 := blk_frozen BK151.out 0
     have hfz34_1 := blk_frozen BK151.out 1
     have hfz34_2 := blk_frozen BK151.out 2
     have hfz34_3 := blk_frozen BK151.out 3
     have hfz34_4 := blk_frozen BK151.out 4
     have hfz34_5 := blk_frozen BK151.out 5
     have hfz34_6 := blk_frozen BK151.out 6
     have hfz34_7 := blk_frozen BK151.out 7
     have hfz34_8 := blk_frozen BK151.out 8
     have hfz34_9 := blk_frozen BK151.out 9
     go_wp2_with (first | (go_at_call 104; (with_reducible refine (spec_l6zero.calls a0_3 a0_4 _ _ l0_5 _ _ l0_6 _ _ l0_7 false _ ?side1 ?side2 ?side3 ?side4 ?side5 ?side6 A25.out).mono ?_); (case side1 => repeat (first | exact (Kd.C_below HR0_5.out HB.out) | (with_reducible refine Kd.C_alloc ?_ _) | (with_reducible refine Kd.C_drewN ?_ _) | (with_reducible refine Kd.C_drew ?_))); (case side2 => exact HC0_5.out); (case side3 => repeat (first | exact (Kd.C_below HR0_6.out HB.out) | (with_reducible refine Kd.C_alloc ?_ _) | (with_reducible refine Kd.C_drewN ?_ _) | (with_reducible refine Kd.C_drew ?_))); (case side4 => exact HC0_6.out); (case side5 => repeat (first | exact (Kd.C_below HR0_7.out HB.out) | (with_reducible refine Kd.C_alloc ?_ _) | (with_reducible refine Kd.C_drewN ?_ _) | (with_reducible refine Kd.C_drew ?_))); (case side6 => exact HC0_7.out); rintro e w35 ⟨rfl, hb⟩; replace BK151 := Aside0.mk (blk_below (g := gb151) (o := .cells #[.int .i64 a0_0, .slice A0_1 l0_1.length c0_1, .int .i64 a0_2, .int .i64 a0_3, .int .i64 a0_4, .slice A0_5 l0_5.length c0_5, .slice A0_6 l0_6.length c0_6, .slice A0_7 l0_7.length c0_7, .slice A0_8 l0_8.length c0_8, .slice A0_9 l0_9.length c0_9] 94 (0, 0)) (by (with_reducible repeat (first | refine blk_drewN ?_ _ | refine blk_drew ?_ | refine blk_alloc ?_ _)); exact BK151.out) hb); replace HB := (Bw.sw w hb); (try clear hb)))
     go_ret
     exact ⟨by first | rfl | (simp [errW_none, errW_some] <;> rfl) | (simp [*, errW_none, errW_some] <;> rfl), bw⟩
    as_aux_lemma =>
    subst c26
    replace H := (if_pos rfl).symm.trans H
    by_cases c27 : (l0_8.length : Int) = (l0_9.length : Int)
    ·rw [if_pos c27] at H
     have c27b0 : ((l0_8.length : Int) == (l0_9.length : Int)) = true := beq_iff_eq.mpr c27
     have c27b1 : ((l0_8.length : Int) != (l0_9.length : Int)) = false := bne_eq_false_iff_eq.mpr c27
     have c27b2 : (l0_8.length == l0_9.length) = true := by first | simpa using c27 | (simp at c27 ⊢; omega)
     clear c27
     have H' := Aside0.mk H
     clear H
     have hcz28_0 : wc.cell? ⟨gb151, 0, none⟩ = some (.int .i64 a0_0) := (blk_cell BK151.out 0).trans rfl
     have hcz28_1 : wc.cell? ⟨gb151, 1, none⟩ = some (.slice A0_1 l0_1.length c0_1) := (blk_cell BK151.out 1).trans rfl
     have hcz28_2 : wc.cell? ⟨gb151, 2, none⟩ = some (.int .i64 a0_2) := (blk_cell BK151.out 2).trans rfl
     have hcz28_3 : wc.cell? ⟨gb151, 3, none⟩ = some (.int .i64 a0_3) := (blk_cell BK151.out 3).trans rfl
     have hcz28_4 : wc.cell? ⟨gb151, 4, none⟩ = some (.int .i64 a0_4) := (blk_cell BK151.out 4).trans rfl
     have hcz28_5 : wc.cell? ⟨gb151, 5, none⟩ = some (.slice A0_5 l0_5.length c0_5) := (blk_cell BK151.out 5).trans rfl
     have hcz28_6 : wc.cell? ⟨gb151, 6, none⟩ = some (.slice A0_6 l0_6.length c0_6) := (blk_cell BK151.out 6).trans rfl
     have hcz28_7 : wc.cell? ⟨gb151, 7, none⟩ = some (.slice A0_7 l0_7.length c0_7) := (blk_cell BK151.out 7).trans rfl
     have hcz28_8 : wc.cell? ⟨gb151, 8, none⟩ = some (.slice A0_8 l0_8.length c0_8) := (blk_cell BK151.out 8).trans rfl
     have hcz28_9 : wc.cell? ⟨gb151, 9, none⟩ = some (.slice A0_9 l0_9.length c0_9) := (blk_cell BK151.out 9).trans rfl
     have hfz28_0 := blk_frozen BK151.out 0
     have hfz28_1 := blk_frozen BK151.out 1
     have hfz28_2 := blk_frozen BK151.out 2
     have hfz28_3 := blk_frozen BK151.out 3
     have hfz28_4 := blk_frozen BK151.out 4
     have hfz28_5 := blk_frozen BK151.out 5
     have hfz28_6 := blk_frozen BK151.out 6
     have hfz28_7 := blk_frozen BK151.out 7
     have hfz28_8 := blk_frozen BK151.out 8
     have hfz28_9 := blk_frozen BK151.out 9
     go_wp2_with (first | (go_at_call 104; (with_reducible refine (spec_l6zero.calls a0_3 a0_4 _ _ l0_5 _ _ l0_6 _ _ l0_7 true _ ?side1 ?side2 ?side3 ?side4 ?side5 ?side6 A25.out).mono ?_); (case side1 => repeat (first | exact (Kd.C_below HR0_5.out HB.out) | (with_reducible refine Kd.C_alloc ?_ _) | (with_reducible refine Kd.C_drewN ?_ _) | (with_reducible refine Kd.C_drew ?_))); (case side2 => exact HC0_5.out); (case side3 => repeat (first | exact (Kd.C_below HR0_6.out HB.out) | (with_reducible refine Kd.C_alloc ?_ _) | (with_reducible refine Kd.C_drewN ?_ _) | (with_reducible refine Kd.C_drew ?_))); (case side4 => exact HC0_6.out); (case side5 => repeat (first | exact (Kd.C_below HR0_7.out HB.out) | (with_reducible refine Kd.C_alloc ?_ _) | (with_reducible refine Kd.C_drewN ?_ _) | (with_reducible refine Kd.C_drew ?_))); (case side6 => exact HC0_7.out); rintro e w29 ⟨rfl, hb⟩; replace BK151 := Aside0.mk (blk_below (g := gb151) (o := .cells #[.int .i64 a0_0, .slice A0_1 l0_1.length c0_1, .int .i64 a0_2, .int .i64 a0_3, .int .i64 a0_4, .slice A0_5 l0_5.length c0_5, .slice A0_6 l0_6.length c0_6, .slice A0_7 l0_7.length c0_7, .slice A0_8 l0_8.length c0_8, .slice A0_9 l0_9.length c0_9] 94 (0, 0)) (by (with_reducible repeat (first | refine blk_drewN ?_ _ | refine blk_drew ?_ | refine blk_alloc ?_ _)); exact BK151.out) hb); replace HB := (Bw.sw w hb); (try clear hb); have hcz30_0 : w29.cell? ⟨gb151, 0, none⟩ = some (.int .i64 a0_0) := (blk_cell BK151.out 0).trans rfl; have hcz30_1 : w29.cell? ⟨gb151, 1, none⟩ = some (.slice A0_1 l0_1.length c0_1) := (blk_cell BK151.out 1).trans rfl; have hcz30_2 : w29.cell? ⟨gb151, 2, none⟩ = some (.int .i64 a0_2) := (blk_cell BK151.out 2).trans rfl; have hcz30_3 : w29.cell? ⟨gb151, 3, none⟩ = some (.int .i64 a0_3) := (blk_cell BK151.out 3).trans rfl; have hcz30_4 : w29.cell? ⟨gb151, 4, none⟩ = some (.int .i64 a0_4) := (blk_cell BK151.out 4).trans rfl; have hcz30_5 : w29.cell? ⟨gb151, 5, none⟩ = some (.slice A0_5 l0_5.length c0_5) := (blk_cell BK151.out 5).trans rfl; have hcz30_6 : w29.cell? ⟨gb151, 6, none⟩ = some (.slice A0_6 l0_6.length c0_6) := (blk_cell BK151.out 6).trans rfl; have hcz30_7 : w29.cell? ⟨gb151, 7, none⟩ = some (.slice A0_7 l0_7.length c0_7) := (blk_cell BK151.out 7).trans rfl; have hcz30_8 : w29.cell? ⟨gb151, 8, none⟩ = some (.slice A0_8 l0_8.length c0_8) := (blk_cell BK151.out 8).trans rfl; have hcz30_9 : w29.cell? ⟨gb151, 9, none⟩ = some (.slice A0_9 l0_9.length c0_9) := (blk_cell BK151.out 9).trans rfl; have hfz30_0 := blk_frozen BK151.out 0; have hfz30_1 := blk_frozen BK151.out 1; have hfz30_2 := blk_frozen BK151.out 2; have hfz30_3 := blk_frozen BK151.out 3; have hfz30_4 := blk_frozen BK151.out 4; have hfz30_5 := blk_frozen BK151.out 5; have hfz30_6 := blk_frozen BK151.out 6; have hfz30_7 := blk_frozen BK151.out 7; have hfz30_8 := blk_frozen BK151.out 8; have hfz30_9 := blk_frozen BK151.out 9))
     go_meet
     case rel => exact ⟨_, H', ⟨by have := HJ2.out; first | omega | exact Nat.le_refl _⟩, ⟨by (with_reducible repeat (first | refine blk_drewN ?_ _ | refine blk_drew ?_ | refine blk_alloc ?_ _)); exact BK151.out⟩, ⟨bw⟩⟩
    rw [if_neg c27] at H
    have c27b0 : ((l0_8.length : Int) == (l0_9.length : Int)) = false := beq_eq_false_iff_ne.mpr c27
    have c27b1 : ((l0_8.length : Int) != (l0_9.length : Int)) = true := bne_iff_ne.mpr c27
    have c27b2 : (l0_8.length == l0_9.length) = false := by first | simpa using c27 | (simp at c27 ⊢; omega)
    obtain rfl := Option.some.inj H
    have hcz31_0 : wc.cell? ⟨gb151, 0, none⟩ = some (.int .i64 a0_0) := (blk_cell BK151.out 0).trans rfl
    have hcz31_1 : wc.cell? ⟨gb151, 1, none⟩ = some (.slice A0_1 l0_1.length c0_1) := (blk_cell BK151.out 1).trans rfl
    have hcz31_2 : wc.cell? ⟨gb151, 2, none⟩ = some (.int .i64 a0_2) := (blk_cell BK151.out 2).trans rfl
    have hcz31_3 : wc.cell? ⟨gb151, 3, none⟩ = some (.int .i64 a0_3) := (blk_cell BK151.out 3).trans rfl
    have hcz31_4 : wc.cell? ⟨gb151, 4, none⟩ = some (.int .i64 a0_4) := (blk_cell BK151.out 4).trans rfl
    have hcz31_5 : wc.cell? ⟨gb151, 5, none⟩ = some (.slice A0_5 l0_5.length c0_5) := (blk_cell BK151.out 5).trans rfl
    have hcz31_6 : wc.cell? ⟨gb151, 6, none⟩ = some (.slice A0_6 l0_6.length c0_6) := (blk_cell BK151.out 6).trans rfl
    have hcz31_7 : wc.cell? ⟨gb151, 7, none⟩ = some (.slice A0_7 l0_7.length c0_7) := (blk_cell BK151.out 7).trans rfl
    have hcz31_8 : wc.cell? ⟨gb151, 8, none⟩ = some (.slice A0_8 l0_8.length c0_8) := (blk_cell BK151.out 8).trans rfl
    have hcz31_9 : wc.cell? ⟨gb151, 9, none⟩ = some (.slice A0_9 l0_9.length c0_9) := (blk_cell BK151.out 9).trans rfl
    have hfz31_0 := blk_frozen BK151.out 0
    have hfz31_1 := blk_frozen BK151.out 1
    have hfz31_2 := blk_frozen BK151.out 2
    have hfz31_3 := blk_frozen BK151.out 3
    have hfz31_4 := blk_frozen BK151.out 4
    have hfz31_5 := blk_frozen BK151.out 5
    have hfz31_6 := blk_frozen BK151.out 6
    have hfz31_7 := blk_frozen BK151.out 7
    have hfz31_8 := blk_frozen BK151.out 8
    have hfz31_9 := blk_frozen BK151.out 9
    go_wp2_with (first | (go_at_call 104; (with_reducible refine (spec_l6zero.calls a0_3 a0_4 _ _ l0_5 _ _ l0_6 _ _ l0_7 true _ ?side1 ?side2 ?side3 ?side4 ?side5 ?side6 A25.out).mono ?_); (case side1 => repeat (first | exact (Kd.C_below HR0_5.out HB.out) | (with_reducible refine Kd.C_alloc ?_ _) | (with_reducible refine Kd.C_drewN ?_ _) | (with_reducible refine Kd.C_drew ?_))); (case side2 => exact HC0_5.out); (case side3 => repeat (first | exact (Kd.C_below HR0_6.out HB.out) | (with_reducible refine Kd.C_alloc ?_ _) | (with_reducible refine Kd.C_drewN ?_ _) | (with_reducible refine Kd.C_drew ?_))); (case side4 => exact HC0_6.out); (case side5 => repeat (first | exact (Kd.C_below HR0_7.out HB.out) | (with_reducible refine Kd.C_alloc ?_ _) | (with_reducible refine Kd.C_drewN ?_ _) | (with_reducible refine Kd.C_drew ?_))); (case side6 => exact HC0_7.out); rintro e w32 ⟨rfl, hb⟩; replace BK151 := Aside0.mk (blk_below (g := gb151) (o := .cells #[.int .i64 a0_0, .slice A0_1 l0_1.length c0_1, .int .i64 a0_2, .int .i64 a0_3, .int .i64 a0_4, .slice A0_5 l0_5.length c0_5, .slice A0_6 l0_6.length c0_6, .slice A0_7 l0_7.length c0_7, .slice A0_8 l0_8.length c0_8, .slice A0_9 l0_9.length c0_9] 94 (0, 0)) (by (with_reducible repeat (first | refine blk_drewN ?_ _ | refine blk_drew ?_ | refine blk_alloc ?_ _)); exact BK151.out) hb); replace HB := (Bw.sw w hb); (try clear hb); have hcz33_0 : w32.cell? ⟨gb151, 0, none⟩ = some (.int .i64 a0_0) := (blk_cell BK151.out 0).trans rfl; have hcz33_1 : w32.cell? ⟨gb151, 1, none⟩ = some (.slice A0_1 l0_1.length c0_1) := (blk_cell BK151.out 1).trans rfl; have hcz33_2 : w32.cell? ⟨gb151, 2, none⟩ = some (.int .i64 a0_2) := (blk_cell BK151.out 2).trans rfl; have hcz33_3 : w32.cell? ⟨gb151, 3, none⟩ = some (.int .i64 a0_3) := (blk_cell BK151.out 3).trans rfl; have hcz33_4 : w32.cell? ⟨gb151, 4, none⟩ = some (.int .i64 a0_4) := (blk_cell BK151.out 4).trans rfl; have hcz33_5 : w32.cell? ⟨gb151, 5, none⟩ = some (.slice A0_5 l0_5.length c0_5) := (blk_cell BK151.out 5).trans rfl; have hcz33_6 : w32.cell? ⟨gb151, 6, none⟩ = some (.slice A0_6 l0_6.length c0_6) := (blk_cell BK151.out 6).trans rfl; have hcz33_7 : w32.cell? ⟨gb151, 7, none⟩ = some (.slice A0_7 l0_7.length c0_7) := (blk_cell BK151.out 7).trans rfl; have hcz33_8 : w32.cell? ⟨gb151, 8, none⟩ = some (.slice A0_8 l0_8.length c0_8) := (blk_cell BK151.out 8).trans rfl; have hcz33_9 : w32.cell? ⟨gb151, 9, none⟩ = some (.slice A0_9 l0_9.length c0_9) := (blk_cell BK151.out 9).trans rfl; have hfz33_0 := blk_frozen BK151.out 0; have hfz33_1 := blk_frozen BK151.out 1; have hfz33_2 := blk_frozen BK151.out 2; have hfz33_3 := blk_frozen BK151.out 3; have hfz33_4 := blk_frozen BK151.out 4; have hfz33_5 := blk_frozen BK151.out 5; have hfz33_6 := blk_frozen BK151.out 6; have hfz33_7 := blk_frozen BK151.out 7; have hfz33_8 := blk_frozen BK151.out 8; have hfz33_9 := blk_frozen BK151.out 9))
    go_ret
    exact ⟨by first | rfl | (simp [errW_none, errW_some] <;> rfl) | (simp [*, errW_none, errW_some] <;> rfl), bw⟩
   case rest =>
    as_aux_lemma =>
    clear HC17
    try clear c5
    try clear c5b0
    try clear c7
    try clear c7b0
    try clear c10
    try clear c16
    try clear c19
    try clear c19b0
    try clear c19b1
    try clear c20
    try clear c20b0
    try clear c22
    try clear c22b0
    try clear c24
    try clear c24b0
    try clear c24b1
    try clear c26
    try clear c27
    try clear c27b0
    try clear c27b1
    try clear c27b2
    try clear c36
    try clear c36b0
    try clear c36b1
    try clear c36b2
    try clear c39
    try clear c39b0
    try clear c39b1
    try clear c41
    try clear c42
    try clear c42b0
    try clear c42b1
    try clear c46
    try clear c46b0
    try clear c46b1
    try clear hcz11_0 hcz11_1 hcz11_2 hcz11_3 hcz11_4 hcz11_5 hcz11_6 hcz11_7 hcz11_8 hcz11_9
    try clear hcz13_0 hcz13_1 hcz13_2 hcz13_3 hcz13_4 hcz13_5 hcz13_6 hcz13_7 hcz13_8 hcz13_9
    try clear hcz14_0 hcz14_1 hcz14_2 hcz14_3 hcz14_4 hcz14_5 hcz14_6 hcz14_7 hcz14_8 hcz14_9
    try clear hcz18_0 hcz18_1 hcz18_2 hcz18_3 hcz18_4 hcz18_5 hcz18_6 hcz18_7 hcz18_8 hcz18_9
    try clear hcz21_0 hcz21_1 hcz21_2 hcz21_3 hcz21_4 hcz21_5 hcz21_6 hcz21_7 hcz21_8 hcz21_9
    try clear hcz23_0 hcz23_1 hcz23_2 hcz23_3 hcz23_4 hcz23_5 hcz23_6 hcz23_7 hcz23_8 hcz23_9
    try clear hcz28_0 hcz28_1 hcz28_2 hcz28_3 hcz28_4 hcz28_5 hcz28_6 hcz28_7 hcz28_8 hcz28_9
    try clear hcz30_0 hcz30_1 hcz30_2 hcz30_3 hcz30_4 hcz30_5 hcz30_6 hcz30_7 hcz30_8 hcz30_9
    try clear hcz31_0 hcz31_1 hcz31_2 hcz31_3 hcz31_4 hcz31_5 hcz31_6 hcz31_7 hcz31_8 hcz31_9
    try clear hcz33_0 hcz33_1 hcz33_2 hcz33_3 hcz33_4 hcz33_5 hcz33_6 hcz33_7 hcz33_8 hcz33_9
    try clear hcz34_0 hcz34_1 hcz34_2 hcz34_3 hcz34_4 hcz34_5 hcz34_6 hcz34_7 hcz34_8 hcz34_9
    try clear hcz37_0 hcz37_1 hcz37_2 hcz37_3 hcz37_4 hcz37_5 hcz37_6 hcz37_7 hcz37_8 hcz37_9
    try clear hcz38_0 hcz38_1 hcz38_2 hcz38_3 hcz38_4 hcz38_5 hcz38_6 hcz38_7 hcz38_8 hcz38_9
    try clear hcz43_0 hcz43_1 hcz43_2 hcz43_3 hcz43_4 hcz43_5 hcz43_6 hcz43_7 hcz43_8 hcz43_9
    try clear hcz45_0 hcz45_1 hcz45_2 hcz45_3 hcz45_4 hcz45_5 hcz45_6 hcz45_7 hcz45_8 hcz45_9
    try clear hcz47_0 hcz47_1 hcz47_2 hcz47_3 hcz47_4 hcz47_5 hcz47_6 hcz47_7 hcz47_8 hcz47_9
    try clear hcz49_0 hcz49_1 hcz49_2 hcz49_3 hcz49_4 hcz49_5 hcz49_6 hcz49_7 hcz49_8 hcz49_9
    try clear hcz50_0 hcz50_1 hcz50_2 hcz50_3 hcz50_4 hcz50_5 hcz50_6 hcz50_7 hcz50_8 hcz50_9
    try clear hcz52_0 hcz52_1 hcz52_2 hcz52_3 hcz52_4 hcz52_5 hcz52_6 hcz52_7 hcz52_8 hcz52_9
    try clear hcz53_0 hcz53_1 hcz53_2 hcz53_3 hcz53_4 hcz53_5 hcz53_6 hcz53_7 hcz53_8 hcz53_9
    try clear hcz55_0 hcz55_1 hcz55_2 hcz55_3 hcz55_4 hcz55_5 hcz55_6 hcz55_7 hcz55_8 hcz55_9
    try clear hcz6_0 hcz6_1 hcz6_2 hcz6_3 hcz6_4 hcz6_5 hcz6_6 hcz6_7 hcz6_8 hcz6_9
    try clear hcz8_0 hcz8_1 hcz8_2 hcz8_3 hcz8_4 hcz8_5 hcz8_6 hcz8_7 hcz8_8 hcz8_9
    try clear hfz11_0 hfz11_1 hfz11_2 hfz11_3 hfz11_4 hfz11_5 hfz11_6 hfz11_7 hfz11_8 hfz11_9
    try clear hfz13_0 hfz13_1 hfz13_2 hfz13_3 hfz13_4 hfz13_5 hfz13_6 hfz13_7 hfz13_8 hfz13_9
    try clear hfz14_0 hfz14_1 hfz14_2 hfz14_3 hfz14_4 hfz14_5 hfz14_6 hfz14_7 hfz14_8 hfz14_9
    try clear hfz18_0 hfz18_1 hfz18_2 hfz18_3 hfz18_4 hfz18_5 hfz18_6 hfz18_7 hfz18_8 hfz18_9
    try clear hfz21_0 hfz21_1 hfz21_2 hfz21_3 hfz21_4 hfz21_5 hfz21_6 hfz21_7 hfz21_8 hfz21_9
    try clear hfz23_0 hfz23_1 hfz23_2 hfz23_3 hfz23_4 hfz23_5 hfz23_6 hfz23_7 hfz23_8 hfz23_9
    try clear hfz28_0 hfz28_1 hfz28_2 hfz28_3 hfz28_4 hfz28_5 hfz28_6 hfz28_7 hfz28_8 hfz28_9
    try clear hfz30_0 hfz30_1 hfz30_2 hfz30_3 hfz30_4 hfz30_5 hfz30_6 hfz30_7 hfz30_8 hfz30_9
    try clear hfz31_0 hfz31_1 hfz31_2 hfz31_3 hfz31_4 hfz31_5 hfz31_6 hfz31_7 hfz31_8 hfz31_9
    try clear hfz33_0 hfz33_1 hfz33_2 hfz33_3 hfz33_4 hfz33_5 hfz33_6 hfz33_7 hfz33_8 hfz33_9
    try clear hfz34_0 hfz34_1 hfz34_2 hfz34_3 hfz34_4 hfz34_5 hfz34_6 hfz34_7 hfz34_8 hfz34_9
    try clear hfz37_0 hfz37_1 hfz37_2 hfz37_3 hfz37_4 hfz37_5 hfz37_6 hfz37_7 hfz37_8 hfz37_9
    try clear hfz38_0 hfz38_1 hfz38_2 hfz38_3 hfz38_4 hfz38_5 hfz38_6 hfz38_7 hfz38_8 hfz38_9
    try clear hfz43_0 hfz43_1 hfz43_2 hfz43_3 hfz43_4 hfz43_5 hfz43_6 hfz43_7 hfz43_8 hfz43_9
    try clear hfz45_0 hfz45_1 hfz45_2 hfz45_3 hfz45_4 hfz45_5 hfz45_6 hfz45_7 hfz45_8 hfz45_9
    try clear hfz47_0 hfz47_1 hfz47_2 hfz47_3 hfz47_4 hfz47_5 hfz47_6 hfz47_7 hfz47_8 hfz47_9
    try clear hfz49_0 hfz49_1 hfz49_2 hfz49_3 hfz49_4 hfz49_5 hfz49_6 hfz49_7 hfz49_8 hfz49_9
    try clear hfz50_0 hfz50_1 hfz50_2 hfz50_3 hfz50_4 hfz50_5 hfz50_6 hfz50_7 hfz50_8 hfz50_9
    try clear hfz52_0 hfz52_1 hfz52_2 hfz52_3 hfz52_4 hfz52_5 hfz52_6 hfz52_7 hfz52_8 hfz52_9
    try clear hfz53_0 hfz53_1 hfz53_2 hfz53_3 hfz53_4 hfz53_5 hfz53_6 hfz53_7 hfz53_8 hfz53_9
    try clear hfz55_0 hfz55_1 hfz55_2 hfz55_3 hfz55_4 hfz55_5 hfz55_6 hfz55_7 hfz55_8 hfz55_9
    try clear hfz6_0 hfz6_1 hfz6_2 hfz6_3 hfz6_4 hfz6_5 hfz6_6 hfz6_7 hfz6_8 hfz6_9
    try clear hfz8_0 hfz8_1 hfz8_2 hfz8_3 hfz8_4 hfz8_5 hfz8_6 hfz8_7 hfz8_8 hfz8_9
    obtain ⟨kq, HA, HJ16, BK151, HB⟩ := hcut
    cases kq with
    | zero => exact absurd HA.out (by simp [spec_l6item.j1])
    | succ kj16 =>
     have H := HA.out
     clear HA
     simp only [spec_l6item.j1] at H
     have HC56 := Aside0.mk H
     clear H
     have hcz57_0 : wc.cell? ⟨gb151, 0, none⟩ = some (.int .i64 a0_0) := (blk_cell BK151.out 0).trans rfl
     have hcz57_1 : wc.cell? ⟨gb151, 1, none⟩ = some (.slice A0_1 l0_1.length c0_1) := (blk_cell BK151.out 1).trans rfl
     have hcz57_2 : wc.cell? ⟨gb151, 2, none⟩ = some (.int .i64 a0_2) := (blk_cell BK151.out 2).trans rfl
     have hcz57_3 : wc.cell? ⟨gb151, 3, none⟩ = some (.int .i64 a0_3) := (blk_cell BK151.out 3).trans rfl
     have hcz57_4 : wc.cell? ⟨gb151, 4, none⟩ = some (.int .i64 a0_4) := (blk_cell BK151.out 4).trans rfl
     have hcz57_5 : wc.cell? ⟨gb151, 5, none⟩ = some (.slice A0_5 l0_5.length c0_5) := (blk_cell BK151.out 5).trans rfl
     have hcz57_6 : wc.cell? ⟨gb151, 6, none⟩ = some (.slice A0_6 l0_6.length c0_6) := (blk_cell BK151.out 6).trans rfl
     have hcz57_7 : wc.cell? ⟨gb151, 7, none⟩ = some (.slice A0_7 l0_7.length c0_7) := (blk_cell BK151.out 7).trans rfl
     have hcz57_8 : wc.cell? ⟨gb151, 8, none⟩ = some (.slice A0_8 l0_8.length c0_8) := (blk_cell BK151.out 8).trans rfl
     have hcz57_9 : wc.cell? ⟨gb151, 9, none⟩ = some (.slice A0_9 l0_9.length c0_9) := (blk_cell BK151.out 9).trans rfl
     have hfz57_0 := blk_frozen BK151.out 0
     have hfz57_1 := blk_frozen BK151.out 1
     have hfz57_2 := blk_frozen BK151.out 2
     have hfz57_3 := blk_frozen BK151.out 3
     have hfz57_4 := blk_frozen BK151.out 4
     have hfz57_5 := blk_frozen BK151.out 5
     have hfz57_6 := blk_frozen BK151.out 6
     have hfz57_7 := blk_frozen BK151.out 7
     have hfz57_8 := blk_frozen BK151.out 8
     have hfz57_9 := blk_frozen BK151.out 9
     go_upto_if 80 with (fail)
     go_cut [1] (fun v1 wc => ∃ (kq : Nat) (x1_55 : Int), v1 = .int .i64 x1_55 ∧ Aside0 (spec_l6item.j2 kq x1_55 a0_0 l0_1 a0_2 a0_3 a0_4 l0_5 l0_6 l0_7 l0_8 l0_9 = some r) ∧ Aside0 (kq ≤ kj16) ∧ Aside0 (wc.heap[gb151]? = some (.cells #[.int .i64 a0_0, (.slice A0_1 l0_1.length c0_1), .int .i64 a0_2, .int .i64 a0_3, .int .i64 a0_4, (.slice A0_5 l0_5.length c0_5), (.slice A0_6 l0_6.length c0_6), (.slice A0_7 l0_7.length c0_7), (.slice A0_8 l0_8.length c0_8), (.slice A0_9 l0_9.length c0_9)] 94 (0, 0))) ∧ Bw w wc)
     case first =>
      have H := HC56.out
      clear HC56
      by_cases c58 : a0_2 = 0
      ·rw [if_pos c58] at H
       have c58b0 : (a0_2 == 0) = true := beq_iff_eq.mpr c58
       have c58b1 : (a0_2 != 0) = false := bne_eq_false_iff_eq.mpr c58
       clear c58
       (first | rw [c58b0] | (simp only [i64_w, i32_w]; rw [c58b0]) | skip)
       have H' := Aside0.mk H
       clear H
       go_wp2
       go_meet
       case rel => exact ⟨_, (a1), (by first | rfl | (simp; done) | (simp [*]; done)), H', ⟨by have := HJ2.out; have := HJ16.out; first | omega | exact Nat.le_refl _⟩, ⟨by (with_reducible repeat (first | refine blk_drewN ?_ _ | refine blk_drew ?_ | refine blk_alloc ?_ _)); exact BK151.out⟩, ⟨bw⟩⟩
      rw [if_neg c58] at H
      have c58b0 : (a0_2 == 0) = false := beq_eq_false_iff_ne.mpr c58
      have c58b1 : (a0_2 != 0) = true := bne_iff_ne.mpr c58
      (first | rw [c58b0] | (simp only [i64_w, i32_w]; rw [c58b0]) | skip)
      replace H := Option.bind_eq_some_iff.mp H
      obtain ⟨t155, A590, H⟩ := H
      have A59 := Aside0.mk A590
      clear A590
      have H' := Aside0.mk H
      clear H
      have hcz60_0 : wc.cell? ⟨gb151, 0, none⟩ = some (.int .i64 a0_0) := (blk_cell BK151.out 0).trans rfl
      have hcz60_1 : wc.cell? ⟨gb151, 1, none⟩ = some (.slice A0_1 l0_1.length c0_1) := (blk_cell BK151.out 1).trans rfl
      have hcz60_2 : wc.cell? ⟨gb151, 2, none⟩ = some (.int .i64 a0_2) := (blk_cell BK151.out 2).trans rfl
      have hcz60_3 : wc.cell? ⟨gb151, 3, none⟩ = some (.int .i64 a0_3) := (blk_cell BK151.out 3).trans rfl
      have hcz60_4 : wc.cell? ⟨gb151, 4, none⟩ = some (.int .i64 a0_4) := (blk_cell BK151.out 4).trans rfl
      have hcz60_5 : wc.cell? ⟨gb151, 5, none⟩ = some (.slice A0_5 l0_5.length c0_5) := (blk_cell BK151.out 5).trans rfl
      have hcz60_6 : wc.cell? ⟨gb151, 6, none⟩ = some (.slice A0_6 l0_6.length c0_6) := (blk_cell BK151.out 6).trans rfl
      have hcz60_7 : wc.cell? ⟨gb151, 7, none⟩ = some (.slice A0_7 l0_7.length c0_7) := (blk_cell BK151.out 7).trans rfl
      have hcz60_8 : wc.cell? ⟨gb151, 8, none⟩ = some (.slice A0_8 l0_8.length c0_8) := (blk_cell BK151.out 8).trans rfl
      have hcz60_9 : wc.cell? ⟨gb151, 9, none⟩ = some (.slice A0_9 l0_9.length c0_9) := (blk_cell BK151.out 9).trans rfl
      have hfz60_0 := blk_frozen BK151.out 0
      have hfz60_1 := blk_frozen BK151.out 1
      have hfz60_2 := blk_frozen BK151.out 2
      have hfz60_3 := blk_frozen BK151.out 3
      have hfz60_4 := blk_frozen BK151.out 4
      have hfz60_5 := blk_frozen BK151.out 5
      have hfz60_6 := blk_frozen BK151.out 6
      have hfz60_7 := blk_frozen BK151.out 7
      have hfz60_8 := blk_frozen BK151.out 8
      have hfz60_9 := blk_frozen BK151.out 9
      go_wp2_with (first | ((with_reducible refine gg (f := 66) (some 84) rfl rfl rfl fr66 ?_); refine onc (spec_l6expr.calls kj16 a0_3 a0_4 _ _ l0_5 _ _ l0_6 _ _ l0_7 1 a1 t155 _ (cb HR0_5) HC0_5.out (cb HR0_6) HC0_6.out (cb HR0_7) HC0_7.out A59.out) rfl ?_; rintro e w61 ⟨rfl, hb⟩; refine ⟨_, rfl, ?_⟩; replace BK151 := Aside0.mk (blk_below (g := gb151) (o := .cells #[.int .i64 a0_0, .slice A0_1 l0_1.length c0_1, .int .i64 a0_2, .int .i64 a0_3, .int .i64 a0_4, .slice A0_5 l0_5.length c0_5, .slice A0_6 l0_6.length c0_6, .slice A0_7 l0_7.length c0_7, .slice A0_8 l0_8.length c0_8, .slice A0_9 l0_9.length c0_9] 94 (0, 0)) (by (with_reducible repeat (first | refine blk_drewN ?_ _ | refine blk_drew ?_ | refine blk_alloc ?_ _)); exact BK151.out) hb); replace HB := (Bw.sw w hb); (try clear hb)))
      go_meet
      case rel => exact ⟨_, (t155), (by first | rfl | (simp; done) | (simp [*]; done)), H', ⟨by have := HJ2.out; have := HJ16.out; first | omega | exact Nat.le_refl _⟩, ⟨by (with_reducible repeat (first | refine blk_drewN ?_ _ | refine blk_drew ?_ | refine blk_alloc ?_ _)); exact BK151.out⟩, ⟨bw⟩⟩
     case rest =>
      as_aux_lemma =>
      clear HC56
      try clear c5
      try clear c5b0
      try clear c7
      try clear c7b0
      try clear c10
      try clear c16
      try clear c19
      try clear c19b0
      try clear c19b1
      try clear c20
      try clear c20b0
      try clear c22
      try clear c22b0
      try clear c24
      try clear c24b0
      try clear c24b1
      try clear c26
      try clear c27
      try clear c27b0
      try clear c27b1
      try clear c27b2
      try clear c36
      try clear c36b0
      try clear c36b1
      try clear c36b2
      try clear c39
      try clear c39b0
      try clear c39b1
      try clear c41
      try clear c42
      try clear c42b0
      try clear c42b1
      try clear c46
      try clear c46b0
      try clear c46b1
      try clear c58
      try clear c58b0
      try clear c58b1
      try clear hcz11_0 hcz11_1 hcz11_2 hcz11_3 hcz11_4 hcz11_5 hcz11_6 hcz11_7 hcz11_8 hcz11_9
      try clear hcz13_0 hcz13_1 hcz13_2 hcz13_3 hcz13_4 hcz13_5 hcz13_6 hcz13_7 hcz13_8 hcz13_9
      try clear hcz14_0 hcz14_1 hcz14_2 hcz14_3 hcz14_4 hcz14_5 hcz14_6 hcz14_7 hcz14_8 hcz14_9
      try clear hcz18_0 hcz18_1 hcz18_2 hcz18_3 hcz18_4 hcz18_5 hcz18_6 hcz18_7 hcz18_8 hcz18_9
      try clear hcz21_0 hcz21_1 hcz21_2 hcz21_3 hcz21_4 hcz21_5 hcz21_6 hcz21_7 hcz21_8 hcz21_9
      try clear hcz23_0 hcz23_1 hcz23_2 hcz23_3 hcz23_4 hcz23_5 hcz23_6 hcz23_7 hcz23_8 hcz23_9
      try clear hcz28_0 hcz28_1 hcz28_2 hcz28_3 hcz28_4 hcz28_5 hcz28_6 hcz28_7 hcz28_8 hcz28_9
      try clear hcz30_0 hcz30_1 hcz30_2 hcz30_3 hcz30_4 hcz30_5 hcz30_6 hcz30_7 hcz30_8 hcz30_9
      try clear hcz31_0 hcz31_1 hcz31_2 hcz31_3 hcz31_4 hcz31_5 hcz31_6 hcz31_7 hcz31_8 hcz31_9
      try clear hcz33_0 hcz33_1 hcz33_2 hcz33_3 hcz33_4 hcz33_5 hcz33_6 hcz33_7 hcz33_8 hcz33_9
      try clear hcz34_0 hcz34_1 hcz34_2 hcz34_3 hcz34_4 hcz34_5 hcz34_6 hcz34_7 hcz34_8 hcz34_9
      try clear hcz37_0 hcz37_1 hcz37_2 hcz37_3 hcz37_4 hcz37_5 hcz37_6 hcz37_7 hcz37_8 hcz37_9
      try clear hcz38_0 hcz38_1 hcz38_2 hcz38_3 hcz38_4 hcz38_5 hcz38_6 hcz38_7 hcz38_8 hcz38_9
      try clear hcz43_0 hcz43_1 hcz43_2 hcz43_3 hcz43_4 hcz43_5 hcz43_6 hcz43_7 hcz43_8 hcz43_9
      try clear hcz45_0 hcz45_1 hcz45_2 hcz45_3 hcz45_4 hcz45_5 hcz45_6 hcz45_7 hcz45_8 hcz45_9
      try clear hcz47_0 hcz47_1 hcz47_2 hcz47_3 hcz47_4 hcz47_5 hcz47_6 hcz47_7 hcz47_8 hcz47_9
      try clear hcz49_0 hcz49_1 hcz49_2 hcz49_3 hcz49_4 hcz49_5 hcz49_6 hcz49_7 hcz49_8 hcz49_9
      try clear hcz50_0 hcz50_1 hcz50_2 hcz50_3 hcz50_4 hcz50_5 hcz50_6 hcz50_7 hcz50_8 hcz50_9
      try clear hcz52_0 hcz52_1 hcz52_2 hcz52_3 hcz52_4 hcz52_5 hcz52_6 hcz52_7 hcz52_8 hcz52_9
      try clear hcz53_0 hcz53_1 hcz53_2 hcz53_3 hcz53_4 hcz53_5 hcz53_6 hcz53_7 hcz53_8 hcz53_9
      try clear hcz55_0 hcz55_1 hcz55_2 hcz55_3 hcz55_4 hcz55_5 hcz55_6 hcz55_7 hcz55_8 hcz55_9
      try clear hcz57_0 hcz57_1 hcz57_2 hcz57_3 hcz57_4 hcz57_5 hcz57_6 hcz57_7 hcz57_8 hcz57_9
      try clear hcz60_0 hcz60_1 hcz60_2 hcz60_3 hcz60_4 hcz60_5 hcz60_6 hcz60_7 hcz60_8 hcz60_9
      try clear hcz6_0 hcz6_1 hcz6_2 hcz6_3 hcz6_4 hcz6_5 hcz6_6 hcz6_7 hcz6_8 hcz6_9
      try clear hcz8_0 hcz8_1 hcz8_2 hcz8_3 hcz8_4 hcz8_5 hcz8_6 hcz8_7 hcz8_8 hcz8_9
      try clear hfz11_0 hfz11_1 hfz11_2 hfz11_3 hfz11_4 hfz11_5 hfz11_6 hfz11_7 hfz11_8 hfz11_9
      try clear hfz13_0 hfz13_1 hfz13_2 hfz13_3 hfz13_4 hfz13_5 hfz13_6 hfz13_7 hfz13_8 hfz13_9
      try clear hfz14_0 hfz14_1 hfz14_2 hfz14_3 hfz14_4 hfz14_5 hfz14_6 hfz14_7 hfz14_8 hfz14_9
      try clear hfz18_0 hfz18_1 hfz18_2 hfz18_3 hfz18_4 hfz18_5 hfz18_6 hfz18_7 hfz18_8 hfz18_9
      try clear hfz21_0 hfz21_1 hfz21_2 hfz21_3 hfz21_4 hfz21_5 hfz21_6 hfz21_7 hfz21_8 hfz21_9
      try clear hfz23_0 hfz23_1 hfz23_2 hfz23_3 hfz23_4 hfz23_5 hfz23_6 hfz23_7 hfz23_8 hfz23_9
      try clear hfz28_0 hfz28_1 hfz28_2 hfz28_3 hfz28_4 hfz28_5 hfz28_6 hfz28_7 hfz28_8 hfz28_9
      try clear hfz30_0 hfz30_1 hfz30_2 hfz30_3 hfz30_4 hfz30_5 hfz30_6 hfz30_7 hfz30_8 hfz30_9
      try clear hfz31_0 hfz31_1 hfz31_2 hfz31_3 hfz31_4 hfz31_5 hfz31_6 hfz31_7 hfz31_8 hfz31_9
      try clear hfz33_0 hfz33_1 hfz33_2 hfz33_3 hfz33_4 hfz33_5 hfz33_6 hfz33_7 hfz33_8 hfz33_9
      try clear hfz34_0 hfz34_1 hfz34_2 hfz34_3 hfz34_4 hfz34_5 hfz34_6 hfz34_7 hfz34_8 hfz34_9
      try clear hfz37_0 hfz37_1 hfz37_2 hfz37_3 hfz37_4 hfz37_5 hfz37_6 hfz37_7 hfz37_8 hfz37_9
      try clear hfz38_0 hfz38_1 hfz38_2 hfz38_3 hfz38_4 hfz38_5 hfz38_6 hfz38_7 hfz38_8 hfz38_9
      try clear hfz43_0 hfz43_1 hfz43_2 hfz43_3 hfz43_4 hfz43_5 hfz43_6 hfz43_7 hfz43_8 hfz43_9
      try clear hfz45_0 hfz45_1 hfz45_2 hfz45_3 hfz45_4 hfz45_5 hfz45_6 hfz45_7 hfz45_8 hfz45_9
      try clear hfz47_0 hfz47_1 hfz47_2 hfz47_3 hfz47_4 hfz47_5 hfz47_6 hfz47_7 hfz47_8 hfz47_9
      try clear hfz49_0 hfz49_1 hfz49_2 hfz49_3 hfz49_4 hfz49_5 hfz49_6 hfz49_7 hfz49_8 hfz49_9
      try clear hfz50_0 hfz50_1 hfz50_2 hfz50_3 hfz50_4 hfz50_5 hfz50_6 hfz50_7 hfz50_8 hfz50_9
      try clear hfz52_0 hfz52_1 hfz52_2 hfz52_3 hfz52_4 hfz52_5 hfz52_6 hfz52_7 hfz52_8 hfz52_9
      try clear hfz53_0 hfz53_1 hfz53_2 hfz53_3 hfz53_4 hfz53_5 hfz53_6 hfz53_7 hfz53_8 hfz53_9
      try clear hfz55_0 hfz55_1 hfz55_2 hfz55_3 hfz55_4 hfz55_5 hfz55_6 hfz55_7 hfz55_8 hfz55_9
      try clear hfz57_0 hfz57_1 hfz57_2 hfz57_3 hfz57_4 hfz57_5 hfz57_6 hfz57_7 hfz57_8 hfz57_9
      try clear hfz60_0 hfz60_1 hfz60_2 hfz60_3 hfz60_4 hfz60_5 hfz60_6 hfz60_7 hfz60_8 hfz60_9
      try clear hfz6_0 hfz6_1 hfz6_2 hfz6_3 hfz6_4 hfz6_5 hfz6_6 hfz6_7 hfz6_8 hfz6_9
      try clear hfz8_0 hfz8_1 hfz8_2 hfz8_3 hfz8_4 hfz8_5 hfz8_6 hfz8_7 hfz8_8 hfz8_9
      obtain ⟨kq, x1_55, rfl, HA, HJ55, BK151, HB⟩ := hcut
      cases kq with
      | zero => exact absurd HA.out (by simp [spec_l6item.j2])
      | succ kj55 =>
       have H := HA.out
       clear HA
       simp only [spec_l6item.j2] at H
       have H' := Aside0.mk H
       clear H
       go_wp2
       go_loopg [1, 5] kj55 (fun kq v1 v5 w' => ∃ (x1_4 : Int) (x5_4 : Int), v1 = .int .i64 x1_4 ∧ v5 = .int .i64 x5_4 ∧ Aside0 (spec_l6item.l0 kq x1_4 x5_4 a0_0 l0_1 a0_2 a0_3 a0_4 l0_5 l0_6 l0_7 l0_8 l0_9 = some r) ∧ Aside0 (kq ≤ kj55) ∧ Aside0 (w'.heap[gb151]? = some (.cells #[.int .i64 a0_0, (.slice A0_1 l0_1.length c0_1), .int .i64 a0_2, .int .i64 a0_3, .int .i64 a0_4, (.slice A0_5 l0_5.length c0_5), (.slice A0_6 l0_6.length c0_6), (.slice A0_7 l0_7.length c0_7), (.slice A0_8 l0_8.length c0_8), (.slice A0_9 l0_9.length c0_9)] 94 (0, 0))) ∧ Bw w w')
       case atStart => exact ⟨(x1_55), (0), (by first | rfl | (simp; done) | (simp [*]; done)), (by first | rfl | (simp; done) | (simp [*]; done)), H', ⟨Nat.le_refl _⟩, ⟨by (with_reducible repeat (first | refine blk_drewN ?_ _ | refine blk_drew ?_ | refine blk_alloc ?_ _)); exact BK151.out⟩, ⟨bw⟩⟩
       case round =>
        as_aux_lemma =>
        clear H'
        try clear c5
        try clear c5b0
        try clear c7
        try clear c7b0
        try clear c10
        try clear c16
        try clear c19
        try clear c19b0
        try clear c19b1
        try clear c20
        try clear c20b0
        try clear c22
        try clear c22b0
        try clear c24
        try clear c24b0
        try clear c24b1
        try clear c26
        try clear c27
        try clear c27b0
        try clear c27b1
        try clear c27b2
        try clear c36
        try clear c36b0
        try clear c36b1
        try clear c36b2
        try clear c39
        try clear c39b0
        try clear c39b1
        try clear c41
        try clear c42
        try clear c42b0
        try clear c42b1
        try clear c46
        try clear c46b0
        try clear c46b1
        try clear c58
        try clear c58b0
        try clear c58b1
        try clear hcz11_0 hcz11_1 hcz11_2 hcz11_3 hcz11_4 hcz11_5 hcz11_6 hcz11_7 hcz11_8 hcz11_9
        try clear hcz13_0 hcz13_1 hcz13_2 hcz13_3 hcz13_4 hcz13_5 hcz13_6 hcz13_7 hcz13_8 hcz13_9
        try clear hcz14_0 hcz14_1 hcz14_2 hcz14_3 hcz14_4 hcz14_5 hcz14_6 hcz14_7 hcz14_8 hcz14_9
        try clear hcz18_0 hcz18_1 hcz18_2 hcz18_3 hcz18_4 hcz18_5 hcz18_6 hcz18_7 hcz18_8 hcz18_9
        try clear hcz21_0 hcz21_1 hcz21_2 hcz21_3 hcz21_4 hcz21_5 hcz21_6 hcz21_7 hcz21_8 hcz21_9
        try clear hcz23_0 hcz23_1 hcz23_2 hcz23_3 hcz23_4 hcz23_5 hcz23_6 hcz23_7 hcz23_8 hcz23_9
        try clear hcz28_0 hcz28_1 hcz28_2 hcz28_3 hcz28_4 hcz28_5 hcz28_6 hcz28_7 hcz28_8 hcz28_9
        try clear hcz30_0 hcz30_1 hcz30_2 hcz30_3 hcz30_4 hcz30_5 hcz30_6 hcz30_7 hcz30_8 hcz30_9
        try clear hcz31_0 hcz31_1 hcz31_2 hcz31_3 hcz31_4 hcz31_5 hcz31_6 hcz31_7 hcz31_8 hcz31_9
        try clear hcz33_0 hcz33_1 hcz33_2 hcz33_3 hcz33_4 hcz33_5 hcz33_6 hcz33_7 hcz33_8 hcz33_9
        try clear hcz34_0 hcz34_1 hcz34_2 hcz34_3 hcz34_4 hcz34_5 hcz34_6 hcz34_7 hcz34_8 hcz34_9
        try clear hcz37_0 hcz37_1 hcz37_2 hcz37_3 hcz37_4 hcz37_5 hcz37_6 hcz37_7 hcz37_8 hcz37_9
        try clear hcz38_0 hcz38_1 hcz38_2 hcz38_3 hcz38_4 hcz38_5 hcz38_6 hcz38_7 hcz38_8 hcz38_9
        try clear hcz43_0 hcz43_1 hcz43_2 hcz43_3 hcz43_4 hcz43_5 hcz43_6 hcz43_7 hcz43_8 hcz43_9
        try clear hcz45_0 hcz45_1 hcz45_2 hcz45_3 hcz45_4 hcz45_5 hcz45_6 hcz45_7 hcz45_8 hcz45_9
        try clear hcz47_0 hcz47_1 hcz47_2 hcz47_3 hcz47_4 hcz47_5 hcz47_6 hcz47_7 hcz47_8 hcz47_9
        try clear hcz49_0 hcz49_1 hcz49_2 hcz49_3 hcz49_4 hcz49_5 hcz49_6 hcz49_7 hcz49_8 hcz49_9
        try clear hcz50_0 hcz50_1 hcz50_2 hcz50_3 hcz50_4 hcz50_5 hcz50_6 hcz50_7 hcz50_8 hcz50_9
        try clear hcz52_0 hcz52_1 hcz52_2 hcz52_3 hcz52_4 hcz52_5 hcz52_6 hcz52_7 hcz52_8 hcz52_9
        try clear hcz53_0 hcz53_1 hcz53_2 hcz53_3 hcz53_4 hcz53_5 hcz53_6 hcz53_7 hcz53_8 hcz53_9
        try clear hcz55_0 hcz55_1 hcz55_2 hcz55_3 hcz55_4 hcz55_5 hcz55_6 hcz55_7 hcz55_8 hcz55_9
        try clear hcz57_0 hcz57_1 hcz57_2 hcz57_3 hcz57_4 hcz57_5 hcz57_6 hcz57_7 hcz57_8 hcz57_9
        try clear hcz60_0 hcz60_1 hcz60_2 hcz60_3 hcz60_4 hcz60_5 hcz60_6 hcz60_7 hcz60_8 hcz60_9
        try clear hcz6_0 hcz6_1 hcz6_2 hcz6_3 hcz6_4 hcz6_5 hcz6_6 hcz6_7 hcz6_8 hcz6_9
        try clear hcz8_0 hcz8_1 hcz8_2 hcz8_3 hcz8_4 hcz8_5 hcz8_6 hcz8_7 hcz8_8 hcz8_9
        try clear hfz11_0 hfz11_1 hfz11_2 hfz11_3 hfz11_4 hfz11_5 hfz11_6 hfz11_7 hfz11_8 hfz11_9
        try clear hfz13_0 hfz13_1 hfz13_2 hfz13_3 hfz13_4 hfz13_5 hfz13_6 hfz13_7 hfz13_8 hfz13_9
        try clear hfz14_0 hfz14_1 hfz14_2 hfz14_3 hfz14_4 hfz14_5 hfz14_6 hfz14_7 hfz14_8 hfz14_9
        try clear hfz18_0 hfz18_1 hfz18_2 hfz18_3 hfz18_4 hfz18_5 hfz18_6 hfz18_7 hfz18_8 hfz18_9
        try clear hfz21_0 hfz21_1 hfz21_2 hfz21_3 hfz21_4 hfz21_5 hfz21_6 hfz21_7 hfz21_8 hfz21_9
        try clear hfz23_0 hfz23_1 hfz23_2 hfz23_3 hfz23_4 hfz23_5 hfz23_6 hfz23_7 hfz23_8 hfz23_9
        try clear hfz28_0 hfz28_1 hfz28_2 hfz28_3 hfz28_4 hfz28_5 hfz28_6 hfz28_7 hfz28_8 hfz28_9
        try clear hfz30_0 hfz30_1 hfz30_2 hfz30_3 hfz30_4 hfz30_5 hfz30_6 hfz30_7 hfz30_8 hfz30_9
        try clear hfz31_0 hfz31_1 hfz31_2 hfz31_3 hfz31_4 hfz31_5 hfz31_6 hfz31_7 hfz31_8 hfz31_9
        try clear hfz33_0 hfz33_1 hfz33_2 hfz33_3 hfz33_4 hfz33_5 hfz33_6 hfz33_7 hfz33_8 hfz33_9
        try clear hfz34_0 hfz34_1 hfz34_2 hfz34_3 hfz34_4 hfz34_5 hfz34_6 hfz34_7 hfz34_8 hfz34_9
        try clear hfz37_0 hfz37_1 hfz37_2 hfz37_3 hfz37_4 hfz37_5 hfz37_6 hfz37_7 hfz37_8 hfz37_9
        try clear hfz38_0 hfz38_1 hfz38_2 hfz38_3 hfz38_4 hfz38_5 hfz38_6 hfz38_7 hfz38_8 hfz38_9
        try clear hfz43_0 hfz43_1 hfz43_2 hfz43_3 hfz43_4 hfz43_5 hfz43_6 hfz43_7 hfz43_8 hfz43_9
        try clear hfz45_0 hfz45_1 hfz45_2 hfz45_3 hfz45_4 hfz45_5 hfz45_6 hfz45_7 hfz45_8 hfz45_9
        try clear hfz47_0 hfz47_1 hfz47_2 hfz47_3 hfz47_4 hfz47_5 hfz47_6 hfz47_7 hfz47_8 hfz47_9
        try clear hfz49_0 hfz49_1 hfz49_2 hfz49_3 hfz49_4 hfz49_5 hfz49_6 hfz49_7 hfz49_8 hfz49_9
        try clear hfz50_0 hfz50_1 hfz50_2 hfz50_3 hfz50_4 hfz50_5 hfz50_6 hfz50_7 hfz50_8 hfz50_9
        try clear hfz52_0 hfz52_1 hfz52_2 hfz52_3 hfz52_4 hfz52_5 hfz52_6 hfz52_7 hfz52_8 hfz52_9
        try clear hfz53_0 hfz53_1 hfz53_2 hfz53_3 hfz53_4 hfz53_5 hfz53_6 hfz53_7 hfz53_8 hfz53_9
        try clear hfz55_0 hfz55_1 hfz55_2 hfz55_3 hfz55_4 hfz55_5 hfz55_6 hfz55_7 hfz55_8 hfz55_9
        try clear hfz57_0 hfz57_1 hfz57_2 hfz57_3 hfz57_4 hfz57_5 hfz57_6 hfz57_7 hfz57_8 hfz57_9
        try clear hfz60_0 hfz60_1 hfz60_2 hfz60_3 hfz60_4 hfz60_5 hfz60_6 hfz60_7 hfz60_8 hfz60_9
        try clear hfz6_0 hfz6_1 hfz6_2 hfz6_3 hfz6_4 hfz6_5 hfz6_6 hfz6_7 hfz6_8 hfz6_9
        try clear hfz8_0 hfz8_1 hfz8_2 hfz8_3 hfz8_4 hfz8_5 hfz8_6 hfz8_7 hfz8_8 hfz8_9
        obtain ⟨x1_4, x5_4, rfl, rfl, HA, HK4, BK151, HB⟩ := hrel
        cases gk with
        | zero => exact absurd HA.out (by simp [spec_l6item.l0])
        | succ k4 =>
         have H := HA.out
         clear HA
         simp only [spec_l6item.l0] at H
         have HC62 := Aside0.mk H
         clear H
         go_upto_region 11 with (fail)
         go_cut [93] (fun v93 wc => ∃ (kq : Nat) (x93_61 : Bool), v93 = .bool x93_61 ∧ Aside0 (spec_l6item.j4 kq x1_4 x5_4 x93_61 a0_0 l0_1 a0_2 a0_3 a0_4 l0_5 l0_6 l0_7 l0_8 l0_9 = some r) ∧ Aside0 (kq ≤ k4) ∧ Aside0 (wc.heap[gb151]? = some (.cells #[.int .i64 a0_0, (.slice A0_1 l0_1.length c0_1), .int .i64 a0_2, .int .i64 a0_3, .int .i64 a0_4, (.slice A0_5 l0_5.length c0_5), (.slice A0_6 l0_6.length c0_6), (.slice A0_7 l0_7.length c0_7), (.slice A0_8 l0_8.length c0_8), (.slice A0_9 l0_9.length c0_9)] 94 (0, 0))) ∧ Bw w wc)
         case first =>
          have H := HC62.out
          clear HC62
          by_cases c63 : x5_4 < (l0_9.length : Int)
          ·rw [if_pos c63] at H
           have c63b0 : decide (x5_4 < (l0_9.length : Int)) = true := decide_eq_true c63
           clear c63
           (first | rw [c63b0] | (simp only [i64_w, i32_w]; rw [c63b0]) | skip)
           have H' := Aside0.mk H
           clear H
           have hcz64_0 : wr.cell? ⟨gb151, 0, none⟩ = some (.int .i64 a0_0) := (blk_cell BK151.out 0).trans rfl
           have hcz64_1 : wr.cell? ⟨gb151, 1, none⟩ = some (.slice A0_1 l0_1.length c0_1) := (blk_cell BK151.out 1).trans rfl
           have hcz64_2 : wr.cell? ⟨gb151, 2, none⟩ = some (.int .i64 a0_2) := (blk_cell BK151.out 2).trans rfl
           have hcz64_3 : wr.cell? ⟨gb151, 3, none⟩ = some (.int .i64 a0_3) := (blk_cell BK151.out 3).trans rfl
           have hcz64_4 : wr.cell? ⟨gb151, 4, none⟩ = some (.int .i64 a0_4) := (blk_cell BK151.out 4).trans rfl
           have hcz64_5 : wr.cell? ⟨gb151, 5, none⟩ = some (.slice A0_5 l0_5.length c0_5) := (blk_cell BK151.out 5).trans rfl
           have hcz64_6 : wr.cell? ⟨gb151, 6, none⟩ = some (.slice A0_6 l0_6.length c0_6) := (blk_cell BK151.out 6).trans rfl
           have hcz64_7 : wr.cell? ⟨gb151, 7, none⟩ = some (.slice A0_7 l0_7.length c0_7) := (blk_cell BK151.out 7).trans rfl
           have hcz64_8 : wr.cell? ⟨gb151, 8, none⟩ = some (.slice A0_8 l0_8.length c0_8) := (blk_cell BK151.out 8).trans rfl
           have hcz64_9 : wr.cell? ⟨gb151, 9, none⟩ = some (.slice A0_9 l0_9.length c0_9) := (blk_cell BK151.out 9).trans rfl
           have hfz64_0 := blk_frozen BK151.out 0
           have hfz64_1 := blk_frozen BK151.out 1
           have hfz64_2 := blk_frozen BK151.out 2
           have hfz64_3 := blk_frozen BK151.out 3
           have hfz64_4 := blk_frozen BK151.out 4
           have hfz64_5 := blk_frozen BK151.out 5
           have hfz64_6 := blk_frozen BK151.out 6
           have hfz64_7 := blk_frozen BK151.out 7
           have hfz64_8 := blk_frozen BK151.out 8
           have hfz64_9 := blk_frozen BK151.out 9
           go_wp2
           go_meet
           case rel => exact ⟨_, (decide (x1_4 ≥ 0)), (by first | rfl | (simp; done) | (simp [*]; done)), H', ⟨by have := HJ2.out; have := HJ16.out; have := HJ55.out; have := HK4.out; first | omega | exact Nat.le_refl _⟩, ⟨by (with_reducible repeat (first | refine blk_drewN ?_ _ | refine blk_drew ?_ | refine blk_alloc ?_ _)); exact BK151.out⟩, ⟨bw⟩⟩
          rw [if_neg c63] at H
          have c63b0 : decide (x5_4 < (l0_9.length : Int)) = false := decide_eq_false c63
          clear c63
          (first | rw [c63b0] | (simp only [i64_w, i32_w]; rw [c63b0]) | skip)
          have H' := Aside0.mk H
          clear H
          have hcz65_0 : wr.cell? ⟨gb151, 0, none⟩ = some (.int .i64 a0_0) := (blk_cell BK151.out 0).trans rfl
          have hcz65_1 : wr.cell? ⟨gb151, 1, none⟩ = some (.slice A0_1 l0_1.length c0_1) := (blk_cell BK151.out 1).trans rfl
          have hcz65_2 : wr.cell? ⟨gb151, 2, none⟩ = some (.int .i64 a0_2) := (blk_cell BK151.out 2).trans rfl
          have hcz65_3 : wr.cell? ⟨gb151, 3, none⟩ = some (.int .i64 a0_3) := (blk_cell BK151.out 3).trans rfl
          have hcz65_4 : wr.cell? ⟨gb151, 4, none⟩ = some (.int .i64 a0_4) := (blk_cell BK151.out 4).trans rfl
          have hcz65_5 : wr.cell? ⟨gb151, 5, none⟩ = some (.slice A0_5 l0_5.length c0_5) := (blk_cell BK151.out 5).trans rfl
          have hcz65_6 : wr.cell? ⟨gb151, 6, none⟩ = some (.slice A0_6 l0_6.length c0_6) := (blk_cell BK151.out 6).trans rfl
          have hcz65_7 : wr.cell? ⟨gb151, 7, none⟩ = some (.slice A0_7 l0_7.length c0_7) := (blk_cell BK151.out 7).trans rfl
          have hcz65_8 : wr.cell? ⟨gb151, 8, none⟩ = some (.slice A0_8 l0_8.length c0_8) := (blk_cell BK151.out 8).trans rfl
          have hcz65_9 : wr.cell? ⟨gb151, 9, none⟩ = some (.slice A0_9 l0_9.length c0_9) := (blk_cell BK151.out 9).trans rfl
          have hfz65_0 := blk_frozen BK151.out 0
          have hfz65_1 := blk_frozen BK151.out 1
          have hfz65_2 := blk_frozen BK151.out 2
          have hfz65_3 := blk_frozen BK151.out 3
          have hfz65_4 := blk_frozen BK151.out 4
          have hfz65_5 := blk_frozen BK151.out 5
          have hfz65_6 := blk_frozen BK151.out 6
          have hfz65_7 := blk_frozen BK151.out 7
          have hfz65_8 := blk_frozen BK151.out 8
          have hfz65_9 := blk_frozen BK151.out 9
          go_wp2
          go_meet
          case rel => exact ⟨_, (false), (by first | rfl | (simp; done) | (simp [*]; done)), H', ⟨by have := HJ2.out; have := HJ16.out; have := HJ55.out; have := HK4.out; first | omega | exact Nat.le_refl _⟩, ⟨by (with_reducible repeat (first | refine blk_drewN ?_ _ | refine blk_drew ?_ | refine blk_alloc ?_ _)); exact BK151.out⟩, ⟨bw⟩⟩
         case rest =>
          as_aux_lemma =>
          clear HC62
          try clear c5
          try clear c24
          try clear c24b0
          try clear c24b1
          try clear c26
          try clear c27
          try clear c27b0
          try clear c27b1
          try clear c27b2
          try clear c36
          try clear c36b0
          try clear c36b1
          try clear c36b2
          try clear c39
          try clear c39b0
          try clear c39b1
          try clear c41
          try clear c42
          try clear c42b0
          try clear c42b1
          try clear c46
          try clear c46b0
          try clear c46b1
          try clear c58
          try clear c58b0
          try clear c58b1
          try clear c63
          try clear c63b0
          try clear hcz11_0 hcz11_1 hcz11_2 hcz11_3 hcz11_4 hcz11_5 hcz11_6 hcz11_7 hcz11_8 hcz11_9
          try clear hcz13_0 hcz13_1 hcz13_2 hcz13_3 hcz13_4 hcz13_5 hcz13_6 hcz13_7 hcz13_8 hcz13_9
          try clear hcz14_0 hcz14_1 hcz14_2 hcz14_3 hcz14_4 hcz14_5 hcz14_6 hcz14_7 hcz14_8 hcz14_9
          try clear hcz18_0 hcz18_1 hcz18_2 hcz18_3 hcz18_4 hcz18_5 hcz18_6 hcz18_7 hcz18_8 hcz18_9
          try clear hcz21_0 hcz21_1 hcz21_2 hcz21_3 hcz21_4 hcz21_5 hcz21_6 hcz21_7 hcz21_8 hcz21_9
          try clear hcz23_0 hcz23_1 hcz23_2 hcz23_3 hcz23_4 hcz23_5 hcz23_6 hcz23_7 hcz23_8 hcz23_9
          try clear hcz28_0 hcz28_1 hcz28_2 hcz28_3 hcz28_4 hcz28_5 hcz28_6 hcz28_7 hcz28_8 hcz28_9
          try clear hcz30_0 hcz30_1 hcz30_2 hcz30_3 hcz30_4 hcz30_5 hcz30_6 hcz30_7 hcz30_8 hcz30_9
          try clear hcz31_0 hcz31_1 hcz31_2 hcz31_3 hcz31_4 hcz31_5 hcz31_6 hcz31_7 hcz31_8 hcz31_9
          try clear hcz33_0 hcz33_1 hcz33_2 hcz33_3 hcz33_4 hcz33_5 hcz33_6 hcz33_7 hcz33_8 hcz33_9
          try clear hcz34_0 hcz34_1 hcz34_2 hcz34_3 hcz34_4 hcz34_5 hcz34_6 hcz34_7 hcz34_8 hcz34_9
          try clear hcz37_0 hcz37_1 hcz37_2 hcz37_3 hcz37_4 hcz37_5 hcz37_6 hcz37_7 hcz37_8 hcz37_9
          try clear hcz38_0 hcz38_1 hcz38_2 hcz38_3 hcz38_4 hcz38_5 hcz38_6 hcz38_7 hcz38_8 hcz38_9
          try clear hcz43_0 hcz43_1 hcz43_2 hcz43_3 hcz43_4 hcz43_5 hcz43_6 hcz43_7 hcz43_8 hcz43_9
          try clear hcz45_0 hcz45_1 hcz45_2 hcz45_3 hcz45_4 hcz45_5 hcz45_6 hcz45_7 hcz45_8 hcz45_9
          try clear hcz47_0 hcz47_1 hcz47_2 hcz47_3 hcz47_4 hcz47_5 hcz47_6 hcz47_7 hcz47_8 hcz47_9
          try clear hcz49_0 hcz49_1 hcz49_2 hcz49_3 hcz49_4 hcz49_5 hcz49_6 hcz49_7 hcz49_8 hcz49_9
          try clear hcz50_0 hcz50_1 hcz50_2 hcz50_3 hcz50_4 hcz50_5 hcz50_6 hcz50_7 hcz50_8 hcz50_9
          try clear hcz52_0 hcz52_1 hcz52_2 hcz52_3 hcz52_4 hcz52_5 hcz52_6 hcz52_7 hcz52_8 hcz52_9
          try clear hcz53_0 hcz53_1 hcz53_2 hcz53_3 hcz53_4 hcz53_5 hcz53_6 hcz53_7 hcz53_8 hcz53_9
          try clear hcz55_0 hcz55_1 hcz55_2 hcz55_3 hcz55_4 hcz55_5 hcz55_6 hcz55_7 hcz55_8 hcz55_9
          try clear hcz57_0 hcz57_1 hcz57_2 hcz57_3 hcz57_4 hcz57_5 hcz57_6 hcz57_7 hcz57_8 hcz57_9
          try clear hcz60_0 hcz60_1 hcz60_2 hcz60_3 hcz60_4 hcz60_5 hcz60_6 hcz60_7 hcz60_8 hcz60_9
          try clear hcz64_0 hcz64_1 hcz64_2 hcz64_3 hcz64_4 hcz64_5 hcz64_6 hcz64_7 hcz64_8 hcz64_9
          try clear hcz65_0 hcz65_1 hcz65_2 hcz65_3 hcz65_4 hcz65_5 hcz65_6 hcz65_7 hcz65_8 hcz65_9
          try clear hcz6_0 hcz6_1 hcz6_2 hcz6_3 hcz6_4 hcz6_5 hcz6_6 hcz6_7 hcz6_8 hcz6_9
          try clear hcz8_0 hcz8_1 hcz8_2 hcz8_3 hcz8_4 hcz8_5 hcz8_6 hcz8_7 hcz8_8 hcz8_9
          try clear hfz11_0 hfz11_1 hfz11_2 hfz11_3 hfz11_4 hfz11_5 hfz11_6 hfz11_7 hfz11_8 hfz11_9
          try clear hfz13_0 hfz13_1 hfz13_2 hfz13_3 hfz13_4 hfz13_5 hfz13_6 hfz13_7 hfz13_8 hfz13_9
          try clear hfz14_0 hfz14_1 hfz14_2 hfz14_3 hfz14_4 hfz14_5 hfz14_6 hfz14_7 hfz14_8 hfz14_9
          try clear hfz18_0 hfz18_1 hfz18_2 hfz18_3 hfz18_4 hfz18_5 hfz18_6 hfz18_7 hfz18_8 hfz18_9
          try clear hfz21_0 hfz21_1 hfz21_2 hfz21_3 hfz21_4 hfz21_5 hfz21_6 hfz21_7 hfz21_8 hfz21_9
          try clear hfz23_0 hfz23_1 hfz23_2 hfz23_3 hfz23_4 hfz23_5 hfz23_6 hfz23_7 hfz23_8 hfz23_9
          try clear hfz28_0 hfz28_1 hfz28_2 hfz28_3 hfz28_4 hfz28_5 hfz28_6 hfz28_7 hfz28_8 hfz28_9
          try clear hfz30_0 hfz30_1 hfz30_2 hfz30_3 hfz30_4 hfz30_5 hfz30_6 hfz30_7 hfz30_8 hfz30_9
          try clear hfz31_0 hfz31_1 hfz31_2 hfz31_3 hfz31_4 hfz31_5 hfz31_6 hfz31_7 hfz31_8 hfz31_9
          try clear hfz33_0 hfz33_1 hfz33_2 hfz33_3 hfz33_4 hfz33_5 hfz33_6 hfz33_7 hfz33_8 hfz33_9
          try clear hfz34_0 hfz34_1 hfz34_2 hfz34_3 hfz34_4 hfz34_5 hfz34_6 hfz34_7 hfz34_8 hfz34_9
          try clear hfz37_0 hfz37_1 hfz37_2 hfz37_3 hfz37_4 hfz37_5 hfz37_6 hfz37_7 hfz37_8 hfz37_9
          try clear hfz38_0 hfz38_1 hfz38_2 hfz38_3 hfz38_4 hfz38_5 hfz38_6 hfz38_7 hfz38_8 hfz38_9
          try clear hfz43_0 hfz43_1 hfz43_2 hfz43_3 hfz43_4 hfz43_5 hfz43_6 hfz43_7 hfz43_8 hfz43_9
          try clear hfz45_0 hfz45_1 hfz45_2 hfz45_3 hfz45_4 hfz45_5 hfz45_6 hfz45_7 hfz45_8 hfz45_9
          try clear hfz47_0 hfz47_1 hfz47_2 hfz47_3 hfz47_4 hfz47_5 hfz47_6 hfz47_7 hfz47_8 hfz47_9
          try clear hfz49_0 hfz49_1 hfz49_2 hfz49_3 hfz49_4 hfz49_5 hfz49_6 hfz49_7 hfz49_8 hfz49_9
          try clear hfz50_0 hfz50_1 hfz50_2 hfz50_3 hfz50_4 hfz50_5 hfz50_6 hfz50_7 hfz50_8 hfz50_9
          try clear hfz52_0 hfz52_1 hfz52_2 hfz52_3 hfz52_4 hfz52_5 hfz52_6 hfz52_7 hfz52_8 hfz52_9
          try clear hfz53_0 hfz53_1 hfz53_2 hfz53_3 hfz53_4 hfz53_5 hfz53_6 hfz53_7 hfz53_8 hfz53_9
          try clear hfz55_0 hfz55_1 hfz55_2 hfz55_3 hfz55_4 hfz55_5 hfz55_6 hfz55_7 hfz55_8 hfz55_9
          try clear hfz57_0 hfz57_1 hfz57_2 hfz57_3 hfz57_4 hfz57_5 hfz57_6 hfz57_7 hfz57_8 hfz57_9
          try clear hfz60_0 hfz60_1 hfz60_2 hfz60_3 hfz60_4 hfz60_5 hfz60_6 hfz60_7 hfz60_8 hfz60_9
          try clear hfz64_0 hfz64_1 hfz64_2 hfz64_3 hfz64_4 hfz64_5 hfz64_6 hfz64_7 hfz64_8 hfz64_9
          try clear hfz65_0 hfz65_1 hfz65_2 hfz65_3 hfz65_4 hfz65_5 hfz65_6 hfz65_7 hfz65_8 hfz65_9
          try clear hfz6_0 hfz6_1 hfz6_2 hfz6_3 hfz6_4 hfz6_5 hfz6_6 hfz6_7 hfz6_8 hfz6_9
          try clear hfz8_0 hfz8_1 hfz8_2 hfz8_3 hfz8_4 hfz8_5 hfz8_6 hfz8_7 hfz8_8 hfz8_9
          obtain ⟨kq, x93_61, rfl, HA, HJ61, BK151, HB⟩ := hcut
          cases kq with
          | zero => exact absurd HA.out (by simp [spec_l6item.j4])
          | succ kj61 =>
           have H := HA.out
           clear HA
           simp only [spec_l6item.j4] at H
           by_cases c66 : x93_61 = true
           rotate_left
           ·replace c66 := Bool.eq_false_iff.mpr c66
            subst c66
            replace H := (if_neg (show ¬ (false = true) by decide)).symm.trans H
            obtain rfl := Option.some.inj H
            go_wp2
            go_ret
            exact ⟨by first | rfl | (simp [errW_none, errW_some] <;> rfl) | (simp [*, errW_none, errW_some] <;> rfl), bw⟩
           as_aux_lemma =>
           subst c66
           replace H := (if_pos rfl).symm.trans H
           by_cases c67 : a0_0 = 1
           rotate_left
           ·as_aux_lemma =>
            rw [if_neg c67] at H
            have c67b0 : (a0_0 == 1) = false := beq_eq_false_iff_ne.mpr c67
            have c67b1 : (a0_0 != 1) = true := bne_iff_ne.mpr c67
            by_cases c95 : 0 ≤ x5_4
            rotate_left
            ·rw [if_neg c95] at H
             exact absurd H (by simp)
            as_aux_lemma =>
            rw [if_pos c95] at H
            have c95b0 : decide (0 ≤ x5_4) = true := decide_eq_true c95
            clear c95
            by_cases c96 : x5_4 < (l0_9.length : Int)
            rotate_left
            ·rw [if_neg c96] at H
             exact absurd H (by simp)
            as_aux_lemma =>
            rw [if_pos c96] at H
            have c96b0 : decide (x5_4 < (l0_9.length : Int)) = true := decide_eq_true c96
            clear c96
            replace H := Option.bind_eq_some_iff.mp H
            obtain ⟨t165, A970, H⟩ := H
            have A97 := Aside0.mk A970
            clear A970
            have H' := Aside0.mk H
            clear H
            try go_wp2
            replace BK151 := Aside0.mk (blk_drew BK151.out)
            replace HB := Bw.mk (w := w) (below_drew1 HB.out)
            refine start_ (n := 32) (S := fun w' => w'.cell? ⟨gb151, 0, none⟩ = some (.int .i64 a0_0) ∧ w'.cell? ⟨gb151, 1, none⟩ = some (.slice A0_1 l0_1.length c0_1) ∧ w'.cell? ⟨gb151, 2, none⟩ = some (.int .i64 a0_2) ∧ w'.cell? ⟨gb151, 3, none⟩ = some (.int .i64 a0_3) ∧ w'.cell? ⟨gb151, 4, none⟩ = some (.int .i64 a0_4) ∧ w'.cell? ⟨gb151, 5, none⟩ = some (.slice A0_5 l0_5.length c0_5) ∧ w'.cell? ⟨gb151, 6, none⟩ = some (.slice A0_6 l0_6.length c0_6) ∧ w'.cell? ⟨gb151, 7, none⟩ = some (.slice A0_7 l0_7.length c0_7) ∧ w'.cell? ⟨gb151, 8, none⟩ = some (.slice A0_8 l0_8.length c0_8) ∧ w'.cell? ⟨gb151, 9, none⟩ = some (.slice A0_9 l0_9.length c0_9)) (ds := []) #[false, false, false, false, false, false, false, false, false, false, false, false, false, false, false, false, false, false, false, false, false, false, false, false, false, false, false, false, false, false, false, false] (by kernel_rfl) rfl rfl ⟨(blk_cell BK151.out 0).trans rfl, (blk_cell BK151.out 1).trans rfl, (blk_cell BK151.out 2).trans rfl, (blk_cell BK151.out 3).trans rfl, (blk_cell BK151.out 4).trans rfl, (blk_cell BK151.out 5).trans rfl, (blk_cell BK151.out 6).trans rfl, (blk_cell BK151.out 7).trans rfl, (blk_cell BK151.out 8).trans rfl, (blk_cell BK151.out 9).trans rfl⟩ (fun hHeld => ?_); refine with_tabW spec_l6item.tab13 spec_l6item.bits13 (fun HT_ HW_ => ?_)
            generalize wc.drew = w98 at BK151 HB hHeld ⊢
            refine todo_ [(0, 96), (1, 97), (2, 98), (3, 99), (4, 100), (5, 101), (6, 102), (7, 103), (8, 104), (9, 105), (10, 106), (11, 107), (12, 108), (13, 109), (14, 110), (15, 111), (16, 112), (17, 113), (18, 114), (19, 115), (20, 116), (21, 117), (22, 118), (23, 119), (24, 120), (25, 121), (26, 122), (27, 123), (28, 124), (29, 125), (30, 126), (31, 127)] ?_
            iterate 32
             (first | (refine pu_ (v := undef) (a' := ?_) HT_ rfl rfl (by kernel_rfl) (fun _ _ _ h => h) (Or.inr ⟨by rfl, rfl⟩) ?_ ?_; rotate_left) | (refine pu_ (v := ?_) (a' := ?_) HT_ rfl rfl (by kernel_rfl) (fun _ _ _ h => h) (Or.inl ⟨by rfl, ?_⟩) ?_ ?_; rotate_left; (· intro w'; go_simp; with_reducible rfl); rotate_left) | (refine ta_ (v := ?_) (a' := ?_) HT_ HW_ rfl rfl (by kernel_rfl) (fun _ _ _ h => h) (Or.inl ⟨by rfl, ?_⟩) hHeld ?_ ?_; rotate_left; (· rintro w' ⟨s0, s1, s2, s3, s4, s5, s6, s7, s8, s9⟩; go_simp; with_reducible rfl); rotate_left))
             ·simp only [Act.put, List.setIfInBounds_toArray, List.set_cons_zero, List.set_cons_succ, i64_w, i32_w]
              rfl
            refine tend_ ?_
            refine done_ (done_of HT_.out (by kernel_rfl)) ?_
            have hcz99_0 : w98.cell? ⟨gb151, 0, none⟩ = some (.int .i64 a0_0) := (blk_cell BK151.out 0).trans rfl
            have hcz99_1 : w98.cell? ⟨gb151, 1, none⟩ = some (.slice A0_1 l0_1.length c0_1) := (blk_cell BK151.out 1).trans rfl
            have hcz99_2 : w98.cell? ⟨gb151, 2, none⟩ = some (.int .i64 a0_2) := (blk_cell BK151.out 2).trans rfl
            have hcz99_3 : w98.cell? ⟨gb151, 3, none⟩ = some (.int .i64 a0_3) := (blk_cell BK151.out 3).trans rfl
            have hcz99_4 : w98.cell? ⟨gb151, 4, none⟩ = some (.int .i64 a0_4) := (blk_cell BK151.out 4).trans rfl
            have hcz99_5 : w98.cell? ⟨gb151, 5, none⟩ = some (.slice A0_5 l0_5.length c0_5) := (blk_cell BK151.out 5).trans rfl
            have hcz99_6 : w98.cell? ⟨gb151, 6, none⟩ = some (.slice A0_6 l0_6.length c0_6) := (blk_cell BK151.out 6).trans rfl
            have hcz99_7 : w98.cell? ⟨gb151, 7, none⟩ = some (.slice A0_7 l0_7.length c0_7) := (blk_cell BK151.out 7).trans rfl
            have hcz99_8 : w98.cell? ⟨gb151, 8, none⟩ = some (.slice A0_8 l0_8.length c0_8) := (blk_cell BK151.out 8).trans rfl
            have hcz99_9 : w98.cell? ⟨gb151, 9, none⟩ = some (.slice A0_9 l0_9.length c0_9) := (blk_cell BK151.out 9).trans rfl
            have hfz99_0 := blk_frozen BK151.out 0
            have hfz99_1 := blk_frozen BK151.out 1
            have hfz99_2 := blk_frozen BK151.out 2
            have hfz99_3 := blk_frozen BK151.out 3
            have hfz99_4 := blk_frozen BK151.out 4
            have hfz99_5 := blk_frozen BK151.out 5
            have hfz99_6 := blk_frozen BK151.out 6
            have hfz99_7 := blk_frozen BK151.out 7
            have hfz99_8 := blk_frozen BK151.out 8
            have hfz99_9 := blk_frozen BK151.out 9
            have p164 : 0 ≤ (x5_4 : Int) := of_decide_eq_true (by first | (with_reducible assumption) | assumption)
            have q164 : x5_4 < (l0_9.length : Int) := of_decide_eq_true (by first | (with_reducible assumption) | assumption)
            obtain ⟨ad164, A164_2, c164_2, A164_3, c164_3, A164_4, c164_4, e164, hx164_0, hx164_1, hx164_2, hx164_3, hx164_4, hl164_2, hi164_2, hl164_3, hi164_3, hl164_4, hi164_4⟩ := at_T31 HR0_9.out x5_4 p164 q164
            cases e164
            replace hx164_0 := (HB.out.cell (World.block_lt_of_cell? w _ hx164_0)).trans hx164_0
            replace hx164_1 := (HB.out.cell (World.block_lt_of_cell? w _ hx164_1)).trans hx164_1
            replace hx164_2 := (HB.out.cell (World.block_lt_of_cell? w _ hx164_2)).trans hx164_2
            replace hx164_3 := (HB.out.cell (World.block_lt_of_cell? w _ hx164_3)).trans hx164_3
            replace hx164_4 := (HB.out.cell (World.block_lt_of_cell? w _ hx164_4)).trans hx164_4
            have HR164_2 := Aside0.mk hi164_2
            have HC164_2 := Aside0.mk hl164_2
            clear hi164_2 hl164_2
            have HR164_3 := Aside0.mk hi164_3
            have HC164_3 := Aside0.mk hl164_3
            clear hi164_3 hl164_3
            have HR164_4 := Aside0.mk hi164_4
            have HC164_4 := Aside0.mk hl164_4
            clear hi164_4 hl164_4
            replace p164 := eq_true p164
            replace q164 := eq_true q164
            try go_wp2_with (first | ((with_reducible refine gg (f := 66) (some 134) rfl rfl rfl fr66 ?_); refine onc (spec_l6expr.calls kj61 ((rd_T31 l0_9 x5_4).f0) ((rd_T31 l0_9 x5_4).f1) _ _ ((rd_T31 l0_9 x5_4).f2) _ _ ((rd_T31 l0_9 x5_4).f3) _ _ ((rd_T31 l0_9 x5_4).f4) 1 x1_4 t165 _ (cb HR164_2) HC164_2.out (cb HR164_3) HC164_3.out (cb HR164_4) HC164_4.out A97.out) rfl ?_; rintro e w100 ⟨rfl, hb⟩; refine ⟨_, rfl, ?_⟩; replace BK151 := Aside0.mk (blk_below (g := gb151) (o := .cells #[.int .i64 a0_0, .slice A0_1 l0_1.length c0_1, .int .i64 a0_2, .int .i64 a0_3, .int .i64 a0_4, .slice A0_5 l0_5.length c0_5, .slice A0_6 l0_6.length c0_6, .slice A0_7 l0_7.length c0_7, .slice A0_8 l0_8.length c0_8, .slice (some ad164) l0_9.length c0_9] 94 (0, 0)) (by (with_reducible repeat (first | refine blk_drewN ?_ _ | refine blk_drew ?_ | refine blk_alloc ?_ _)); exact BK151.out) hb); replace HB := (Bw.sw w hb); (try clear hb)))
            go_roundg kj61
            case measure => have := HJ2.out; have := HJ16.out; have := HJ55.out; have := HK4.out; have := HJ61.out; omega
            case rel => exact ⟨(t165), (wrap64 (x5_4 + 1)), (by first | rfl | (simp; done) | (simp [*]; done)), (by first | rfl | (simp; done) | (simp [*]; done)), H', ⟨by have := HJ2.out; have := HJ16.out; have := HJ55.out; have := HK4.out; have := HJ61.out; omega⟩, ⟨by (with_reducible repeat (first | refine blk_drewN ?_ _ | refine blk_drew ?_ | refine blk_alloc ?_ _)); exact BK151.out⟩, ⟨bw⟩⟩
           as_aux_lemma =>
           rw [if_pos c67] at H
           have c67b0 : (a0_0 == 1) = true := beq_iff_eq.mpr c67
           have c67b1 : (a0_0 != 1) = false := bne_eq_false_iff_eq.mpr c67
           clear c67
           by_cases c68 : 0 ≤ x5_4
           rotate_left
           ·rw [if_neg c68] at H
            exact absurd H (by simp)
           as_aux_lemma =>
           rw [if_pos c68] at H
           have c68b0 : decide (0 ≤ x5_4) = true := decide_eq_true c68
           clear c68
           by_cases c69 : x5_4 < (l0_8.length : Int)
           rotate_left
           ·rw [if_neg c69] at H
            exact absurd H (by simp)
           as_aux_lemma =>
           rw [if_pos c69] at H
           have c69b0 : decide (x5_4 < (l0_8.length : Int)) = true := decide_eq_true c69
           clear c69
           replace H := Option.bind_eq_some_iff.mp H
           obtain ⟨t157, A700, H⟩ := H
           have A70 := Aside0.mk A700
           clear A700
           by_cases c71 : t157 = true
           rotate_left
           ·as_aux_lemma =>
            replace c71 := Bool.eq_false_iff.mpr c71
            subst c71
            replace H := (if_neg (show ¬ (false = true) by decide)).symm.trans H
            obtain rfl := Option.some.inj H
            try go_wp2
            replace BK151 := Aside0.mk (blk_drew BK151.out)
            replace HB := Bw.mk (w := w) (below_drew1 HB.out)
            have p156 : 0 ≤ (x5_4 : Int) := of_decide_eq_true (by first | (with_reducible assumption) | assumption)
            have q156 : x5_4 < (l0_8.length : Int) := of_decide_eq_true (by first | (with_reducible assumption) | assumption)
            obtain ⟨ad156, A156_0, c156_0, e156, hx156_0, hl156_0, hi156_0⟩ := at_L1 HR0_8.out x5_4 p156 q156
            have hw156_0 := hx156_0
            cases e156
            replace hx156_0 := (HB.out.cell (World.block_lt_of_cell? w _ hx156_0)).trans hx156_0
            have HR156_0 := Aside0.mk hi156_0
            have HC156_0 := Aside0.mk hl156_0
            clear hi156_0 hl156_0
            replace p156 := eq_true p156
            replace q156 := eq_true q156
            refine start_ (n := 32) (S := fun w' => w'.cell? ⟨gb151, 0, none⟩ = some (.int .i64 a0_0) ∧ w'.cell? ⟨gb151, 1, none⟩ = some (.slice A0_1 l0_1.length c0_1) ∧ w'.cell? ⟨gb151, 2, none⟩ = some (.int .i64 a0_2) ∧ w'.cell? ⟨gb151, 3, none⟩ = some (.int .i64 a0_3) ∧ w'.cell? ⟨gb151, 4, none⟩ = some (.int .i64 a0_4) ∧ w'.cell? ⟨gb151, 5, none⟩ = some (.slice A0_5 l0_5.length c0_5) ∧ w'.cell? ⟨gb151, 6, none⟩ = some (.slice A0_6 l0_6.length c0_6) ∧ w'.cell? ⟨gb151, 7, none⟩ = some (.slice A0_7 l0_7.length c0_7) ∧ w'.cell? ⟨gb151, 8, none⟩ = some (.slice (some ad156) l0_8.length c0_8) ∧ w'.cell? ⟨gb151, 9, none⟩ = some (.slice A0_9 l0_9.length c0_9) ∧ w'.cell? (ad156.add (x5_4).toNat) = some (.slice A156_0 (rd_L1 l0_8 x5_4).length c156_0)) (ds := []) #[false, false, false, false, false, false, false, false, false, false, false, false, false, false, false, false, false, false, false, false, false, false, false, false, false, false, false, false, false, false, false, false] (by kernel_rfl) rfl rfl ⟨(blk_cell BK151.out 0).trans rfl, (blk_cell BK151.out 1).trans rfl, (blk_cell BK151.out 2).trans rfl, (blk_cell BK151.out 3).trans rfl, (blk_cell BK151.out 4).trans rfl, (blk_cell BK151.out 5).trans rfl, (blk_cell BK151.out 6).trans rfl, (blk_cell BK151.out 7).trans rfl, (blk_cell BK151.out 8).trans rfl, (blk_cell BK151.out 9).trans rfl, ((HB.out.cell (World.block_lt_of_cell? w _ hw156_0)).trans hw156_0)⟩ (fun hHeld => ?_); refine with_tabW spec_l6item.tab13 spec_l6item.bits13 (fun HT_ HW_ => ?_)
            generalize wc.drew = w94 at BK151 HB HR156_0 hx156_0 hHeld ⊢
            refine todo_ [(0, 96), (1, 97), (2, 98), (3, 99), (4, 100), (6, 102), (5, 101), (7, 103), (8, 104)] ?_
            iterate 9
             (first | (refine pu_ (v := ?_) (a' := ?_) HT_ rfl rfl (by kernel_rfl) (fun _ _ _ h => h) (Or.inl ⟨by rfl, ?_⟩) ?_ ?_; rotate_left; (· intro w'; go_simp; with_reducible rfl); rotate_left) | (refine ta_ (v := ?_) (a' := ?_) HT_ HW_ rfl rfl (by kernel_rfl) (fun _ _ _ h => h) (Or.inl ⟨by rfl, ?_⟩) hHeld ?_ ?_; rotate_left; (· rintro w' ⟨s0, s1, s2, s3, s4, s5, s6, s7, s8, s9, s10⟩; go_simp; with_reducible rfl); rotate_left))
             ·simp only [Act.put, List.setIfInBounds_toArray, List.set_cons_zero, List.set_cons_succ, i64_w, i32_w]
              rfl
            refine tend_ ?_
            refine one_ (i := 9) (N := some 105) #[true, true, true, true, true, true, true, true, true, true, false, false, false, false, false, false, false, false, false, false, false, false, false, false, false, false, false, false, false, false, false, false] rfl rfl (one_of HT_.out (by kernel_rfl)) (by decide) (fun K hK => ?_)
            refine goes_ Try.func39 (by kernel_rfl) rfl #[.slice A156_0 (rd_L1 l0_8 x5_4).length c156_0] (by rfl) rfl rfl (by (try simp only [List.map_toArray, List.map_cons, List.map_nil]); first | done | rfl | (simp only [List.length_drop, List.length_take]; rfl)) ?_
            with_reducible refine (spec_NameOk.calls kj61 _ _ (rd_L1 l0_8 x5_4) false _ ?side1 ?side2 A70.out).mono ?_
            (case side1 => repeat (first | exact (Kd.C_below HR156_0.out HB.out) | (with_reducible refine Kd.C_alloc ?_ _) | (with_reducible refine Kd.C_drewN ?_ _) | (with_reducible refine Kd.C_drew ?_)))
            (case side2 => exact HC156_0.out)
            rintro e w' ⟨rfl, ⟨nd, rfl⟩⟩
            refine ⟨_, rfl, ?_⟩
            refine hK.out _ _ ⟨(blk_cell BK151.out 0).trans rfl, (blk_cell BK151.out 1).trans rfl, (blk_cell BK151.out 2).trans rfl, (blk_cell BK151.out 3).trans rfl, (blk_cell BK151.out 4).trans rfl, (blk_cell BK151.out 5).trans rfl, (blk_cell BK151.out 6).trans rfl, (blk_cell BK151.out 7).trans rfl, (blk_cell BK151.out 8).trans rfl, (blk_cell BK151.out 9).trans rfl, ((HB.out.cell (World.block_lt_of_cell? w _ hw156_0)).trans hw156_0)⟩ (fun hHeld => ?_)
            clear hK K
            refine norm_ (a' := ?_) ?_ ?_
            rotate_left
            ·show Act.put _ (some 105) _ = _
             simp only [Act.put, List.setIfInBounds_toArray, List.set_cons_zero, List.set_cons_succ, i64_w, i32_w]
             rfl
            refine todo_ [(10, 106), (11, 107), (12, 108), (13, 109), (14, 110), (15, 111), (16, 112), (17, 113), (18, 114), (19, 115), (20, 116), (21, 117), (22, 118), (23, 119), (24, 120), (25, 121), (26, 122), (27, 123), (28, 124), (29, 125), (30, 126), (31, 127)] ?_
            iterate 22
             (first | (refine pu_ (v := undef) (a' := ?_) HT_ rfl rfl (by kernel_rfl) (fun _ _ _ h => h) (Or.inr ⟨by rfl, rfl⟩) ?_ ?_; rotate_left) | (refine pu_ (v := ?_) (a' := ?_) HT_ rfl rfl (by kernel_rfl) (fun _ _ _ h => h) (Or.inl ⟨by rfl, ?_⟩) ?_ ?_; rotate_left; (· intro w'; go_simp; with_reducible rfl); rotate_left))
             ·simp only [Act.put, List.setIfInBounds_toArray, List.set_cons_zero, List.set_cons_succ, i64_w, i32_w]
              rfl
            refine tend_ ?_
            refine done_ (done_of HT_.out (by kernel_rfl)) ?_
            try go_wp2
            go_ret
            exact ⟨by first | rfl | (simp [errW_none, errW_some] <;> rfl) | (simp [*, errW_none, errW_some] <;> rfl), bw⟩
           as_aux_lemma =>
           subst c71
           replace H := (if_pos rfl).symm.trans H
           by_cases c72 : x5_4 > 0
           rotate_left
           ·as_aux_lemma =>
            rw [if_neg c72] at H
            have c72b0 : decide (0 < x5_4) = false := decide_eq_false c72
            clear c72
            by_cases c89 : x5_4 < (l0_9.length : Int)
            rotate_left
            ·rw [if_neg c89] at H
             exact absurd H (by simp)
            as_aux_lemma =>
            rw [if_pos c89] at H
            have c89b0 : decide (x5_4 < (l0_9.length : Int)) = true := decide_eq_true c89
            clear c89
            replace H := Option.bind_eq_some_iff.mp H
            obtain ⟨t163, A900, H⟩ := H
            have A90 := Aside0.mk A900
            clear A900
            have H' := Aside0.mk H
            clear H
            try go_wp2
            replace BK151 := Aside0.mk (blk_drew BK151.out)
            replace HB := Bw.mk (w := w) (below_drew1 HB.out)
            have p156 : 0 ≤ (x5_4 : Int) := of_decide_eq_true (by first | (with_reducible assumption) | assumption)
            have q156 : x5_4 < (l0_8.length : Int) := of_decide_eq_true (by first | (with_reducible assumption) | assumption)
            obtain ⟨ad156, A156_0, c156_0, e156, hx156_0, hl156_0, hi156_0⟩ := at_L1 HR0_8.out x5_4 p156 q156
            have hw156_0 := hx156_0
            cases e156
            replace hx156_0 := (HB.out.cell (World.block_lt_of_cell? w _ hx156_0)).trans hx156_0
            have HR156_0 := Aside0.mk hi156_0
            have HC156_0 := Aside0.mk hl156_0
            clear hi156_0 hl156_0
            replace p156 := eq_true p156
            replace q156 := eq_true q156
            refine start_ (n := 32) (S := fun w' => w'.cell? ⟨gb151, 0, none⟩ = some (.int .i64 a0_0) ∧ w'.cell? ⟨gb151, 1, none⟩ = some (.slice A0_1 l0_1.length c0_1) ∧ w'.cell? ⟨gb151, 2, none⟩ = some (.int .i64 a0_2) ∧ w'.cell? ⟨gb151, 3, none⟩ = some (.int .i64 a0_3) ∧ w'.cell? ⟨gb151, 4, none⟩ = some (.int .i64 a0_4) ∧ w'.cell? ⟨gb151, 5, none⟩ = some (.slice A0_5 l0_5.length c0_5) ∧ w'.cell? ⟨gb151, 6, none⟩ = some (.slice A0_6 l0_6.length c0_6) ∧ w'.cell? ⟨gb151, 7, none⟩ = some (.slice A0_7 l0_7.length c0_7) ∧ w'.cell? ⟨gb151, 8, none⟩ = some (.slice (some ad156) l0_8.length c0_8) ∧ w'.cell? ⟨gb151, 9, none⟩ = some (.slice A0_9 l0_9.length c0_9) ∧ w'.cell? (ad156.add (x5_4).toNat) = some (.slice A156_0 (rd_L1 l0_8 x5_4).length c156_0)) (ds := []) #[false, false, false, false, false, false, false, false, false, false, false, false, false, false, false, false, false, false, false, false, false, false, false, false, false, false, false, false, false, false, false, false] (by kernel_rfl) rfl rfl ⟨(blk_cell BK151.out 0).trans rfl, (blk_cell BK151.out 1).trans rfl, (blk_cell BK151.out 2).trans rfl, (blk_cell BK151.out 3).trans rfl, (blk_cell BK151.out 4).trans rfl, (blk_cell BK151.out 5).trans rfl, (blk_cell BK151.out 6).trans rfl, (blk_cell BK151.out 7).trans rfl, (blk_cell BK151.out 8).trans rfl, (blk_cell BK151.out 9).trans rfl, ((HB.out.cell (World.block_lt_of_cell? w _ hw156_0)).trans hw156_0)⟩ (fun hHeld => ?_); refine with_tabW spec_l6item.tab13 spec_l6item.bits13 (fun HT_ HW_ => ?_)
            generalize wc.drew = w91 at BK151 HB HR156_0 hx156_0 hHeld ⊢
            refine todo_ [(0, 96), (1, 97), (2, 98), (3, 99), (4, 100), (6, 102), (5, 101), (7, 103), (8, 104)] ?_
            iterate 9
             (first | (refine pu_ (v := ?_) (a' := ?_) HT_ rfl rfl (by kernel_rfl) (fun _ _ _ h => h) (Or.inl ⟨by rfl, ?_⟩) ?_ ?_; rotate_left; (· intro w'; go_simp; with_reducible rfl); rotate_left) | (refine ta_ (v := ?_) (a' := ?_) HT_ HW_ rfl rfl (by kernel_rfl) (fun _ _ _ h => h) (Or.inl ⟨by rfl, ?_⟩) hHeld ?_ ?_; rotate_left; (· rintro w' ⟨s0, s1, s2, s3, s4, s5, s6, s7, s8, s9, s10⟩; go_simp; with_reducible rfl); rotate_left))
             ·simp only [Act.put, List.setIfInBounds_toArray, List.set_cons_zero, List.set_cons_succ, i64_w, i32_w]
              rfl
            refine tend_ ?_
            refine one_ (i := 9) (N := some 105) #[true, true, true, true, true, true, true, true, true, true, false, false, false, false, false, false, false, false, false, false, false, false, false, false, false, false, false, false, false, false, false, false] rfl rfl (one_of HT_.out (by kernel_rfl)) (by decide) (fun K hK => ?_)
            refine goes_ Try.func39 (by kernel_rfl) rfl #[.slice A156_0 (rd_L1 l0_8 x5_4).length c156_0] (by rfl) rfl rfl (by (try simp only [List.map_toArray, List.map_cons, List.map_nil]); first | done | rfl | (simp only [List.length_drop, List.length_take]; rfl)) ?_
            with_reducible refine (spec_NameOk.calls kj61 _ _ (rd_L1 l0_8 x5_4) true _ ?side1 ?side2 A70.out).mono ?_
            (case side1 => repeat (first | exact (Kd.C_below HR156_0.out HB.out) | (with_reducible refine Kd.C_alloc ?_ _) | (with_reducible refine Kd.C_drewN ?_ _) | (with_reducible refine Kd.C_drew ?_)))
            (case side2 => exact HC156_0.out)
            rintro e w' ⟨rfl, ⟨nd, rfl⟩⟩
            refine ⟨_, rfl, ?_⟩
            refine hK.out _ _ ⟨(blk_cell BK151.out 0).trans rfl, (blk_cell BK151.out 1).trans rfl, (blk_cell BK151.out 2).trans rfl, (blk_cell BK151.out 3).trans rfl, (blk_cell BK151.out 4).trans rfl, (blk_cell BK151.out 5).trans rfl, (blk_cell BK151.out 6).trans rfl, (blk_cell BK151.out 7).trans rfl, (blk_cell BK151.out 8).trans rfl, (blk_cell BK151.out 9).trans rfl, ((HB.out.cell (World.block_lt_of_cell? w _ hw156_0)).trans hw156_0)⟩ (fun hHeld => ?_)
            clear hK K
            refine norm_ (a' := ?_) ?_ ?_
            rotate_left
            ·show Act.put _ (some 105) _ = _
             simp only [Act.put, List.setIfInBounds_toArray, List.set_cons_zero, List.set_cons_succ, i64_w, i32_w]
             rfl
            refine todo_ [(10, 106), (11, 107), (12, 108), (13, 109), (14, 110), (15, 111), (16, 112), (17, 113), (18, 114), (19, 115), (20, 116), (21, 117), (22, 118), (23, 119), (24, 120), (25, 121), (26, 122), (27, 123), (28, 124), (29, 125), (30, 126), (31, 127)] ?_
            iterate 22
             (first | (refine pu_ (v := undef) (a' := ?_) HT_ rfl rfl (by kernel_rfl) (fun _ _ _ h => h) (Or.inr ⟨by rfl, rfl⟩) ?_ ?_; rotate_left) | (refine pu_ (v := ?_) (a' := ?_) HT_ rfl rfl (by kernel_rfl) (fun _ _ _ h => h) (Or.inl ⟨by rfl, ?_⟩) ?_ ?_; rotate_left; (· intro w'; go_simp; with_reducible rfl); rotate_left))
             ·simp only [Act.put, List.setIfInBounds_toArray, List.set_cons_zero, List.set_cons_succ, i64_w, i32_w]
              rfl
            refine tend_ ?_
            refine done_ (done_of HT_.out (by kernel_rfl)) ?_
            have hcz92_0 : w91.cell? ⟨gb151, 0, none⟩ = some (.int .i64 a0_0) := (blk_cell BK151.out 0).trans rfl
            have hcz92_1 : w91.cell? ⟨gb151, 1, none⟩ = some (.slice A0_1 l0_1.length c0_1) := (blk_cell BK151.out 1).trans rfl
            have hcz92_2 : w91.cell? ⟨gb151, 2, none⟩ = some (.int .i64 a0_2) := (blk_cell BK151.out 2).trans rfl
            have hcz92_3 : w91.cell? ⟨gb151, 3, none⟩ = some (.int .i64 a0_3) := (blk_cell BK151.out 3).trans rfl
            have hcz92_4 : w91.cell? ⟨gb151, 4, none⟩ = some (.int .i64 a0_4) := (blk_cell BK151.out 4).trans rfl
            have hcz92_5 : w91.cell? ⟨gb151, 5, none⟩ = some (.slice A0_5 l0_5.length c0_5) := (blk_cell BK151.out 5).trans rfl
            have hcz92_6 : w91.cell? ⟨gb151, 6, none⟩ = some (.slice A0_6 l0_6.length c0_6) := (blk_cell BK151.out 6).trans rfl
            have hcz92_7 : w91.cell? ⟨gb151, 7, none⟩ = some (.slice A0_7 l0_7.length c0_7) := (blk_cell BK151.out 7).trans rfl
            have hcz92_8 : w91.cell? ⟨gb151, 8, none⟩ = some (.slice (some ad156) l0_8.length c0_8) := (blk_cell BK151.out 8).trans rfl
            have hcz92_9 : w91.cell? ⟨gb151, 9, none⟩ = some (.slice A0_9 l0_9.length c0_9) := (blk_cell BK151.out 9).trans rfl
            have hfz92_0 := blk_frozen BK151.out 0
            have hfz92_1 := blk_frozen BK151.out 1
            have hfz92_2 := blk_frozen BK151.out 2
            have hfz92_3 := blk_frozen BK151.out 3
            have hfz92_4 := blk_frozen BK151.out 4
            have hfz92_5 := blk_frozen BK151.out 5
            have hfz92_6 := blk_frozen BK151.out 6
            have hfz92_7 := blk_frozen BK151.out 7
            have hfz92_8 := blk_frozen BK151.out 8
            have hfz92_9 := blk_frozen BK151.out 9
            have p162 : 0 ≤ (x5_4 : Int) := of_decide_eq_true (by first | (with_reducible assumption) | assumption)
            have q162 : x5_4 < (l0_9.length : Int) := of_decide_eq_true (by first | (with_reducible assumption) | assumption)
            obtain ⟨ad162, A162_2, c162_2, A162_3, c162_3, A162_4, c162_4, e162, hx162_0, hx162_1, hx162_2, hx162_3, hx162_4, hl162_2, hi162_2, hl162_3, hi162_3, hl162_4, hi162_4⟩ := at_T31 HR0_9.out x5_4 p162 q162
            cases e162
            replace hx162_0 := (HB.out.cell (World.block_lt_of_cell? w _ hx162_0)).trans hx162_0
            replace hx162_1 := (HB.out.cell (World.block_lt_of_cell? w _ hx162_1)).trans hx162_1
            replace hx162_2 := (HB.out.cell (World.block_lt_of_cell? w _ hx162_2)).trans hx162_2
            replace hx162_3 := (HB.out.cell (World.block_lt_of_cell? w _ hx162_3)).trans hx162_3
            replace hx162_4 := (HB.out.cell (World.block_lt_of_cell? w _ hx162_4)).trans hx162_4
            have HR162_2 := Aside0.mk hi162_2
            have HC162_2 := Aside0.mk hl162_2
            clear hi162_2 hl162_2
            have HR162_3 := Aside0.mk hi162_3
            have HC162_3 := Aside0.mk hl162_3
            clear hi162_3 hl162_3
            have HR162_4 := Aside0.mk hi162_4
            have HC162_4 := Aside0.mk hl162_4
            clear hi162_4 hl162_4
            replace p162 := eq_true p162
            replace q162 := eq_true q162
            try go_wp2_with (first | ((with_reducible refine gg (f := 66) (some 134) rfl rfl rfl fr66 ?_); refine onc (spec_l6expr.calls kj61 ((rd_T31 l0_9 x5_4).f0) ((rd_T31 l0_9 x5_4).f1) _ _ ((rd_T31 l0_9 x5_4).f2) _ _ ((rd_T31 l0_9 x5_4).f3) _ _ ((rd_T31 l0_9 x5_4).f4) 1 x1_4 t163 _ (cb HR162_2) HC162_2.out (cb HR162_3) HC162_3.out (cb HR162_4) HC162_4.out A90.out) rfl ?_; rintro e w93 ⟨rfl, hb⟩; refine ⟨_, rfl, ?_⟩; replace BK151 := Aside0.mk (blk_below (g := gb151) (o := .cells #[.int .i64 a0_0, .slice A0_1 l0_1.length c0_1, .int .i64 a0_2, .int .i64 a0_3, .int .i64 a0_4, .slice A0_5 l0_5.length c0_5, .slice A0_6 l0_6.length c0_6, .slice A0_7 l0_7.length c0_7, .slice (some ad156) l0_8.length c0_8, .slice (some ad162) l0_9.length c0_9] 94 (0, 0)) (by (with_reducible repeat (first | refine blk_drewN ?_ _ | refine blk_drew ?_ | refine blk_alloc ?_ _)); exact BK151.out) hb); replace HB := (Bw.sw w hb); (try clear hb)))
            go_roundg kj61
            case measure => have := HJ2.out; have := HJ16.out; have := HJ55.out; have := HK4.out; have := HJ61.out; omega
            case rel => exact ⟨(t163), (wrap64 (x5_4 + 1)), (by first | rfl | (simp; done) | (simp [*]; done)), (by first | rfl | (simp; done) | (simp [*]; done)), H', ⟨by have := HJ2.out; have := HJ16.out; have := HJ55.out; have := HK4.out; have := HJ61.out; omega⟩, ⟨by (with_reducible repeat (first | refine blk_drewN ?_ _ | refine blk_drew ?_ | refine blk_alloc ?_ _)); exact BK151.out⟩, ⟨bw⟩⟩
           as_aux_lemma =>
           rw [if_pos c72] at H
           have c72b0 : decide (0 < x5_4) = true := decide_eq_true c72
           clear c72
           obtain ⟨ji73, hji73⟩ : ∃ j_ : Int, (wrap64 (x5_4 - 1)) = j_ := ⟨_, rfl⟩
           replace H : (if 0 ≤ (ji73) then (if (ji73) < (l0_8.length : Int) then (if ((Op.bytesLess ((strOfNums (rd_L1 l0_8 (ji73))).toList) ((strOfNums (rd_L1 l0_8 x5_4)).toList)) = true) then (if x5_4 < (l0_9.length : Int) then ((spec_l6expr.f kj61 ((rd_T31 l0_9 x5_4).f0) ((rd_T31 l0_9 x5_4).f1) ((rd_T31 l0_9 x5_4).f2) ((rd_T31 l0_9 x5_4).f3) ((rd_T31 l0_9 x5_4).f4) 1 x1_4).bind fun t161 => (spec_l6item.l0 kj61 t161 (wrap64 (x5_4 + 1)) a0_0 l0_1 a0_2 a0_3 a0_4 l0_5 l0_6 l0_7 l0_8 l0_9)) else (none)) else (some (-1))) else (none)) else (none)) = some r := by first | (rw [hji73] at H; exact H) | (simp only [hji73] at H ⊢; exact H)
           (try rw [hji73] at A70)
           have hji73w : (IntKind.i64.wrap (x5_4 - 1)) = ji73 := (i64_w _).trans hji73
           by_cases c74 : 0 ≤ (ji73)
           rotate_left
           ·rw [if_neg c74] at H
            exact absurd H (by simp)
           as_aux_lemma =>
           rw [if_pos c74] at H
           have c74b0 : decide (0 ≤ (ji73)) = true := decide_eq_true c74
           clear c74
           by_cases c75 : (ji73) < (l0_8.length : Int)
           rotate_left
           ·rw [if_neg c75] at H
            exact absurd H (by simp)
           as_aux_lemma =>
           rw [if_pos c75] at H
           have c75b0 : decide ((ji73) < (l0_8.length : Int)) = true := decide_eq_true c75
           clear c75
           by_cases c76 : ((Op.bytesLess ((strOfNums (rd_L1 l0_8 (ji73))).toList) ((strOfNums (rd_L1 l0_8 x5_4)).toList)) = true)
           rotate_left
           ·as_aux_lemma =>
            rw [if_neg c76] at H
            have c76b0 : (Op.bytesLess ((strOfNums (rd_L1 l0_8 (ji73))).toList) ((strOfNums (rd_L1 l0_8 x5_4)).toList)) = false := by simpa using c76
            clear c76
            obtain rfl := Option.some.inj H
            try go_wp2
            replace BK151 := Aside0.mk (blk_drew BK151.out)
            replace HB := Bw.mk (w := w) (below_drew1 HB.out)
            have p156 : 0 ≤ (x5_4 : Int) := of_decide_eq_true (by first | (with_reducible assumption) | assumption)
            have q156 : x5_4 < (l0_8.length : Int) := of_decide_eq_true (by first | (with_reducible assumption) | assumption)
            obtain ⟨ad156, A156_0, c156_0, e156, hx156_0, hl156_0, hi156_0⟩ := at_L1 HR0_8.out x5_4 p156 q156
            have hw156_0 := hx156_0
            cases e156
            replace hx156_0 := (HB.out.cell (World.block_lt_of_cell? w _ hx156_0)).trans hx156_0
            have HR156_0 := Aside0.mk hi156_0
            have HC156_0 := Aside0.mk hl156_0
            clear hi156_0 hl156_0
            replace p156 := eq_true p156
            replace q156 := eq_true q156
            have p158 : 0 ≤ ((ji73) : Int) := of_decide_eq_true (by first | (with_reducible assumption) | assumption)
            have q158 : (ji73) < (l0_8.length : Int) := of_decide_eq_true (by first | (with_reducible assumption) | assumption)
            obtain ⟨ad158, A158_0, c158_0, e158, hx158_0, hl158_0, hi158_0⟩ := at_L1 HR0_8.out (ji73) p158 q158
            have hw158_0 := hx158_0
            obtain rfl : ad156 = ad158 := (by injection e158)
            replace hx158_0 := (HB.out.cell (World.block_lt_of_cell? w _ hx158_0)).trans hx158_0
            have HR158_0 := Aside0.mk hi158_0
            have HC158_0 := Aside0.mk hl158_0
            clear hi158_0 hl158_0
            replace p158 := eq_true p158
            replace q158 := eq_true q158
            have p159 : 0 ≤ (x5_4 : Int) := of_decide_eq_true (by first | (with_reducible assumption) | assumption)
            have q159 : x5_4 < (l0_8.length : Int) := of_decide_eq_true (by first | (with_reducible assumption) | assumption)
            obtain ⟨ad159, A159_0, c159_0, e159, hx159_0, hl159_0, hi159_0⟩ := at_L1 HR0_8.out x5_4 p159 q159
            have hw159_0 := hx159_0
            obtain rfl : ad156 = ad159 := (by injection e159)
            replace hx159_0 := (HB.out.cell (World.block_lt_of_cell? w _ hx159_0)).trans hx159_0
            have HR159_0 := Aside0.mk hi159_0
            have HC159_0 := Aside0.mk hl159_0
            clear hi159_0 hl159_0
            replace p159 := eq_true p159
            replace q159 := eq_true q159
            have ea_ := Option.some.inj (hx156_0.symm.trans hx159_0)
            injection ea_ with ea_ en_ ec_
            subst ea_
            subst ec_
            clear en_
            refine start_ (n := 32) (S := fun w' => w'.cell? ⟨gb151, 0, none⟩ = some (.int .i64 a0_0) ∧ w'.cell? ⟨gb151, 1, none⟩ = some (.slice A0_1 l0_1.length c0_1) ∧ w'.cell? ⟨gb151, 2, none⟩ = some (.int .i64 a0_2) ∧ w'.cell? ⟨gb151, 3, none⟩ = some (.int .i64 a0_3) ∧ w'.cell? ⟨gb151, 4, none⟩ = some (.int .i64 a0_4) ∧ w'.cell? ⟨gb151, 5, none⟩ = some (.slice A0_5 l0_5.length c0_5) ∧ w'.cell? ⟨gb151, 6, none⟩ = some (.slice A0_6 l0_6.length c0_6) ∧ w'.cell? ⟨gb151, 7, none⟩ = some (.slice A0_7 l0_7.length c0_7) ∧ w'.cell? ⟨gb151, 8, none⟩ = some (.slice (some ad156) l0_8.length c0_8) ∧ w'.cell? ⟨gb151, 9, none⟩ = some (.slice A0_9 l0_9.length c0_9) ∧ w'.cell? (ad156.add (x5_4).toNat) = some (.slice A156_0 (rd_L1 l0_8 x5_4).length c156_0) ∧ w'.cell? (ad156.add ((ji73)).toNat) = some (.slice A158_0 (rd_L1 l0_8 (ji73)).length c158_0) ∧ w'.cell? (ad156.add (x5_4).toNat) = some (.slice A156_0 (rd_L1 l0_8 x5_4).length c156_0) ∧ (convert 22 9 (.slice A158_0 (rd_L1 l0_8 (ji73)).length c158_0)).run Try.prog w' = .ok (.string (strOfNums (rd_L1 l0_8 (ji73)))) w' ∧ (convert 22 9 (.slice A156_0 (rd_L1 l0_8 x5_4).length c156_0)).run Try.prog w' = .ok (.string (strOfNums (rd_L1 l0_8 x5_4))) w') (ds := []) #[false, false, false, false, false, false, false, false, false, false, false, false, false, false, false, false, false, false, false, false, false, false, false, false, false, false, false, false, false, false, false, false] (by kernel_rfl) rfl rfl ⟨(blk_cell BK151.out 0).trans rfl, (blk_cell BK151.out 1).trans rfl, (blk_cell BK151.out 2).trans rfl, (blk_cell BK151.out 3).trans rfl, (blk_cell BK151.out 4).trans rfl, (blk_cell BK151.out 5).trans rfl, (blk_cell BK151.out 6).trans rfl, (blk_cell BK151.out 7).trans rfl, (blk_cell BK151.out 8).trans rfl, (blk_cell BK151.out 9).trans rfl, ((HB.out.cell (World.block_lt_of_cell? w _ hw156_0)).trans hw156_0), ((HB.out.cell (World.block_lt_of_cell? w _ hw158_0)).trans hw158_0), ((HB.out.cell (World.block_lt_of_cell? w _ hw159_0)).trans hw159_0), (Kd.C_string (P := Try.prog) (A := A158_0) (c := c158_0) Try.underlying22 Try.underlying5 Try.underlying9 (by first | exact Kd.C_below HR158_0.out HB.out | exact Kd.C_below HR158_0.out (pw_below_drewN HB.out _))), (Kd.C_string (P := Try.prog) (A := A156_0) (c := c156_0) Try.underlying22 Try.underlying5 Try.underlying9 (by first | exact Kd.C_below HR159_0.out HB.out | exact Kd.C_below HR159_0.out (pw_below_drewN HB.out _)))⟩ (fun hHeld => ?_); refine with_tabW spec_l6item.tab13 spec_l6item.bits13 (fun HT_ HW_ => ?_)
            generalize wc.drew = w85 at BK151 HB HR156_0 HR158_0 HR159_0 hx156_0 hx158_0 hx159_0 hHeld ⊢
            refine todo_ [(0, 96), (1, 97), (2, 98), (3, 99), (4, 100), (6, 102), (5, 101), (7, 103), (8, 104)] ?_
            iterate 9
             (first | (refine pu_ (v := ?_) (a' := ?_) HT_ rfl rfl (by kernel_rfl) (fun _ _ _ h => h) (Or.inl ⟨by rfl, ?_⟩) ?_ ?_; rotate_left; (· intro w'; go_simp; with_reducible rfl); rotate_left) | (refine ta_ (v := ?_) (a' := ?_) HT_ HW_ rfl rfl (by kernel_rfl) (fun _ _ _ h => h) (Or.inl ⟨by rfl, ?_⟩) hHeld ?_ ?_; rotate_left; (· rintro w' ⟨s0, s1, s2, s3, s4, s5, s6, s7, s8, s9, s10, s11, s12, s13, s14⟩; go_simp; with_reducible rfl); rotate_left))
             ·simp only [Act.put, List.setIfInBounds_toArray, List.set_cons_zero, List.set_cons_succ, i64_w, i32_w]
              rfl
            refine tend_ ?_
            refine one_ (i := 9) (N := some 105) #[true, true, true, true, true, true, true, true, true, true, false, false, false, false, false, false, false, false, false, false, false, false, false, false, false, false, false, false, false, false, false, false] rfl rfl (one_of HT_.out (by kernel_rfl)) (by decide) (fun K hK => ?_)
            refine goes_ Try.func39 (by kernel_rfl) rfl #[.slice A156_0 (rd_L1 l0_8 x5_4).length c156_0] (by rfl) rfl rfl (by (try simp only [List.map_toArray, List.map_cons, List.map_nil]); first | done | rfl | (simp only [List.length_drop, List.length_take]; rfl)) ?_
            with_reducible refine (spec_NameOk.calls kj61 _ _ (rd_L1 l0_8 x5_4) true _ ?side1 ?side2 A70.out).mono ?_
            (case side1 => repeat (first | exact (Kd.C_below HR156_0.out HB.out) | (with_reducible refine Kd.C_alloc ?_ _) | (with_reducible refine Kd.C_drewN ?_ _) | (with_reducible refine Kd.C_drew ?_)))
            (case side2 => exact HC156_0.out)
            rintro e w' ⟨rfl, ⟨nd, rfl⟩⟩
            refine ⟨_, rfl, ?_⟩
            have hcv86d := fun (a_ : Nat) => Kd.C_string (P := Try.prog) (A := A158_0) (c := c158_0) Try.underlying22 Try.underlying5 Try.underlying9 (Kd.C_drewN (Kd.C_below HR158_0.out HB.out) a_)
            have hcv86 := Kd.C_string (P := Try.prog) (A := A158_0) (c := c158_0) Try.underlying22 Try.underlying5 Try.underlying9 (Kd.C_below HR158_0.out HB.out)
            have hcv87d := fun (a_ : Nat) => Kd.C_string (P := Try.prog) (A := A156_0) (c := c156_0) Try.underlying22 Try.underlying5 Try.underlying9 (Kd.C_drewN (Kd.C_below HR159_0.out HB.out) a_)
            have hcv87 := Kd.C_string (P := Try.prog) (A := A156_0) (c := c156_0) Try.underlying22 Try.underlying5 Try.underlying9 (Kd.C_below HR159_0.out HB.out)
            refine hK.out _ _ ⟨(blk_cell BK151.out 0).trans rfl, (blk_cell BK151.out 1).trans rfl, (blk_cell BK151.out 2).trans rfl, (blk_cell BK151.out 3).trans rfl, (blk_cell BK151.out 4).trans rfl, (blk_cell BK151.out 5).trans rfl, (blk_cell BK151.out 6).trans rfl, (blk_cell BK151.out 7).trans rfl, (blk_cell BK151.out 8).trans rfl, (blk_cell BK151.out 9).trans rfl, ((HB.out.cell (World.block_lt_of_cell? w _ hw156_0)).trans hw156_0), ((HB.out.cell (World.block_lt_of_cell? w _ hw158_0)).trans hw158_0), ((HB.out.cell (World.block_lt_of_cell? w _ hw159_0)).trans hw159_0), (Kd.C_string (P := Try.prog) (A := A158_0) (c := c158_0) Try.underlying22 Try.underlying5 Try.underlying9 (by first | exact Kd.C_below HR158_0.out HB.out | exact Kd.C_below HR158_0.out (pw_below_drewN HB.out _))), (Kd.C_string (P := Try.prog) (A := A156_0) (c := c156_0) Try.underlying22 Try.underlying5 Try.underlying9 (by first | exact Kd.C_below HR159_0.out HB.out | exact Kd.C_below HR159_0.out (pw_below_drewN HB.out _)))⟩ (fun hHeld => ?_)
            clear hK K
            refine norm_ (a' := ?_) ?_ ?_
            rotate_left
            ·show Act.put _ (some 105) _ = _
             simp only [Act.put, List.setIfInBounds_toArray, List.set_cons_zero, List.set_cons_succ, i64_w, i32_w]
             rfl
            refine todo_ [(10, 106), (11, 107), (12, 108), (13, 109), (14, 110), (15, 111), (17, 113), (18, 114), (22, 118), (24, 120), (16, 112), (19, 115), (20, 116), (21, 117), (23, 119), (25, 121), (26, 122), (27, 123), (28, 124), (29, 125), (30, 126), (31, 127)] ?_
            iterate 22
             (first | (refine pu_ (v := ?_) (a' := ?_) HT_ rfl rfl (by kernel_rfl) (fun _ _ _ h => h) (Or.inl ⟨by rfl, ?_⟩) ?_ ?_; rotate_left; (· intro w'; go_simp; with_reducible rfl); rotate_left) | (refine ta_ (v := ?_) (a' := ?_) HT_ HW_ rfl rfl (by kernel_rfl) (fun _ _ _ h => h) (Or.inl ⟨by rfl, ?_⟩) hHeld ?_ ?_; rotate_left; (· rintro w' ⟨s0, s1, s2, s3, s4, s5, s6, s7, s8, s9, s10, s11, s12, s13, s14⟩; go_simp; with_reducible rfl); rotate_left))
             ·simp only [Act.put, List.setIfInBounds_toArray, List.set_cons_zero, List.set_cons_succ, i64_w, i32_w]
              rfl
            refine tend_ ?_
            refine done_ (done_of HT_.out (by kernel_rfl)) ?_
            try go_wp2
            go_ret
            exact ⟨by first | rfl | (simp [errW_none, errW_some] <;> rfl) | (simp only [← hji73]; first | rfl | (simp [errW_none, errW_some] <;> rfl)) | (simp [*, errW_none, errW_some] <;> rfl), bw⟩
           as_aux_lemma =>
           rw [if_pos c76] at H
           have c76b0 : (Op.bytesLess ((strOfNums (rd_L1 l0_8 (ji73))).toList) ((strOfNums (rd_L1 l0_8 x5_4)).toList)) = true := c76
           clear c76
           by_cases c77 : x5_4 < (l0_9.length : Int)
           rotate_left
           ·rw [if_neg c77] at H
            exact absurd H (by simp)
           as_aux_lemma =>
           rw [if_pos c77] at H
           have c77b0 : decide (x5_4 < (l0_9.length : Int)) = true := decide_eq_true c77
           clear c77
           replace H := Option.bind_eq_some_iff.mp H
           obtain ⟨t161, A780, H⟩ := H
           have A78 := Aside0.mk A780
           clear A780
           have H' := Aside0.mk H
           clear H
           try go_wp2
           replace BK151 := Aside0.mk (blk_drew BK151.out)
           replace HB := Bw.mk (w := w) (below_drew1 HB.out)
           have p156 : 0 ≤ (x5_4 : Int) := of_decide_eq_true (by first | (with_reducible assumption) | assumption)
           have q156 : x5_4 < (l0_8.length : Int) := of_decide_eq_true (by first | (with_reducible assumption) | assumption)
           obtain ⟨ad156, A156_0, c156_0, e156, hx156_0, hl156_0, hi156_0⟩ := at_L1 HR0_8.out x5_4 p156 q156
           have hw156_0 := hx156_0
           cases e156
           replace hx156_0 := (HB.out.cell (World.block_lt_of_cell? w _ hx156_0)).trans hx156_0
           have HR156_0 := Aside0.mk hi156_0
           have HC156_0 := Aside0.mk hl156_0
           clear hi156_0 hl156_0
           replace p156 := eq_true p156
           replace q156 := eq_true q156
           have p158 : 0 ≤ ((ji73) : Int) := of_decide_eq_true (by first | (with_reducible assumption) | assumption)
           have q158 : (ji73) < (l0_8.length : Int) := of_decide_eq_true (by first | (with_reducible assumption) | assumption)
           obtain ⟨ad158, A158_0, c158_0, e158, hx158_0, hl158_0, hi158_0⟩ := at_L1 HR0_8.out (ji73) p158 q158
           have hw158_0 := hx158_0
           obtain rfl : ad156 = ad158 := (by injection e158)
           replace hx158_0 := (HB.out.cell (World.block_lt_of_cell? w _ hx158_0)).trans hx158_0
           have HR158_0 := Aside0.mk hi158_0
           have HC158_0 := Aside0.mk hl158_0
           clear hi158_0 hl158_0
           replace p158 := eq_true p158
           replace q158 := eq_true q158
           have p159 : 0 ≤ (x5_4 : Int) := of_decide_eq_true (by first | (with_reducible assumption) | assumption)
           have q159 : x5_4 < (l0_8.length : Int) := of_decide_eq_true (by first | (with_reducible assumption) | assumption)
           obtain ⟨ad159, A159_0, c159_0, e159, hx159_0, hl159_0, hi159_0⟩ := at_L1 HR0_8.out x5_4 p159 q159
           have hw159_0 := hx159_0
           obtain rfl : ad156 = ad159 := (by injection e159)
           replace hx159_0 := (HB.out.cell (World.block_lt_of_cell? w _ hx159_0)).trans hx159_0
           have HR159_0 := Aside0.mk hi159_0
           have HC159_0 := Aside0.mk hl159_0
           clear hi159_0 hl159_0
           replace p159 := eq_true p159
           replace q159 := eq_true q159
           have ea_ := Option.some.inj (hx156_0.symm.trans hx159_0)
           injection ea_ with ea_ en_ ec_
           subst ea_
           subst ec_
           clear en_
           refine start_ (n := 32) (S := fun w' => w'.cell? ⟨gb151, 0, none⟩ = some (.int .i64 a0_0) ∧ w'.cell? ⟨gb151, 1, none⟩ = some (.slice A0_1 l0_1.length c0_1) ∧ w'.cell? ⟨gb151, 2, none⟩ = some (.int .i64 a0_2) ∧ w'.cell? ⟨gb151, 3, none⟩ = some (.int .i64 a0_3) ∧ w'.cell? ⟨gb151, 4, none⟩ = some (.int .i64 a0_4) ∧ w'.cell? ⟨gb151, 5, none⟩ = some (.slice A0_5 l0_5.length c0_5) ∧ w'.cell? ⟨gb151, 6, none⟩ = some (.slice A0_6 l0_6.length c0_6) ∧ w'.cell? ⟨gb151, 7, none⟩ = some (.slice A0_7 l0_7.length c0_7) ∧ w'.cell? ⟨gb151, 8, none⟩ = some (.slice (some ad156) l0_8.length c0_8) ∧ w'.cell? ⟨gb151, 9, none⟩ = some (.slice A0_9 l0_9.length c0_9) ∧ w'.cell? (ad156.add (x5_4).toNat) = some (.slice A156_0 (rd_L1 l0_8 x5_4).length c156_0) ∧ w'.cell? (ad156.add ((ji73)).toNat) = some (.slice A158_0 (rd_L1 l0_8 (ji73)).length c158_0) ∧ w'.cell? (ad156.add (x5_4).toNat) = some (.slice A156_0 (rd_L1 l0_8 x5_4).length c156_0) ∧ (convert 22 9 (.slice A158_0 (rd_L1 l0_8 (ji73)).length c158_0)).run Try.prog w' = .ok (.string (strOfNums (rd_L1 l0_8 (ji73)))) w' ∧ (convert 22 9 (.slice A156_0 (rd_L1 l0_8 x5_4).length c156_0)).run Try.prog w' = .ok (.string (strOfNums (rd_L1 l0_8 x5_4))) w') (ds := []) #[false, false, false, false, false, false, false, false, false, false, false, false, false, false, false, false, false, false, false, false, false, false, false, false, false, false, false, false, false, false, false, false] (by kernel_rfl) rfl rfl ⟨(blk_cell BK151.out 0).trans rfl, (blk_cell BK151.out 1).trans rfl, (blk_cell BK151.out 2).trans rfl, (blk_cell BK151.out 3).trans rfl, (blk_cell BK151.out 4).trans rfl, (blk_cell BK151.out 5).trans rfl, (blk_cell BK151.out 6).trans rfl, (blk_cell BK151.out 7).trans rfl, (blk_cell BK151.out 8).trans rfl, (blk_cell BK151.out 9).trans rfl, ((HB.out.cell (World.block_lt_of_cell? w _ hw156_0)).trans hw156_0), ((HB.out.cell (World.block_lt_of_cell? w _ hw158_0)).trans hw158_0), ((HB.out.cell (World.block_lt_of_cell? w _ hw159_0)).trans hw159_0), (Kd.C_string (P := Try.prog) (A := A158_0) (c := c158_0) Try.underlying22 Try.underlying5 Try.underlying9 (by first | exact Kd.C_below HR158_0.out HB.out | exact Kd.C_below HR158_0.out (pw_below_drewN HB.out _))), (Kd.C_string (P := Try.prog) (A := A156_0) (c := c156_0) Try.underlying22 Try.underlying5 Try.underlying9 (by first | exact Kd.C_below HR159_0.out HB.out | exact Kd.C_below HR159_0.out (pw_below_drewN HB.out _)))⟩ (fun hHeld => ?_); refine with_tabW spec_l6item.tab13 spec_l6item.bits13 (fun HT_ HW_ => ?_)
           generalize wc.drew = w79 at BK151 HB HR156_0 HR158_0 HR159_0 hx156_0 hx158_0 hx159_0 hHeld ⊢
           refine todo_ [(0, 96), (1, 97), (2, 98), (3, 99), (4, 100), (6, 102), (5, 101), (7, 103), (8, 104)] ?_
           iterate 9
            (first | (refine pu_ (v := ?_) (a' := ?_) HT_ rfl rfl (by kernel_rfl) (fun _ _ _ h => h) (Or.inl ⟨by rfl, ?_⟩) ?_ ?_; rotate_left; (· intro w'; go_simp; with_reducible rfl); rotate_left) | (refine ta_ (v := ?_) (a' := ?_) HT_ HW_ rfl rfl (by kernel_rfl) (fun _ _ _ h => h) (Or.inl ⟨by rfl, ?_⟩) hHeld ?_ ?_; rotate_left; (· rintro w' ⟨s0, s1, s2, s3, s4, s5, s6, s7, s8, s9, s10, s11, s12, s13, s14⟩; go_simp; with_reducible rfl); rotate_left))
            ·simp only [Act.put, List.setIfInBounds_toArray, List.set_cons_zero, List.set_cons_succ, i64_w, i32_w]
             rfl
           refine tend_ ?_
           refine one_ (i := 9) (N := some 105) #[true, true, true, true, true, true, true, true, true, true, false, false, false, false, false, false, false, false, false, false, false, false, false, false, false, false, false, false, false, false, false, false] rfl rfl (one_of HT_.out (by kernel_rfl)) (by decide) (fun K hK => ?_)
           refine goes_ Try.func39 (by kernel_rfl) rfl #[.slice A156_0 (rd_L1 l0_8 x5_4).length c156_0] (by rfl) rfl rfl (by (try simp only [List.map_toArray, List.map_cons, List.map_nil]); first | done | rfl | (simp only [List.length_drop, List.length_take]; rfl)) ?_
           with_reducible refine (spec_NameOk.calls kj61 _ _ (rd_L1 l0_8 x5_4) true _ ?side1 ?side2 A70.out).mono ?_
           (case side1 => repeat (first | exact (Kd.C_below HR156_0.out HB.out) | (with_reducible refine Kd.C_alloc ?_ _) | (with_reducible refine Kd.C_drewN ?_ _) | (with_reducible refine Kd.C_drew ?_)))
           (case side2 => exact HC156_0.out)
           rintro e w' ⟨rfl, ⟨nd, rfl⟩⟩
           refine ⟨_, rfl, ?_⟩
           have hcv80d := fun (a_ : Nat) => Kd.C_string (P := Try.prog) (A := A158_0) (c := c158_0) Try.underlying22 Try.underlying5 Try.underlying9 (Kd.C_drewN (Kd.C_below HR158_0.out HB.out) a_)
           have hcv80 := Kd.C_string (P := Try.prog) (A := A158_0) (c := c158_0) Try.underlying22 Try.underlying5 Try.underlying9 (Kd.C_below HR158_0.out HB.out)
           have hcv81d := fun (a_ : Nat) => Kd.C_string (P := Try.prog) (A := A156_0) (c := c156_0) Try.underlying22 Try.underlying5 Try.underlying9 (Kd.C_drewN (Kd.C_below HR159_0.out HB.out) a_)
           have hcv81 := Kd.C_string (P := Try.prog) (A := A156_0) (c := c156_0) Try.underlying22 Try.underlying5 Try.underlying9 (Kd.C_below HR159_0.out HB.out)
           refine hK.out _ _ ⟨(blk_cell BK151.out 0).trans rfl, (blk_cell BK151.out 1).trans rfl, (blk_cell BK151.out 2).trans rfl, (blk_cell BK151.out 3).trans rfl, (blk_cell BK151.out 4).trans rfl, (blk_cell BK151.out 5).trans rfl, (blk_cell BK151.out 6).trans rfl, (blk_cell BK151.out 7).trans rfl, (blk_cell BK151.out 8).trans rfl, (blk_cell BK151.out 9).trans rfl, ((HB.out.cell (World.block_lt_of_cell? w _ hw156_0)).trans hw156_0), ((HB.out.cell (World.block_lt_of_cell? w _ hw158_0)).trans hw158_0), ((HB.out.cell (World.block_lt_of_cell? w _ hw159_0)).trans hw159_0), (Kd.C_string (P := Try.prog) (A := A158_0) (c := c158_0) Try.underlying22 Try.underlying5 Try.underlying9 (by first | exact Kd.C_below HR158_0.out HB.out | exact Kd.C_below HR158_0.out (pw_below_drewN HB.out _))), (Kd.C_string (P := Try.prog) (A := A156_0) (c := c156_0) Try.underlying22 Try.underlying5 Try.underlying9 (by first | exact Kd.C_below HR159_0.out HB.out | exact Kd.C_below HR159_0.out (pw_below_drewN HB.out _)))⟩ (fun hHeld => ?_)
           clear hK K
           refine norm_ (a' := ?_) ?_ ?_
           rotate_left
           ·show Act.put _ (some 105) _ = _
            simp only [Act.put, List.setIfInBounds_toArray, List.set_cons_zero, List.set_cons_succ, i64_w, i32_w]
            rfl
           refine todo_ [(10, 106), (11, 107), (12, 108), (13, 109), (14, 110), (15, 111), (17, 113), (18, 114), (22, 118), (24, 120), (16, 112), (19, 115), (20, 116), (21, 117), (23, 119), (25, 121), (26, 122), (27, 123), (28, 124), (29, 125), (30, 126), (31, 127)] ?_
           iterate 22
            (first | (refine pu_ (v := ?_) (a' := ?_) HT_ rfl rfl (by kernel_rfl) (fun _ _ _ h => h) (Or.inl ⟨by rfl, ?_⟩) ?_ ?_; rotate_left; (· intro w'; go_simp; with_reducible rfl); rotate_left) | (refine ta_ (v := ?_) (a' := ?_) HT_ HW_ rfl rfl (by kernel_rfl) (fun _ _ _ h => h) (Or.inl ⟨by rfl, ?_⟩) hHeld ?_ ?_; rotate_left; (· rintro w' ⟨s0, s1, s2, s3, s4, s5, s6, s7, s8, s9, s10, s11, s12, s13, s14⟩; go_simp; with_reducible rfl); rotate_left))
            ·simp only [Act.put, List.setIfInBounds_toArray, List.set_cons_zero, List.set_cons_succ, i64_w, i32_w]
             rfl
           refine tend_ ?_
           refine done_ (done_of HT_.out (by kernel_rfl)) ?_
           have hcz83_0 : w79.cell? ⟨gb151, 0, none⟩ = some (.int .i64 a0_0) := (blk_cell BK151.out 0).trans rfl
           have hcz83_1 : w79.cell? ⟨gb151, 1, none⟩ = some (.slice A0_1 l0_1.length c0_1) := (blk_cell BK151.out 1).trans rfl
           have hcz83_2 : w79.cell? ⟨gb151, 2, none⟩ = some (.int .i64 a0_2) := (blk_cell BK151.out 2).trans rfl
           have hcz83_3 : w79.cell? ⟨gb151, 3, none⟩ = some (.int .i64 a0_3) := (blk_cell BK151.out 3).trans rfl
           have hcz83_4 : w79.cell? ⟨gb151, 4, none⟩ = some (.int .i64 a0_4) := (blk_cell BK151.out 4).trans rfl
           have hcz83_5 : w79.cell? ⟨gb151, 5, none⟩ = some (.slice A0_5 l0_5.length c0_5) := (blk_cell BK151.out 5).trans rfl
           have hcz83_6 : w79.cell? ⟨gb151, 6, none⟩ = some (.slice A0_6 l0_6.length c0_6) := (blk_cell BK151.out 6).trans rfl
           have hcz83_7 : w79.cell? ⟨gb151, 7, none⟩ = some (.slice A0_7 l0_7.length c0_7) := (blk_cell BK151.out 7).trans rfl
           have hcz83_8 : w79.cell? ⟨gb151, 8, none⟩ = some (.slice (some ad156) l0_8.length c0_8) := (blk_cell BK151.out 8).trans rfl
           have hcz83_9 : w79.cell? ⟨gb151, 9, none⟩ = some (.slice A0_9 l0_9.length c0_9) := (blk_cell BK151.out 9).trans rfl
           have hfz83_0 := blk_frozen BK151.out 0
           have hfz83_1 := blk_frozen BK151.out 1
           have hfz83_2 := blk_frozen BK151.out 2
           have hfz83_3 := blk_frozen BK151.out 3
           have hfz83_4 := blk_frozen BK151.out 4
           have hfz83_5 := blk_frozen BK151.out 5
           have hfz83_6 := blk_frozen BK151.out 6
           have hfz83_7 := blk_frozen BK151.out 7
           have hfz83_8 := blk_frozen BK151.out 8
           have hfz83_9 := blk_frozen BK151.out 9
           have p160 : 0 ≤ (x5_4 : Int) := of_decide_eq_true (by first | (with_reducible assumption) | assumption)
           have q160 : x5_4 < (l0_9.length : Int) := of_decide_eq_true (by first | (with_reducible assumption) | assumption)
           obtain ⟨ad160, A160_2, c160_2, A160_3, c160_3, A160_4, c160_4, e160, hx160_0, hx160_1, hx160_2, hx160_3, hx160_4, hl160_2, hi160_2, hl160_3, hi160_3, hl160_4, hi160_4⟩ := at_T31 HR0_9.out x5_4 p160 q160
           cases e160
           replace hx160_0 := (HB.out.cell (World.block_lt_of_cell? w _ hx160_0)).trans hx160_0
           replace hx160_1 := (HB.out.cell (World.block_lt_of_cell? w _ hx160_1)).trans hx160_1
           replace hx160_2 := (HB.out.cell (World.block_lt_of_cell? w _ hx160_2)).trans hx160_2
           replace hx160_3 := (HB.out.cell (World.block_lt_of_cell? w _ hx160_3)).trans hx160_3
           replace hx160_4 := (HB.out.cell (World.block_lt_of_cell? w _ hx160_4)).trans hx160_4
           have HR160_2 := Aside0.mk hi160_2
           have HC160_2 := Aside0.mk hl160_2
           clear hi160_2 hl160_2
           have HR160_3 := Aside0.mk hi160_3
           have HC160_3 := Aside0.mk hl160_3
           clear hi160_3 hl160_3
           have HR160_4 := Aside0.mk hi160_4
           have HC160_4 := Aside0.mk hl160_4
           clear hi160_4 hl160_4
           replace p160 := eq_true p160
           replace q160 := eq_true q160
           try go_wp2_with (first | ((with_reducible refine gg (f := 66) (some 134) rfl rfl rfl fr66 ?_); refine onc (spec_l6expr.calls kj61 ((rd_T31 l0_9 x5_4).f0) ((rd_T31 l0_9 x5_4).f1) _ _ ((rd_T31 l0_9 x5_4).f2) _ _ ((rd_T31 l0_9 x5_4).f3) _ _ ((rd_T31 l0_9 x5_4).f4) 1 x1_4 t161 _ (cb HR160_2) HC160_2.out (cb HR160_3) HC160_3.out (cb HR160_4) HC160_4.out A78.out) rfl ?_; rintro e w84 ⟨rfl, hb⟩; refine ⟨_, rfl, ?_⟩; replace BK151 := Aside0.mk (blk_below (g := gb151) (o := .cells #[.int .i64 a0_0, .slice A0_1 l0_1.length c0_1, .int .i64 a0_2, .int .i64 a0_3, .int .i64 a0_4, .slice A0_5 l0_5.length c0_5, .slice A0_6 l0_6.length c0_6, .slice A0_7 l0_7.length c0_7, .slice (some ad156) l0_8.length c0_8, .slice (some ad160) l0_9.length c0_9] 94 (0, 0)) (by (with_reducible repeat (first | refine blk_drewN ?_ _ | refine blk_drew ?_ | refine blk_alloc ?_ _)); exact BK151.out) hb); replace HB := (Bw.sw w hb); (try clear hb)))
           go_roundg kj61
           case measure => have := HJ2.out; have := HJ16.out; have := HJ55.out; have := HK4.out; have := HJ61.out; omega
           case rel => exact ⟨(t161), (wrap64 (x5_4 + 1)), (by first | rfl | (simp; done) | (simp [*]; done)), (by first | rfl | (simp; done) | (simp [*]; done)), H', ⟨by have := HJ2.out; have := HJ16.out; have := HJ55.out; have := HK4.out; have := HJ61.out; omega⟩, ⟨by (with_reducible repeat (first | refine blk_drewN ?_ _ | refine blk_drew ?_ | refine blk_alloc ?_ _)); exact BK151.out⟩, ⟨bw⟩⟩

end Go.Proofs.Ytockllljeeakaaa.PFnExactConfigOk
